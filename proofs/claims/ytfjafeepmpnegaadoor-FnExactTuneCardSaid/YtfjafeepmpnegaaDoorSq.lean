/- Contracts of spec.ParseFixed, spec.FromFixed. No condition. -/
import Derived.Test.YtfjafeepmpnegaaDoorSp
namespace Go.Proofs.YtfjafeepmpnegaaDoor
open Go.RowKit
set_option linter.unusedVariables false
set_option linter.unusedSimpArgs false

theorem parse_dot {s t : Tx} (hs : unsign s = t) {n : Int} (h : parseM s = some n) : 5 ≤ t.length ∧ t.length ≤ 11 ∧ ∀ i, t.length = i + 4 → t[i]? = some 46 := by
  obtain ⟨u, hu, hu2, _⟩ := parseM_shape h
  rw [hs] at hu
  subst hu
  have h1 := bodyT_len u
  have h2 := Lib.nDigits_pos (u / 1000)
  have h3 := nDigits_le (u := u / 1000) (k := 7) (by omega) (by omega)
  refine ⟨by omega, by omega, fun i hi => ?_⟩
  have hd : (Lib.decDigits (u / 1000)).length = i := by rw [Lib.decDigits_length]; omega
  unfold bodyT
  rw [List.getElem?_append_right (by omega), hd, Nat.sub_self]
  rfl
theorem DigTo.lt12 {t : Tx} {i k : Nat} (h : DigTo t i k) (hk : k ≤ 12) : accV t i k < 1000000000000 := by
  have key : ∀ k, DigTo t i k → accV t i k < 10 ^ k := by
    intro k
    induction k with
    | zero => intro _; simp [accV]
    | succ k ih =>
      intro h
      have h1 := ih (fun j hj hne => h j (by omega) hne)
      rw [accV, Nat.pow_succ]
      split
      · omega
      · rename_i hne
        have h2 := h k (by omega) hne
        omega
  exact Nat.lt_of_lt_of_le (key k h) (Nat.le_trans (Nat.pow_le_pow_right (by decide) hk) (by decide))
set_option maxRecDepth 8000 in
set_option maxHeartbeats 4000000 in
theorem sparse_m (S T : Tx) (hS : S = 45 :: T) (hl : S.length ≤ 140737488355328) (w : World) : Calls Tryd.prog 82 #[.string (tx S)] w (RetP w (parseM S)) := by
  have L := Az.mk (gr_refl w none)
  have HU : Az (unsign S = T) := ⟨by rw [hS]; rfl⟩
  have HFV : Az (fixedVal S = -(bodyVal T : Int)) := ⟨by rw [hS]; rfl⟩
  have HSN : Az (S ≠ []) := ⟨by rw [hS]; simp⟩
  have hSl : S.length = T.length + 1 := by rw [hS]; rfl
  have hTl : T.length ≤ 140737488355328 := by omega
  have hS0 : 0 < S.length := by omega
  have h45 : ((tx S)[0]'(by rw [tx_size]; exact hS0)) = 45 := by subst hS; rfl
  have hXT : (tx S).extract 1 (T.length + 1) = tx T := by rw [hS]; exact tx_tail 45 T
  clear hS
  by_cases c1 : T.length < 5
  · have HNo : Az (parseM S = none) := ⟨by
      cases hp : parseM S with
      | none => rfl
      | some n => have := (parse_dot HU.out hp).1; omega⟩
    have c1i : (T.length : Int) < 5 := by omega
    go_enter Tryd.func82, Tryd.ntmps82
    go_wp2_with fail
    go_ret2
    exact ⟨by rw [HNo.out]; rfl, L.out⟩
  have c1i : ¬ (T.length : Int) < 5 := by omega
  by_cases c2 : 12 < T.length
  · have HNo : Az (parseM S = none) := ⟨by
      cases hp : parseM S with
      | none => rfl
      | some n => have := (parse_dot HU.out hp).2.1; omega⟩
    have c2i : 12 < (T.length : Int) := by omega
    go_enter Tryd.func82, Tryd.ntmps82
    go_wp2_with fail
    go_ret2
    exact ⟨by rw [HNo.out]; rfl, L.out⟩
  have c2i : ¬ 12 < (T.length : Int) := by omega
  obtain ⟨i, hi⟩ : ∃ i, i = T.length - 4 := ⟨_, rfl⟩
  have hTi : T.length = i + 4 := by omega
  have HTI := Az.mk hTi
  have hi8 : i ≤ 8 := by omega
  have hi1 : 1 ≤ i := by omega
  clear hi
  have hSi : S.length = i + 5 := by omega
  rw [hTi, show i + 4 + 1 = i + 5 from rfl] at hXT
  clear hSl
  obtain ⟨cd, hcd⟩ : ∃ c, (tx T)[i]'(by rw [tx_size, hTi]; omega) = c := ⟨_, rfl⟩
  have hkd : T[i]? = some cd := by rw [List.getElem?_eq_getElem (by omega), ← hcd]; rfl
  have c1j : ¬ ((i : Int) + 4) < 5 := by omega
  have c2j : ¬ 12 < ((i : Int) + 4) := by omega
  have e44 : (i : Int) + 4 - 4 = i := by omega
  rw [hTi] at c1 c1i c2 c2i hTl
  by_cases c3 : cd = 46
  case neg =>
    have HNo : Az (parseM S = none) := ⟨by
      cases hp : parseM S with
      | none => rfl
      | some n => have := (parse_dot HU.out hp).2.2 i HTI.out; rw [hkd] at this; exact absurd (Option.some.inj this) c3⟩
    have c3b : ((cd.toNat : Int) != 46) = true := by
      simp
      intro e
      exact c3 (UInt8.toNat_inj.1 (by show cd.toNat = 46; omega))
    clear hkd c3
    go_enter Tryd.func82, Tryd.ntmps82
    go_wp2_with fail
    go_ret2
    exact ⟨by rw [HNo.out]; rfl, L.out⟩
  have c3b : ((cd.toNat : Int) != 46) = false := by rw [c3]; rfl
  clear hkd c3
  go_enter Tryd.func82, Tryd.ntmps82
  go_wp2_with fail
  clear hcd c3b c1 c1i c2 c2i c1j c2j h45 hXT hS0
  go_loopw [5, 6] (fun n k wr => ∃ j v : Nat, k = .int .i64 j ∧ n = .int .i64 v ∧ j ≤ i + 4 ∧ v < 1000000000000 ∧ Az (DigTo T i j) ∧ Az (v = accV T i j) ∧ Az (w.grownBy wr none)) (fun _ k _ => i + 4 - (intOf k).toNat)
  case atStart => exact ⟨0, 0, by go_num, by go_num, by omega, by omega, ⟨fun j hj => by omega⟩, ⟨rfl⟩, L⟩
  case round =>
    clear L
    obtain ⟨j, v, rfl, rfl, hj, hv, HDG, HV, L⟩ := hrel
    by_cases hjl : j < i + 4
    · have hji : (j : Int) < (i : Int) + 4 := by omega
      by_cases hjd : j = i
      · subst hjd
        have HDG2 := Az.mk (HDG.out.step (.inl rfl))
        have HV2 : Az (v = accV T j (j + 1)) := ⟨by rw [accV, if_pos rfl]; exact HV.out⟩
        go_wp2_with fail
        exact ⟨⟨j + 1, v, by go_num, by go_num, by omega, hv, HDG2, HV2, L⟩, by simp only [intOf]; omega⟩
      · have hjb : ((j : Int) == (i : Int)) = false := by simp; omega
        have hjs : j < (tx T).size := by rw [tx_size, hTi]; exact hjl
        obtain ⟨c, hc⟩ : ∃ c, (tx T)[j]'hjs = c := ⟨_, rfl⟩
        have hjl2 : j < T.length := by omega
        have hkc : T[j]? = some c := by rw [List.getElem?_eq_getElem hjl2, ← hc]; rfl
        have HKC := Az.mk hkc
        have HJD := Az.mk hjd
        clear hkc hjd
        by_cases d1 : c.toNat < 48
        · have d1i : (c.toNat : Int) < 48 := by omega
          have HNo := Az.mk (parse_baddig HU.out HTI.out HKC.out HJD.out (.inl d1))
          go_wp2_with fail
          go_ret2
          exact ⟨by rw [HNo.out]; rfl, L.out⟩
        · by_cases d2 : 57 < c.toNat
          · have d2i : 57 < (c.toNat : Int) := by omega
            have HNo := Az.mk (parse_baddig HU.out HTI.out HKC.out HJD.out (.inr d2))
            go_wp2_with fail
            go_ret2
            exact ⟨by rw [HNo.out]; rfl, L.out⟩
          · have d1i : ¬ (c.toNat : Int) < 48 := by omega
            have d2i : ¬ 57 < (c.toNat : Int) := by omega
            have hgd : T.getD j 0 = c := by rw [List.getD_eq_getElem?_getD, HKC.out]; rfl
            have HDG2 := Az.mk (HDG.out.step (.inr (by rw [hgd]; omega)))
            have HV2 : Az (v * 10 + (c.toNat - 48) = accV T i (j + 1)) := ⟨by rw [accV, if_neg HJD.out, hgd, ← HV.out]⟩
            have hv2 := HDG2.out.lt12 (by omega)
            rw [← HV2.out] at hv2
            clear hgd
            go_wp2_with fail
            refine ⟨⟨j + 1, v * 10 + (c.toNat - 48), by go_num, ?_, by omega, hv2, HDG2, HV2, L⟩, by simp only [intOf]; omega⟩
            congr 1; omega
    · obtain rfl : j = i + 4 := by omega
      have hbv : v = bodyVal T := by
        have := accV_all T (by omega)
        rw [HTI.out, Nat.add_sub_cancel] at this
        rw [HV.out, this]
      have HBV := Az.mk hbv
      clear hbv
      have HP : Az (parseM S = if fixedT (-(v : Int)) = S then some (-(v : Int)) else none) := ⟨by
        rw [parseM, HFV.out, ← HBV.out]
        by_cases h : fixedT (-(v : Int)) = S
        · rw [if_pos ⟨h, HSN.out⟩, if_pos h]
        · rw [if_neg (fun h' => h h'.1), if_neg h]⟩
      by_cases he : fixedT (-(v : Int)) = S
      · have heb : (fixedT (-(v : Int)) == S) = true := by simp [he]
        have HEQ := Az.mk he
        clear he
        go_wp2_with fail
        refine (sFormatFixed_c (-(v : Int)) _).mono ?_
        rintro e v1 ⟨rfl, h⟩
        have h0 : World.grownBy wr v1 _ := (by refine World.grownBy.trans ?_ h; repeat (first | exact gr_refl _ _ | apply gr_drewN | apply gr_drew | apply gr_alloc))
        have L_ := Az.mk (gr_new L.out h0 (by first | (simp; done) | (simp; omega) | omega))
        clear L
        have L := L_; clear L_
        clear h0 h
        go_wp2_with fail
        go_ret2
        exact ⟨by rw [HP.out, if_pos HEQ.out]; rfl, L.out⟩
      · have heb : (fixedT (-(v : Int)) == S) = false := by simp [he]
        have HEQ := Az.mk he
        clear he
        go_wp2_with fail
        refine (sFormatFixed_c (-(v : Int)) _).mono ?_
        rintro e v1 ⟨rfl, h⟩
        have h0 : World.grownBy wr v1 _ := (by refine World.grownBy.trans ?_ h; repeat (first | exact gr_refl _ _ | apply gr_drewN | apply gr_drew | apply gr_alloc))
        have L_ := Az.mk (gr_new L.out h0 (by first | (simp; done) | (simp; omega) | omega))
        clear L
        have L := L_; clear L_
        clear h0 h
        go_wp2_with fail
        go_ret2
        exact ⟨by rw [HP.out, if_neg HEQ.out]; rfl, L.out⟩
set_option maxRecDepth 8000 in
set_option maxHeartbeats 4000000 in
theorem sparse_p (S : Tx) (hc45 : S[0]? ≠ some 45) (hS : S ≠ []) (hl : S.length ≤ 140737488355328) (w : World) : Calls Tryd.prog 82 #[.string (tx S)] w (RetP w (parseM S)) := by
  have L := Az.mk (gr_refl w none)
  have HU : Az (unsign S = S) := ⟨by rw [unsign, if_neg hc45]⟩
  have HFV : Az (fixedVal S = (bodyVal S : Int)) := ⟨by rw [fixedVal, if_neg hc45]⟩
  have HSN : Az (S ≠ []) := ⟨hS⟩
  have hS0 : 0 < S.length := List.length_pos_iff.2 hS
  have hS0i : 0 < (S.length : Int) := by omega
  obtain ⟨c, hc⟩ : ∃ c, (tx S)[0]'(by rw [tx_size]; exact hS0) = c := ⟨_, rfl⟩
  have hkc : S[0]? = some c := by rw [List.getElem?_eq_getElem hS0, ← hc]; rfl
  have hcb : ((c.toNat : Int) == 45) = false := by
    rw [hkc] at hc45
    simp
    intro e
    exact hc45 (congrArg some (UInt8.toNat_inj.1 (by show c.toNat = 45; omega)))
  have hTl := hl
  clear hc45 hkc hS
  by_cases c1 : S.length < 5
  · have HNo : Az (parseM S = none) := ⟨by
      cases hp : parseM S with
      | none => rfl
      | some n => have := (parse_dot HU.out hp).1; omega⟩
    have c1i : (S.length : Int) < 5 := by omega
    go_enter Tryd.func82, Tryd.ntmps82
    go_wp2_with fail
    go_ret2
    exact ⟨by rw [HNo.out]; rfl, L.out⟩
  have c1i : ¬ (S.length : Int) < 5 := by omega
  by_cases c2 : 12 < S.length
  · have HNo : Az (parseM S = none) := ⟨by
      cases hp : parseM S with
      | none => rfl
      | some n => have := (parse_dot HU.out hp).2.1; omega⟩
    have c2i : 12 < (S.length : Int) := by omega
    go_enter Tryd.func82, Tryd.ntmps82
    go_wp2_with fail
    go_ret2
    exact ⟨by rw [HNo.out]; rfl, L.out⟩
  have c2i : ¬ 12 < (S.length : Int) := by omega
  obtain ⟨i, hi⟩ : ∃ i, i = S.length - 4 := ⟨_, rfl⟩
  have hTi : S.length = i + 4 := by omega
  have HTI := Az.mk hTi
  have hi8 : i ≤ 8 := by omega
  have hi1 : 1 ≤ i := by omega
  clear hi
  obtain ⟨cd, hcd⟩ : ∃ c, (tx S)[i]'(by rw [tx_size, hTi]; omega) = c := ⟨_, rfl⟩
  have hkd : S[i]? = some cd := by rw [List.getElem?_eq_getElem (by omega), ← hcd]; rfl
  have c1j : ¬ ((i : Int) + 4) < 5 := by omega
  have c2j : ¬ 12 < ((i : Int) + 4) := by omega
  have e44 : (i : Int) + 4 - 4 = i := by omega
  rw [hTi] at c1 c1i c2 c2i hTl
  by_cases c3 : cd = 46
  case neg =>
    have HNo : Az (parseM S = none) := ⟨by
      cases hp : parseM S with
      | none => rfl
      | some n => have := (parse_dot HU.out hp).2.2 i HTI.out; rw [hkd] at this; exact absurd (Option.some.inj this) c3⟩
    have c3b : ((cd.toNat : Int) != 46) = true := by
      simp
      intro e
      exact c3 (UInt8.toNat_inj.1 (by show cd.toNat = 46; omega))
    clear hkd c3
    go_enter Tryd.func82, Tryd.ntmps82
    go_wp2_with fail
    go_ret2
    exact ⟨by rw [HNo.out]; rfl, L.out⟩
  have c3b : ((cd.toNat : Int) != 46) = false := by rw [c3]; rfl
  clear hkd c3
  go_enter Tryd.func82, Tryd.ntmps82
  go_wp2_with fail
  clear hcd c3b c1 c1i c2 c2i c1j c2j hc hcb hS0 hS0i
  go_loopw [5, 6] (fun n k wr => ∃ j v : Nat, k = .int .i64 j ∧ n = .int .i64 v ∧ j ≤ i + 4 ∧ v < 1000000000000 ∧ Az (DigTo S i j) ∧ Az (v = accV S i j) ∧ Az (w.grownBy wr none)) (fun _ k _ => i + 4 - (intOf k).toNat)
  case atStart => exact ⟨0, 0, by go_num, by go_num, by omega, by omega, ⟨fun j hj => by omega⟩, ⟨rfl⟩, L⟩
  case round =>
    clear L
    obtain ⟨j, v, rfl, rfl, hj, hv, HDG, HV, L⟩ := hrel
    by_cases hjl : j < i + 4
    · have hji : (j : Int) < (i : Int) + 4 := by omega
      by_cases hjd : j = i
      · subst hjd
        have HDG2 := Az.mk (HDG.out.step (.inl rfl))
        have HV2 : Az (v = accV S j (j + 1)) := ⟨by rw [accV, if_pos rfl]; exact HV.out⟩
        go_wp2_with fail
        exact ⟨⟨j + 1, v, by go_num, by go_num, by omega, hv, HDG2, HV2, L⟩, by simp only [intOf]; omega⟩
      · have hjb : ((j : Int) == (i : Int)) = false := by simp; omega
        have hjs : j < (tx S).size := by rw [tx_size, hTi]; exact hjl
        obtain ⟨c, hc⟩ : ∃ c, (tx S)[j]'hjs = c := ⟨_, rfl⟩
        have hjl2 : j < S.length := by omega
        have hkc : S[j]? = some c := by rw [List.getElem?_eq_getElem hjl2, ← hc]; rfl
        have HKC := Az.mk hkc
        have HJD := Az.mk hjd
        clear hkc hjd
        by_cases d1 : c.toNat < 48
        · have d1i : (c.toNat : Int) < 48 := by omega
          have HNo := Az.mk (parse_baddig HU.out HTI.out HKC.out HJD.out (.inl d1))
          go_wp2_with fail
          go_ret2
          exact ⟨by rw [HNo.out]; rfl, L.out⟩
        · by_cases d2 : 57 < c.toNat
          · have d2i : 57 < (c.toNat : Int) := by omega
            have HNo := Az.mk (parse_baddig HU.out HTI.out HKC.out HJD.out (.inr d2))
            go_wp2_with fail
            go_ret2
            exact ⟨by rw [HNo.out]; rfl, L.out⟩
          · have d1i : ¬ (c.toNat : Int) < 48 := by omega
            have d2i : ¬ 57 < (c.toNat : Int) := by omega
            have hgd : S.getD j 0 = c := by rw [List.getD_eq_getElem?_getD, HKC.out]; rfl
            have HDG2 := Az.mk (HDG.out.step (.inr (by rw [hgd]; omega)))
            have HV2 : Az (v * 10 + (c.toNat - 48) = accV S i (j + 1)) := ⟨by rw [accV, if_neg HJD.out, hgd, ← HV.out]⟩
            have hv2 := HDG2.out.lt12 (by omega)
            rw [← HV2.out] at hv2
            clear hgd
            go_wp2_with fail
            refine ⟨⟨j + 1, v * 10 + (c.toNat - 48), by go_num, ?_, by omega, hv2, HDG2, HV2, L⟩, by simp only [intOf]; omega⟩
            congr 1; omega
    · obtain rfl : j = i + 4 := by omega
      have hbv : v = bodyVal S := by
        have := accV_all S (by omega)
        rw [HTI.out, Nat.add_sub_cancel] at this
        rw [HV.out, this]
      have HBV := Az.mk hbv
      clear hbv
      have HP : Az (parseM S = if fixedT (v : Int) = S then some (v : Int) else none) := ⟨by
        rw [parseM, HFV.out, ← HBV.out]
        by_cases h : fixedT (v : Int) = S
        · rw [if_pos ⟨h, HSN.out⟩, if_pos h]
        · rw [if_neg (fun h' => h h'.1), if_neg h]⟩
      by_cases he : fixedT (v : Int) = S
      · have heb : (fixedT (v : Int) == S) = true := by simp [he]
        have HEQ := Az.mk he
        clear he
        go_wp2_with fail
        refine (sFormatFixed_c (v : Int) _).mono ?_
        rintro e v1 ⟨rfl, h⟩
        have h0 : World.grownBy wr v1 _ := (by refine World.grownBy.trans ?_ h; repeat (first | exact gr_refl _ _ | apply gr_drewN | apply gr_drew | apply gr_alloc))
        have L_ := Az.mk (gr_new L.out h0 (by first | (simp; done) | (simp; omega) | omega))
        clear L
        have L := L_; clear L_
        clear h0 h
        go_wp2_with fail
        go_ret2
        exact ⟨by rw [HP.out, if_pos HEQ.out]; rfl, L.out⟩
      · have heb : (fixedT (v : Int) == S) = false := by simp [he]
        have HEQ := Az.mk he
        clear he
        go_wp2_with fail
        refine (sFormatFixed_c (v : Int) _).mono ?_
        rintro e v1 ⟨rfl, h⟩
        have h0 : World.grownBy wr v1 _ := (by refine World.grownBy.trans ?_ h; repeat (first | exact gr_refl _ _ | apply gr_drewN | apply gr_drew | apply gr_alloc))
        have L_ := Az.mk (gr_new L.out h0 (by first | (simp; done) | (simp; omega) | omega))
        clear L
        have L := L_; clear L_
        clear h0 h
        go_wp2_with fail
        go_ret2
        exact ⟨by rw [HP.out, if_neg HEQ.out]; rfl, L.out⟩
theorem sParseFixed_c (l : Tx) (hl : l.length ≤ 140737488355328) (w : World) : Calls Tryd.prog 82 #[.string (tx l)] w (RetP w (parseM l)) := by
  by_cases h0 : l = []
  · subst h0
    have L := Az.mk (gr_refl w none)
    go_enter Tryd.func82, Tryd.ntmps82
    go_wp2_with fail
    go_ret2
    exact ⟨by rw [show parseM [] = none from (by rw [parseM, if_neg (fun h => h.2 rfl)])]; rfl, L.out⟩
  · by_cases h45 : l[0]? = some 45
    · cases l with
      | nil => exact absurd rfl h0
      | cons c T =>
        simp at h45
        subst h45
        exact sparse_m _ T rfl hl w
    · exact sparse_p l h45 h0 hl w
set_option maxHeartbeats 1000000 in
theorem sFromFixed_c (n : Int) (h1 : -1000000000 ≤ n) (h2 : n ≤ 1000000000) (w : World) : Calls Tryd.prog 83 #[.int .i64 n] w (fun e w' => ∃ d, fixD n = some d ∧ e = .returned (.float .f64 d) ∧ w.grownBy w' none) := by
  have L := Az.mk (gr_refl w none)
  go_enter Tryd.func83, Tryd.ntmps83
  go_wp2_with fail
  refine (l01In_c _ _ _ _).mono ?_
  rintro e w1 ⟨rfl, h⟩
  have h0 : World.grownBy w w1 _ := (by refine World.grownBy.trans ?_ h; repeat (first | exact gr_refl _ _ | apply gr_drewN | apply gr_drew | apply gr_alloc))
  have L_ := Az.mk (gr_new L.out h0 (by first | (simp; done) | (simp; omega) | omega))
  clear L
  have L := L_; clear L_
  clear h0 h
  have e1 : (decide (-1000000000 ≤ n) && decide (n ≤ 1000000000)) = true := by simp; omega
  rw [e1]
  clear e1
  go_wp2_with (first | ((with_reducible refine gateN 8 rfl ?_); go_must (refine ev_fl 8 rfl rfl rfl rfl rfl rfl ?_; intro b8 W1 hb8 h; have HF8 := Az.mk hb8; clear hb8; have h0 : World.grownBy w1 W1 none := (by refine World.grownBy.trans ?_ h; repeat (first | exact gr_refl _ _ | apply gr_drewN | apply gr_drew | apply gr_alloc)); have L_ := Az.mk (gr_new L.out h0 (by first | (simp; done) | (simp; omega) | omega)); clear L; have L := L_; clear L_; clear h0 h)))
  go_ret
  obtain ⟨d, hd, _⟩ := fix_some n h1 h2
  have hf := HF8.out
  rw [← floatBits_fop] at hf
  have hd' : floatBits .quo .f64 (floatOfInt .f64 n) 4652007308841189376 = some d := hd
  rw [hd'] at hf
  exact ⟨d, hd, by rw [← fN_eq hf]; rfl, L.out⟩
end Go.Proofs.YtfjafeepmpnegaaDoor
