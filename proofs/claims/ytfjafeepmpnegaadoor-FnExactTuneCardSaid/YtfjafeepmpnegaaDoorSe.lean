/- Contract of impl.ParseFixed. Condition: the library's table is there. -/
import Derived.Test.YtfjafeepmpnegaaDoorSd
import Derived.Deep.QuietTactic
import Derived.BigQuiet
namespace Go.Proofs.YtfjafeepmpnegaaDoor
open Go.RowKit
set_option linter.unusedVariables false
set_option linter.unusedSimpArgs false

def RetP (w : World) (o : Option Int) (e : Ending) (w' : World) : Prop := e = .returned (.tuple #[.int .i64 (o.getD 0), .bool o.isSome]) ∧ w.grownBy w' none
/-- Where the point stands. -/
def dotAt (t : Tx) : Int := Lib.indexByte t 46
theorem dotAt_first {t : Tx} {i : Nat} (h1 : t[i]? = some 46) (h2 : ∀ j, j < i → t[j]? ≠ some 46) : dotAt t = i := by
  unfold dotAt
  induction t generalizing i with
  | nil => simp at h1
  | cons c t ih =>
    cases i with
    | zero => simp at h1; subst h1; simp [Lib.indexByte]
    | succ i =>
      have hc : c ≠ 46 := by intro e; subst e; exact h2 0 (by omega) rfl
      have := ih (i := i) (by simpa using h1) (fun j hj => by have := h2 (j + 1) (by omega); simpa using this)
      simp [Lib.indexByte, hc, this]
theorem dotAt_le {t : Tx} {N : Nat} (h : t.length ≤ N) : dotAt t ≤ N := by
  unfold dotAt
  induction t generalizing N with
  | nil => simp [Lib.indexByte]
  | cons c t ih =>
    have := ih (N := N - 1) (by simp at h; omega)
    simp only [List.length_cons] at h
    simp only [Lib.indexByte]
    repeat' split
    all_goals omega
theorem dot_bodyT (u : Nat) : dotAt (bodyT u) = (Lib.nDigits (u / 1000) : Nat) := by
  have hl := bodyT_len u
  refine dotAt_first ?_ fun j hj h => ?_
  · have := bodyT_dot u; rw [hl, Nat.add_sub_cancel] at this; exact this
  · obtain ⟨c, h1, h2, h3⟩ := bodyT_digit u j (by omega) (by omega)
    rw [h1] at h; injection h with h; subst h; exact absurd h2 (by decide)
theorem tx_tail (c : UInt8) (l : Tx) : (tx (c :: l)).extract 1 (l.length + 1) = tx l := by
  rw [← tx_of ((tx (c :: l)).extract 1 (l.length + 1)), ByteArray.data_extract]
  simp [tx]
/-- As far as the loop has looked all are digits, but for the point. -/
def DigTo (t : Tx) (i k : Nat) : Prop := ∀ j, j < k → j ≠ i → 48 ≤ (t.getD j 0).toNat ∧ (t.getD j 0).toNat ≤ 57
theorem DigTo.step {t : Tx} {i k : Nat} (h : DigTo t i k) (h2 : k = i ∨ (48 ≤ (t.getD k 0).toNat ∧ (t.getD k 0).toNat ≤ 57)) : DigTo t i (k + 1) := by
  intro j hj hne
  by_cases hjk : j = k
  · subst hjk; exact h2.resolve_left hne
  · exact h j (by omega) hne
theorem DigTo.lt {t : Tx} {i k : Nat} (h : DigTo t i k) (hk : k ≤ 11) : accV t i k < 100000000000 := by
  have h1 := accV_lt t i k (fun j hj hne => (h j hj hne).2)
  have h2 : 10 ^ k ≤ 10 ^ 11 := Nat.pow_le_pow_right (by decide) hk
  omega
/-- A text that is no number in thousandths for its shape. -/
theorem parse_bad {s t : Tx} (hs : unsign s = t) (h : ¬ (1 ≤ dotAt t ∧ (t.length : Int) = dotAt t + 4 ∧ dotAt t ≤ 7)) : parseM s = none := by
  cases hp : parseM s with
  | none => rfl
  | some n =>
    obtain ⟨u, h1, h2, _⟩ := parseM_shape hp
    rw [hs] at h1
    rw [h1, dot_bodyT, bodyT_len] at h
    have h3 := nDigits_le (u := u / 1000) (k := 7) (by omega) (by omega)
    have h4 := Lib.nDigits_pos (u / 1000)
    exact absurd ⟨by omega, by omega, by omega⟩ h
theorem parse_baddig {s t : Tx} (hs : unsign s = t) {i k : Nat} {c : UInt8} (hi : t.length = i + 4) (hk : t[k]? = some c) (hne : k ≠ i) (hc : c.toNat < 48 ∨ 57 < c.toNat) : parseM s = none := by
  cases hp : parseM s with
  | none => rfl
  | some n =>
    obtain ⟨u, h1, h2, _⟩ := parseM_shape hp
    rw [hs] at h1
    subst h1
    have hl := (List.getElem?_eq_some_iff.1 hk).1
    obtain ⟨c', h3, h4, h5⟩ := bodyT_digit u k hl (by omega)
    rw [h3] at hk; injection hk with hk; subst hk; omega
-- GEN
set_option maxRecDepth 8000 in
set_option maxHeartbeats 4000000 in
theorem parse_m (S T : Tx) (hS : S = 45 :: T) (hl : S.length ≤ 140737488355328) (w : World) (hE : Env w) : Calls Tryd.prog 85 #[.string (tx S)] w (RetP w (parseM S)) := by
  have L := Az.mk (gr_refl w none)
  have HE := Az.mk hE
  clear hE
  have HU : Az (unsign S = T) := ⟨by rw [hS]; rfl⟩
  have HFV : Az (fixedVal S = -(bodyVal T : Int)) := ⟨by rw [hS]; rfl⟩
  have HSN : Az (S ≠ []) := ⟨by rw [hS]; simp⟩
  have hSl : S.length = T.length + 1 := by rw [hS]; rfl
  have hTl : T.length ≤ 140737488355328 := by omega
  have h45 : ((tx S)[0]'(by rw [tx_size]; omega)) = 45 := by subst hS; rfl
  have hse : List.isEmpty S = false := by rw [hS]; rfl
  have HXT : Az ((tx S).extract 1 (T.length + 1) = tx T) := ⟨by rw [hS]; exact tx_tail 45 T⟩
  clear hS
  go_enter Tryd.func85, Tryd.ntmps85
  go_wp2_with fail
  go_quiet (fail)
  have L_ := Az.mk (gr_drewN L.out nq)
  clear L
  have L := L_
  clear L_
  go_wp2_with fail
  rw [HXT.out]
  clear h45 hSl hse
  refine (Tryd.strings_IndexByte (tx T) 46 _).mono ?_
  rintro e w2 ⟨rfl, hw2⟩
  rw [hw2]
  clear hw2
  rw [show Lib.indexByte (tx T).data.toList (46 : Int).toNat.toUInt8 = dotAt T from rfl]
  obtain ⟨d, hd⟩ : ∃ d, dotAt T = d := ⟨_, rfl⟩
  have hdg : -1 ≤ d := by rw [← hd]; exact Lib.indexByte_ge _ _
  rw [hd]
  have HD := Az.mk hd
  clear hd
  by_cases c1 : d < 1
  · have HNo := Az.mk (parse_bad HU.out (by rw [HD.out]; omega))
    go_wp2_with fail
    go_ret2
    exact ⟨by rw [HNo.out]; rfl, L.out⟩
  by_cases c2 : ¬ (T.length : Int) = d + 4
  · have HNo := Az.mk (parse_bad HU.out (by rw [HD.out]; omega))
    have c2b : ((T.length : Int) != d + 4) = true := by simp [c2]
    clear c2
    have hd3 : d ≤ 140737488355328 := by have := HD.out; rw [← this]; exact dotAt_le hTl
    go_wp2_with fail
    go_ret2
    exact ⟨by rw [HNo.out]; rfl, L.out⟩
  have c2 : (T.length : Int) = d + 4 := Decidable.not_not.1 c2
  obtain ⟨i, hi⟩ : ∃ i : Nat, d = i := ⟨d.toNat, by omega⟩
  have hTi : T.length = i + 4 := by omega
  subst hi
  clear c2
  have HTI := Az.mk hTi
  have c1i : ¬ (i : Int) < 1 := by omega
  have c2b : (((i + 4 : Nat) : Int) != (i : Int) + 4) = false := by simp
  have hsz : T.length = i + 4 := hTi
  clear hTi
  by_cases c3 : 7 < i
  · have c3i : 7 < (i : Int) := by omega
    have HNo := Az.mk (parse_bad HU.out (by rw [HD.out]; omega))
    go_wp2_with fail
    go_ret2
    exact ⟨by rw [HNo.out]; rfl, L.out⟩
  have c3i : ¬ 7 < (i : Int) := by omega
  go_wp2_with fail
  go_loopw [7, 8] (fun n k wr => ∃ j v : Nat, k = .int .i64 j ∧ n = .int .i64 v ∧ j ≤ i + 4 ∧ v < 100000000000 ∧ Az (DigTo T i j) ∧ Az (v = accV T i j) ∧ Az (w.grownBy wr none)) (fun _ k _ => i + 4 - (intOf k).toNat)
  case atStart => exact ⟨0, 0, by go_num, by go_num, by omega, by omega, ⟨fun j hj => by omega⟩, ⟨rfl⟩, L⟩
  case round =>
    clear L
    obtain ⟨j, v, rfl, rfl, hj, hv, HDG, HV, L⟩ := hrel
    by_cases hjl : j < i + 4
    · have hji : (j : Int) < (i : Int) + 4 := by omega
      by_cases hjd : j = i
      · subst hjd
        have HDG2 := Az.mk (HDG.out.step (.inl rfl))
        have HV2 : Az (v = accV T j (j + 1)) := ⟨by rw [accV, if_pos rfl]; exact HV.out⟩
        go_wp2_with fail
        exact ⟨⟨j + 1, v, by go_num, by go_num, by omega, hv, HDG2, HV2, L⟩, by simp only [intOf]; omega⟩
      · have hjb : ((j : Int) == (i : Int)) = false := by simp; omega
        have hjs : j < (tx T).size := by rw [tx_size, hsz]; exact hjl
        obtain ⟨c, hc⟩ : ∃ c, (tx T)[j]'hjs = c := ⟨_, rfl⟩
        have hjl2 : j < T.length := by omega
        have hkc : T[j]? = some c := by rw [List.getElem?_eq_getElem hjl2, ← hc]; rfl
        have HKC := Az.mk hkc
        have HJD := Az.mk hjd
        clear hkc hjd
        by_cases d1 : c.toNat < 48
        · have d1i : (c.toNat : Int) < 48 := by omega
          have HNo := Az.mk (parse_baddig HU.out HTI.out HKC.out HJD.out (.inl d1))
          go_wp2_with fail
          go_ret2
          exact ⟨by rw [HNo.out]; rfl, L.out⟩
        · by_cases d2 : 57 < c.toNat
          · have d2i : 57 < (c.toNat : Int) := by omega
            have HNo := Az.mk (parse_baddig HU.out HTI.out HKC.out HJD.out (.inr d2))
            go_wp2_with fail
            go_ret2
            exact ⟨by rw [HNo.out]; rfl, L.out⟩
          · have d1i : ¬ (c.toNat : Int) < 48 := by omega
            have d2i : ¬ 57 < (c.toNat : Int) := by omega
            have hgd : T.getD j 0 = c := by rw [List.getD_eq_getElem?_getD, HKC.out]; rfl
            have HDG2 := Az.mk (HDG.out.step (.inr (by rw [hgd]; omega)))
            have HV2 : Az (v * 10 + (c.toNat - 48) = accV T i (j + 1)) := ⟨by rw [accV, if_neg HJD.out, hgd, ← HV.out]⟩
            have hv2 := HDG2.out.lt (by omega)
            rw [← HV2.out] at hv2
            clear hgd
            go_wp2_with fail
            refine ⟨⟨j + 1, v * 10 + (c.toNat - 48), by go_num, ?_, by omega, hv2, HDG2, HV2, L⟩, by simp only [intOf]; omega⟩
            congr 1; omega
    · obtain rfl : j = i + 4 := by omega
      have hbv : v = bodyVal T := by
        have := accV_all T (by omega)
        rw [HTI.out, Nat.add_sub_cancel] at this
        rw [HV.out, this]
      have HBV := Az.mk hbv
      clear hbv
      have HP : Az (parseM S = if fixedT (-(v : Int)) = S then some (-(v : Int)) else none) := ⟨by
        rw [parseM, HFV.out, ← HBV.out]
        by_cases h : fixedT (-(v : Int)) = S
        · rw [if_pos ⟨h, HSN.out⟩, if_pos h]
        · rw [if_neg (fun h' => h h'.1), if_neg h]⟩
      by_cases he : fixedT (-(v : Int)) = S
      · have heb : (fixedT (-(v : Int)) == S) = true := by simp [he]
        have HEQ := Az.mk he
        clear he
        go_wp2_with fail
        refine (FormatFixed_c (-(v : Int)) _ (HE.out.gr L.out)).mono ?_
        rintro e v1 ⟨rfl, h⟩
        have h0 : World.grownBy wr v1 _ := (by refine World.grownBy.trans ?_ h; repeat (first | exact gr_refl _ _ | apply gr_drewN | apply gr_drew | apply gr_alloc))
        have L_ := Az.mk (gr_new L.out h0 (by first | (simp; done) | (simp; omega) | omega))
        clear L
        have L := L_; clear L_
        clear h0 h
        go_wp2_with fail
        go_ret2
        exact ⟨by rw [HP.out, if_pos HEQ.out]; rfl, L.out⟩
      · have heb : (fixedT (-(v : Int)) == S) = false := by simp [he]
        have HEQ := Az.mk he
        clear he
        go_wp2_with fail
        refine (FormatFixed_c (-(v : Int)) _ (HE.out.gr L.out)).mono ?_
        rintro e v1 ⟨rfl, h⟩
        have h0 : World.grownBy wr v1 _ := (by refine World.grownBy.trans ?_ h; repeat (first | exact gr_refl _ _ | apply gr_drewN | apply gr_drew | apply gr_alloc))
        have L_ := Az.mk (gr_new L.out h0 (by first | (simp; done) | (simp; omega) | omega))
        clear L
        have L := L_; clear L_
        clear h0 h
        go_wp2_with fail
        go_ret2
        exact ⟨by rw [HP.out, if_neg HEQ.out]; rfl, L.out⟩
set_option maxRecDepth 8000 in
set_option maxHeartbeats 4000000 in
theorem parse_p (S : Tx) (hS : S ≠ []) (hc45 : S[0]? ≠ some 45) (hl : S.length ≤ 140737488355328) (w : World) (hE : Env w) : Calls Tryd.prog 85 #[.string (tx S)] w (RetP w (parseM S)) := by
  have L := Az.mk (gr_refl w none)
  have HE := Az.mk hE
  clear hE
  have HU : Az (unsign S = S) := ⟨by rw [unsign, if_neg hc45]⟩
  have HFV : Az (fixedVal S = (bodyVal S : Int)) := ⟨by rw [fixedVal, if_neg hc45]⟩
  have HSN : Az (S ≠ []) := ⟨hS⟩
  have hTl : S.length ≤ 140737488355328 := hl
  have hS0 : 0 < S.length := by cases S <;> simp_all
  have hse : List.isEmpty S = false := by cases S <;> simp_all
  obtain ⟨c, hc0⟩ : ∃ c, S[0]? = some c := ⟨_, List.getElem?_eq_getElem hS0⟩
  have h45 : ((tx S)[0]'(by rw [tx_size]; exact hS0)) = c := by rw [tx_get]; exact Option.some.inj ((List.getElem?_eq_getElem hS0).symm.trans hc0)
  have hcb : ((c.toNat : Int) == 45) = false := by
    have h1 : c.toNat ≠ 45 := fun e => hc45 (by rw [hc0]; exact congrArg some (UInt8.toNat_inj.1 (by rw [e]; rfl)))
    simp; omega
  clear hS hc45 hc0
  go_enter Tryd.func85, Tryd.ntmps85
  go_wp2_with fail
  clear hcb h45 hse hS0
  refine (Tryd.strings_IndexByte (tx S) 46 _).mono ?_
  rintro e w2 ⟨rfl, hw2⟩
  rw [hw2]
  clear hw2
  rw [show Lib.indexByte (tx S).data.toList (46 : Int).toNat.toUInt8 = dotAt S from rfl]
  obtain ⟨d, hd⟩ : ∃ d, dotAt S = d := ⟨_, rfl⟩
  have hdg : -1 ≤ d := by rw [← hd]; exact Lib.indexByte_ge _ _
  rw [hd]
  have HD := Az.mk hd
  clear hd
  by_cases c1 : d < 1
  · have HNo := Az.mk (parse_bad HU.out (by rw [HD.out]; omega))
    go_wp2_with fail
    go_ret2
    exact ⟨by rw [HNo.out]; rfl, L.out⟩
  by_cases c2 : ¬ (S.length : Int) = d + 4
  · have HNo := Az.mk (parse_bad HU.out (by rw [HD.out]; omega))
    have c2b : ((S.length : Int) != d + 4) = true := by simp [c2]
    clear c2
    have hd3 : d ≤ 140737488355328 := by have := HD.out; rw [← this]; exact dotAt_le hTl
    go_wp2_with fail
    go_ret2
    exact ⟨by rw [HNo.out]; rfl, L.out⟩
  have c2 : (S.length : Int) = d + 4 := Decidable.not_not.1 c2
  obtain ⟨i, hi⟩ : ∃ i : Nat, d = i := ⟨d.toNat, by omega⟩
  have hTi : S.length = i + 4 := by omega
  subst hi
  clear c2
  have HTI := Az.mk hTi
  have c1i : ¬ (i : Int) < 1 := by omega
  have c2b : (((i + 4 : Nat) : Int) != (i : Int) + 4) = false := by simp
  have hsz : S.length = i + 4 := hTi
  clear hTi
  by_cases c3 : 7 < i
  · have c3i : 7 < (i : Int) := by omega
    have HNo := Az.mk (parse_bad HU.out (by rw [HD.out]; omega))
    go_wp2_with fail
    go_ret2
    exact ⟨by rw [HNo.out]; rfl, L.out⟩
  have c3i : ¬ 7 < (i : Int) := by omega
  go_wp2_with fail
  go_loopw [7, 8] (fun n k wr => ∃ j v : Nat, k = .int .i64 j ∧ n = .int .i64 v ∧ j ≤ i + 4 ∧ v < 100000000000 ∧ Az (DigTo S i j) ∧ Az (v = accV S i j) ∧ Az (w.grownBy wr none)) (fun _ k _ => i + 4 - (intOf k).toNat)
  case atStart => exact ⟨0, 0, by go_num, by go_num, by omega, by omega, ⟨fun j hj => by omega⟩, ⟨rfl⟩, L⟩
  case round =>
    clear L
    obtain ⟨j, v, rfl, rfl, hj, hv, HDG, HV, L⟩ := hrel
    by_cases hjl : j < i + 4
    · have hji : (j : Int) < (i : Int) + 4 := by omega
      by_cases hjd : j = i
      · subst hjd
        have HDG2 := Az.mk (HDG.out.step (.inl rfl))
        have HV2 : Az (v = accV S j (j + 1)) := ⟨by rw [accV, if_pos rfl]; exact HV.out⟩
        go_wp2_with fail
        exact ⟨⟨j + 1, v, by go_num, by go_num, by omega, hv, HDG2, HV2, L⟩, by simp only [intOf]; omega⟩
      · have hjb : ((j : Int) == (i : Int)) = false := by simp; omega
        have hjs : j < (tx S).size := by rw [tx_size, hsz]; exact hjl
        obtain ⟨c, hc⟩ : ∃ c, (tx S)[j]'hjs = c := ⟨_, rfl⟩
        have hjl2 : j < S.length := by omega
        have hkc : S[j]? = some c := by rw [List.getElem?_eq_getElem hjl2, ← hc]; rfl
        have HKC := Az.mk hkc
        have HJD := Az.mk hjd
        clear hkc hjd
        by_cases d1 : c.toNat < 48
        · have d1i : (c.toNat : Int) < 48 := by omega
          have HNo := Az.mk (parse_baddig HU.out HTI.out HKC.out HJD.out (.inl d1))
          go_wp2_with fail
          go_ret2
          exact ⟨by rw [HNo.out]; rfl, L.out⟩
        · by_cases d2 : 57 < c.toNat
          · have d2i : 57 < (c.toNat : Int) := by omega
            have HNo := Az.mk (parse_baddig HU.out HTI.out HKC.out HJD.out (.inr d2))
            go_wp2_with fail
            go_ret2
            exact ⟨by rw [HNo.out]; rfl, L.out⟩
          · have d1i : ¬ (c.toNat : Int) < 48 := by omega
            have d2i : ¬ 57 < (c.toNat : Int) := by omega
            have hgd : S.getD j 0 = c := by rw [List.getD_eq_getElem?_getD, HKC.out]; rfl
            have HDG2 := Az.mk (HDG.out.step (.inr (by rw [hgd]; omega)))
            have HV2 : Az (v * 10 + (c.toNat - 48) = accV S i (j + 1)) := ⟨by rw [accV, if_neg HJD.out, hgd, ← HV.out]⟩
            have hv2 := HDG2.out.lt (by omega)
            rw [← HV2.out] at hv2
            clear hgd
            go_wp2_with fail
            refine ⟨⟨j + 1, v * 10 + (c.toNat - 48), by go_num, ?_, by omega, hv2, HDG2, HV2, L⟩, by simp only [intOf]; omega⟩
            congr 1; omega
    · obtain rfl : j = i + 4 := by omega
      have hbv : v = bodyVal S := by
        have := accV_all S (by omega)
        rw [HTI.out, Nat.add_sub_cancel] at this
        rw [HV.out, this]
      have HBV := Az.mk hbv
      clear hbv
      have HP : Az (parseM S = if fixedT ((v : Int)) = S then some ((v : Int)) else none) := ⟨by
        rw [parseM, HFV.out, ← HBV.out]
        by_cases h : fixedT ((v : Int)) = S
        · rw [if_pos ⟨h, HSN.out⟩, if_pos h]
        · rw [if_neg (fun h' => h h'.1), if_neg h]⟩
      by_cases he : fixedT ((v : Int)) = S
      · have heb : (fixedT ((v : Int)) == S) = true := by simp [he]
        have HEQ := Az.mk he
        clear he
        go_wp2_with fail
        refine (FormatFixed_c ((v : Int)) _ (HE.out.gr L.out)).mono ?_
        rintro e v1 ⟨rfl, h⟩
        have h0 : World.grownBy wr v1 _ := (by refine World.grownBy.trans ?_ h; repeat (first | exact gr_refl _ _ | apply gr_drewN | apply gr_drew | apply gr_alloc))
        have L_ := Az.mk (gr_new L.out h0 (by first | (simp; done) | (simp; omega) | omega))
        clear L
        have L := L_; clear L_
        clear h0 h
        go_wp2_with fail
        go_ret2
        exact ⟨by rw [HP.out, if_pos HEQ.out]; rfl, L.out⟩
      · have heb : (fixedT ((v : Int)) == S) = false := by simp [he]
        have HEQ := Az.mk he
        clear he
        go_wp2_with fail
        refine (FormatFixed_c ((v : Int)) _ (HE.out.gr L.out)).mono ?_
        rintro e v1 ⟨rfl, h⟩
        have h0 : World.grownBy wr v1 _ := (by refine World.grownBy.trans ?_ h; repeat (first | exact gr_refl _ _ | apply gr_drewN | apply gr_drew | apply gr_alloc))
        have L_ := Az.mk (gr_new L.out h0 (by first | (simp; done) | (simp; omega) | omega))
        clear L
        have L := L_; clear L_
        clear h0 h
        go_wp2_with fail
        go_ret2
        exact ⟨by rw [HP.out, if_neg HEQ.out]; rfl, L.out⟩
theorem ParseFixed_c (l : Tx) (hl : l.length ≤ 140737488355328) (w : World) (hE : Env w) : Calls Tryd.prog 85 #[.string (tx l)] w (RetP w (parseM l)) := by
  cases l with
  | nil =>
    have L := Az.mk (gr_refl w none)
    clear hE
    have HNo : Az (parseM [] = none) := ⟨by rw [parseM, if_neg (fun h => h.2 rfl)]⟩
    go_enter Tryd.func85, Tryd.ntmps85
    go_wp2_with fail
    refine (Tryd.strings_IndexByte (tx []) 46 _).mono ?_
    rintro e w2 ⟨rfl, hw2⟩
    rw [hw2]
    clear hw2
    rw [show Lib.indexByte (tx []).data.toList (46 : Int).toNat.toUInt8 = -1 from rfl]
    go_wp2_with fail
    go_ret2
    exact ⟨by rw [HNo.out]; rfl, L.out⟩
  | cons c l =>
    by_cases hc : c = 45
    · subst hc; exact parse_m (45 :: l) l rfl hl w hE
    · exact parse_p (c :: l) (by simp) (by simpa using hc) hl w hE
end Go.Proofs.YtfjafeepmpnegaaDoor
