/- Contracts of spec.ParseUint, spec.SplitFields. No condition. -/
import Derived.Test.YtfjafeepmpnegaaDoorSm
namespace Go.Proofs.YtfjafeepmpnegaaDoor
open Go.RowKit
set_option linter.unusedVariables false
set_option linter.unusedSimpArgs false

set_option maxRecDepth 8000 in
set_option maxHeartbeats 1000000 in
theorem sParseUint_c (l : Tx) (hl : l.length ≤ 140737488355328) (w : World) : Calls Tryd.prog 81 #[.string (tx l)] w (RetU w (uintM l)) := by
  have L := Az.mk (gr_refl w none)
  have hsz := tx_size l
  by_cases h10 : l.length ≤ 10
  · have hb2 : decide (10 < (l.length : Int)) = false := by simp; omega
    go_enter Tryd.func81, Tryd.ntmps81
    go_wp2_with fail
    go_loopw [4, 5] (fun n i wr => ∃ k v : Nat, i = .int .i64 k ∧ n = .int .i64 v ∧ k ≤ l.length ∧ v ≤ 10000000000 ∧ Az (Digs (l.take k)) ∧ Az (v = val (l.take k)) ∧ Az (w.grownBy wr none)) (fun _ i _ => l.length - (intOf i).toNat)
    case atStart => exact ⟨0, 0, by go_num, by go_num, by omega, by omega, ⟨fun c hc => by simp at hc⟩, ⟨by simp [val]⟩, L⟩
    case round =>
      clear L
      obtain ⟨k, v, rfl, rfl, hk, hv, HD, HV, L⟩ := hrel
      by_cases hkl : k < l.length
      · have hki : (k : Int) < l.length := by omega
        obtain ⟨c, hc⟩ : ∃ c, l[k] = c := ⟨_, rfl⟩
        have hg : (tx l)[k]'(by rw [tx_size]; exact hkl) = c := hc
        have hkc := Az.mk (show l[k]? = some c by rw [List.getElem?_eq_getElem hkl, hc])
        clear hc
        by_cases d1 : c.toNat < 48
        · have d1i : (c.toNat : Int) < 48 := by omega
          have hno : uintM l = none := by
            cases hp : uintM l with
            | none => rfl
            | some x =>
              have := (uintM_shape hp).2.2.1 c (List.mem_of_getElem? hkc.out)
              omega
          have HNo := Az.mk hno
          clear hno
          go_wp2_with fail
          go_ret2
          exact ⟨by rw [HNo.out]; rfl, L.out⟩
        · by_cases d2 : 57 < c.toNat
          · have d2i : 57 < (c.toNat : Int) := by omega
            have hno : uintM l = none := by
              cases hp : uintM l with
              | none => rfl
              | some x =>
                have := (uintM_shape hp).2.2.1 c (List.mem_of_getElem? hkc.out)
                omega
            have HNo := Az.mk hno
            clear hno
            go_wp2_with fail
            go_ret2
            exact ⟨by rw [HNo.out]; rfl, L.out⟩
          · have d1i : ¬ (c.toNat : Int) < 48 := by omega
            have d2i : ¬ 57 < (c.toNat : Int) := by omega
            have ht : l.take (k + 1) = l.take k ++ [c] := by rw [List.take_add_one, hkc.out]; rfl
            have hd : Digs (l.take (k + 1)) := by
              rw [ht]; intro x hx
              rcases List.mem_append.1 hx with h | h
              · exact HD.out x h
              · rw [List.mem_singleton.1 h]; omega
            have hv2 : val (l.take (k + 1)) = v * 10 + (c.toNat - 48) := by rw [ht, val_snoc, HV.out]
            have hv3 := val_take_lt l (k + 1) hd
            have hv4 : 10 ^ (k + 1) ≤ 10 ^ 10 := Nat.pow_le_pow_right (by decide) (by omega)
            have hv5 : v * 10 + (c.toNat - 48) ≤ 10000000000 := by omega
            have HD2 := Az.mk hd
            have HV2 := Az.mk hv2
            clear ht hd hv2 hv3 hv4
            go_wp2_with fail
            refine ⟨⟨k + 1, v * 10 + (c.toNat - 48), by go_num, ?_, by omega, hv5, HD2, ⟨HV2.out.symm⟩, L⟩, by simp only [intOf]; omega⟩
            congr 1; omega
      · obtain rfl : k = l.length := by omega
        have htk : l.take l.length = l := List.take_length
        rw [htk] at HD HV
        clear htk
        by_cases hm : v ≤ 1000000000
        · have hmi : ¬ (1000000000 : Int) < v := by omega
          go_wp2_with fail
          refine (sFormatInt_c v (by omega) _).mono ?_
          rintro e w1 ⟨rfl, h⟩
          have h0 : World.grownBy wr w1 _ := (by refine World.grownBy.trans ?_ h; repeat (first | exact gr_refl _ _ | apply gr_drewN | apply gr_drew | apply gr_alloc))
          have L_ := Az.mk (gr_new L.out h0 (by first | (simp; done) | (simp; omega) | omega))
          clear L
          have L := L_; clear L_
          clear h0 h
          by_cases he : Lib.decDigits v = l
          · have heb : (Lib.decDigits v == l) = true := by simp [he]
            have HEQ := Az.mk he
            clear he
            go_wp2_with fail
            go_ret2
            exact ⟨by rw [uintM, ← HV.out, if_pos ⟨hm, HEQ.out⟩]; rfl, L.out⟩
          · have heb : (Lib.decDigits v == l) = false := by simp [he]
            have HEQ := Az.mk he
            clear he
            go_wp2_with fail
            go_ret2
            exact ⟨by rw [uintM, ← HV.out, if_neg (fun h => HEQ.out h.2)]; rfl, L.out⟩
        · have hmi : (1000000000 : Int) < v := by omega
          go_wp2_with fail
          go_ret2
          exact ⟨by rw [uintM, ← HV.out, if_neg (fun h => hm h.1)]; rfl, L.out⟩
  · have hno : uintM l = none := by
      cases hp : uintM l with
      | none => rfl
      | some x =>
        have h1 := uintM_shape hp
        exact absurd h1.2.1 h10
    have HNo := Az.mk hno
    clear hno
    have hb2 : decide (10 < (l.length : Int)) = true := by simp; omega
    go_enter Tryd.func81, Tryd.ntmps81
    go_wp2_with fail
    go_ret2
    exact ⟨by rw [HNo.out]; rfl, L.out⟩
/-- What the cutter holds after k bytes: the fields told off, and the place where the field under way begins. -/
def Cut (l : Tx) (k : Nat) (o : List Tx) (b : Nat) : Prop := (l.take k).foldl fldStep ([], []) = (o, (l.take k).drop b)
theorem Cut.zero (l : Tx) : Cut l 0 [] 0 := by simp [Cut]
theorem Cut.more {l : Tx} {k : Nat} {o : List Tx} {b : Nat} {c : UInt8} (h : Cut l k o b) (hk : l[k]? = some c) (hc : c ≠ 32) (hb : b ≤ k) : Cut l (k + 1) o b := by
  unfold Cut at h ⊢
  have hkl := (List.getElem?_eq_some_iff.1 hk).1
  rw [List.take_add_one, hk, List.foldl_append, h]
  simp only [Option.toList_some, List.foldl_cons, List.foldl_nil, fldStep, if_neg hc]
  rw [List.drop_append_of_le_length (by rw [List.length_take]; omega)]
theorem Cut.cut {l : Tx} {k : Nat} {o : List Tx} {b : Nat} (h : Cut l k o b) (hk : l[k]? = some 32) (hb : b < k) : Cut l (k + 1) (o ++ [(l.take k).drop b]) (k + 1) := by
  unfold Cut at h ⊢
  have hkl := (List.getElem?_eq_some_iff.1 hk).1
  rw [List.take_add_one, hk, List.foldl_append, h]
  simp only [Option.toList_some, List.foldl_cons, List.foldl_nil, fldStep, if_true]
  have hne : (l.take k).drop b ≠ [] := by
    intro e; have := congrArg List.length e; simp at this; omega
  have he2 : (l.take k ++ [32]).drop (k + 1) = [] := List.drop_eq_nil_of_le (by simp only [List.length_append, List.length_take, List.length_cons, List.length_nil]; omega)
  rw [if_neg hne, he2]
theorem Cut.skip {l : Tx} {k : Nat} {o : List Tx} {b : Nat} (h : Cut l k o b) (hk : l[k]? = some 32) (hb : ¬ b < k) : Cut l (k + 1) o (k + 1) := by
  unfold Cut at h ⊢
  have hkl := (List.getElem?_eq_some_iff.1 hk).1
  rw [List.take_add_one, hk, List.foldl_append, h]
  simp only [Option.toList_some, List.foldl_cons, List.foldl_nil, fldStep, if_true]
  have he : (l.take k).drop b = [] := List.drop_eq_nil_of_le (by rw [List.length_take]; omega)
  have he2 : (l.take k ++ [32]).drop (k + 1) = [] := List.drop_eq_nil_of_le (by simp only [List.length_append, List.length_take, List.length_cons, List.length_nil]; omega)
  rw [he, if_pos rfl, he2]
theorem Cut.end1 {l : Tx} {o : List Tx} {b : Nat} (h : Cut l l.length o b) (hb : b < l.length) : fieldsL l = o ++ [l.drop b] := by
  unfold Cut at h
  rw [List.take_length] at h
  unfold fieldsL
  rw [h, fldEnd, if_neg]
  intro e; have := congrArg List.length e; simp at this; omega
theorem Cut.end0 {l : Tx} {o : List Tx} {b : Nat} (h : Cut l l.length o b) (hb : ¬ b < l.length) : fieldsL l = o := by
  unfold Cut at h
  rw [List.take_length] at h
  unfold fieldsL
  rw [h, fldEnd, if_pos (List.drop_eq_nil_of_le (by omega))]
theorem tx_cut (l : Tx) (b k : Nat) : (tx l).extract b k = tx ((l.take k).drop b) := by
  rw [← tx_of ((tx l).extract b k), ByteArray.data_extract]
  congr 1
  rw [Array.toList_extract, List.extract_eq_take_drop, List.drop_take]
  rfl
set_option maxRecDepth 8000 in
set_option maxHeartbeats 2000000 in
theorem sSplitFields_c (l : Tx) (hl : l.length ≤ 140737488355328) (w : World) : Calls Tryd.prog 56 #[.string (tx l)] w (RetFs w (fieldsM l)) := by
  have L := Az.mk (gr_refl w none)
  have hsz := tx_size l
  by_cases h6 : l.length ≤ 600
  · have hb : ¬ (600 : Int) < l.length := by omega
    go_enter Tryd.func56, Tryd.ntmps56
    go_wp2_with (first | ((with_reducible refine gateN 7 rfl ?_); go_must (refine ev_bs 7 rfl rfl #[] 9 0 ?hr ?_; (case hr => first | (go_simp; done) | (go_simp; rfl)); intro gR heR W1 hbR h; have hgR : w.heap.size ≤ gR := Nat.le_trans L.out.size heR; clear heR; have h0 : World.grownBy w W1 none := (by refine World.grownBy.trans ?_ h; repeat (first | exact gr_refl _ _ | apply gr_drewN | apply gr_drew | apply gr_alloc)); have L_ := Az.mk (gr_new L.out h0 (by first | (simp; done) | (simp; omega) | omega)); clear L; have L := L_; clear L_; clear h0 h; have R := Az.mk (own_empty (size := 1) hbR hgR); clear hbR)))
    go_wp2_with fail
    go_loopw [4, 5, 6] (fun o b i wr => ∃ k bb : Nat, ∃ os : List Tx, i = .int .i64 k ∧ b = .int .i64 bb ∧ k ≤ l.length + 1 ∧ os.length ≤ k ∧ (k ≤ l.length → bb ≤ k) ∧ Az ((k ≤ l.length ∧ Cut l k os bb) ∨ (k = l.length + 1 ∧ fieldsL l = os)) ∧ Az (PrintB (l.take k) = true) ∧ Az (w.grownBy wr none) ∧ Az (wr.ownsRow w.heap.size 9 1 o os.length (stV os))) (fun _ _ i _ => l.length + 1 - (intOf i).toNat)
    case atStart => exact ⟨0, 0, [], by go_num, by go_num, by omega, by simp, fun _ => by omega, ⟨.inl ⟨by omega, Cut.zero l⟩⟩, ⟨by simp [PrintB]⟩, L, R⟩
    case round =>
      clear L R
      obtain ⟨k, bb, os, rfl, rfl, hk, hos, hbk, HC, HD, L, R⟩ := hrel
      by_cases hkl : k < l.length
      · have hki : (k : Int) < l.length := by omega
        have hki2 : (k : Int) ≤ l.length := by omega
        have hbk2 := hbk (by omega)
        clear hbk
        have HCut : Az (Cut l k os bb) := ⟨by rcases HC.out with ⟨_, h⟩ | ⟨h, _⟩; exact h; omega⟩
        clear HC
        obtain ⟨c, hc⟩ : ∃ c, l[k] = c := ⟨_, rfl⟩
        have hg : (tx l)[k]'(by rw [tx_size]; exact hkl) = c := hc
        have hkc := Az.mk (show l[k]? = some c by rw [List.getElem?_eq_getElem hkl, hc])
        clear hc
        by_cases d1 : c.toNat < 32
        · have d1i : (c.toNat : Int) < 32 := by omega
          have HNo := Az.mk (print_no hkc.out (.inl d1))
          go_wp2_with (first | ((with_reducible refine gateN 34 rfl ?_); go_must (refine ev_bs 34 rfl rfl #[] 9 0 ?hr ?_; (case hr => first | (go_simp; done) | (go_simp; rfl)); intro gY heY W2 hbY h; have hgY : w.heap.size ≤ gY := Nat.le_trans L.out.size heY; clear heY; have h0 : World.grownBy wr W2 none := (by refine World.grownBy.trans ?_ h; repeat (first | exact gr_refl _ _ | apply gr_drewN | apply gr_drew | apply gr_alloc)); have L_ := Az.mk (gr_new L.out h0 (by first | (simp; done) | (simp; omega) | omega)); have R_ := Az.mk (own_gr R.out h0 (by first | exact own_none _ | exact .inr hl?R.out)); clear L R; have L := L_; clear L_; have R := R_; clear R_; clear h0 h; have Y := Az.mk (own_empty (size := 1) hbY hgY); clear hbY)))
          go_wp2_with fail
          go_ret2
          exact ⟨_, by rw [HNo.out]; rfl, by rw [HNo.out]; exact Y.out, L.out⟩
        by_cases d2 : 126 < c.toNat
        · have d1i : ¬ (c.toNat : Int) < 32 := by omega
          have d2i : 126 < (c.toNat : Int) := by omega
          have HNo := Az.mk (print_no hkc.out (.inr d2))
          go_wp2_with (first | ((with_reducible refine gateN 34 rfl ?_); go_must (refine ev_bs 34 rfl rfl #[] 9 0 ?hr ?_; (case hr => first | (go_simp; done) | (go_simp; rfl)); intro gY heY W3 hbY h; have hgY : w.heap.size ≤ gY := Nat.le_trans L.out.size heY; clear heY; have h0 : World.grownBy wr W3 none := (by refine World.grownBy.trans ?_ h; repeat (first | exact gr_refl _ _ | apply gr_drewN | apply gr_drew | apply gr_alloc)); have L_ := Az.mk (gr_new L.out h0 (by first | (simp; done) | (simp; omega) | omega)); have R_ := Az.mk (own_gr R.out h0 (by first | exact own_none _ | exact .inr hl?R.out)); clear L R; have L := L_; clear L_; have R := R_; clear R_; clear h0 h; have Y := Az.mk (own_empty (size := 1) hbY hgY); clear hbY)))
          go_wp2_with fail
          go_ret2
          exact ⟨_, by rw [HNo.out]; rfl, by rw [HNo.out]; exact Y.out, L.out⟩
        have d1i : ¬ (c.toNat : Int) < 32 := by omega
        have d2i : ¬ 126 < (c.toNat : Int) := by omega
        have HD2 := Az.mk (print_take_succ HD.out hkc.out d1 d2)
        clear d1 d2 HD
        by_cases h32 : c = 32
        · have e32 : ((c.toNat : Int) != 32) = false := by rw [h32]; rfl
          have HK := Az.mk (show l[k]? = some 32 by rw [← h32]; exact hkc.out)
          clear h32
          by_cases hbi : bb < k
          · have hbii : (bb : Int) < k := by omega
            have HX := Az.mk (HCut.out.cut HK.out hbi)
            have hlk : ((l.take k).drop bb).length = k - bb := by simp; omega
            have HT := Az.mk (tx_cut l bb k)
            go_wp2_with (first | ((with_reducible refine gateN 53 rfl ?_); go_must (refine ev_bs 53 rfl rfl #[.string ((tx l).extract bb k)] 9 1 ?hr ?_; (case hr => first | (go_simp; done) | (go_simp; rfl)); intro gN heN W4 hbN h; have hgN : w.heap.size ≤ gN := Nat.le_trans L.out.size heN; have hlNR := Az.mk (own_lows R.out heN); clear heN; have h0 : World.grownBy wr W4 none := (by refine World.grownBy.trans ?_ h; repeat (first | exact gr_refl _ _ | apply gr_drewN | apply gr_drew | apply gr_alloc)); have L_ := Az.mk (gr_new L.out h0 (by first | (simp; done) | (simp; omega) | omega)); have R_ := Az.mk (own_gr R.out h0 (by first | exact own_none _ | exact .inr hl?R.out)); clear L R; have L := L_; clear L_; have R := R_; clear R_; clear h0 h; have N := Az.mk hbN; clear hbN; have cN0 : World.cell? W4 ⟨gN, 0, none⟩ = some (.string ((tx l).extract bb k)) := blkCell N.out 0)) | ((with_reducible refine gateN 54 rfl ?_); go_must (refine ev_app 54 rfl rfl rfl Tryd.underlying23 (z := .string ByteArray.empty) (size := 1) (bytes := 16) (by kernel_rfl) rfl (by decide) rfl R.out rfl N.out rfl (by simp [Value.oneCell']) ?hbase ?hl ?hl2 ?_; (case hbase => have := L.out.size; omega); (case hl => omega); (case hl2 => omega); intro vR W5 hR h; have h0 : World.grownBy W4 W5 _ := (by refine World.grownBy.trans ?_ h; repeat (first | exact gr_refl _ _ | apply gr_drewN | apply gr_drew | apply gr_alloc)); clear cN0; have L_ := Az.mk (gr_new L.out h0 (fun j hj => .inl (own_base R.out j hj))); clear L; have L := L_; clear L_; clear h0 h; clear R N; have R := Az.mk hR; clear hR)))
            go_wp2_with fail
            refine ⟨⟨k + 1, k + 1, os ++ [(l.take k).drop bb], by go_num, by go_num, by omega, by simp; omega, fun _ => by omega, ⟨.inl ⟨by omega, HX.out⟩⟩, HD2, L, ⟨?_⟩⟩, by simp only [intOf]; omega⟩
            rw [stV_snoc, List.length_append, ← HT.out]; exact R.out
          · have hbii : ¬ (bb : Int) < k := by omega
            have HX := Az.mk (HCut.out.skip HK.out hbi)
            go_wp2_with fail
            exact ⟨⟨k + 1, k + 1, os, by go_num, by go_num, by omega, by omega, fun _ => by omega, ⟨.inl ⟨by omega, HX.out⟩⟩, HD2, L, R⟩, by simp only [intOf]; omega⟩
        · have e32 : ((c.toNat : Int) != 32) = true := by
            simp
            intro e
            exact h32 (UInt8.toNat_inj.1 (by show c.toNat = 32; omega))
          have HX := Az.mk (HCut.out.more hkc.out h32 hbk2)
          clear h32
          go_wp2_with fail
          exact ⟨⟨k + 1, bb, os, by go_num, rfl, by omega, by omega, fun _ => by omega, ⟨.inl ⟨by omega, HX.out⟩⟩, HD2, L, R⟩, by simp only [intOf]; omega⟩
      · by_cases hkl2 : k = l.length
        · subst hkl2
          have hbk2 := hbk (by omega)
          clear hbk
          have HCut : Az (Cut l l.length os bb) := ⟨by rcases HC.out with ⟨_, h⟩ | ⟨h, _⟩; exact h; omega⟩
          clear HC
          have HD2 : Az (PrintB (l.take (l.length + 1)) = true) := ⟨by rw [List.take_of_length_le (by omega)]; have h := HD.out; rw [List.take_length] at h; exact h⟩
          by_cases hbi : bb < l.length
          · have hbii : (bb : Int) < l.length := by omega
            have HX := Az.mk (HCut.out.end1 hbi)
            have HT : Az ((tx l).extract bb l.length = tx (l.drop bb)) := ⟨by rw [tx_cut, List.take_length]⟩
            go_wp2_with (first | ((with_reducible refine gateN 53 rfl ?_); go_must (refine ev_bs 53 rfl rfl #[.string ((tx l).extract bb l.length)] 9 1 ?hr ?_; (case hr => first | (go_simp; done) | (go_simp; rfl)); intro gN heN W6 hbN h; have hgN : w.heap.size ≤ gN := Nat.le_trans L.out.size heN; have hlNR := Az.mk (own_lows R.out heN); clear heN; have h0 : World.grownBy wr W6 none := (by refine World.grownBy.trans ?_ h; repeat (first | exact gr_refl _ _ | apply gr_drewN | apply gr_drew | apply gr_alloc)); have L_ := Az.mk (gr_new L.out h0 (by first | (simp; done) | (simp; omega) | omega)); have R_ := Az.mk (own_gr R.out h0 (by first | exact own_none _ | exact .inr hl?R.out)); clear L R; have L := L_; clear L_; have R := R_; clear R_; clear h0 h; have N := Az.mk hbN; clear hbN; have cN0 : World.cell? W6 ⟨gN, 0, none⟩ = some (.string ((tx l).extract bb l.length)) := blkCell N.out 0)) | ((with_reducible refine gateN 54 rfl ?_); go_must (refine ev_app 54 rfl rfl rfl Tryd.underlying23 (z := .string ByteArray.empty) (size := 1) (bytes := 16) (by kernel_rfl) rfl (by decide) rfl R.out rfl N.out rfl (by simp [Value.oneCell']) ?hbase ?hl ?hl2 ?_; (case hbase => have := L.out.size; omega); (case hl => omega); (case hl2 => omega); intro vR W7 hR h; have h0 : World.grownBy W6 W7 _ := (by refine World.grownBy.trans ?_ h; repeat (first | exact gr_refl _ _ | apply gr_drewN | apply gr_drew | apply gr_alloc)); clear cN0; have L_ := Az.mk (gr_new L.out h0 (fun j hj => .inl (own_base R.out j hj))); clear L; have L := L_; clear L_; clear h0 h; clear R N; have R := Az.mk hR; clear hR)))
            go_wp2_with fail
            refine ⟨⟨l.length + 1, l.length + 1, os ++ [l.drop bb], by go_num, by go_num, by omega, by simp; omega, fun _ => by omega, ⟨.inr ⟨rfl, HX.out⟩⟩, HD2, L, ⟨?_⟩⟩, by simp only [intOf]; omega⟩
            rw [stV_snoc, List.length_append, ← HT.out]; exact R.out
          · have hbii : ¬ (bb : Int) < l.length := by omega
            have HX := Az.mk (HCut.out.end0 hbi)
            go_wp2_with fail
            exact ⟨⟨l.length + 1, l.length + 1, os, by go_num, by go_num, by omega, by omega, fun _ => by omega, ⟨.inr ⟨rfl, HX.out⟩⟩, HD2, L, R⟩, by simp only [intOf]; omega⟩
        · obtain rfl : k = l.length + 1 := by omega
          have hki : ¬ (((l.length + 1 : Nat) : Int)) ≤ l.length := by omega
          have HF0 : Az (fieldsL l = os) := ⟨by rcases HC.out with ⟨h, _⟩ | ⟨_, h⟩; omega; exact h⟩
          have hp : PrintB l = true := by have h := HD.out; rw [List.take_of_length_le (by omega)] at h; exact h
          have HP := Az.mk hp
          clear hp HD HC hbk
          obtain ⟨A1, c1, rfl, hc1, _, _⟩ := own_rd R.out
          by_cases h24 : os.length ≤ 24
          · have h24i : ¬ (24 : Int) < os.length := by omega
            have HF : Az (fieldsM l = some os) := ⟨by rw [fieldsM, HF0.out, if_pos ⟨h6, HP.out, h24⟩]⟩
            go_wp2_with fail
            go_ret2
            exact ⟨_, by rw [HF.out]; rfl, by rw [HF.out]; exact R.out, L.out⟩
          · have h24i : (24 : Int) < os.length := by omega
            have HF : Az (fieldsM l = none) := ⟨by rw [fieldsM, HF0.out, if_neg (fun h => h24 h.2.2)]⟩
            go_wp2_with (first | ((with_reducible refine gateN 60 rfl ?_); go_must (refine ev_bs 60 rfl rfl #[] 9 0 ?hr ?_; (case hr => first | (go_simp; done) | (go_simp; rfl)); intro gY heY W8 hbY h; have hgY : w.heap.size ≤ gY := Nat.le_trans L.out.size heY; clear heY; have h0 : World.grownBy wr W8 none := (by refine World.grownBy.trans ?_ h; repeat (first | exact gr_refl _ _ | apply gr_drewN | apply gr_drew | apply gr_alloc)); have L_ := Az.mk (gr_new L.out h0 (by first | (simp; done) | (simp; omega) | omega)); have R_ := Az.mk (own_gr R.out h0 (by first | exact own_none _ | exact .inr hl?R.out)); clear L R; have L := L_; clear L_; have R := R_; clear R_; clear h0 h; have Y := Az.mk (own_empty (size := 1) hbY hgY); clear hbY)))
            go_wp2_with fail
            go_ret2
            exact ⟨_, by rw [HF.out]; rfl, by rw [HF.out]; exact Y.out, L.out⟩
  · have hb : (600 : Int) < l.length := by omega
    have HF : Az (fieldsM l = none) := ⟨by rw [fieldsM, if_neg (fun h => h6 h.1)]⟩
    go_enter Tryd.func56, Tryd.ntmps56
    go_wp2_with (first | ((with_reducible refine gateN 7 rfl ?_); go_must (refine ev_bs 7 rfl rfl #[] 9 0 ?hr ?_; (case hr => first | (go_simp; done) | (go_simp; rfl)); intro gR heR W9 hbR h; have hgR : w.heap.size ≤ gR := Nat.le_trans L.out.size heR; clear heR; have h0 : World.grownBy w W9 none := (by refine World.grownBy.trans ?_ h; repeat (first | exact gr_refl _ _ | apply gr_drewN | apply gr_drew | apply gr_alloc)); have L_ := Az.mk (gr_new L.out h0 (by first | (simp; done) | (simp; omega) | omega)); clear L; have L := L_; clear L_; clear h0 h; have R := Az.mk (own_empty (size := 1) hbR hgR); clear hbR)))
    go_wp2_with fail
    go_ret2
    exact ⟨_, by rw [HF.out]; rfl, by rw [HF.out]; exact R.out, L.out⟩
end Go.Proofs.YtfjafeepmpnegaaDoor
