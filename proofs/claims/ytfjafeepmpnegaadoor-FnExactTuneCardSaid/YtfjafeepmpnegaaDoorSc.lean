/- Contract of impl.SplitFields. Condition: the library's variable is there. -/
import Derived.Test.YtfjafeepmpnegaaDoorSb
namespace Go.Proofs.YtfjafeepmpnegaaDoor
open Go.RowKit
set_option linter.unusedVariables false
set_option linter.unusedSimpArgs false

/-- Texts as cells. -/
def stV (fs : List Tx) : List Value := fs.map fun t => .string (tx t)
theorem stV_len (fs : List Tx) : (stV fs).length = fs.length := by simp [stV]
theorem stV_snoc (fs : List Tx) (t : Tx) : stV (fs ++ [t]) = stV fs ++ [.string (tx t)] := by simp [stV]
theorem stV_get {fs : List Tx} {k : Nat} {t : Tx} (h : fs[k]? = some t) : (stV fs)[k]? = some (.string (tx t)) := by simp [stV, h]
theorem stV_one (fs : List Tx) : ∀ u ∈ stV fs, u.oneCell' = true := by
  intro u hu
  obtain ⟨b, _, rfl⟩ := List.mem_map.1 hu
  rfl
def RetFs (w : World) (o : Option (List Tx)) (e : Ending) (w' : World) : Prop :=
  ∃ v, e = .returned (.tuple #[v, .bool o.isSome]) ∧ w'.ownsRow w.heap.size 9 1 v (o.getD []).length (stV (o.getD [])) ∧ w.grownBy w' none
def pieces (l : Tx) : List Tx := Lib.splitK [32] 0 (Lib.count l [32]) l
theorem pieces_len (l : Tx) : (pieces l).length = Lib.count l [32] + 1 := by
  have key : ∀ (k : Nat) (l : Tx), l.length < k → (Lib.splitK [32] 0 (Lib.count l [32]) l).length = Lib.count l [32] + 1 := by
    intro k
    induction k with
    | zero => intro l h; omega
    | succ k ih =>
      intro l hl
      rcases Lib.index_spec l [32] with ⟨h1, _⟩ | ⟨i, h1, _⟩
      · rw [Lib.count_miss h1, Lib.splitK]; rfl
      · have h2 : l ≠ [] := by rintro rfl; obtain ⟨a, b, h, _⟩ := index_cut h1; cases a <;> cases h
        have h3 : (l.drop (i + [(32 : UInt8)].length)).length < k := by
          have : 0 < l.length := by cases l <;> simp_all
          simp; omega
        rw [Lib.count_hit (by simp) h1, Nat.add_comm 1, Lib.splitK, if_neg (by rw [h1]; simp only [beq_iff_eq]; omega), h1]
        rw [Int.toNat_natCast, List.length_cons, ih _ h3]
  exact key (l.length + 1) l (by omega)
theorem splitB_tx (l : Tx) : (Lib.splitB ({ data := #[32] } : ByteArray) 0 (Lib.countB (tx l) { data := #[32] }) (tx l)).map Value.string = stV (pieces l) := by
  have h := Lib.splitB_data ({ data := #[32] } : ByteArray) 0 (Lib.count l [32]) (tx l)
  have e : (Lib.splitB ({ data := #[32] } : ByteArray) 0 (Lib.count l [32]) (tx l)) = (pieces l).map tx := by
    unfold pieces
    rw [show Lib.splitK [32] 0 (Lib.count l [32]) l = Lib.splitK [32] 0 (Lib.count l [32]) (tx l).data.toList from rfl, ← h, List.map_map]
    have : (tx ∘ fun x : ByteArray => x.data.toList) = id := by funext x; exact tx_of x
    rw [this, List.map_id]
  show (Lib.splitB ({ data := #[32] } : ByteArray) 0 (Lib.count l [32]) (tx l)).map Value.string = _
  rw [e, List.map_map]; rfl
theorem print_take_succ {l : Tx} {k : Nat} {c : UInt8} (h : PrintB (l.take k) = true) (hc : l[k]? = some c) (h1 : ¬ c.toNat < 32) (h2 : ¬ 126 < c.toNat) : PrintB (l.take (k + 1)) = true := by
  rw [PrintB_iff] at h ⊢
  rw [List.take_add_one, hc]
  intro x hx
  rcases List.mem_append.1 hx with h' | h'
  · exact h x h'
  · simp at h'; subst h'; omega
theorem print_no {l : Tx} {k : Nat} {c : UInt8} (hc : l[k]? = some c) (h1 : c.toNat < 32 ∨ 126 < c.toNat) : fieldsM l = none := by
  unfold fieldsM
  rw [if_neg]
  rintro ⟨_, h, _⟩
  have := (PrintB_iff l).1 h c (List.mem_of_getElem? hc)
  omega
set_option maxRecDepth 8000 in
set_option maxHeartbeats 2000000 in
theorem SplitFields_c (l : Tx) (hl : l.length ≤ 140737488355328) (w : World) (hE : Env w) : Calls Tryd.prog 31 #[.string (tx l)] w (RetFs w (fieldsM l)) := by
  have L := Az.mk (gr_refl w none)
  have HE := Az.mk hE
  clear hE
  have hsz := tx_size l
  by_cases h6 : l.length ≤ 600
  · have hb : ¬ (600 : Int) < l.length := by omega
    go_enter Tryd.func31, Tryd.ntmps31
    go_wp2_with fail
    go_loopw [4] (fun i wr => ∃ k : Nat, i = .int .i64 k ∧ k ≤ l.length ∧ Az (PrintB (l.take k) = true) ∧ Az (w.grownBy wr none)) (fun i _ => l.length - (intOf i).toNat)
    case atStart => exact ⟨0, by go_num, by omega, ⟨by simp [PrintB]⟩, L⟩
    case round =>
      clear L
      obtain ⟨k, rfl, hk, HD, L⟩ := hrel
      by_cases hkl : k < l.length
      · have hki : (k : Int) < l.length := by omega
        obtain ⟨c, hc⟩ : ∃ c, l[k] = c := ⟨_, rfl⟩
        have hg : (tx l)[k]'(by rw [tx_size]; exact hkl) = c := hc
        have hkc := Az.mk (show l[k]? = some c by rw [List.getElem?_eq_getElem hkl, hc])
        clear hc
        by_cases d1 : c.toNat < 32
        · have d1i : (c.toNat : Int) < 32 := by omega
          have HNo := Az.mk (print_no hkc.out (.inl d1))
          go_wp2_with fail
          go_ret2
          exact ⟨_, by rw [HNo.out]; rfl, by rw [HNo.out]; exact own_nil _ _ _ _, L.out⟩
        · by_cases d2 : 126 < c.toNat
          · have d2i : 126 < (c.toNat : Int) := by omega
            have HNo := Az.mk (print_no hkc.out (.inr d2))
            go_wp2_with fail
            go_ret2
            exact ⟨_, by rw [HNo.out]; rfl, by rw [HNo.out]; exact own_nil _ _ _ _, L.out⟩
          · have d1i : ¬ (c.toNat : Int) < 32 := by omega
            have d2i : ¬ 126 < (c.toNat : Int) := by omega
            have HD2 := Az.mk (print_take_succ HD.out hkc.out d1 d2)
            go_wp2_with fail
            exact ⟨⟨k + 1, by go_num, by omega, HD2, L⟩, by simp only [intOf]; omega⟩
      · obtain rfl : k = l.length := by omega
        have htk : l.take l.length = l := List.take_length
        rw [htk] at HD
        clear htk
        obtain ⟨m, hm⟩ := (HE.out.gr L.out).2.1
        go_wp2_with fail
        refine (Tryd.strings_Split (tx l) { data := #[32] } m _ (by rw [hsz]; omega) hm (by decide)).mono ?_
        rintro e w1 ⟨rfl, hw⟩
        have h : wr.grownBy w1 none := by rw [hw]; exact gr_alloc (gr_refl _ _) _
        have hB : w1.heap[wr.heap.size]? = some (.cells (stV (pieces l)).toArray 9 (0, 0)) := by rw [hw, ← splitB_tx]; exact blkNew _ _
        rw [show Lib.countB (tx l) { data := #[32] } + 1 = (pieces l).length from (pieces_len l).symm]
        have hsL := L.out.size
        obtain ⟨gP, hgP⟩ : ∃ g, wr.heap.size = g := ⟨_, rfl⟩
        rw [hgP] at hB hsL
        rw [hgP]
        have hpl : (pieces l).length ≤ 602 := by rw [pieces_len]; have := Lib.count_le l [32]; omega
        have P := Az.mk (own_of_blk (size := 1) (m := (pieces l).length) hB w.heap.size hsL (by simp [stV]) (by unfold maxLen; omega))
        have L_ := Az.mk (gr_trans L.out h)
        clear L hB h hw hgP hsL
        have L := L_
        clear L_
        have R := Az.mk (own_nil w1 w1.heap.size 9 1)
        have L3 := Az.mk (gr_refl w1 none)
        have hszL := L.out.size
        go_wp2_with fail
        go_loopw [5, 30] (fun z i wr => ∃ k : Nat, i = .int .i64 k ∧ k ≤ (pieces l).length ∧ (((pieces l).take k).filter fun t => !t.isEmpty).length ≤ 602 ∧ Az (w1.grownBy wr none) ∧ Az (wr.ownsRow w1.heap.size 9 1 z (((pieces l).take k).filter fun t => !t.isEmpty).length (stV (((pieces l).take k).filter fun t => !t.isEmpty)))) (fun _ i _ => (pieces l).length - (intOf i).toNat)
        case atStart => exact ⟨0, by go_num, by omega, by simp, L3, ⟨by simpa [stV] using R.out⟩⟩
        case round =>
          clear L3 R
          obtain ⟨k, rfl, hk, hfl, L3, R⟩ := hrel
          by_cases hkp : k < (pieces l).length
          · have hki : (k : Int) < (pieces l).length := by omega
            obtain ⟨t, ht⟩ : ∃ t, (pieces l)[k]? = some t := ⟨_, List.getElem?_eq_getElem hkp⟩
            have dP : wr.cell? ⟨gP, k, none⟩ = some (.string (tx t)) := own_cell (own_gr P.out L3.out (own_none _)) (stV_get ht)
            have HT := Az.mk (show (pieces l).take (k + 1) = (pieces l).take k ++ [t] by rw [List.take_add_one, ht]; rfl)
            clear ht
            have hfl2 : (((pieces l).take (k + 1)).filter fun t => !t.isEmpty).length ≤ 602 := Nat.le_trans (List.length_filter_le _ _) (Nat.le_trans (List.length_take_le _ _) (by omega))
            by_cases he : t = []
            · subst he
              have e1 : ((pieces l).take (k + 1)).filter (fun t => !t.isEmpty) = ((pieces l).take k).filter (fun t => !t.isEmpty) := by rw [HT.out, List.filter_append]; simp
              have HE1 := Az.mk e1
              clear e1
              go_wp2_with fail
              refine ⟨⟨k + 1, by go_num, by omega, hfl2, L3, ⟨by rw [HE1.out]; exact R.out⟩⟩, by simp only [intOf]; omega⟩
            · have e1 : ((pieces l).take (k + 1)).filter (fun t => !t.isEmpty) = ((pieces l).take k).filter (fun t => !t.isEmpty) ++ [t] := by rw [HT.out, List.filter_append]; cases t <;> simp_all
              have HE1 := Az.mk e1
              clear e1
              have hb : List.isEmpty t = false := by cases t <;> simp_all
              clear he
              go_wp2_with (first | ((with_reducible refine gateN 38 rfl ?_); go_must (refine ev_bs 38 rfl rfl #[.string (tx t)] 9 1 ?hr ?_; (case hr => first | (go_simp; done) | (go_simp; rfl)); intro gN heN W1 hbN h; have hgN : w1.heap.size ≤ gN := Nat.le_trans L3.out.size heN; have hlNR := Az.mk (own_lows R.out heN); clear heN; have h0 : World.grownBy wr W1 none := (by refine World.grownBy.trans ?_ h; repeat (first | exact gr_refl _ _ | apply gr_drewN | apply gr_drew | apply gr_alloc)); have L3_ := Az.mk (gr_new L3.out h0 (by first | (simp; done) | (simp; omega) | omega)); have R_ := Az.mk (own_gr R.out h0 (by first | exact own_none _ | exact .inr hl?R.out)); clear L3 R; have L3 := L3_; clear L3_; have R := R_; clear R_; clear h0 h; have N := Az.mk hbN; clear hbN; have cN0 : World.cell? W1 ⟨gN, 0, none⟩ = some (.string (tx t)) := blkCell N.out 0)) | ((with_reducible refine gateN 39 rfl ?_); go_must (refine ev_app 39 rfl rfl rfl Tryd.underlying23 (z := .string ByteArray.empty) (size := 1) (bytes := 16) (by kernel_rfl) rfl (by decide) rfl R.out rfl N.out rfl (by simp [Value.oneCell']) ?hbase ?hl ?hl2 ?_; (case hbase => have := L3.out.size; omega); (case hl => omega); (case hl2 => omega); intro vR W2 hR h; have h0 : World.grownBy W1 W2 _ := (by refine World.grownBy.trans ?_ h; repeat (first | exact gr_refl _ _ | apply gr_drewN | apply gr_drew | apply gr_alloc)); clear cN0; have L3_ := Az.mk (gr_new L3.out h0 (fun j hj => .inl (own_base R.out j hj))); clear L3; have L3 := L3_; clear L3_; clear h0 h; clear R N; have R := Az.mk hR; clear hR)))
              refine ⟨⟨k + 1, by go_num, by omega, hfl2, L3, ⟨?_⟩⟩, by simp only [intOf]; omega⟩
              rw [HE1.out, stV_snoc, List.length_append]; exact R.out
          · obtain rfl : k = (pieces l).length := by omega
            have e1 : ((pieces l).take (pieces l).length).filter (fun t => !t.isEmpty) = fieldsL l := by rw [List.take_length]; exact split_fields (l.length + 1) l (by omega)
            rw [e1] at R hfl
            clear e1
            obtain ⟨A1, c1, rfl, hc1, _, _⟩ := own_rd R.out
            by_cases h24 : (fieldsL l).length ≤ 24
            · have h24i : ¬ (24 : Int) < (fieldsL l).length := by omega
              have HF : Az (fieldsM l = some (fieldsL l)) := ⟨by rw [fieldsM, if_pos ⟨h6, HD.out, h24⟩]⟩
              go_wp2_with fail
              go_ret2
              refine ⟨_, by rw [HF.out]; rfl, ?_, gr_trans L.out L3.out⟩
              rw [HF.out]; exact own_weak R.out hszL
            · have h24i : (24 : Int) < (fieldsL l).length := by omega
              have HF : Az (fieldsM l = none) := ⟨by rw [fieldsM, if_neg (fun h => h24 h.2.2)]⟩
              go_wp2_with fail
              go_ret2
              exact ⟨_, by rw [HF.out]; rfl, by rw [HF.out]; exact own_nil _ _ _ _, gr_trans L.out L3.out⟩
  · have hb : (600 : Int) < l.length := by omega
    have HF : Az (fieldsM l = none) := ⟨by rw [fieldsM, if_neg (fun h => h6 h.1)]⟩
    go_enter Tryd.func31, Tryd.ntmps31
    go_wp2_with fail
    go_ret2
    exact ⟨_, by rw [HF.out]; rfl, by rw [HF.out]; exact own_nil _ _ _ _, L.out⟩
end Go.Proofs.YtfjafeepmpnegaaDoor
