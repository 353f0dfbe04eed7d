/- Contracts of impl.within, CellOk, RowOk and the library's search that it calls. No condition. -/
import Derived.Test.YtjomilloilbcgaaKd
import Derived.Test.YtjomilloilbcgaaC2
import Derived.Test.YtjomilloilbcgaaD7
namespace Go.Proofs.Ytjomilloilbcgaa
open Go.RowKit
set_option linter.unusedVariables false
set_option linter.unusedSimpArgs false

theorem within_c (n lo hi : Int) (w : World) : Calls Try.prog 66 #[.int .i64 n, .int .i64 lo, .int .i64 hi] w (RetBo w (decide (lo ≤ n) && decide (n ≤ hi))) := by
  have L := Az.mk (gr_refl w none)
  by_cases h1 : lo ≤ n
  · by_cases h2 : n ≤ hi
    · go_enter Try.func66, Try.ntmps66
      go_wp2
      go_ret
      exact ⟨by simp [h1, h2], L.out⟩
    · go_enter Try.func66, Try.ntmps66
      go_wp2
      go_ret
      exact ⟨by simp [h1, h2], L.out⟩
  · have h3 : n < lo := by omega
    have h4 : decide (lo ≤ n) = false := by simp; omega
    go_enter Try.func66, Try.ntmps66
    go_wp2
    go_ret
    exact ⟨by simp [h1], L.out⟩

/-- impl.CellOk, up to NaN. -/
def cellOkI (y u v : F32) : Bool := fle (amountN y) (fc 1132462080) && (fle (amountN u) (fc 1132462080) && fle (amountN v) (fc 1132462080))
set_option maxHeartbeats 1000000 in
theorem CellOk_c (y u v : Nat) (w : World) : Calls Try.prog 76 #[.agg #[.float .f32 y, .complex .f32 u v]] w (RetBo w (cellOkI (fN .f32 y) (fN .f32 u) (fN .f32 v))) := by
  have L := Az.mk (gr_refl w none)
  go_enter Try.func76, Try.ntmps76
  go_wp2_with (first | ((with_reducible refine gateN 1 rfl ?_); go_must (refine ev_al 1 rfl rfl #[.float .f32 y, .complex .f32 u v] 49 ?hr ?_; (case hr => first | (go_simp; done) | (go_simp; rfl)); intro gB heB W1 hbB h; have hgB : w.heap.size ≤ gB := Nat.le_trans L.out.size heB; clear heB; have h0 : World.grownBy w W1 none := (by refine World.grownBy.trans ?_ h; repeat (first | exact gr_refl _ _ | apply gr_drewN | apply gr_drew | apply gr_alloc)); have L_ := Az.mk (gr_new L.out h0 (by first | (simp; done) | (simp; omega) | omega)); clear L; have L := L_; clear L_; clear h0 h; have B := Az.mk hbB; clear hbB; have cB0 : World.cell? W1 ⟨gB, 0, none⟩ = some (.float .f32 y) := blkCell B.out 0; have cB1 : World.cell? W1 ⟨gB, 1, none⟩ = some (.complex .f32 u v) := blkCell B.out 1)))
  refine (amount_c y _).mono ?_
  rintro e w1 ⟨b1, hb1, rfl, h⟩
  have h0 : World.grownBy W1 w1 _ := (by refine World.grownBy.trans ?_ h; repeat (first | exact gr_refl _ _ | apply gr_drewN | apply gr_drew | apply gr_alloc))
  clear cB0 cB1
  have L_ := Az.mk (gr_new L.out h0 (by first | (simp; done) | (simp; omega) | omega))
  have B_ := Az.mk (blkGr B.out h0 (by first | (simp; done) | (simp; omega) | omega))
  clear L B
  have L := L_; clear L_
  have B := B_; clear B_
  clear h0 h
  have cB0 : World.cell? w1 ⟨gB, 0, none⟩ = some (.float .f32 y) := blkCell B.out 0
  have cB1 : World.cell? w1 ⟨gB, 1, none⟩ = some (.complex .f32 u v) := blkCell B.out 1
  cases h3 : fle (amountN (fN .f32 y)) (fc 1132462080) with
  | false =>
    have t3 : (FloatKind.f32.format.order b1 1132462080 == some .lt || FloatKind.f32.format.order b1 1132462080 == some .eq) = false := by rw [o_le, hb1]; exact h3
    have H3 := Az.mk h3
    clear h3 hb1
    go_wp2_with fail
    go_ret
    exact ⟨by simp [cellOkI, H3.out], L.out⟩
  | true =>
  have t3 : (FloatKind.f32.format.order b1 1132462080 == some .lt || FloatKind.f32.format.order b1 1132462080 == some .eq) = true := by rw [o_le, hb1]; exact h3
  have H3 := Az.mk h3
  clear h3 hb1
  go_wp2_with fail
  refine (amount_c u _).mono ?_
  rintro e w2 ⟨b2, hb2, rfl, h⟩
  have h0 : World.grownBy w1 w2 _ := (by refine World.grownBy.trans ?_ h; repeat (first | exact gr_refl _ _ | apply gr_drewN | apply gr_drew | apply gr_alloc))
  clear cB0 cB1
  have L_ := Az.mk (gr_new L.out h0 (by first | (simp; done) | (simp; omega) | omega))
  have B_ := Az.mk (blkGr B.out h0 (by first | (simp; done) | (simp; omega) | omega))
  clear L B
  have L := L_; clear L_
  have B := B_; clear B_
  clear h0 h
  have cB0 : World.cell? w2 ⟨gB, 0, none⟩ = some (.float .f32 y) := blkCell B.out 0
  have cB1 : World.cell? w2 ⟨gB, 1, none⟩ = some (.complex .f32 u v) := blkCell B.out 1
  cases h4 : fle (amountN (fN .f32 u)) (fc 1132462080) with
  | false =>
    have t4 : (FloatKind.f32.format.order b2 1132462080 == some .lt || FloatKind.f32.format.order b2 1132462080 == some .eq) = false := by rw [o_le, hb2]; exact h4
    have H4 := Az.mk h4
    clear h4 hb2
    go_wp2_with fail
    go_ret
    exact ⟨by simp [cellOkI, H3.out, H4.out], L.out⟩
  | true =>
  have t4 : (FloatKind.f32.format.order b2 1132462080 == some .lt || FloatKind.f32.format.order b2 1132462080 == some .eq) = true := by rw [o_le, hb2]; exact h4
  have H4 := Az.mk h4
  clear h4 hb2
  go_wp2_with fail
  refine (amount_c v _).mono ?_
  rintro e w3 ⟨b3, hb3, rfl, h⟩
  have h0 : World.grownBy w2 w3 _ := (by refine World.grownBy.trans ?_ h; repeat (first | exact gr_refl _ _ | apply gr_drewN | apply gr_drew | apply gr_alloc))
  clear cB0 cB1
  have L_ := Az.mk (gr_new L.out h0 (by first | (simp; done) | (simp; omega) | omega))
  have B_ := Az.mk (blkGr B.out h0 (by first | (simp; done) | (simp; omega) | omega))
  clear L B
  have L := L_; clear L_
  have B := B_; clear B_
  clear h0 h
  have cB0 : World.cell? w3 ⟨gB, 0, none⟩ = some (.float .f32 y) := blkCell B.out 0
  have cB1 : World.cell? w3 ⟨gB, 1, none⟩ = some (.complex .f32 u v) := blkCell B.out 1
  have HB3 := Az.mk hb3
  clear hb3
  go_wp2_with fail
  go_ret
  refine ⟨?_, L.out⟩
  have e : (FloatKind.f32.format.order b3 1132462080 == some .lt || FloatKind.f32.format.order b3 1132462080 == some .eq) = fle (amountN (fN .f32 v)) (fc 1132462080) := by rw [o_le, HB3.out]; rfl
  simp only [cellOkI, H3.out, H4.out, Bool.true_and, ← e]
  rfl

theorem RowOk1_c (y u v : Nat) (w : World) : Calls Try.prog 75 #[.agg #[.float .f32 y, .complex .f32 u v]] w (RetBo w (!cellOkI (fN .f32 y) (fN .f32 u) (fN .f32 v))) := by
  have L := Az.mk (gr_refl w none)
  go_enter Try.func75, Try.ntmps75
  go_wp2_with (first | ((with_reducible refine gateN 1 rfl ?_); go_must (refine ev_al 1 rfl rfl #[.float .f32 y, .complex .f32 u v] 49 ?hr ?_; (case hr => first | (go_simp; done) | (go_simp; rfl)); intro gB heB W1 hbB h; have hgB : w.heap.size ≤ gB := Nat.le_trans L.out.size heB; clear heB; have h0 : World.grownBy w W1 none := (by refine World.grownBy.trans ?_ h; repeat (first | exact gr_refl _ _ | apply gr_drewN | apply gr_drew | apply gr_alloc)); have L_ := Az.mk (gr_new L.out h0 (by first | (simp; done) | (simp; omega) | omega)); clear L; have L := L_; clear L_; clear h0 h; have B := Az.mk hbB; clear hbB; have cB0 : World.cell? W1 ⟨gB, 0, none⟩ = some (.float .f32 y) := blkCell B.out 0; have cB1 : World.cell? W1 ⟨gB, 1, none⟩ = some (.complex .f32 u v) := blkCell B.out 1)))
  refine (CellOk_c y u v _).mono ?_
  rintro e w1 ⟨rfl, h⟩
  have h0 : World.grownBy W1 w1 _ := (by refine World.grownBy.trans ?_ h; repeat (first | exact gr_refl _ _ | apply gr_drewN | apply gr_drew | apply gr_alloc))
  clear cB0 cB1
  have L_ := Az.mk (gr_new L.out h0 (by first | (simp; done) | (simp; omega) | omega))
  have B_ := Az.mk (blkGr B.out h0 (by first | (simp; done) | (simp; omega) | omega))
  clear L B
  have L := L_; clear L_
  have B := B_; clear B_
  clear h0 h
  have cB0 : World.cell? w1 ⟨gB, 0, none⟩ = some (.float .f32 y) := blkCell B.out 0
  have cB1 : World.cell? w1 ⟨gB, 1, none⟩ = some (.complex .f32 u v) := blkCell B.out 1
  go_wp2_with fail
  go_ret
  exact ⟨rfl, L.out⟩

/-- A cell up to NaN. -/
def cellN (c : Nat × Nat × Nat) : F32 × F32 × F32 := (fN .f32 c.1, fN .f32 c.2.1, fN .f32 c.2.2)
def okC (c : Nat × Nat × Nat) : Bool := cellOkI (fN .f32 c.1) (fN .f32 c.2.1) (fN .f32 c.2.2)
/-- The cells of a row, one by one. -/
theorem Rd.cellAt {w : World} {b off : Nat} {cs : List (Nat × Nat × Nat)} (h : ∀ j u, (cellsV cs)[j]? = some u → w.cell? ⟨b, off + j, none⟩ = some u) (k : Nat) (hk : k < cs.length) :
    w.cell? ⟨b, off + k * 2, none⟩ = some (.float .f32 cs[k].1) ∧ w.cell? ⟨b, off + k * 2 + 1, none⟩ = some (.complex .f32 cs[k].2.1 cs[k].2.2) := by
  have key : ∀ (cs : List (Nat × Nat × Nat)) (k : Nat) (hk : k < cs.length), (cellsV cs)[k * 2]? = some (.float .f32 cs[k].1) ∧ (cellsV cs)[k * 2 + 1]? = some (.complex .f32 cs[k].2.1 cs[k].2.2) := by
    intro cs
    induction cs with
    | nil => intro k hk; simp at hk
    | cons c cs ih =>
      intro k hk
      cases k with
      | zero => simp [cellsV]
      | succ k =>
        have := ih k (by simpa using hk)
        simp only [cellsV, List.flatMap_cons, List.getElem_cons_succ] at *
        rw [show (k + 1) * 2 = (k * 2) + 1 + 1 from by omega, show k * 2 + 1 + 1 + 1 = k * 2 + 1 + 1 + 1 from rfl]
        simpa using this
  exact ⟨h _ _ (key cs k hk).1, by have := h _ _ (key cs k hk).2; rw [← Nat.add_assoc] at this; exact this⟩

def RetIdx (w : World) (p : Bool) (e : Ending) (w' : World) : Prop := ∃ r : Int, decide (0 ≤ r) = p ∧ e = .returned (.int .i64 r) ∧ w.grownBy w' none
set_option maxHeartbeats 1000000 in
theorem IndexCell_c (A : Option Addr) (n c : Nat) (cs : List (Nat × Nat × Nat)) (w : World) (hn : cs.length = n) (hrd : Rd w A n 2 (cellsV cs)) :
    Calls Try.prog 99 #[.slice A n c, .func (.func 75) #[] #[]] w (RetIdx w (!(cs.all okC))) := by
  have L := Az.mk (gr_refl w none)
  have HR := Az.mk hrd
  have HN := Az.mk hn
  have hmax := hrd.max
  clear hrd hn
  go_enter Try.func99, Try.ntmps99
  go_wp2_with fail
  go_loopw [8] (fun i wr => ∃ k : Nat, i = .int .i64 k ∧ k ≤ n ∧ Az (∀ j (hj : j < cs.length), j < k → okC cs[j] = true) ∧ Az (w.grownBy wr none)) (fun i _ => n - (intOf i).toNat)
  case atStart => exact ⟨0, by go_num, by omega, ⟨fun j hj h => by omega⟩, L⟩
  case round =>
    clear L
    obtain ⟨k, rfl, hkn, HK, L⟩ := hrel
    by_cases hk : k < n
    · have hkc : k < cs.length := by rw [HN.out]; exact hk
      obtain ⟨b, off, rfl, hcell⟩ := (HR.out.up L.out).2.2 (by omega)
      have hc1 := (Rd.cellAt hcell k hkc).1
      have hc2 := (Rd.cellAt hcell k hkc).2
      clear hcell
      go_wp2_with fail
      refine (RowOk1_c _ _ _ _).mono ?_
      rintro e w1 ⟨rfl, h⟩
      have h0 : World.grownBy wr w1 _ := (by refine World.grownBy.trans ?_ h; repeat (first | exact gr_refl _ _ | apply gr_drewN | apply gr_drew | apply gr_alloc))
      have L_ := Az.mk (gr_new L.out h0 (by first | (simp; done) | (simp; omega) | omega))
      clear L
      have L := L_; clear L_
      clear h0 h
      by_cases ho : okC cs[k] = true
      · have ho' : cellOkI (fN .f32 cs[k].1) (fN .f32 cs[k].2.1) (fN .f32 cs[k].2.2) = true := ho
        have HO := Az.mk ho
        rw [ho']
        go_wp2_with fail
        refine ⟨⟨k + 1, by go_num, by omega, ⟨fun j hj h => ?_⟩, L⟩, by simp only [intOf]; omega⟩
        by_cases hjk : j < k
        · exact HK.out j hj hjk
        · have : j = k := by omega
          subst this
          exact HO.out
      · have ho' : cellOkI (fN .f32 cs[k].1) (fN .f32 cs[k].2.1) (fN .f32 cs[k].2.2) = false := by simpa [okC] using ho
        rw [ho']
        go_wp2_with fail
        go_ret
        have hall : cs.all okC = false := by
          cases h : cs.all okC with
          | false => rfl
          | true => exact absurd (List.all_eq_true.1 h cs[k] (List.getElem_mem hkc)) ho
        exact ⟨k, by rw [hall]; simp, rfl, L.out⟩
    · have hall : cs.all okC = true := by
        rw [List.all_eq_true]; intro c hc
        obtain ⟨j, hj, rfl⟩ := List.getElem_of_mem hc
        exact HK.out j hj (by have := HN.out; omega)
      go_wp2_with fail
      go_ret
      exact ⟨-1, by rw [hall]; rfl, rfl, L.out⟩
set_option maxHeartbeats 1000000 in
theorem ContainsCell_c (A : Option Addr) (n c : Nat) (cs : List (Nat × Nat × Nat)) (w : World) (hn : cs.length = n) (hrd : Rd w A n 2 (cellsV cs)) :
    Calls Try.prog 74 #[.slice A n c, .func (.func 75) #[] #[]] w (RetBo w (!(cs.all okC))) := by
  have L := Az.mk (gr_refl w none)
  have HR := Az.mk hrd
  have HN := Az.mk hn
  clear hrd hn
  go_enter Try.func74, Try.ntmps74
  go_wp2_with fail
  refine (IndexCell_c A n c cs _ HN.out HR.out).mono ?_
  rintro e w1 ⟨r, hr, rfl, h⟩
  have h0 : World.grownBy w w1 _ := (by refine World.grownBy.trans ?_ h; repeat (first | exact gr_refl _ _ | apply gr_drewN | apply gr_drew | apply gr_alloc))
  have L_ := Az.mk (gr_new L.out h0 (by first | (simp; done) | (simp; omega) | omega))
  clear L
  have L := L_; clear L_
  clear h0 h
  have HI := Az.mk hr
  clear hr
  go_wp2_with fail
  go_ret
  exact ⟨by rw [HI.out]; rfl, L.out⟩
def rowOkI (cs : List (Nat × Nat × Nat)) : Bool := (decide (1 ≤ cs.length) && decide (cs.length ≤ 64)) && cs.all okC
set_option maxHeartbeats 1000000 in
theorem RowOk_c (A : Option Addr) (n c : Nat) (cs : List (Nat × Nat × Nat)) (w : World) (hn : cs.length = n) (hrd : Rd w A n 2 (cellsV cs)) : Calls Try.prog 34 #[.slice A n c] w (RetBo w (rowOkI cs)) := by
  have L := Az.mk (gr_refl w none)
  have HR := Az.mk hrd
  have HN := Az.mk hn
  have hmax := hrd.max
  clear hrd hn
  go_enter Try.func34, Try.ntmps34
  go_wp2_with fail
  refine (within_c _ _ _ _).mono ?_
  rintro e w1 ⟨rfl, h⟩
  have h0 : World.grownBy w w1 _ := (by refine World.grownBy.trans ?_ h; repeat (first | exact gr_refl _ _ | apply gr_drewN | apply gr_drew | apply gr_alloc))
  have L_ := Az.mk (gr_new L.out h0 (by first | (simp; done) | (simp; omega) | omega))
  clear L
  have L := L_; clear L_
  clear h0 h
  by_cases hk : 1 ≤ n ∧ n ≤ 64
  · have e1 : (decide ((1 : Int) ≤ n) && decide ((n : Int) ≤ 64)) = true := by simp; omega
    rw [e1]
    go_wp2_with fail
    refine (ContainsCell_c A n c cs _ HN.out (HR.out.up L.out)).mono ?_
    rintro e w2 ⟨rfl, h⟩
    have h0 : World.grownBy w1 w2 _ := (by refine World.grownBy.trans ?_ h; repeat (first | exact gr_refl _ _ | apply gr_drewN | apply gr_drew | apply gr_alloc))
    have L_ := Az.mk (gr_new L.out h0 (by first | (simp; done) | (simp; omega) | omega))
    clear L
    have L := L_; clear L_
    clear h0 h
    go_wp2_with fail
    go_ret
    refine ⟨?_, L.out⟩
    have := HN.out
    have e2 : decide (1 ≤ cs.length) = true := by simp; omega
    have e3 : decide (cs.length ≤ 64) = true := by simp; omega
    simp [rowOkI, e2, e3]
  · have e1 : (decide ((1 : Int) ≤ n) && decide ((n : Int) ≤ 64)) = false := by simp; omega
    rw [e1]
    go_wp2_with fail
    go_ret
    refine ⟨?_, L.out⟩
    have e2 : (decide (1 ≤ cs.length) && decide (cs.length ≤ 64)) = false := by have := HN.out; simp; omega
    simp [rowOkI, e2]
end Go.Proofs.Ytjomilloilbcgaa
