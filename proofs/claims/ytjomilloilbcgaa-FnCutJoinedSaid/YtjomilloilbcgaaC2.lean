/- Contracts of spec.l02Colour, CellOk, impl.ChannelOk, Undo. No condition. -/
import Derived.Test.YtjomilloilbcgaaC1
namespace Go.Proofs.Ytjomilloilbcgaa
open Go.RowKit
set_option linter.unusedVariables false
set_option linter.unusedSimpArgs false

def cellOkN (y u v : F32) : Bool := fineN y && (fineN u && fineN v)
theorem l02Colour_c (x y : Nat) (w : World) : Calls Try.prog 51 #[.complex .f32 x y] w (RetBo w (fineN (fN .f32 x) && fineN (fN .f32 y))) := by
  have L := Az.mk (gr_refl w none)
  go_enter Try.func51, Try.ntmps51
  go_wp2_with fail
  refine (l02Fine_c x _).mono ?_
  rintro e w1 ⟨rfl, h⟩
  have h0 : World.grownBy w w1 _ := (by refine World.grownBy.trans ?_ h; repeat (first | exact gr_refl _ _ | apply gr_drewN | apply gr_drew | apply gr_alloc))
  have L_ := Az.mk (gr_new L.out h0 (by first | (simp; done) | (simp; omega) | omega))
  clear L
  have L := L_; clear L_
  clear h0 h
  cases hp : fineN (fN .f32 x) with
  | true =>
    have Hp := Az.mk hp
    clear hp
    go_wp2_with fail
    refine (l02Fine_c y _).mono ?_
    rintro e w2 ⟨rfl, h⟩
    have h0 : World.grownBy w1 w2 _ := (by refine World.grownBy.trans ?_ h; repeat (first | exact gr_refl _ _ | apply gr_drewN | apply gr_drew | apply gr_alloc))
    have L_ := Az.mk (gr_new L.out h0 (by first | (simp; done) | (simp; omega) | omega))
    clear L
    have L := L_; clear L_
    clear h0 h
    go_wp2
    go_ret
    exact ⟨by simp [cellOkN, Hp.out], L.out⟩
  | false =>
    have Hp := Az.mk hp
    clear hp
    go_wp2
    go_ret
    exact ⟨by simp [cellOkN, Hp.out], L.out⟩

theorem specCellOk_c (y u v : Nat) (w : World) : Calls Try.prog 17 #[.agg #[.float .f32 y, .complex .f32 u v]] w (RetBo w (cellOkN (fN .f32 y) (fN .f32 u) (fN .f32 v))) := by
  have L := Az.mk (gr_refl w none)
  go_enter Try.func17, Try.ntmps17
  go_wp2_with (first | ((with_reducible refine gateN 1 rfl ?_); go_must (refine ev_al 1 rfl rfl #[.float .f32 y, .complex .f32 u v] 49 ?hr ?_; (case hr => first | (go_simp; done) | (go_simp; rfl)); intro gB heB W1 hbB h; have hgB : w.heap.size ≤ gB := Nat.le_trans L.out.size heB; clear heB; have h0 : World.grownBy w W1 none := (by refine World.grownBy.trans ?_ h; repeat (first | exact gr_refl _ _ | apply gr_drewN | apply gr_drew | apply gr_alloc)); have L_ := Az.mk (gr_new L.out h0 (by first | (simp; done) | (simp; omega) | omega)); clear L; have L := L_; clear L_; clear h0 h; have B := Az.mk hbB; clear hbB; have cB0 : World.cell? W1 ⟨gB, 0, none⟩ = some (.float .f32 y) := blkCell B.out 0; have cB1 : World.cell? W1 ⟨gB, 1, none⟩ = some (.complex .f32 u v) := blkCell B.out 1)))
  refine (l02Fine_c y _).mono ?_
  rintro e w1 ⟨rfl, h⟩
  have h0 : World.grownBy W1 w1 _ := (by refine World.grownBy.trans ?_ h; repeat (first | exact gr_refl _ _ | apply gr_drewN | apply gr_drew | apply gr_alloc))
  clear cB0 cB1
  have L_ := Az.mk (gr_new L.out h0 (by first | (simp; done) | (simp; omega) | omega))
  have B_ := Az.mk (blkGr B.out h0 (by first | (simp; done) | (simp; omega) | omega))
  clear L B
  have L := L_; clear L_
  have B := B_; clear B_
  clear h0 h
  have cB0 : World.cell? w1 ⟨gB, 0, none⟩ = some (.float .f32 y) := blkCell B.out 0
  have cB1 : World.cell? w1 ⟨gB, 1, none⟩ = some (.complex .f32 u v) := blkCell B.out 1
  cases hp : fineN (fN .f32 y) with
  | true =>
    have Hp := Az.mk hp
    clear hp
    go_wp2_with fail
    refine (l02Colour_c u v _).mono ?_
    rintro e w2 ⟨rfl, h⟩
    have h0 : World.grownBy w1 w2 _ := (by refine World.grownBy.trans ?_ h; repeat (first | exact gr_refl _ _ | apply gr_drewN | apply gr_drew | apply gr_alloc))
    clear cB0 cB1
    have L_ := Az.mk (gr_new L.out h0 (by first | (simp; done) | (simp; omega) | omega))
    have B_ := Az.mk (blkGr B.out h0 (by first | (simp; done) | (simp; omega) | omega))
    clear L B
    have L := L_; clear L_
    have B := B_; clear B_
    clear h0 h
    have cB0 : World.cell? w2 ⟨gB, 0, none⟩ = some (.float .f32 y) := blkCell B.out 0
    have cB1 : World.cell? w2 ⟨gB, 1, none⟩ = some (.complex .f32 u v) := blkCell B.out 1
    go_wp2
    go_ret
    exact ⟨by simp [cellOkN, Hp.out], L.out⟩
  | false =>
    have Hp := Az.mk hp
    clear hp
    go_wp2
    go_ret
    exact ⟨by simp [cellOkN, Hp.out], L.out⟩

set_option maxHeartbeats 1000000 in
theorem ChannelOk_c (A O x y : Nat) (w : World) : Calls Try.prog 54 #[.agg #[.float .f32 A, .float .f32 O, .complex .f32 x y]] w (RetBo w (chOkN (fN .f32 A) (fN .f32 O) (fN .f32 x) (fN .f32 y))) := by
  have L := Az.mk (gr_refl w none)
  cases h1 : fgt (fN .f32 A) (fc 0) with
  | false =>
    have t1 : (FloatKind.f32.format.order A 0 == some .gt) = false := by rw [o_gt]; exact h1
    have H1 := Az.mk h1
    clear h1
    go_enter Try.func54, Try.ntmps54
    go_wp2_with (first | ((with_reducible refine gateN 1 rfl ?_); go_must (refine ev_al 1 rfl rfl #[.float .f32 A, .float .f32 O, .complex .f32 x y] 28 ?hr ?_; (case hr => first | (go_simp; done) | (go_simp; rfl)); intro gB heB W1 hbB h; have hgB : w.heap.size ≤ gB := Nat.le_trans L.out.size heB; clear heB; have h0 : World.grownBy w W1 none := (by refine World.grownBy.trans ?_ h; repeat (first | exact gr_refl _ _ | apply gr_drewN | apply gr_drew | apply gr_alloc)); have L_ := Az.mk (gr_new L.out h0 (by first | (simp; done) | (simp; omega) | omega)); clear L; have L := L_; clear L_; clear h0 h; have B := Az.mk hbB; clear hbB; have cB0 : World.cell? W1 ⟨gB, 0, none⟩ = some (.float .f32 A) := blkCell B.out 0; have cB1 : World.cell? W1 ⟨gB, 1, none⟩ = some (.float .f32 O) := blkCell B.out 1; have cB2 : World.cell? W1 ⟨gB, 2, none⟩ = some (.complex .f32 x y) := blkCell B.out 2)))
    go_ret
    exact ⟨by simp [chOkN, H1.out], L.out⟩
  | true =>
  have t1 : (FloatKind.f32.format.order A 0 == some .gt) = true := by rw [o_gt]; exact h1
  have H1 := Az.mk h1
  clear h1
  cases h2 : fle (fN .f32 A) (fc 1098907648) with
  | false =>
    have t2 : (FloatKind.f32.format.order A 1098907648 == some .lt || FloatKind.f32.format.order A 1098907648 == some .eq) = false := by rw [o_le]; exact h2
    have H2 := Az.mk h2
    clear h2
    go_enter Try.func54, Try.ntmps54
    go_wp2_with (first | ((with_reducible refine gateN 1 rfl ?_); go_must (refine ev_al 1 rfl rfl #[.float .f32 A, .float .f32 O, .complex .f32 x y] 28 ?hr ?_; (case hr => first | (go_simp; done) | (go_simp; rfl)); intro gB heB W2 hbB h; have hgB : w.heap.size ≤ gB := Nat.le_trans L.out.size heB; clear heB; have h0 : World.grownBy w W2 none := (by refine World.grownBy.trans ?_ h; repeat (first | exact gr_refl _ _ | apply gr_drewN | apply gr_drew | apply gr_alloc)); have L_ := Az.mk (gr_new L.out h0 (by first | (simp; done) | (simp; omega) | omega)); clear L; have L := L_; clear L_; clear h0 h; have B := Az.mk hbB; clear hbB; have cB0 : World.cell? W2 ⟨gB, 0, none⟩ = some (.float .f32 A) := blkCell B.out 0; have cB1 : World.cell? W2 ⟨gB, 1, none⟩ = some (.float .f32 O) := blkCell B.out 1; have cB2 : World.cell? W2 ⟨gB, 2, none⟩ = some (.complex .f32 x y) := blkCell B.out 2)))
    go_ret
    exact ⟨by simp [chOkN, H1.out, H2.out], L.out⟩
  | true =>
  have t2 : (FloatKind.f32.format.order A 1098907648 == some .lt || FloatKind.f32.format.order A 1098907648 == some .eq) = true := by rw [o_le]; exact h2
  have H2 := Az.mk h2
  clear h2
  go_enter Try.func54, Try.ntmps54
  go_wp2_with (first | ((with_reducible refine gateN 1 rfl ?_); go_must (refine ev_al 1 rfl rfl #[.float .f32 A, .float .f32 O, .complex .f32 x y] 28 ?hr ?_; (case hr => first | (go_simp; done) | (go_simp; rfl)); intro gB heB W3 hbB h; have hgB : w.heap.size ≤ gB := Nat.le_trans L.out.size heB; clear heB; have h0 : World.grownBy w W3 none := (by refine World.grownBy.trans ?_ h; repeat (first | exact gr_refl _ _ | apply gr_drewN | apply gr_drew | apply gr_alloc)); have L_ := Az.mk (gr_new L.out h0 (by first | (simp; done) | (simp; omega) | omega)); clear L; have L := L_; clear L_; clear h0 h; have B := Az.mk hbB; clear hbB; have cB0 : World.cell? W3 ⟨gB, 0, none⟩ = some (.float .f32 A) := blkCell B.out 0; have cB1 : World.cell? W3 ⟨gB, 1, none⟩ = some (.float .f32 O) := blkCell B.out 1; have cB2 : World.cell? W3 ⟨gB, 2, none⟩ = some (.complex .f32 x y) := blkCell B.out 2)))
  refine (amount_c O _).mono ?_
  rintro e w1 ⟨b1, hb1, rfl, h⟩
  have h0 : World.grownBy W3 w1 _ := (by refine World.grownBy.trans ?_ h; repeat (first | exact gr_refl _ _ | apply gr_drewN | apply gr_drew | apply gr_alloc))
  clear cB0 cB1 cB2
  have L_ := Az.mk (gr_new L.out h0 (by first | (simp; done) | (simp; omega) | omega))
  have B_ := Az.mk (blkGr B.out h0 (by first | (simp; done) | (simp; omega) | omega))
  clear L B
  have L := L_; clear L_
  have B := B_; clear B_
  clear h0 h
  have cB0 : World.cell? w1 ⟨gB, 0, none⟩ = some (.float .f32 A) := blkCell B.out 0
  have cB1 : World.cell? w1 ⟨gB, 1, none⟩ = some (.float .f32 O) := blkCell B.out 1
  have cB2 : World.cell? w1 ⟨gB, 2, none⟩ = some (.complex .f32 x y) := blkCell B.out 2
  have HB1 := Az.mk hb1
  clear hb1
  cases h3 : fle (amountN (fN .f32 O)) (fc 1115684864) with
  | false =>
    have t3 : (FloatKind.f32.format.order b1 1115684864 == some .lt || FloatKind.f32.format.order b1 1115684864 == some .eq) = false := by rw [o_le, HB1.out]; exact h3
    have H3 := Az.mk h3
    clear h3
    go_wp2_with fail
    go_ret
    exact ⟨by simp [chOkN, H1.out, H2.out, H3.out], L.out⟩
  | true =>
  have t3 : (FloatKind.f32.format.order b1 1115684864 == some .lt || FloatKind.f32.format.order b1 1115684864 == some .eq) = true := by rw [o_le, HB1.out]; exact h3
  have H3 := Az.mk h3
  clear h3
  go_wp2_with fail
  refine (amount_c x _).mono ?_
  rintro e w2 ⟨b2, hb2, rfl, h⟩
  have h0 : World.grownBy w1 w2 _ := (by refine World.grownBy.trans ?_ h; repeat (first | exact gr_refl _ _ | apply gr_drewN | apply gr_drew | apply gr_alloc))
  clear cB0 cB1 cB2
  have L_ := Az.mk (gr_new L.out h0 (by first | (simp; done) | (simp; omega) | omega))
  have B_ := Az.mk (blkGr B.out h0 (by first | (simp; done) | (simp; omega) | omega))
  clear L B
  have L := L_; clear L_
  have B := B_; clear B_
  clear h0 h
  have cB0 : World.cell? w2 ⟨gB, 0, none⟩ = some (.float .f32 A) := blkCell B.out 0
  have cB1 : World.cell? w2 ⟨gB, 1, none⟩ = some (.float .f32 O) := blkCell B.out 1
  have cB2 : World.cell? w2 ⟨gB, 2, none⟩ = some (.complex .f32 x y) := blkCell B.out 2
  have HB2 := Az.mk hb2
  clear hb2
  cases h4 : fle (amountN (fN .f32 x)) (fc 1098907648) with
  | false =>
    have t4 : (FloatKind.f32.format.order b2 1098907648 == some .lt || FloatKind.f32.format.order b2 1098907648 == some .eq) = false := by rw [o_le, HB2.out]; exact h4
    have H4 := Az.mk h4
    clear h4
    go_wp2_with fail
    go_ret
    exact ⟨by simp [chOkN, H1.out, H2.out, H3.out, H4.out], L.out⟩
  | true =>
  have t4 : (FloatKind.f32.format.order b2 1098907648 == some .lt || FloatKind.f32.format.order b2 1098907648 == some .eq) = true := by rw [o_le, HB2.out]; exact h4
  have H4 := Az.mk h4
  clear h4
  go_wp2_with fail
  refine (amount_c y _).mono ?_
  rintro e w3 ⟨b3, hb3, rfl, h⟩
  have h0 : World.grownBy w2 w3 _ := (by refine World.grownBy.trans ?_ h; repeat (first | exact gr_refl _ _ | apply gr_drewN | apply gr_drew | apply gr_alloc))
  clear cB0 cB1 cB2
  have L_ := Az.mk (gr_new L.out h0 (by first | (simp; done) | (simp; omega) | omega))
  have B_ := Az.mk (blkGr B.out h0 (by first | (simp; done) | (simp; omega) | omega))
  clear L B
  have L := L_; clear L_
  have B := B_; clear B_
  clear h0 h
  have cB0 : World.cell? w3 ⟨gB, 0, none⟩ = some (.float .f32 A) := blkCell B.out 0
  have cB1 : World.cell? w3 ⟨gB, 1, none⟩ = some (.float .f32 O) := blkCell B.out 1
  have cB2 : World.cell? w3 ⟨gB, 2, none⟩ = some (.complex .f32 x y) := blkCell B.out 2
  have HB3 := Az.mk hb3
  clear hb3
  go_wp2_with fail
  go_ret
  refine ⟨?_, L.out⟩
  have e : (FloatKind.f32.format.order b3 1098907648 == some .lt || FloatKind.f32.format.order b3 1098907648 == some .eq) = fle (amountN (fN .f32 y)) (fc 1098907648) := by rw [o_le, HB3.out]; rfl
  simp only [chOkN, H1.out, H2.out, H3.out, H4.out, Bool.true_and, ← e]
  rfl
end Go.Proofs.Ytjomilloilbcgaa
