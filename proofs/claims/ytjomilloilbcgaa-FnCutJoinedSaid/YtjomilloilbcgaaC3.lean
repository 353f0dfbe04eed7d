/- Contracts of impl.Undo and impl.Chain where they succeed. Conditions: the channels are valid (as the code asks it). -/
import Derived.Test.YtjomilloilbcgaaC2
namespace Go.Proofs.Ytjomilloilbcgaa
open Go.RowKit
set_option linter.unusedVariables false
set_option linter.unusedSimpArgs false

def RetChT (w : World) (A O x y : F32) (e : Ending) (w' : World) : Prop := ∃ a o u v, fN .f32 a = A ∧ fN .f32 o = O ∧ fN .f32 u = x ∧ fN .f32 v = y ∧ e = .returned (.tuple #[.agg #[.float .f32 a, .float .f32 o, .complex .f32 u v], .bool true]) ∧ w.grownBy w' none

set_option maxHeartbeats 1000000 in
theorem Undo_ok (A O x y : Nat) (w : World) (hok : chOkN (fN .f32 A) (fN .f32 O) (fN .f32 x) (fN .f32 y) = true) (hp : feq (powerN (fN .f32 x) (fN .f32 y)) (fc 0) = false)
    (hu : chOkN (fdiv (fc 1065353216) (fN .f32 A)) (fdiv (fneg (fN .f32 O)) (fN .f32 A)) (fdiv (fN .f32 x) (powerN (fN .f32 x) (fN .f32 y))) (fdiv (fneg (fN .f32 y)) (powerN (fN .f32 x) (fN .f32 y))) = true) :
    Calls Try.prog 19 #[.agg #[.float .f32 A, .float .f32 O, .complex .f32 x y]] w (RetChT w (fdiv (fc 1065353216) (fN .f32 A)) (fdiv (fneg (fN .f32 O)) (fN .f32 A)) (fdiv (fN .f32 x) (powerN (fN .f32 x) (fN .f32 y))) (fdiv (fneg (fN .f32 y)) (powerN (fN .f32 x) (fN .f32 y)))) := by
  have L := Az.mk (gr_refl w none)
  have HO := Az.mk hok
  have HP := Az.mk hp
  have HU := Az.mk hu
  clear hok hp hu
  go_enter Try.func19, Try.ntmps19
  go_wp2_with (first | ((with_reducible refine gateN 1 rfl ?_); go_must (refine ev_al 1 rfl rfl #[.float .f32 A, .float .f32 O, .complex .f32 x y] 28 ?hr ?_; (case hr => first | (go_simp; done) | (go_simp; rfl)); intro gB heB W1 hbB h; have hgB : w.heap.size ≤ gB := Nat.le_trans L.out.size heB; clear heB; have h0 : World.grownBy w W1 none := (by refine World.grownBy.trans ?_ h; repeat (first | exact gr_refl _ _ | apply gr_drewN | apply gr_drew | apply gr_alloc)); have L_ := Az.mk (gr_new L.out h0 (by first | (simp; done) | (simp; omega) | omega)); clear L; have L := L_; clear L_; clear h0 h; have B := Az.mk hbB; clear hbB; have cB0 : World.cell? W1 ⟨gB, 0, none⟩ = some (.float .f32 A) := blkCell B.out 0; have cB1 : World.cell? W1 ⟨gB, 1, none⟩ = some (.float .f32 O) := blkCell B.out 1; have cB2 : World.cell? W1 ⟨gB, 2, none⟩ = some (.complex .f32 x y) := blkCell B.out 2)) | ((with_reducible refine gateN 2 rfl ?_); go_must (refine ev_al 2 rfl rfl #[.float .f32 0, .float .f32 0, .complex .f32 0 0] 28 ?hr ?_; (case hr => first | (go_simp; done) | (go_simp; rfl)); intro gR heR W2 hbR h; have hgR : w.heap.size ≤ gR := Nat.le_trans L.out.size heR; have hgRB : gB < gR := Nat.lt_of_lt_of_le (blkLt B.out) heR; clear heR; have h0 : World.grownBy W1 W2 none := (by refine World.grownBy.trans ?_ h; repeat (first | exact gr_refl _ _ | apply gr_drewN | apply gr_drew | apply gr_alloc)); clear cB0 cB1 cB2; have L_ := Az.mk (gr_new L.out h0 (by first | (simp; done) | (simp; omega) | omega)); have B_ := Az.mk (blkGr B.out h0 (by first | (simp; done) | (simp; omega) | omega)); clear L B; have L := L_; clear L_; have B := B_; clear B_; clear h0 h; have R := Az.mk hbR; clear hbR; have cB0 : World.cell? W2 ⟨gB, 0, none⟩ = some (.float .f32 A) := blkCell B.out 0; have cB1 : World.cell? W2 ⟨gB, 1, none⟩ = some (.float .f32 O) := blkCell B.out 1; have cB2 : World.cell? W2 ⟨gB, 2, none⟩ = some (.complex .f32 x y) := blkCell B.out 2; have cR0 : World.cell? W2 ⟨gR, 0, none⟩ = some (.float .f32 0) := blkCell R.out 0; have cR1 : World.cell? W2 ⟨gR, 1, none⟩ = some (.float .f32 0) := blkCell R.out 1; have cR2 : World.cell? W2 ⟨gR, 2, none⟩ = some (.complex .f32 0 0) := blkCell R.out 2)))
  refine (Power_c x y _).mono ?_
  rintro e w1 ⟨p, hp, rfl, h⟩
  have h0 : World.grownBy W2 w1 _ := (by refine World.grownBy.trans ?_ h; repeat (first | exact gr_refl _ _ | apply gr_drewN | apply gr_drew | apply gr_alloc))
  clear cB0 cB1 cB2 cR0 cR1 cR2
  have L_ := Az.mk (gr_new L.out h0 (by first | (simp; done) | (simp; omega) | omega))
  have B_ := Az.mk (blkGr B.out h0 (by first | (simp; done) | (simp; omega) | omega))
  have R_ := Az.mk (blkGr R.out h0 (by first | (simp; done) | (simp; omega) | omega))
  clear L B R
  have L := L_; clear L_
  have B := B_; clear B_
  have R := R_; clear R_
  clear h0 h
  have cB0 : World.cell? w1 ⟨gB, 0, none⟩ = some (.float .f32 A) := blkCell B.out 0
  have cB1 : World.cell? w1 ⟨gB, 1, none⟩ = some (.float .f32 O) := blkCell B.out 1
  have cB2 : World.cell? w1 ⟨gB, 2, none⟩ = some (.complex .f32 x y) := blkCell B.out 2
  have cR0 : World.cell? w1 ⟨gR, 0, none⟩ = some (.float .f32 0) := blkCell R.out 0
  have cR1 : World.cell? w1 ⟨gR, 1, none⟩ = some (.float .f32 0) := blkCell R.out 1
  have cR2 : World.cell? w1 ⟨gR, 2, none⟩ = some (.complex .f32 0 0) := blkCell R.out 2
  have Hp := Az.mk hp
  clear hp
  go_wp2_with (first | ((with_reducible refine gateN 9 rfl ?_); go_must (refine ev_ld 9 rfl rfl rfl (cs := #[.float .f32 A, .float .f32 O, .complex .f32 x y]) rfl B.out Try.underlying28 rfl (by kernel_rfl) ?_)))
  refine (ChannelOk_c A O x y _).mono ?_
  rintro e w2 ⟨rfl, h⟩
  have h0 : World.grownBy w1 w2 _ := (by refine World.grownBy.trans ?_ h; repeat (first | exact gr_refl _ _ | apply gr_drewN | apply gr_drew | apply gr_alloc))
  clear cB0 cB1 cB2 cR0 cR1 cR2
  have L_ := Az.mk (gr_new L.out h0 (by first | (simp; done) | (simp; omega) | omega))
  have B_ := Az.mk (blkGr B.out h0 (by first | (simp; done) | (simp; omega) | omega))
  have R_ := Az.mk (blkGr R.out h0 (by first | (simp; done) | (simp; omega) | omega))
  clear L B R
  have L := L_; clear L_
  have B := B_; clear B_
  have R := R_; clear R_
  clear h0 h
  have cB0 : World.cell? w2 ⟨gB, 0, none⟩ = some (.float .f32 A) := blkCell B.out 0
  have cB1 : World.cell? w2 ⟨gB, 1, none⟩ = some (.float .f32 O) := blkCell B.out 1
  have cB2 : World.cell? w2 ⟨gB, 2, none⟩ = some (.complex .f32 x y) := blkCell B.out 2
  have cR0 : World.cell? w2 ⟨gR, 0, none⟩ = some (.float .f32 0) := blkCell R.out 0
  have cR1 : World.cell? w2 ⟨gR, 1, none⟩ = some (.float .f32 0) := blkCell R.out 1
  have cR2 : World.cell? w2 ⟨gR, 2, none⟩ = some (.complex .f32 0 0) := blkCell R.out 2
  rw [HO.out]
  have t1 : (FloatKind.f32.format.order p 0 == some .eq) = false := by rw [o_eq, Hp.out]; exact HP.out
  go_wp2_with (first | ((with_reducible refine gateN 19 rfl ?_); go_must (refine ev_fl 19 rfl rfl rfl rfl rfl rfl ?_; intro b19 W3 hb19 h; have HF19 := Az.mk hb19; clear hb19; have h0 : World.grownBy w2 W3 none := (by refine World.grownBy.trans ?_ h; repeat (first | exact gr_refl _ _ | apply gr_drewN | apply gr_drew | apply gr_alloc)); clear cB0 cB1 cB2 cR0 cR1 cR2; have L_ := Az.mk (gr_new L.out h0 (by first | (simp; done) | (simp; omega) | omega)); have B_ := Az.mk (blkGr B.out h0 (by first | (simp; done) | (simp; omega) | omega)); have R_ := Az.mk (blkGr R.out h0 (by first | (simp; done) | (simp; omega) | omega)); clear L B R; have L := L_; clear L_; have B := B_; clear B_; have R := R_; clear R_; clear h0 h; have cB0 : World.cell? W3 ⟨gB, 0, none⟩ = some (.float .f32 A) := blkCell B.out 0; have cB1 : World.cell? W3 ⟨gB, 1, none⟩ = some (.float .f32 O) := blkCell B.out 1; have cB2 : World.cell? W3 ⟨gB, 2, none⟩ = some (.complex .f32 x y) := blkCell B.out 2; have cR0 : World.cell? W3 ⟨gR, 0, none⟩ = some (.float .f32 0) := blkCell R.out 0; have cR1 : World.cell? W3 ⟨gR, 1, none⟩ = some (.float .f32 0) := blkCell R.out 1; have cR2 : World.cell? W3 ⟨gR, 2, none⟩ = some (.complex .f32 0 0) := blkCell R.out 2)) | ((with_reducible refine gateN 25 rfl ?_); go_must (refine ev_fl 25 rfl rfl rfl rfl rfl rfl ?_; intro b25 W4 hb25 h; have HF25 := Az.mk hb25; clear hb25; have h0 : World.grownBy W3 W4 none := (by refine World.grownBy.trans ?_ h; repeat (first | exact gr_refl _ _ | apply gr_drewN | apply gr_drew | apply gr_alloc)); clear cB0 cB1 cB2 cR0 cR1 cR2; have L_ := Az.mk (gr_new L.out h0 (by first | (simp; done) | (simp; omega) | omega)); have B_ := Az.mk (blkGr B.out h0 (by first | (simp; done) | (simp; omega) | omega)); have R_ := Az.mk (blkGr R.out h0 (by first | (simp; done) | (simp; omega) | omega)); clear L B R; have L := L_; clear L_; have B := B_; clear B_; have R := R_; clear R_; clear h0 h; have cB0 : World.cell? W4 ⟨gB, 0, none⟩ = some (.float .f32 A) := blkCell B.out 0; have cB1 : World.cell? W4 ⟨gB, 1, none⟩ = some (.float .f32 O) := blkCell B.out 1; have cB2 : World.cell? W4 ⟨gB, 2, none⟩ = some (.complex .f32 x y) := blkCell B.out 2; have cR0 : World.cell? W4 ⟨gR, 0, none⟩ = some (.float .f32 0) := blkCell R.out 0; have cR1 : World.cell? W4 ⟨gR, 1, none⟩ = some (.float .f32 0) := blkCell R.out 1; have cR2 : World.cell? W4 ⟨gR, 2, none⟩ = some (.complex .f32 0 0) := blkCell R.out 2)) | ((with_reducible refine gateN 30 rfl ?_); go_must (refine ev_fl 30 rfl rfl rfl rfl rfl rfl ?_; intro b30 W5 hb30 h; have HF30 := Az.mk hb30; clear hb30; have h0 : World.grownBy W4 W5 none := (by refine World.grownBy.trans ?_ h; repeat (first | exact gr_refl _ _ | apply gr_drewN | apply gr_drew | apply gr_alloc)); clear cB0 cB1 cB2 cR0 cR1 cR2; have L_ := Az.mk (gr_new L.out h0 (by first | (simp; done) | (simp; omega) | omega)); have B_ := Az.mk (blkGr B.out h0 (by first | (simp; done) | (simp; omega) | omega)); have R_ := Az.mk (blkGr R.out h0 (by first | (simp; done) | (simp; omega) | omega)); clear L B R; have L := L_; clear L_; have B := B_; clear B_; have R := R_; clear R_; clear h0 h; have cB0 : World.cell? W5 ⟨gB, 0, none⟩ = some (.float .f32 A) := blkCell B.out 0; have cB1 : World.cell? W5 ⟨gB, 1, none⟩ = some (.float .f32 O) := blkCell B.out 1; have cB2 : World.cell? W5 ⟨gB, 2, none⟩ = some (.complex .f32 x y) := blkCell B.out 2; have cR0 : World.cell? W5 ⟨gR, 0, none⟩ = some (.float .f32 0) := blkCell R.out 0; have cR1 : World.cell? W5 ⟨gR, 1, none⟩ = some (.float .f32 0) := blkCell R.out 1; have cR2 : World.cell? W5 ⟨gR, 2, none⟩ = some (.complex .f32 0 0) := blkCell R.out 2)) | ((with_reducible refine gateN 36 rfl ?_); go_must (refine ev_fl 36 rfl rfl rfl rfl rfl rfl ?_; intro b36 W6 hb36 h; have HF36 := Az.mk hb36; clear hb36; have h0 : World.grownBy W5 W6 none := (by refine World.grownBy.trans ?_ h; repeat (first | exact gr_refl _ _ | apply gr_drewN | apply gr_drew | apply gr_alloc)); clear cB0 cB1 cB2 cR0 cR1 cR2; have L_ := Az.mk (gr_new L.out h0 (by first | (simp; done) | (simp; omega) | omega)); have B_ := Az.mk (blkGr B.out h0 (by first | (simp; done) | (simp; omega) | omega)); have R_ := Az.mk (blkGr R.out h0 (by first | (simp; done) | (simp; omega) | omega)); clear L B R; have L := L_; clear L_; have B := B_; clear B_; have R := R_; clear R_; clear h0 h; have cB0 : World.cell? W6 ⟨gB, 0, none⟩ = some (.float .f32 A) := blkCell B.out 0; have cB1 : World.cell? W6 ⟨gB, 1, none⟩ = some (.float .f32 O) := blkCell B.out 1; have cB2 : World.cell? W6 ⟨gB, 2, none⟩ = some (.complex .f32 x y) := blkCell B.out 2; have cR0 : World.cell? W6 ⟨gR, 0, none⟩ = some (.float .f32 0) := blkCell R.out 0; have cR1 : World.cell? W6 ⟨gR, 1, none⟩ = some (.float .f32 0) := blkCell R.out 1; have cR2 : World.cell? W6 ⟨gR, 2, none⟩ = some (.complex .f32 0 0) := blkCell R.out 2)) | ((with_reducible refine gateN 5 rfl ?_); go_must (refine ev_al 5 rfl rfl #[.float .f32 0, .float .f32 0, .complex .f32 0 0] 28 ?hr ?_; (case hr => first | (go_simp; done) | (go_simp; rfl)); intro gU heU W7 hbU h; have hgU : w.heap.size ≤ gU := Nat.le_trans L.out.size heU; have hgUB : gB < gU := Nat.lt_of_lt_of_le (blkLt B.out) heU; have hgUR : gR < gU := Nat.lt_of_lt_of_le (blkLt R.out) heU; clear heU; have h0 : World.grownBy W6 W7 none := (by refine World.grownBy.trans ?_ h; repeat (first | exact gr_refl _ _ | apply gr_drewN | apply gr_drew | apply gr_alloc)); clear cB0 cB1 cB2 cR0 cR1 cR2; have L_ := Az.mk (gr_new L.out h0 (by first | (simp; done) | (simp; omega) | omega)); have B_ := Az.mk (blkGr B.out h0 (by first | (simp; done) | (simp; omega) | omega)); have R_ := Az.mk (blkGr R.out h0 (by first | (simp; done) | (simp; omega) | omega)); clear L B R; have L := L_; clear L_; have B := B_; clear B_; have R := R_; clear R_; clear h0 h; have U := Az.mk hbU; clear hbU; have cB0 : World.cell? W7 ⟨gB, 0, none⟩ = some (.float .f32 A) := blkCell B.out 0; have cB1 : World.cell? W7 ⟨gB, 1, none⟩ = some (.float .f32 O) := blkCell B.out 1; have cB2 : World.cell? W7 ⟨gB, 2, none⟩ = some (.complex .f32 x y) := blkCell B.out 2; have cR0 : World.cell? W7 ⟨gR, 0, none⟩ = some (.float .f32 0) := blkCell R.out 0; have cR1 : World.cell? W7 ⟨gR, 1, none⟩ = some (.float .f32 0) := blkCell R.out 1; have cR2 : World.cell? W7 ⟨gR, 2, none⟩ = some (.complex .f32 0 0) := blkCell R.out 2; have cU0 : World.cell? W7 ⟨gU, 0, none⟩ = some (.float .f32 0) := blkCell U.out 0; have cU1 : World.cell? W7 ⟨gU, 1, none⟩ = some (.float .f32 0) := blkCell U.out 1; have cU2 : World.cell? W7 ⟨gU, 2, none⟩ = some (.complex .f32 0 0) := blkCell U.out 2)) | ((with_reducible refine gateSt 5 rfl ?_); go_must (refine ev_st rfl rfl rfl (cs := #[.float .f32 b19, .float .f32 b25, .complex .f32 b30 b36]) rfl rfl U.out (by kernel_rfl) rfl (by simp [Value.oneCell']) ?_; intro W8 hbU h; have h0 : World.grownBy W7 W8 (some gU) := (by refine World.grownBy.trans ?_ h; repeat (first | exact gr_refl _ _ | apply gr_drewN | apply gr_drew | apply gr_alloc)); clear cB0 cB1 cB2 cR0 cR1 cR2 cU0 cU1 cU2; have L_ := Az.mk (gr_new L.out h0 (by first | (simp; done) | (simp; omega) | omega)); have B_ := Az.mk (blkGr B.out h0 (by first | (simp; done) | (simp; omega) | omega)); have R_ := Az.mk (blkGr R.out h0 (by first | (simp; done) | (simp; omega) | omega)); clear L B R; have L := L_; clear L_; have B := B_; clear B_; have R := R_; clear R_; clear h0 h; clear U; have U := Az.mk hbU; clear hbU; have cB0 : World.cell? W8 ⟨gB, 0, none⟩ = some (.float .f32 A) := blkCell B.out 0; have cB1 : World.cell? W8 ⟨gB, 1, none⟩ = some (.float .f32 O) := blkCell B.out 1; have cB2 : World.cell? W8 ⟨gB, 2, none⟩ = some (.complex .f32 x y) := blkCell B.out 2; have cR0 : World.cell? W8 ⟨gR, 0, none⟩ = some (.float .f32 0) := blkCell R.out 0; have cR1 : World.cell? W8 ⟨gR, 1, none⟩ = some (.float .f32 0) := blkCell R.out 1; have cR2 : World.cell? W8 ⟨gR, 2, none⟩ = some (.complex .f32 0 0) := blkCell R.out 2; have cU0 : World.cell? W8 ⟨gU, 0, none⟩ = some (.float .f32 b19) := blkCell U.out 0; have cU1 : World.cell? W8 ⟨gU, 1, none⟩ = some (.float .f32 b25) := blkCell U.out 1; have cU2 : World.cell? W8 ⟨gU, 2, none⟩ = some (.complex .f32 b30 b36) := blkCell U.out 2)) | ((with_reducible refine gateN 39 rfl ?_); go_must (refine ev_ld 39 rfl rfl rfl (cs := #[.float .f32 b19, .float .f32 b25, .complex .f32 b30 b36]) rfl U.out Try.underlying28 rfl (by kernel_rfl) ?_)))
  have E19 : fN .f32 b19 = fdiv (fc 1065353216) (fN .f32 A) := HF19.out
  have E25 : fN .f32 b25 = fdiv (fneg (fN .f32 O)) (fN .f32 A) := by rw [HF25.out, fN_neg]; rfl
  have E30 : fN .f32 b30 = fdiv (fN .f32 x) (powerN (fN .f32 x) (fN .f32 y)) := by rw [HF30.out, Hp.out]; rfl
  have E36 : fN .f32 b36 = fdiv (fneg (fN .f32 y)) (powerN (fN .f32 x) (fN .f32 y)) := by rw [HF36.out, fN_neg, Hp.out]; rfl
  have HE := Az.mk (And.intro E19 (And.intro E25 (And.intro E30 E36)))
  clear E19 E25 E30 E36
  refine (ChannelOk_c b19 b25 b30 b36 _).mono ?_
  rintro e w3 ⟨rfl, h⟩
  have h0 : World.grownBy W8 w3 _ := (by refine World.grownBy.trans ?_ h; repeat (first | exact gr_refl _ _ | apply gr_drewN | apply gr_drew | apply gr_alloc))
  clear cB0 cB1 cB2 cR0 cR1 cR2 cU0 cU1 cU2
  have L_ := Az.mk (gr_new L.out h0 (by first | (simp; done) | (simp; omega) | omega))
  have B_ := Az.mk (blkGr B.out h0 (by first | (simp; done) | (simp; omega) | omega))
  have R_ := Az.mk (blkGr R.out h0 (by first | (simp; done) | (simp; omega) | omega))
  have U_ := Az.mk (blkGr U.out h0 (by first | (simp; done) | (simp; omega) | omega))
  clear L B R U
  have L := L_; clear L_
  have B := B_; clear B_
  have R := R_; clear R_
  have U := U_; clear U_
  clear h0 h
  have cB0 : World.cell? w3 ⟨gB, 0, none⟩ = some (.float .f32 A) := blkCell B.out 0
  have cB1 : World.cell? w3 ⟨gB, 1, none⟩ = some (.float .f32 O) := blkCell B.out 1
  have cB2 : World.cell? w3 ⟨gB, 2, none⟩ = some (.complex .f32 x y) := blkCell B.out 2
  have cR0 : World.cell? w3 ⟨gR, 0, none⟩ = some (.float .f32 0) := blkCell R.out 0
  have cR1 : World.cell? w3 ⟨gR, 1, none⟩ = some (.float .f32 0) := blkCell R.out 1
  have cR2 : World.cell? w3 ⟨gR, 2, none⟩ = some (.complex .f32 0 0) := blkCell R.out 2
  have cU0 : World.cell? w3 ⟨gU, 0, none⟩ = some (.float .f32 b19) := blkCell U.out 0
  have cU1 : World.cell? w3 ⟨gU, 1, none⟩ = some (.float .f32 b25) := blkCell U.out 1
  have cU2 : World.cell? w3 ⟨gU, 2, none⟩ = some (.complex .f32 b30 b36) := blkCell U.out 2
  rw [HE.out.1, HE.out.2.1, HE.out.2.2.1, HE.out.2.2.2, HU.out]
  go_wp2_with (first | ((with_reducible refine gateN 43 rfl ?_); go_must (refine ev_ld 43 rfl rfl rfl (cs := #[.float .f32 b19, .float .f32 b25, .complex .f32 b30 b36]) rfl U.out Try.underlying28 rfl (by kernel_rfl) ?_)) | ((with_reducible refine gateSt 2 rfl ?_); go_must (refine ev_st rfl rfl rfl (cs := #[.float .f32 b19, .float .f32 b25, .complex .f32 b30 b36]) rfl rfl R.out (by kernel_rfl) rfl (by simp [Value.oneCell']) ?_; intro W9 hbR h; have h0 : World.grownBy w3 W9 (some gR) := (by refine World.grownBy.trans ?_ h; repeat (first | exact gr_refl _ _ | apply gr_drewN | apply gr_drew | apply gr_alloc)); clear cB0 cB1 cB2 cR0 cR1 cR2 cU0 cU1 cU2; have L_ := Az.mk (gr_new L.out h0 (by first | (simp; done) | (simp; omega) | omega)); have B_ := Az.mk (blkGr B.out h0 (by first | (simp; done) | (simp; omega) | omega)); have U_ := Az.mk (blkGr U.out h0 (by first | (simp; done) | (simp; omega) | omega)); clear L B U; have L := L_; clear L_; have B := B_; clear B_; have U := U_; clear U_; clear h0 h; clear R; have R := Az.mk hbR; clear hbR; have cB0 : World.cell? W9 ⟨gB, 0, none⟩ = some (.float .f32 A) := blkCell B.out 0; have cB1 : World.cell? W9 ⟨gB, 1, none⟩ = some (.float .f32 O) := blkCell B.out 1; have cB2 : World.cell? W9 ⟨gB, 2, none⟩ = some (.complex .f32 x y) := blkCell B.out 2; have cR0 : World.cell? W9 ⟨gR, 0, none⟩ = some (.float .f32 b19) := blkCell R.out 0; have cR1 : World.cell? W9 ⟨gR, 1, none⟩ = some (.float .f32 b25) := blkCell R.out 1; have cR2 : World.cell? W9 ⟨gR, 2, none⟩ = some (.complex .f32 b30 b36) := blkCell R.out 2; have cU0 : World.cell? W9 ⟨gU, 0, none⟩ = some (.float .f32 b19) := blkCell U.out 0; have cU1 : World.cell? W9 ⟨gU, 1, none⟩ = some (.float .f32 b25) := blkCell U.out 1; have cU2 : World.cell? W9 ⟨gU, 2, none⟩ = some (.complex .f32 b30 b36) := blkCell U.out 2)))
  refine bodyPost_ret (results_ct rfl _ _ gR 28 #[.float .f32 b19, .float .f32 b25, .complex .f32 b30 b36] _ rfl R.out Try.underlying28 rfl (by kernel_rfl)) rfl ⟨b19, b25, b30, b36, HE.out.1, HE.out.2.1, HE.out.2.2.1, HE.out.2.2.2, rfl, L.out⟩
set_option maxHeartbeats 2000000 in
theorem Chain_ok (A O x y A2 O2 x2 y2 : Nat) (w : World) (hok : chOkN (fN .f32 A) (fN .f32 O) (fN .f32 x) (fN .f32 y) = true) (hok2 : chOkN (fN .f32 A2) (fN .f32 O2) (fN .f32 x2) (fN .f32 y2) = true)
    (hu : chOkN (fmul (fN .f32 A) (fN .f32 A2)) (fadd (fmul (fN .f32 A2) (fN .f32 O)) (fN .f32 O2)) (timesRe (fN .f32 x) (fN .f32 y) (fN .f32 x2) (fN .f32 y2)) (timesIm (fN .f32 x) (fN .f32 y) (fN .f32 x2) (fN .f32 y2)) = true) :
    Calls Try.prog 20 #[.agg #[.float .f32 A, .float .f32 O, .complex .f32 x y], .agg #[.float .f32 A2, .float .f32 O2, .complex .f32 x2 y2]] w
      (RetChT w (fmul (fN .f32 A) (fN .f32 A2)) (fadd (fmul (fN .f32 A2) (fN .f32 O)) (fN .f32 O2)) (timesRe (fN .f32 x) (fN .f32 y) (fN .f32 x2) (fN .f32 y2)) (timesIm (fN .f32 x) (fN .f32 y) (fN .f32 x2) (fN .f32 y2))) := by
  have L := Az.mk (gr_refl w none)
  have HO := Az.mk hok
  have HO2 := Az.mk hok2
  have HU := Az.mk hu
  clear hok hok2 hu
  go_enter Try.func20, Try.ntmps20
  go_wp2_with (first | ((with_reducible refine gateN 2 rfl ?_); go_must (refine ev_al 2 rfl rfl #[.float .f32 A, .float .f32 O, .complex .f32 x y] 28 ?hr ?_; (case hr => first | (go_simp; done) | (go_simp; rfl)); intro gB heB W1 hbB h; have hgB : w.heap.size ≤ gB := Nat.le_trans L.out.size heB; clear heB; have h0 : World.grownBy w W1 none := (by refine World.grownBy.trans ?_ h; repeat (first | exact gr_refl _ _ | apply gr_drewN | apply gr_drew | apply gr_alloc)); have L_ := Az.mk (gr_new L.out h0 (by first | (simp; done) | (simp; omega) | omega)); clear L; have L := L_; clear L_; clear h0 h; have B := Az.mk hbB; clear hbB; have cB0 : World.cell? W1 ⟨gB, 0, none⟩ = some (.float .f32 A) := blkCell B.out 0; have cB1 : World.cell? W1 ⟨gB, 1, none⟩ = some (.float .f32 O) := blkCell B.out 1; have cB2 : World.cell? W1 ⟨gB, 2, none⟩ = some (.complex .f32 x y) := blkCell B.out 2)) | ((with_reducible refine gateN 3 rfl ?_); go_must (refine ev_al 3 rfl rfl #[.float .f32 A2, .float .f32 O2, .complex .f32 x2 y2] 28 ?hr ?_; (case hr => first | (go_simp; done) | (go_simp; rfl)); intro gD heD W2 hbD h; have hgD : w.heap.size ≤ gD := Nat.le_trans L.out.size heD; have hgDB : gB < gD := Nat.lt_of_lt_of_le (blkLt B.out) heD; clear heD; have h0 : World.grownBy W1 W2 none := (by refine World.grownBy.trans ?_ h; repeat (first | exact gr_refl _ _ | apply gr_drewN | apply gr_drew | apply gr_alloc)); clear cB0 cB1 cB2; have L_ := Az.mk (gr_new L.out h0 (by first | (simp; done) | (simp; omega) | omega)); have B_ := Az.mk (blkGr B.out h0 (by first | (simp; done) | (simp; omega) | omega)); clear L B; have L := L_; clear L_; have B := B_; clear B_; clear h0 h; have D := Az.mk hbD; clear hbD; have cB0 : World.cell? W2 ⟨gB, 0, none⟩ = some (.float .f32 A) := blkCell B.out 0; have cB1 : World.cell? W2 ⟨gB, 1, none⟩ = some (.float .f32 O) := blkCell B.out 1; have cB2 : World.cell? W2 ⟨gB, 2, none⟩ = some (.complex .f32 x y) := blkCell B.out 2; have cD0 : World.cell? W2 ⟨gD, 0, none⟩ = some (.float .f32 A2) := blkCell D.out 0; have cD1 : World.cell? W2 ⟨gD, 1, none⟩ = some (.float .f32 O2) := blkCell D.out 1; have cD2 : World.cell? W2 ⟨gD, 2, none⟩ = some (.complex .f32 x2 y2) := blkCell D.out 2)) | ((with_reducible refine gateN 4 rfl ?_); go_must (refine ev_al 4 rfl rfl #[.float .f32 0, .float .f32 0, .complex .f32 0 0] 28 ?hr ?_; (case hr => first | (go_simp; done) | (go_simp; rfl)); intro gR heR W3 hbR h; have hgR : w.heap.size ≤ gR := Nat.le_trans L.out.size heR; have hgRB : gB < gR := Nat.lt_of_lt_of_le (blkLt B.out) heR; have hgRD : gD < gR := Nat.lt_of_lt_of_le (blkLt D.out) heR; clear heR; have h0 : World.grownBy W2 W3 none := (by refine World.grownBy.trans ?_ h; repeat (first | exact gr_refl _ _ | apply gr_drewN | apply gr_drew | apply gr_alloc)); clear cB0 cB1 cB2 cD0 cD1 cD2; have L_ := Az.mk (gr_new L.out h0 (by first | (simp; done) | (simp; omega) | omega)); have B_ := Az.mk (blkGr B.out h0 (by first | (simp; done) | (simp; omega) | omega)); have D_ := Az.mk (blkGr D.out h0 (by first | (simp; done) | (simp; omega) | omega)); clear L B D; have L := L_; clear L_; have B := B_; clear B_; have D := D_; clear D_; clear h0 h; have R := Az.mk hbR; clear hbR; have cB0 : World.cell? W3 ⟨gB, 0, none⟩ = some (.float .f32 A) := blkCell B.out 0; have cB1 : World.cell? W3 ⟨gB, 1, none⟩ = some (.float .f32 O) := blkCell B.out 1; have cB2 : World.cell? W3 ⟨gB, 2, none⟩ = some (.complex .f32 x y) := blkCell B.out 2; have cD0 : World.cell? W3 ⟨gD, 0, none⟩ = some (.float .f32 A2) := blkCell D.out 0; have cD1 : World.cell? W3 ⟨gD, 1, none⟩ = some (.float .f32 O2) := blkCell D.out 1; have cD2 : World.cell? W3 ⟨gD, 2, none⟩ = some (.complex .f32 x2 y2) := blkCell D.out 2; have cR0 : World.cell? W3 ⟨gR, 0, none⟩ = some (.float .f32 0) := blkCell R.out 0; have cR1 : World.cell? W3 ⟨gR, 1, none⟩ = some (.float .f32 0) := blkCell R.out 1; have cR2 : World.cell? W3 ⟨gR, 2, none⟩ = some (.complex .f32 0 0) := blkCell R.out 2)))
  have uB0 : ∀ w1, Up W3 w1 → w1.cell? ⟨gB, 0, none⟩ = some (.float .f32 A) := fun w1 hu => blkCell (blkGr B.out hu (by simp)) 0
  have uB1 : ∀ w1, Up W3 w1 → w1.cell? ⟨gB, 1, none⟩ = some (.float .f32 O) := fun w1 hu => blkCell (blkGr B.out hu (by simp)) 1
  have uB2 : ∀ w1, Up W3 w1 → w1.cell? ⟨gB, 2, none⟩ = some (.complex .f32 x y) := fun w1 hu => blkCell (blkGr B.out hu (by simp)) 2
  have uD0 : ∀ w1, Up W3 w1 → w1.cell? ⟨gD, 0, none⟩ = some (.float .f32 A2) := fun w1 hu => blkCell (blkGr D.out hu (by simp)) 0
  have uD1 : ∀ w1, Up W3 w1 → w1.cell? ⟨gD, 1, none⟩ = some (.float .f32 O2) := fun w1 hu => blkCell (blkGr D.out hu (by simp)) 1
  have uD2 : ∀ w1, Up W3 w1 → w1.cell? ⟨gD, 2, none⟩ = some (.complex .f32 x2 y2) := fun w1 hu => blkCell (blkGr D.out hu (by simp)) 2
  have uR0 : ∀ w1, Up W3 w1 → w1.cell? ⟨gR, 0, none⟩ = some (.float .f32 0) := fun w1 hu => blkCell (blkGr R.out hu (by simp)) 0
  have uR1 : ∀ w1, Up W3 w1 → w1.cell? ⟨gR, 1, none⟩ = some (.float .f32 0) := fun w1 hu => blkCell (blkGr R.out hu (by simp)) 1
  have uR2 : ∀ w1, Up W3 w1 → w1.cell? ⟨gR, 2, none⟩ = some (.complex .f32 0 0) := fun w1 hu => blkCell (blkGr R.out hu (by simp)) 2
  refine wp_region_rel 20 (fun _ _ v _ => ∃ u u', fN .f32 u = timesRe (fN .f32 x) (fN .f32 y) (fN .f32 x2) (fN .f32 y2) ∧ fN .f32 u' = timesIm (fN .f32 x) (fN .f32 y) (fN .f32 x2) (fN .f32 y2) ∧ v = .complex .f32 u u') (by kernel_rfl) (by kernel_rfl) ?_
  simp only [List.take_succ_cons, List.take_zero, List.drop_succ_cons, List.drop_zero]
  repeat (first | ((with_reducible refine gateLexN 11 rfl ?_); go_must (refine lex_fl rfl rfl rfl rfl rfl ?_; intro b11 hb11; have HF11 := Az.mk hb11; clear hb11; refine lexK (fun K hK => ?_); go_simp; refine hK _ ?_; clear hK K)) | ((with_reducible refine gateLexN 16 rfl ?_); go_must (refine lex_fl rfl rfl rfl rfl rfl ?_; intro b16 hb16; have HF16 := Az.mk hb16; clear hb16; refine lexK (fun K hK => ?_); go_simp; refine hK _ ?_; clear hK K)) | ((with_reducible refine gateLexN 19 rfl ?_); go_must (refine lex_fl rfl rfl rfl rfl rfl ?_; intro b19 hb19; have HF19 := Az.mk hb19; clear hb19; refine lexK (fun K hK => ?_); go_simp; refine hK _ ?_; clear hK K)) | ((with_reducible refine gateLexN 24 rfl ?_); go_must (refine lex_call rfl Try.func16 (by kernel_rfl) rfl #[.complex .f32 x y, .complex .f32 x2 y2] rfl (by simp only [List.map_toArray, List.map_cons, List.map_nil]; rfl) (fun w1 hu => (Times_c x y x2 y2 w1).mono ?_) ?_; (rintro e w2 ⟨u, u', h1, h2, rfl, h⟩; exact ⟨_, rfl, h, u, u', h1, h2, rfl⟩); rintro v ⟨w2, u, u', h1, h2, rfl⟩; have HT := Az.mk (And.intro h1 h2); clear h1 h2; refine lexK (fun K hK => ?_); go_simp; refine hK _ ?_; clear hK K)) | ((with_reducible refine gateLexN 6 rfl ?_); go_must (refine lex_al rfl #[.float .f32 0, .float .f32 0, .complex .f32 0 0] 28 (fun w1 hu => ?_) ?_; (focus (first | (go_simp; done) | (go_simp; rfl))); intro gU heU; have hgU : w.heap.size ≤ gU := Nat.le_trans L.out.size heU; have hgUB : gB < gU := Nat.lt_of_lt_of_le (blkLt B.out) heU; have hgUD : gD < gU := Nat.lt_of_lt_of_le (blkLt D.out) heU; have hgUR : gR < gU := Nat.lt_of_lt_of_le (blkLt R.out) heU; clear heU; refine lexK (fun K hK => ?_); go_simp; refine hK _ ?_; clear hK K)) | (refine lex_val' rfl ?_; apply Exists.intro; refine ⟨fun w1 hu => ?_, ?_⟩; (focus (first | (go_simp; done) | (go_simp; rfl))); refine lexK (fun K hK => ?_); go_simp; refine hK _ ?_; clear hK K))
  refine lex_nil (fun W4 h hF => ?_)
  clear uB0 uB1 uB2 uD0 uD1 uD2 uR0 uR1 uR2
  have h0 : World.grownBy W3 W4 none := (by refine World.grownBy.trans ?_ h; repeat (first | exact gr_refl _ _ | apply gr_drewN | apply gr_drew | apply gr_alloc))
  clear cB0 cB1 cB2 cD0 cD1 cD2 cR0 cR1 cR2
  have L_ := Az.mk (gr_new L.out h0 (by first | (simp; done) | (simp; omega) | omega))
  have B_ := Az.mk (blkGr B.out h0 (by first | (simp; done) | (simp; omega) | omega))
  have D_ := Az.mk (blkGr D.out h0 (by first | (simp; done) | (simp; omega) | omega))
  have R_ := Az.mk (blkGr R.out h0 (by first | (simp; done) | (simp; omega) | omega))
  clear L B D R
  have L := L_; clear L_
  have B := B_; clear B_
  have D := D_; clear D_
  have R := R_; clear R_
  clear h0 h
  have U := Az.mk (show W4.heap[gU]? = some (.cells #[.float .f32 0, .float .f32 0, .complex .f32 0 0] _ (0, 0)) from by first | exact hF.2 | exact hF.1.2 | exact hF.1.1.2 | exact hF.1.1.1.2)
  clear hF
  have cB0 : World.cell? W4 ⟨gB, 0, none⟩ = some (.float .f32 A) := blkCell B.out 0
  have cB1 : World.cell? W4 ⟨gB, 1, none⟩ = some (.float .f32 O) := blkCell B.out 1
  have cB2 : World.cell? W4 ⟨gB, 2, none⟩ = some (.complex .f32 x y) := blkCell B.out 2
  have cD0 : World.cell? W4 ⟨gD, 0, none⟩ = some (.float .f32 A2) := blkCell D.out 0
  have cD1 : World.cell? W4 ⟨gD, 1, none⟩ = some (.float .f32 O2) := blkCell D.out 1
  have cD2 : World.cell? W4 ⟨gD, 2, none⟩ = some (.complex .f32 x2 y2) := blkCell D.out 2
  have cR0 : World.cell? W4 ⟨gR, 0, none⟩ = some (.float .f32 0) := blkCell R.out 0
  have cR1 : World.cell? W4 ⟨gR, 1, none⟩ = some (.float .f32 0) := blkCell R.out 1
  have cR2 : World.cell? W4 ⟨gR, 2, none⟩ = some (.complex .f32 0 0) := blkCell R.out 2
  have cU0 : World.cell? W4 ⟨gU, 0, none⟩ = some (.float .f32 0) := blkCell U.out 0
  have cU1 : World.cell? W4 ⟨gU, 1, none⟩ = some (.float .f32 0) := blkCell U.out 1
  have cU2 : World.cell? W4 ⟨gU, 2, none⟩ = some (.complex .f32 0 0) := blkCell U.out 2
  have E11 : fN .f32 b11 = fmul (fN .f32 A) (fN .f32 A2) := HF11.out
  have E19 : fN .f32 b19 = fadd (fmul (fN .f32 A2) (fN .f32 O)) (fN .f32 O2) := by rw [HF19.out, HF16.out]; rfl
  have HE := Az.mk (And.intro E11 (And.intro E19 HT.out))
  clear E11 E19
  go_wp2_with (first | ((with_reducible refine gateSt 6 rfl ?_); go_must (refine ev_st rfl rfl rfl (cs := #[.float .f32 b11, .float .f32 b19, .complex .f32 u u']) rfl rfl U.out (by kernel_rfl) rfl (by simp [Value.oneCell']) ?_; intro W5 hbU h; have h0 : World.grownBy W4 W5 (some gU) := (by refine World.grownBy.trans ?_ h; repeat (first | exact gr_refl _ _ | apply gr_drewN | apply gr_drew | apply gr_alloc)); clear cB0 cB1 cB2 cD0 cD1 cD2 cR0 cR1 cR2 cU0 cU1 cU2; have L_ := Az.mk (gr_new L.out h0 (by first | (simp; done) | (simp; omega) | omega)); have B_ := Az.mk (blkGr B.out h0 (by first | (simp; done) | (simp; omega) | omega)); have D_ := Az.mk (blkGr D.out h0 (by first | (simp; done) | (simp; omega) | omega)); have R_ := Az.mk (blkGr R.out h0 (by first | (simp; done) | (simp; omega) | omega)); clear L B D R; have L := L_; clear L_; have B := B_; clear B_; have D := D_; clear D_; have R := R_; clear R_; clear h0 h; clear U; have U := Az.mk hbU; clear hbU; have cB0 : World.cell? W5 ⟨gB, 0, none⟩ = some (.float .f32 A) := blkCell B.out 0; have cB1 : World.cell? W5 ⟨gB, 1, none⟩ = some (.float .f32 O) := blkCell B.out 1; have cB2 : World.cell? W5 ⟨gB, 2, none⟩ = some (.complex .f32 x y) := blkCell B.out 2; have cD0 : World.cell? W5 ⟨gD, 0, none⟩ = some (.float .f32 A2) := blkCell D.out 0; have cD1 : World.cell? W5 ⟨gD, 1, none⟩ = some (.float .f32 O2) := blkCell D.out 1; have cD2 : World.cell? W5 ⟨gD, 2, none⟩ = some (.complex .f32 x2 y2) := blkCell D.out 2; have cR0 : World.cell? W5 ⟨gR, 0, none⟩ = some (.float .f32 0) := blkCell R.out 0; have cR1 : World.cell? W5 ⟨gR, 1, none⟩ = some (.float .f32 0) := blkCell R.out 1; have cR2 : World.cell? W5 ⟨gR, 2, none⟩ = some (.complex .f32 0 0) := blkCell R.out 2; have cU0 : World.cell? W5 ⟨gU, 0, none⟩ = some (.float .f32 b11) := blkCell U.out 0; have cU1 : World.cell? W5 ⟨gU, 1, none⟩ = some (.float .f32 b19) := blkCell U.out 1; have cU2 : World.cell? W5 ⟨gU, 2, none⟩ = some (.complex .f32 u u') := blkCell U.out 2)) | ((with_reducible refine gateN 26 rfl ?_); go_must (refine ev_ld 26 rfl rfl rfl (cs := #[.float .f32 A, .float .f32 O, .complex .f32 x y]) rfl B.out Try.underlying28 rfl (by kernel_rfl) ?_)))
  refine (ChannelOk_c A O x y _).mono ?_
  rintro e w2 ⟨rfl, h⟩
  have h0 : World.grownBy W5 w2 _ := (by refine World.grownBy.trans ?_ h; repeat (first | exact gr_refl _ _ | apply gr_drewN | apply gr_drew | apply gr_alloc))
  clear cB0 cB1 cB2 cD0 cD1 cD2 cR0 cR1 cR2 cU0 cU1 cU2
  have L_ := Az.mk (gr_new L.out h0 (by first | (simp; done) | (simp; omega) | omega))
  have B_ := Az.mk (blkGr B.out h0 (by first | (simp; done) | (simp; omega) | omega))
  have D_ := Az.mk (blkGr D.out h0 (by first | (simp; done) | (simp; omega) | omega))
  have R_ := Az.mk (blkGr R.out h0 (by first | (simp; done) | (simp; omega) | omega))
  have U_ := Az.mk (blkGr U.out h0 (by first | (simp; done) | (simp; omega) | omega))
  clear L B D R U
  have L := L_; clear L_
  have B := B_; clear B_
  have D := D_; clear D_
  have R := R_; clear R_
  have U := U_; clear U_
  clear h0 h
  have cB0 : World.cell? w2 ⟨gB, 0, none⟩ = some (.float .f32 A) := blkCell B.out 0
  have cB1 : World.cell? w2 ⟨gB, 1, none⟩ = some (.float .f32 O) := blkCell B.out 1
  have cB2 : World.cell? w2 ⟨gB, 2, none⟩ = some (.complex .f32 x y) := blkCell B.out 2
  have cD0 : World.cell? w2 ⟨gD, 0, none⟩ = some (.float .f32 A2) := blkCell D.out 0
  have cD1 : World.cell? w2 ⟨gD, 1, none⟩ = some (.float .f32 O2) := blkCell D.out 1
  have cD2 : World.cell? w2 ⟨gD, 2, none⟩ = some (.complex .f32 x2 y2) := blkCell D.out 2
  have cR0 : World.cell? w2 ⟨gR, 0, none⟩ = some (.float .f32 0) := blkCell R.out 0
  have cR1 : World.cell? w2 ⟨gR, 1, none⟩ = some (.float .f32 0) := blkCell R.out 1
  have cR2 : World.cell? w2 ⟨gR, 2, none⟩ = some (.complex .f32 0 0) := blkCell R.out 2
  have cU0 : World.cell? w2 ⟨gU, 0, none⟩ = some (.float .f32 b11) := blkCell U.out 0
  have cU1 : World.cell? w2 ⟨gU, 1, none⟩ = some (.float .f32 b19) := blkCell U.out 1
  have cU2 : World.cell? w2 ⟨gU, 2, none⟩ = some (.complex .f32 u u') := blkCell U.out 2
  rw [HO.out]
  go_wp2_with (first | ((with_reducible refine gateN 30 rfl ?_); go_must (refine stripG (by first | rfl | simp [Region.wanted, yielded]) ?_; refine ev_ld 30 rfl rfl rfl (cs := #[.float .f32 A2, .float .f32 O2, .complex .f32 x2 y2]) rfl D.out Try.underlying28 rfl (by kernel_rfl) ?_)))
  refine (ChannelOk_c A2 O2 x2 y2 _).mono ?_
  rintro e w3 ⟨rfl, h⟩
  have h0 : World.grownBy w2 w3 _ := (by refine World.grownBy.trans ?_ h; repeat (first | exact gr_refl _ _ | apply gr_drewN | apply gr_drew | apply gr_alloc))
  clear cB0 cB1 cB2 cD0 cD1 cD2 cR0 cR1 cR2 cU0 cU1 cU2
  have L_ := Az.mk (gr_new L.out h0 (by first | (simp; done) | (simp; omega) | omega))
  have B_ := Az.mk (blkGr B.out h0 (by first | (simp; done) | (simp; omega) | omega))
  have D_ := Az.mk (blkGr D.out h0 (by first | (simp; done) | (simp; omega) | omega))
  have R_ := Az.mk (blkGr R.out h0 (by first | (simp; done) | (simp; omega) | omega))
  have U_ := Az.mk (blkGr U.out h0 (by first | (simp; done) | (simp; omega) | omega))
  clear L B D R U
  have L := L_; clear L_
  have B := B_; clear B_
  have D := D_; clear D_
  have R := R_; clear R_
  have U := U_; clear U_
  clear h0 h
  have cB0 : World.cell? w3 ⟨gB, 0, none⟩ = some (.float .f32 A) := blkCell B.out 0
  have cB1 : World.cell? w3 ⟨gB, 1, none⟩ = some (.float .f32 O) := blkCell B.out 1
  have cB2 : World.cell? w3 ⟨gB, 2, none⟩ = some (.complex .f32 x y) := blkCell B.out 2
  have cD0 : World.cell? w3 ⟨gD, 0, none⟩ = some (.float .f32 A2) := blkCell D.out 0
  have cD1 : World.cell? w3 ⟨gD, 1, none⟩ = some (.float .f32 O2) := blkCell D.out 1
  have cD2 : World.cell? w3 ⟨gD, 2, none⟩ = some (.complex .f32 x2 y2) := blkCell D.out 2
  have cR0 : World.cell? w3 ⟨gR, 0, none⟩ = some (.float .f32 0) := blkCell R.out 0
  have cR1 : World.cell? w3 ⟨gR, 1, none⟩ = some (.float .f32 0) := blkCell R.out 1
  have cR2 : World.cell? w3 ⟨gR, 2, none⟩ = some (.complex .f32 0 0) := blkCell R.out 2
  have cU0 : World.cell? w3 ⟨gU, 0, none⟩ = some (.float .f32 b11) := blkCell U.out 0
  have cU1 : World.cell? w3 ⟨gU, 1, none⟩ = some (.float .f32 b19) := blkCell U.out 1
  have cU2 : World.cell? w3 ⟨gU, 2, none⟩ = some (.complex .f32 u u') := blkCell U.out 2
  rw [HO2.out]
  go_wp2_with (first | ((with_reducible refine gateN 35 rfl ?_); go_must (refine stripG (by first | rfl | simp [Region.wanted, yielded]) ?_; refine ev_ld 35 rfl rfl rfl (cs := #[.float .f32 b11, .float .f32 b19, .complex .f32 u u']) rfl U.out Try.underlying28 rfl (by kernel_rfl) ?_)))
  refine (ChannelOk_c b11 b19 u u' _).mono ?_
  rintro e w4 ⟨rfl, h⟩
  have h0 : World.grownBy w3 w4 _ := (by refine World.grownBy.trans ?_ h; repeat (first | exact gr_refl _ _ | apply gr_drewN | apply gr_drew | apply gr_alloc))
  clear cB0 cB1 cB2 cD0 cD1 cD2 cR0 cR1 cR2 cU0 cU1 cU2
  have L_ := Az.mk (gr_new L.out h0 (by first | (simp; done) | (simp; omega) | omega))
  have B_ := Az.mk (blkGr B.out h0 (by first | (simp; done) | (simp; omega) | omega))
  have D_ := Az.mk (blkGr D.out h0 (by first | (simp; done) | (simp; omega) | omega))
  have R_ := Az.mk (blkGr R.out h0 (by first | (simp; done) | (simp; omega) | omega))
  have U_ := Az.mk (blkGr U.out h0 (by first | (simp; done) | (simp; omega) | omega))
  clear L B D R U
  have L := L_; clear L_
  have B := B_; clear B_
  have D := D_; clear D_
  have R := R_; clear R_
  have U := U_; clear U_
  clear h0 h
  have cB0 : World.cell? w4 ⟨gB, 0, none⟩ = some (.float .f32 A) := blkCell B.out 0
  have cB1 : World.cell? w4 ⟨gB, 1, none⟩ = some (.float .f32 O) := blkCell B.out 1
  have cB2 : World.cell? w4 ⟨gB, 2, none⟩ = some (.complex .f32 x y) := blkCell B.out 2
  have cD0 : World.cell? w4 ⟨gD, 0, none⟩ = some (.float .f32 A2) := blkCell D.out 0
  have cD1 : World.cell? w4 ⟨gD, 1, none⟩ = some (.float .f32 O2) := blkCell D.out 1
  have cD2 : World.cell? w4 ⟨gD, 2, none⟩ = some (.complex .f32 x2 y2) := blkCell D.out 2
  have cR0 : World.cell? w4 ⟨gR, 0, none⟩ = some (.float .f32 0) := blkCell R.out 0
  have cR1 : World.cell? w4 ⟨gR, 1, none⟩ = some (.float .f32 0) := blkCell R.out 1
  have cR2 : World.cell? w4 ⟨gR, 2, none⟩ = some (.complex .f32 0 0) := blkCell R.out 2
  have cU0 : World.cell? w4 ⟨gU, 0, none⟩ = some (.float .f32 b11) := blkCell U.out 0
  have cU1 : World.cell? w4 ⟨gU, 1, none⟩ = some (.float .f32 b19) := blkCell U.out 1
  have cU2 : World.cell? w4 ⟨gU, 2, none⟩ = some (.complex .f32 u u') := blkCell U.out 2
  rw [HE.out.1, HE.out.2.1, HE.out.2.2.1, HE.out.2.2.2, HU.out]
  go_wp2_with (first | ((with_reducible refine gateN 40 rfl ?_); go_must (refine ev_ld 40 rfl rfl rfl (cs := #[.float .f32 b11, .float .f32 b19, .complex .f32 u u']) rfl U.out Try.underlying28 rfl (by kernel_rfl) ?_)) | ((with_reducible refine gateSt 4 rfl ?_); go_must (refine ev_st rfl rfl rfl (cs := #[.float .f32 b11, .float .f32 b19, .complex .f32 u u']) rfl rfl R.out (by kernel_rfl) rfl (by simp [Value.oneCell']) ?_; intro W6 hbR h; have h0 : World.grownBy w4 W6 (some gR) := (by refine World.grownBy.trans ?_ h; repeat (first | exact gr_refl _ _ | apply gr_drewN | apply gr_drew | apply gr_alloc)); clear cB0 cB1 cB2 cD0 cD1 cD2 cR0 cR1 cR2 cU0 cU1 cU2; have L_ := Az.mk (gr_new L.out h0 (by first | (simp; done) | (simp; omega) | omega)); have B_ := Az.mk (blkGr B.out h0 (by first | (simp; done) | (simp; omega) | omega)); have D_ := Az.mk (blkGr D.out h0 (by first | (simp; done) | (simp; omega) | omega)); have U_ := Az.mk (blkGr U.out h0 (by first | (simp; done) | (simp; omega) | omega)); clear L B D U; have L := L_; clear L_; have B := B_; clear B_; have D := D_; clear D_; have U := U_; clear U_; clear h0 h; clear R; have R := Az.mk hbR; clear hbR; have cB0 : World.cell? W6 ⟨gB, 0, none⟩ = some (.float .f32 A) := blkCell B.out 0; have cB1 : World.cell? W6 ⟨gB, 1, none⟩ = some (.float .f32 O) := blkCell B.out 1; have cB2 : World.cell? W6 ⟨gB, 2, none⟩ = some (.complex .f32 x y) := blkCell B.out 2; have cD0 : World.cell? W6 ⟨gD, 0, none⟩ = some (.float .f32 A2) := blkCell D.out 0; have cD1 : World.cell? W6 ⟨gD, 1, none⟩ = some (.float .f32 O2) := blkCell D.out 1; have cD2 : World.cell? W6 ⟨gD, 2, none⟩ = some (.complex .f32 x2 y2) := blkCell D.out 2; have cR0 : World.cell? W6 ⟨gR, 0, none⟩ = some (.float .f32 b11) := blkCell R.out 0; have cR1 : World.cell? W6 ⟨gR, 1, none⟩ = some (.float .f32 b19) := blkCell R.out 1; have cR2 : World.cell? W6 ⟨gR, 2, none⟩ = some (.complex .f32 u u') := blkCell R.out 2; have cU0 : World.cell? W6 ⟨gU, 0, none⟩ = some (.float .f32 b11) := blkCell U.out 0; have cU1 : World.cell? W6 ⟨gU, 1, none⟩ = some (.float .f32 b19) := blkCell U.out 1; have cU2 : World.cell? W6 ⟨gU, 2, none⟩ = some (.complex .f32 u u') := blkCell U.out 2)))
  refine bodyPost_ret (results_ct rfl _ _ gR 28 #[.float .f32 b11, .float .f32 b19, .complex .f32 u u'] _ rfl R.out Try.underlying28 rfl (by kernel_rfl)) rfl ⟨b11, b19, u, u', HE.out.1, HE.out.2.1, HE.out.2.2.1, HE.out.2.2.2, rfl, L.out⟩
end Go.Proofs.Ytjomilloilbcgaa
