/- Draws of links: contracts of spec.l08Channel, DrawLink. No condition. -/
import Derived.Test.YtjomilloilbcgaaD9
import Derived.Test.YtjomilloilbcgaaT1
namespace Go.Proofs.Ytjomilloilbcgaa
open Go.RowKit
set_option linter.unusedVariables false
set_option linter.unusedSimpArgs false

section
variable {P : Program}
theorem results_tc {fn : Func} {p u : Tmp} {ty : TypeId} (h : fn.results = #[.tmp u, .cell p ty]) (tmps : Array Value) (w : World) (g : Nat) (t : TypeId) (cs : Array Value) (d : TypeDesc)
    (hp : tmps.getD p undef = .pointer (some ⟨g, 0, none⟩)) (hg : w.heap[g]? = some (.cells cs t (0, 0))) (hu : P.underlying ty = some d) (hd : isRow d = true) (hi : (P.info? ty).map (·.size) = some cs.size) :
    (results fn tmps).run P w = .ok (.tuple #[tmps.getD u undef, .agg cs]) w := by
  have hp' : tmps[p]?.getD undef = .pointer (some ⟨g, 0, none⟩) := by simpa using hp
  simp [results, h, hp', asAddr, loadRow w g t ty cs d hg hu hd hi]
end
/-- A channel that a link can undo. -/
def LinkCh (A O x y : Nat) : Prop := ∃ a o p q : Int, (a = 1 ∨ a = 2 ∨ a = 4) ∧ -32 ≤ o ∧ o ≤ 32 ∧ (p = 1 ∨ p = 2 ∨ p = -1 ∨ p = -2) ∧ -4 ≤ q ∧ q ≤ 4 ∧ Q (fN .f32 A) (a * 2048) ∧ Q (fN .f32 O) (o * 512) ∧ Q (fN .f32 x) (a * p * 1024) ∧ Q (fN .f32 y) (a * q * 512)
def RetLCh (w0 w : World) (g : Nat) (e : Ending) (w' : World) : Prop := ∃ A O x y : Nat, LinkCh A O x y ∧ e = .returned (.agg #[.float .f32 A, .float .f32 O, .complex .f32 x y]) ∧ Cur w0 w' g ∧ w.grownBy w' (some g)
theorem half {n : Int} {b : Nat} (h1 : -16 ≤ n) (h2 : n ≤ 16) (h : fN .f32 b = fop .quo .f32 (fN .f32 (floatOfInt .f32 n)) (fN .f32 1073741824)) : Q (fN .f32 b) (n * 2048) := by
  rw [h]; exact Q_div (Q_ofInt n (by omega) (by omega)) (Q_mk 1073741824 false 8388608 127 (8192) (by decide +kernel) (by decide +kernel)) (by decide) (by omega) (by omega) (by omega)
set_option maxHeartbeats 2000000 in
theorem l08Channel_c (w0 w : World) (g : Nat) (hc : Cur w0 w g) : Calls Try.prog 38 #[.pointer (some ⟨g, 0, none⟩)] w (RetLCh w0 w g) := by
  have K := Az.mk hc
  have hlt := hc.lt
  have L := Az.mk (gr_refl w (some g))
  have hS := hc.below.size
  clear hc
  go_enter Try.func38, Try.ntmps38
  go_wp2_with (first | ((with_reducible refine gateN 2 rfl ?_); go_must (refine ev_al 2 rfl rfl #[.float .f32 0, .float .f32 0, .complex .f32 0 0] 28 ?hr ?_; (case hr => first | (go_simp; done) | (go_simp; rfl)); intro gR heR W1 hbR h; have hgR : w.heap.size ≤ gR := Nat.le_trans L.out.size heR; have hgRK := Nat.lt_of_lt_of_le (Cur.lt K.out) heR; clear heR; have h0 : World.grownBy w W1 none := (by refine World.grownBy.trans ?_ h; repeat (first | exact gr_refl _ _ | apply gr_drewN | apply gr_drew | apply gr_alloc)); have K_ := Az.mk (Cur.gr K.out h0 (by first | (simp; done) | (simp; omega) | omega) (by first | (simp; done) | (simp; omega) | omega)); have L_ := Az.mk (gr_new L.out h0 (by first | (simp; done) | (simp; omega) | omega)); clear K L; have K := K_; clear K_; have L := L_; clear L_; clear h0 h; have R := Az.mk hbR; clear hbR; have cR0 : World.cell? W1 ⟨gR, 0, none⟩ = some (.float .f32 0) := blkCell R.out 0; have cR1 : World.cell? W1 ⟨gR, 1, none⟩ = some (.float .f32 0) := blkCell R.out 1; have cR2 : World.cell? W1 ⟨gR, 2, none⟩ = some (.complex .f32 0 0) := blkCell R.out 2)) | ((with_reducible refine gateN 7 rfl ?_); go_must (refine ev_bs 7 rfl rfl #[.int .i64 1, .int .i64 2, .int .i64 4] 3 3 ?hr ?_; (case hr => first | (go_simp; done) | (go_simp; rfl)); intro gI heI W2 hbI h; have hgI : w.heap.size ≤ gI := Nat.le_trans L.out.size heI; have hgIK := Nat.lt_of_lt_of_le (Cur.lt K.out) heI; have hgIR : gR < gI := Nat.lt_of_lt_of_le (blkLt R.out) heI; clear heI; have h0 : World.grownBy W1 W2 none := (by refine World.grownBy.trans ?_ h; repeat (first | exact gr_refl _ _ | apply gr_drewN | apply gr_drew | apply gr_alloc)); clear cR0 cR1 cR2; have K_ := Az.mk (Cur.gr K.out h0 (by first | (simp; done) | (simp; omega) | omega) (by first | (simp; done) | (simp; omega) | omega)); have L_ := Az.mk (gr_new L.out h0 (by first | (simp; done) | (simp; omega) | omega)); have R_ := Az.mk (blkGr R.out h0 (by first | (simp; done) | (simp; omega) | omega)); clear K L R; have K := K_; clear K_; have L := L_; clear L_; have R := R_; clear R_; clear h0 h; have I := Az.mk hbI; clear hbI; have cR0 : World.cell? W2 ⟨gR, 0, none⟩ = some (.float .f32 0) := blkCell R.out 0; have cR1 : World.cell? W2 ⟨gR, 1, none⟩ = some (.float .f32 0) := blkCell R.out 1; have cR2 : World.cell? W2 ⟨gR, 2, none⟩ = some (.complex .f32 0 0) := blkCell R.out 2; have cI0 : World.cell? W2 ⟨gI, 0, none⟩ = some (.int .i64 1) := blkCell I.out 0; have cI1 : World.cell? W2 ⟨gI, 1, none⟩ = some (.int .i64 2) := blkCell I.out 1; have cI2 : World.cell? W2 ⟨gI, 2, none⟩ = some (.int .i64 4) := blkCell I.out 2)))
  have hpI : ∀ j, j < 3 → (W2).cell? ((⟨gI, 0, none⟩ : Addr).add j) = some (.int .i64 ([(1 : Int), 2, 4].getD j 0)) := fun j hj => by
    rw [addAt, Nat.zero_add, blkCell I.out j]
    match j, hj with
    | 0, _ => rfl
    | 1, _ => rfl
    | 2, _ => rfl
  have HI := Az.mk hpI
  clear hpI
  refine (l01PickInt_c w0 _ g ⟨gI, 0, none⟩ 3 3 [1, 2, 4] rfl (by omega) (by omega) HI.out (by simp; omega) (by first | exact K.out | exact K.out.alloc _ | exact K.out.drewN _ | exact (K.out.alloc _).alloc _)).mono ?_
  rintro e w1 ⟨a, ha, rfl, hK, h⟩
  have h0 : World.grownBy W2 w1 _ := (by refine World.grownBy.trans ?_ h; repeat (first | exact gr_refl _ _ | apply gr_drewN | apply gr_drew | apply gr_alloc))
  clear cR0 cR1 cR2 cI0 cI1 cI2
  have L_ := Az.mk (gr_new L.out h0 (by first | (simp; done) | (simp; omega) | omega))
  have R_ := Az.mk (blkGr R.out h0 (by first | (simp; done) | (simp; omega) | omega))
  have I_ := Az.mk (blkGr I.out h0 (by first | (simp; done) | (simp; omega) | omega))
  clear L R I
  have L := L_; clear L_
  have R := R_; clear R_
  have I := I_; clear I_
  clear h0 h
  clear K; have K := Az.mk hK; clear hK
  have cR0 : World.cell? w1 ⟨gR, 0, none⟩ = some (.float .f32 0) := blkCell R.out 0
  have cR1 : World.cell? w1 ⟨gR, 1, none⟩ = some (.float .f32 0) := blkCell R.out 1
  have cR2 : World.cell? w1 ⟨gR, 2, none⟩ = some (.complex .f32 0 0) := blkCell R.out 2
  have cI0 : World.cell? w1 ⟨gI, 0, none⟩ = some (.int .i64 1) := blkCell I.out 0
  have cI1 : World.cell? w1 ⟨gI, 1, none⟩ = some (.int .i64 2) := blkCell I.out 1
  have cI2 : World.cell? w1 ⟨gI, 2, none⟩ = some (.int .i64 4) := blkCell I.out 2
  have HA := Az.mk ha
  clear ha HI
  go_wp2_with (first | ((with_reducible refine gateN 10 rfl ?_); go_must (refine ev_fl 10 rfl rfl rfl rfl rfl rfl ?_; intro b10 W3 hb10 h; have HF10 := Az.mk hb10; clear hb10; have h0 : World.grownBy w1 W3 none := (by refine World.grownBy.trans ?_ h; repeat (first | exact gr_refl _ _ | apply gr_drewN | apply gr_drew | apply gr_alloc)); clear cR0 cR1 cR2 cI0 cI1 cI2; have K_ := Az.mk (Cur.gr K.out h0 (by first | (simp; done) | (simp; omega) | omega) (by first | (simp; done) | (simp; omega) | omega)); have L_ := Az.mk (gr_new L.out h0 (by first | (simp; done) | (simp; omega) | omega)); have R_ := Az.mk (blkGr R.out h0 (by first | (simp; done) | (simp; omega) | omega)); have I_ := Az.mk (blkGr I.out h0 (by first | (simp; done) | (simp; omega) | omega)); clear K L R I; have K := K_; clear K_; have L := L_; clear L_; have R := R_; clear R_; have I := I_; clear I_; clear h0 h; have cR0 : World.cell? W3 ⟨gR, 0, none⟩ = some (.float .f32 0) := blkCell R.out 0; have cR1 : World.cell? W3 ⟨gR, 1, none⟩ = some (.float .f32 0) := blkCell R.out 1; have cR2 : World.cell? W3 ⟨gR, 2, none⟩ = some (.complex .f32 0 0) := blkCell R.out 2; have cI0 : World.cell? W3 ⟨gI, 0, none⟩ = some (.int .i64 1) := blkCell I.out 0; have cI1 : World.cell? W3 ⟨gI, 1, none⟩ = some (.int .i64 2) := blkCell I.out 1; have cI2 : World.cell? W3 ⟨gI, 2, none⟩ = some (.int .i64 4) := blkCell I.out 2)) | ((with_reducible refine gateN 12 rfl ?_); go_must (refine ev_bs 12 rfl rfl #[.int .i64 1, .int .i64 2, .int .i64 (-1), .int .i64 (-2)] 3 4 ?hr ?_; (case hr => first | (go_simp; done) | (go_simp; rfl)); intro gJ heJ W4 hbJ h; have hgJ : w.heap.size ≤ gJ := Nat.le_trans L.out.size heJ; have hgJK := Nat.lt_of_lt_of_le (Cur.lt K.out) heJ; have hgJR : gR < gJ := Nat.lt_of_lt_of_le (blkLt R.out) heJ; have hgJI : gI < gJ := Nat.lt_of_lt_of_le (blkLt I.out) heJ; clear heJ; have h0 : World.grownBy W3 W4 none := (by refine World.grownBy.trans ?_ h; repeat (first | exact gr_refl _ _ | apply gr_drewN | apply gr_drew | apply gr_alloc)); clear cR0 cR1 cR2 cI0 cI1 cI2; have K_ := Az.mk (Cur.gr K.out h0 (by first | (simp; done) | (simp; omega) | omega) (by first | (simp; done) | (simp; omega) | omega)); have L_ := Az.mk (gr_new L.out h0 (by first | (simp; done) | (simp; omega) | omega)); have R_ := Az.mk (blkGr R.out h0 (by first | (simp; done) | (simp; omega) | omega)); have I_ := Az.mk (blkGr I.out h0 (by first | (simp; done) | (simp; omega) | omega)); clear K L R I; have K := K_; clear K_; have L := L_; clear L_; have R := R_; clear R_; have I := I_; clear I_; clear h0 h; have J := Az.mk hbJ; clear hbJ; have cR0 : World.cell? W4 ⟨gR, 0, none⟩ = some (.float .f32 0) := blkCell R.out 0; have cR1 : World.cell? W4 ⟨gR, 1, none⟩ = some (.float .f32 0) := blkCell R.out 1; have cR2 : World.cell? W4 ⟨gR, 2, none⟩ = some (.complex .f32 0 0) := blkCell R.out 2; have cI0 : World.cell? W4 ⟨gI, 0, none⟩ = some (.int .i64 1) := blkCell I.out 0; have cI1 : World.cell? W4 ⟨gI, 1, none⟩ = some (.int .i64 2) := blkCell I.out 1; have cI2 : World.cell? W4 ⟨gI, 2, none⟩ = some (.int .i64 4) := blkCell I.out 2; have cJ0 : World.cell? W4 ⟨gJ, 0, none⟩ = some (.int .i64 1) := blkCell J.out 0; have cJ1 : World.cell? W4 ⟨gJ, 1, none⟩ = some (.int .i64 2) := blkCell J.out 1; have cJ2 : World.cell? W4 ⟨gJ, 2, none⟩ = some (.int .i64 (-1)) := blkCell J.out 2; have cJ3 : World.cell? W4 ⟨gJ, 3, none⟩ = some (.int .i64 (-2)) := blkCell J.out 3)))
  have hpJ : ∀ j, j < 4 → (W4).cell? ((⟨gJ, 0, none⟩ : Addr).add j) = some (.int .i64 ([(1 : Int), 2, -1, -2].getD j 0)) := fun j hj => by
    rw [addAt, Nat.zero_add, blkCell J.out j]
    match j, hj with
    | 0, _ => rfl
    | 1, _ => rfl
    | 2, _ => rfl
    | 3, _ => rfl
  have HJ := Az.mk hpJ
  clear hpJ
  refine (l01PickInt_c w0 _ g ⟨gJ, 0, none⟩ 4 4 [1, 2, -1, -2] rfl (by omega) (by omega) HJ.out (by simp; omega) (by first | exact K.out | exact K.out.alloc _ | exact K.out.drewN _ | exact (K.out.alloc _).alloc _)).mono ?_
  rintro e w2 ⟨p, hp, rfl, hK, h⟩
  have h0 : World.grownBy W4 w2 _ := (by refine World.grownBy.trans ?_ h; repeat (first | exact gr_refl _ _ | apply gr_drewN | apply gr_drew | apply gr_alloc))
  clear cR0 cR1 cR2 cI0 cI1 cI2 cJ0 cJ1 cJ2 cJ3
  have L_ := Az.mk (gr_new L.out h0 (by first | (simp; done) | (simp; omega) | omega))
  have R_ := Az.mk (blkGr R.out h0 (by first | (simp; done) | (simp; omega) | omega))
  have I_ := Az.mk (blkGr I.out h0 (by first | (simp; done) | (simp; omega) | omega))
  have J_ := Az.mk (blkGr J.out h0 (by first | (simp; done) | (simp; omega) | omega))
  clear L R I J
  have L := L_; clear L_
  have R := R_; clear R_
  have I := I_; clear I_
  have J := J_; clear J_
  clear h0 h
  clear K; have K := Az.mk hK; clear hK
  have cR0 : World.cell? w2 ⟨gR, 0, none⟩ = some (.float .f32 0) := blkCell R.out 0
  have cR1 : World.cell? w2 ⟨gR, 1, none⟩ = some (.float .f32 0) := blkCell R.out 1
  have cR2 : World.cell? w2 ⟨gR, 2, none⟩ = some (.complex .f32 0 0) := blkCell R.out 2
  have cI0 : World.cell? w2 ⟨gI, 0, none⟩ = some (.int .i64 1) := blkCell I.out 0
  have cI1 : World.cell? w2 ⟨gI, 1, none⟩ = some (.int .i64 2) := blkCell I.out 1
  have cI2 : World.cell? w2 ⟨gI, 2, none⟩ = some (.int .i64 4) := blkCell I.out 2
  have cJ0 : World.cell? w2 ⟨gJ, 0, none⟩ = some (.int .i64 1) := blkCell J.out 0
  have cJ1 : World.cell? w2 ⟨gJ, 1, none⟩ = some (.int .i64 2) := blkCell J.out 1
  have cJ2 : World.cell? w2 ⟨gJ, 2, none⟩ = some (.int .i64 (-1)) := blkCell J.out 2
  have cJ3 : World.cell? w2 ⟨gJ, 3, none⟩ = some (.int .i64 (-2)) := blkCell J.out 3
  have HP := Az.mk hp
  clear hp HJ
  go_wp2_with (first | ((with_reducible refine gateN 15 rfl ?_); go_must (refine ev_fl 15 rfl rfl rfl rfl rfl rfl ?_; intro b15 W5 hb15 h; have HF15 := Az.mk hb15; clear hb15; have h0 : World.grownBy w2 W5 none := (by refine World.grownBy.trans ?_ h; repeat (first | exact gr_refl _ _ | apply gr_drewN | apply gr_drew | apply gr_alloc)); clear cR0 cR1 cR2 cI0 cI1 cI2 cJ0 cJ1 cJ2 cJ3; have K_ := Az.mk (Cur.gr K.out h0 (by first | (simp; done) | (simp; omega) | omega) (by first | (simp; done) | (simp; omega) | omega)); have L_ := Az.mk (gr_new L.out h0 (by first | (simp; done) | (simp; omega) | omega)); have R_ := Az.mk (blkGr R.out h0 (by first | (simp; done) | (simp; omega) | omega)); have I_ := Az.mk (blkGr I.out h0 (by first | (simp; done) | (simp; omega) | omega)); have J_ := Az.mk (blkGr J.out h0 (by first | (simp; done) | (simp; omega) | omega)); clear K L R I J; have K := K_; clear K_; have L := L_; clear L_; have R := R_; clear R_; have I := I_; clear I_; have J := J_; clear J_; clear h0 h; have cR0 : World.cell? W5 ⟨gR, 0, none⟩ = some (.float .f32 0) := blkCell R.out 0; have cR1 : World.cell? W5 ⟨gR, 1, none⟩ = some (.float .f32 0) := blkCell R.out 1; have cR2 : World.cell? W5 ⟨gR, 2, none⟩ = some (.complex .f32 0 0) := blkCell R.out 2; have cI0 : World.cell? W5 ⟨gI, 0, none⟩ = some (.int .i64 1) := blkCell I.out 0; have cI1 : World.cell? W5 ⟨gI, 1, none⟩ = some (.int .i64 2) := blkCell I.out 1; have cI2 : World.cell? W5 ⟨gI, 2, none⟩ = some (.int .i64 4) := blkCell I.out 2; have cJ0 : World.cell? W5 ⟨gJ, 0, none⟩ = some (.int .i64 1) := blkCell J.out 0; have cJ1 : World.cell? W5 ⟨gJ, 1, none⟩ = some (.int .i64 2) := blkCell J.out 1; have cJ2 : World.cell? W5 ⟨gJ, 2, none⟩ = some (.int .i64 (-1)) := blkCell J.out 2; have cJ3 : World.cell? W5 ⟨gJ, 3, none⟩ = some (.int .i64 (-2)) := blkCell J.out 3)))
  refine (l01Below_c w0 _ g _ (by omega) (by omega) (by first | exact K.out | exact K.out.alloc _ | exact K.out.drewN _ | exact (K.out.alloc _).alloc _)).mono ?_
  rintro e w3 ⟨q, h0q, h1q, rfl, hK, h⟩
  have h0 : World.grownBy W5 w3 _ := (by refine World.grownBy.trans ?_ h; repeat (first | exact gr_refl _ _ | apply gr_drewN | apply gr_drew | apply gr_alloc))
  clear cR0 cR1 cR2 cI0 cI1 cI2 cJ0 cJ1 cJ2 cJ3
  have L_ := Az.mk (gr_new L.out h0 (by first | (simp; done) | (simp; omega) | omega))
  have R_ := Az.mk (blkGr R.out h0 (by first | (simp; done) | (simp; omega) | omega))
  have I_ := Az.mk (blkGr I.out h0 (by first | (simp; done) | (simp; omega) | omega))
  have J_ := Az.mk (blkGr J.out h0 (by first | (simp; done) | (simp; omega) | omega))
  clear L R I J
  have L := L_; clear L_
  have R := R_; clear R_
  have I := I_; clear I_
  have J := J_; clear J_
  clear h0 h
  clear K; have K := Az.mk hK; clear hK
  have cR0 : World.cell? w3 ⟨gR, 0, none⟩ = some (.float .f32 0) := blkCell R.out 0
  have cR1 : World.cell? w3 ⟨gR, 1, none⟩ = some (.float .f32 0) := blkCell R.out 1
  have cR2 : World.cell? w3 ⟨gR, 2, none⟩ = some (.complex .f32 0 0) := blkCell R.out 2
  have cI0 : World.cell? w3 ⟨gI, 0, none⟩ = some (.int .i64 1) := blkCell I.out 0
  have cI1 : World.cell? w3 ⟨gI, 1, none⟩ = some (.int .i64 2) := blkCell I.out 1
  have cI2 : World.cell? w3 ⟨gI, 2, none⟩ = some (.int .i64 4) := blkCell I.out 2
  have cJ0 : World.cell? w3 ⟨gJ, 0, none⟩ = some (.int .i64 1) := blkCell J.out 0
  have cJ1 : World.cell? w3 ⟨gJ, 1, none⟩ = some (.int .i64 2) := blkCell J.out 1
  have cJ2 : World.cell? w3 ⟨gJ, 2, none⟩ = some (.int .i64 (-1)) := blkCell J.out 2
  have cJ3 : World.cell? w3 ⟨gJ, 3, none⟩ = some (.int .i64 (-2)) := blkCell J.out 3
  go_wp2_with (first | ((with_reducible refine gateN 20 rfl ?_); go_must (refine ev_fl 20 rfl rfl rfl rfl rfl rfl ?_; intro b20 W6 hb20 h; have HF20 := Az.mk hb20; clear hb20; have h0 : World.grownBy w3 W6 none := (by refine World.grownBy.trans ?_ h; repeat (first | exact gr_refl _ _ | apply gr_drewN | apply gr_drew | apply gr_alloc)); clear cR0 cR1 cR2 cI0 cI1 cI2 cJ0 cJ1 cJ2 cJ3; have K_ := Az.mk (Cur.gr K.out h0 (by first | (simp; done) | (simp; omega) | omega) (by first | (simp; done) | (simp; omega) | omega)); have L_ := Az.mk (gr_new L.out h0 (by first | (simp; done) | (simp; omega) | omega)); have R_ := Az.mk (blkGr R.out h0 (by first | (simp; done) | (simp; omega) | omega)); have I_ := Az.mk (blkGr I.out h0 (by first | (simp; done) | (simp; omega) | omega)); have J_ := Az.mk (blkGr J.out h0 (by first | (simp; done) | (simp; omega) | omega)); clear K L R I J; have K := K_; clear K_; have L := L_; clear L_; have R := R_; clear R_; have I := I_; clear I_; have J := J_; clear J_; clear h0 h; have cR0 : World.cell? W6 ⟨gR, 0, none⟩ = some (.float .f32 0) := blkCell R.out 0; have cR1 : World.cell? W6 ⟨gR, 1, none⟩ = some (.float .f32 0) := blkCell R.out 1; have cR2 : World.cell? W6 ⟨gR, 2, none⟩ = some (.complex .f32 0 0) := blkCell R.out 2; have cI0 : World.cell? W6 ⟨gI, 0, none⟩ = some (.int .i64 1) := blkCell I.out 0; have cI1 : World.cell? W6 ⟨gI, 1, none⟩ = some (.int .i64 2) := blkCell I.out 1; have cI2 : World.cell? W6 ⟨gI, 2, none⟩ = some (.int .i64 4) := blkCell I.out 2; have cJ0 : World.cell? W6 ⟨gJ, 0, none⟩ = some (.int .i64 1) := blkCell J.out 0; have cJ1 : World.cell? W6 ⟨gJ, 1, none⟩ = some (.int .i64 2) := blkCell J.out 1; have cJ2 : World.cell? W6 ⟨gJ, 2, none⟩ = some (.int .i64 (-1)) := blkCell J.out 2; have cJ3 : World.cell? W6 ⟨gJ, 3, none⟩ = some (.int .i64 (-2)) := blkCell J.out 3)))
  refine (l01Below_c w0 _ g _ (by omega) (by omega) (by first | exact K.out | exact K.out.alloc _ | exact K.out.drewN _ | exact (K.out.alloc _).alloc _)).mono ?_
  rintro e w4 ⟨o, h0o, h1o, rfl, hK, h⟩
  have h0 : World.grownBy W6 w4 _ := (by refine World.grownBy.trans ?_ h; repeat (first | exact gr_refl _ _ | apply gr_drewN | apply gr_drew | apply gr_alloc))
  clear cR0 cR1 cR2 cI0 cI1 cI2 cJ0 cJ1 cJ2 cJ3
  have L_ := Az.mk (gr_new L.out h0 (by first | (simp; done) | (simp; omega) | omega))
  have R_ := Az.mk (blkGr R.out h0 (by first | (simp; done) | (simp; omega) | omega))
  have I_ := Az.mk (blkGr I.out h0 (by first | (simp; done) | (simp; omega) | omega))
  have J_ := Az.mk (blkGr J.out h0 (by first | (simp; done) | (simp; omega) | omega))
  clear L R I J
  have L := L_; clear L_
  have R := R_; clear R_
  have I := I_; clear I_
  have J := J_; clear J_
  clear h0 h
  clear K; have K := Az.mk hK; clear hK
  have cR0 : World.cell? w4 ⟨gR, 0, none⟩ = some (.float .f32 0) := blkCell R.out 0
  have cR1 : World.cell? w4 ⟨gR, 1, none⟩ = some (.float .f32 0) := blkCell R.out 1
  have cR2 : World.cell? w4 ⟨gR, 2, none⟩ = some (.complex .f32 0 0) := blkCell R.out 2
  have cI0 : World.cell? w4 ⟨gI, 0, none⟩ = some (.int .i64 1) := blkCell I.out 0
  have cI1 : World.cell? w4 ⟨gI, 1, none⟩ = some (.int .i64 2) := blkCell I.out 1
  have cI2 : World.cell? w4 ⟨gI, 2, none⟩ = some (.int .i64 4) := blkCell I.out 2
  have cJ0 : World.cell? w4 ⟨gJ, 0, none⟩ = some (.int .i64 1) := blkCell J.out 0
  have cJ1 : World.cell? w4 ⟨gJ, 1, none⟩ = some (.int .i64 2) := blkCell J.out 1
  have cJ2 : World.cell? w4 ⟨gJ, 2, none⟩ = some (.int .i64 (-1)) := blkCell J.out 2
  have cJ3 : World.cell? w4 ⟨gJ, 3, none⟩ = some (.int .i64 (-2)) := blkCell J.out 3
  go_wp2_with (first | ((with_reducible refine gateN 26 rfl ?_); go_must (refine ev_fl 26 rfl rfl rfl rfl rfl rfl ?_; intro b26 W7 hb26 h; have HF26 := Az.mk hb26; clear hb26; have h0 : World.grownBy w4 W7 none := (by refine World.grownBy.trans ?_ h; repeat (first | exact gr_refl _ _ | apply gr_drewN | apply gr_drew | apply gr_alloc)); clear cR0 cR1 cR2 cI0 cI1 cI2 cJ0 cJ1 cJ2 cJ3; have K_ := Az.mk (Cur.gr K.out h0 (by first | (simp; done) | (simp; omega) | omega) (by first | (simp; done) | (simp; omega) | omega)); have L_ := Az.mk (gr_new L.out h0 (by first | (simp; done) | (simp; omega) | omega)); have R_ := Az.mk (blkGr R.out h0 (by first | (simp; done) | (simp; omega) | omega)); have I_ := Az.mk (blkGr I.out h0 (by first | (simp; done) | (simp; omega) | omega)); have J_ := Az.mk (blkGr J.out h0 (by first | (simp; done) | (simp; omega) | omega)); clear K L R I J; have K := K_; clear K_; have L := L_; clear L_; have R := R_; clear R_; have I := I_; clear I_; have J := J_; clear J_; clear h0 h; have cR0 : World.cell? W7 ⟨gR, 0, none⟩ = some (.float .f32 0) := blkCell R.out 0; have cR1 : World.cell? W7 ⟨gR, 1, none⟩ = some (.float .f32 0) := blkCell R.out 1; have cR2 : World.cell? W7 ⟨gR, 2, none⟩ = some (.complex .f32 0 0) := blkCell R.out 2; have cI0 : World.cell? W7 ⟨gI, 0, none⟩ = some (.int .i64 1) := blkCell I.out 0; have cI1 : World.cell? W7 ⟨gI, 1, none⟩ = some (.int .i64 2) := blkCell I.out 1; have cI2 : World.cell? W7 ⟨gI, 2, none⟩ = some (.int .i64 4) := blkCell I.out 2; have cJ0 : World.cell? W7 ⟨gJ, 0, none⟩ = some (.int .i64 1) := blkCell J.out 0; have cJ1 : World.cell? W7 ⟨gJ, 1, none⟩ = some (.int .i64 2) := blkCell J.out 1; have cJ2 : World.cell? W7 ⟨gJ, 2, none⟩ = some (.int .i64 (-1)) := blkCell J.out 2; have cJ3 : World.cell? W7 ⟨gJ, 3, none⟩ = some (.int .i64 (-2)) := blkCell J.out 3)) | ((with_reducible refine gateN 29 rfl ?_); go_must (refine ev_fl 29 rfl rfl rfl rfl rfl rfl ?_; intro b29 W8 hb29 h; have HF29 := Az.mk hb29; clear hb29; have h0 : World.grownBy W7 W8 none := (by refine World.grownBy.trans ?_ h; repeat (first | exact gr_refl _ _ | apply gr_drewN | apply gr_drew | apply gr_alloc)); clear cR0 cR1 cR2 cI0 cI1 cI2 cJ0 cJ1 cJ2 cJ3; have K_ := Az.mk (Cur.gr K.out h0 (by first | (simp; done) | (simp; omega) | omega) (by first | (simp; done) | (simp; omega) | omega)); have L_ := Az.mk (gr_new L.out h0 (by first | (simp; done) | (simp; omega) | omega)); have R_ := Az.mk (blkGr R.out h0 (by first | (simp; done) | (simp; omega) | omega)); have I_ := Az.mk (blkGr I.out h0 (by first | (simp; done) | (simp; omega) | omega)); have J_ := Az.mk (blkGr J.out h0 (by first | (simp; done) | (simp; omega) | omega)); clear K L R I J; have K := K_; clear K_; have L := L_; clear L_; have R := R_; clear R_; have I := I_; clear I_; have J := J_; clear J_; clear h0 h; have cR0 : World.cell? W8 ⟨gR, 0, none⟩ = some (.float .f32 0) := blkCell R.out 0; have cR1 : World.cell? W8 ⟨gR, 1, none⟩ = some (.float .f32 0) := blkCell R.out 1; have cR2 : World.cell? W8 ⟨gR, 2, none⟩ = some (.complex .f32 0 0) := blkCell R.out 2; have cI0 : World.cell? W8 ⟨gI, 0, none⟩ = some (.int .i64 1) := blkCell I.out 0; have cI1 : World.cell? W8 ⟨gI, 1, none⟩ = some (.int .i64 2) := blkCell I.out 1; have cI2 : World.cell? W8 ⟨gI, 2, none⟩ = some (.int .i64 4) := blkCell I.out 2; have cJ0 : World.cell? W8 ⟨gJ, 0, none⟩ = some (.int .i64 1) := blkCell J.out 0; have cJ1 : World.cell? W8 ⟨gJ, 1, none⟩ = some (.int .i64 2) := blkCell J.out 1; have cJ2 : World.cell? W8 ⟨gJ, 2, none⟩ = some (.int .i64 (-1)) := blkCell J.out 2; have cJ3 : World.cell? W8 ⟨gJ, 3, none⟩ = some (.int .i64 (-2)) := blkCell J.out 3)) | ((with_reducible refine gateN 32 rfl ?_); go_must (refine ev_fl 32 rfl rfl rfl rfl rfl rfl ?_; intro b32 W9 hb32 h; have HF32 := Az.mk hb32; clear hb32; have h0 : World.grownBy W8 W9 none := (by refine World.grownBy.trans ?_ h; repeat (first | exact gr_refl _ _ | apply gr_drewN | apply gr_drew | apply gr_alloc)); clear cR0 cR1 cR2 cI0 cI1 cI2 cJ0 cJ1 cJ2 cJ3; have K_ := Az.mk (Cur.gr K.out h0 (by first | (simp; done) | (simp; omega) | omega) (by first | (simp; done) | (simp; omega) | omega)); have L_ := Az.mk (gr_new L.out h0 (by first | (simp; done) | (simp; omega) | omega)); have R_ := Az.mk (blkGr R.out h0 (by first | (simp; done) | (simp; omega) | omega)); have I_ := Az.mk (blkGr I.out h0 (by first | (simp; done) | (simp; omega) | omega)); have J_ := Az.mk (blkGr J.out h0 (by first | (simp; done) | (simp; omega) | omega)); clear K L R I J; have K := K_; clear K_; have L := L_; clear L_; have R := R_; clear R_; have I := I_; clear I_; have J := J_; clear J_; clear h0 h; have cR0 : World.cell? W9 ⟨gR, 0, none⟩ = some (.float .f32 0) := blkCell R.out 0; have cR1 : World.cell? W9 ⟨gR, 1, none⟩ = some (.float .f32 0) := blkCell R.out 1; have cR2 : World.cell? W9 ⟨gR, 2, none⟩ = some (.complex .f32 0 0) := blkCell R.out 2; have cI0 : World.cell? W9 ⟨gI, 0, none⟩ = some (.int .i64 1) := blkCell I.out 0; have cI1 : World.cell? W9 ⟨gI, 1, none⟩ = some (.int .i64 2) := blkCell I.out 1; have cI2 : World.cell? W9 ⟨gI, 2, none⟩ = some (.int .i64 4) := blkCell I.out 2; have cJ0 : World.cell? W9 ⟨gJ, 0, none⟩ = some (.int .i64 1) := blkCell J.out 0; have cJ1 : World.cell? W9 ⟨gJ, 1, none⟩ = some (.int .i64 2) := blkCell J.out 1; have cJ2 : World.cell? W9 ⟨gJ, 2, none⟩ = some (.int .i64 (-1)) := blkCell J.out 2; have cJ3 : World.cell? W9 ⟨gJ, 3, none⟩ = some (.int .i64 (-2)) := blkCell J.out 3)) | ((with_reducible refine gateSt 2 rfl ?_); go_must (refine ev_st rfl rfl rfl (cs := #[.float .f32 b10, .float .f32 b26, .complex .f32 b29 b32]) rfl rfl R.out (by kernel_rfl) rfl (by simp [Value.oneCell']) ?_; intro W10 hbR h; have h0 : World.grownBy W9 W10 (some gR) := (by refine World.grownBy.trans ?_ h; repeat (first | exact gr_refl _ _ | apply gr_drewN | apply gr_drew | apply gr_alloc)); clear cR0 cR1 cR2 cI0 cI1 cI2 cJ0 cJ1 cJ2 cJ3; have K_ := Az.mk (Cur.gr K.out h0 (by first | (simp; done) | (simp; omega) | omega) (by first | (simp; done) | (simp; omega) | omega)); have L_ := Az.mk (gr_new L.out h0 (by first | (simp; done) | (simp; omega) | omega)); have I_ := Az.mk (blkGr I.out h0 (by first | (simp; done) | (simp; omega) | omega)); have J_ := Az.mk (blkGr J.out h0 (by first | (simp; done) | (simp; omega) | omega)); clear K L I J; have K := K_; clear K_; have L := L_; clear L_; have I := I_; clear I_; have J := J_; clear J_; clear h0 h; clear R; have R := Az.mk hbR; clear hbR; have cR0 : World.cell? W10 ⟨gR, 0, none⟩ = some (.float .f32 b10) := blkCell R.out 0; have cR1 : World.cell? W10 ⟨gR, 1, none⟩ = some (.float .f32 b26) := blkCell R.out 1; have cR2 : World.cell? W10 ⟨gR, 2, none⟩ = some (.complex .f32 b29 b32) := blkCell R.out 2; have cI0 : World.cell? W10 ⟨gI, 0, none⟩ = some (.int .i64 1) := blkCell I.out 0; have cI1 : World.cell? W10 ⟨gI, 1, none⟩ = some (.int .i64 2) := blkCell I.out 1; have cI2 : World.cell? W10 ⟨gI, 2, none⟩ = some (.int .i64 4) := blkCell I.out 2; have cJ0 : World.cell? W10 ⟨gJ, 0, none⟩ = some (.int .i64 1) := blkCell J.out 0; have cJ1 : World.cell? W10 ⟨gJ, 1, none⟩ = some (.int .i64 2) := blkCell J.out 1; have cJ2 : World.cell? W10 ⟨gJ, 2, none⟩ = some (.int .i64 (-1)) := blkCell J.out 2; have cJ3 : World.cell? W10 ⟨gJ, 3, none⟩ = some (.int .i64 (-2)) := blkCell J.out 3)))
  have ha3 : a = 1 ∨ a = 2 ∨ a = 4 := by simpa using HA.out
  have hp3 : p = 1 ∨ p = 2 ∨ p = -1 ∨ p = -2 := by simpa using HP.out
  have qa := half (n := a) (by omega) (by omega) HF10.out
  have qp := half (n := p) (by omega) (by omega) HF15.out
  have qq : Q (fN .f32 b20) ((q - 4) * 1024) := quart (by omega) (by omega) HF20.out
  refine bodyPost_ret (results_c rfl _ _ gR 28 #[.float .f32 b10, .float .f32 b26, .complex .f32 b29 b32] _ rfl R.out Try.underlying28 rfl (by kernel_rfl)) rfl ⟨b10, b26, b29, b32, ⟨a, o - 32, p, q - 4, ha3, by omega, by omega, hp3, by omega, by omega, qa, eighth (by omega) (by omega) HF26.out, ?_, ?_⟩, rfl, K.out, L.out⟩
  · rw [HF29.out]
    exact Q_mul qa qp (by grind) (by rcases ha3 with rfl | rfl | rfl <;> omega) (by rcases ha3 with rfl | rfl | rfl <;> omega)
  · rw [HF32.out]
    exact Q_mul qa qq (by grind) (by rcases ha3 with rfl | rfl | rfl <;> omega) (by rcases ha3 with rfl | rfl | rfl <;> omega)

def RetDL (w : World) (e : Ending) (w' : World) : Prop := ∃ v wd h rows A O x y, 1 ≤ wd ∧ wd ≤ 4 ∧ 4 ≤ h ∧ h ≤ 8 ∧ h % 4 = 0 ∧ e = .returned (.tuple #[v, .agg #[.float .f32 A, .float .f32 O, .complex .f32 x y]]) ∧ Pic w' w.heap.size v wd h rows ∧ Link wd rows ∧ LinkCh A O x y ∧ w.grownBy w' none
set_option maxHeartbeats 2000000 in
theorem DrawLink_c (w0 w : World) (A : Option Addr) (n c : Nat) (hrd : BytesRd w0 A n) (hnc : n ≤ c) (hB : Below w0.heap.size w0 w) : Calls Try.prog 9 #[.slice A n c] w (RetDL w) := by
  have L := Az.mk (gr_refl w none)
  have HR := Az.mk hrd
  have HB := Az.mk hB
  have hS := hB.size
  clear hrd hB
  go_enter Try.func9, Try.ntmps9
  go_wp2_with (first | ((with_reducible refine gateN 3 rfl ?_); go_must (refine ev_al 3 rfl rfl #[.float .f32 0, .float .f32 0, .complex .f32 0 0] 28 ?hr ?_; (case hr => first | (go_simp; done) | (go_simp; rfl)); intro gR heR W1 hbR h; have hgR : w.heap.size ≤ gR := Nat.le_trans L.out.size heR; clear heR; have h0 : World.grownBy w W1 none := (by refine World.grownBy.trans ?_ h; repeat (first | exact gr_refl _ _ | apply gr_drewN | apply gr_drew | apply gr_alloc)); have L_ := Az.mk (gr_new L.out h0 (by first | (simp; done) | (simp; omega) | omega)); clear L; have L := L_; clear L_; clear h0 h; have R := Az.mk hbR; clear hbR; have cR0 : World.cell? W1 ⟨gR, 0, none⟩ = some (.float .f32 0) := blkCell R.out 0; have cR1 : World.cell? W1 ⟨gR, 1, none⟩ = some (.float .f32 0) := blkCell R.out 1; have cR2 : World.cell? W1 ⟨gR, 2, none⟩ = some (.complex .f32 0 0) := blkCell R.out 2)))
  have hRl := blkLt R.out
  refine (l01New_c w0 _ A n c HR.out hnc (below_gr HB.out L.out (by omega) (by simp))).mono ?_
  rintro e w1 ⟨g, rfl, hK, hgw, h⟩
  have h0 : World.grownBy W1 w1 _ := (by refine World.grownBy.trans ?_ h; repeat (first | exact gr_refl _ _ | apply gr_drewN | apply gr_drew | apply gr_alloc))
  clear cR0 cR1 cR2
  have L_ := Az.mk (gr_new L.out h0 (by first | (simp; done) | (simp; omega) | omega))
  have R_ := Az.mk (blkGr R.out h0 (by first | (simp; done) | (simp; omega) | omega))
  clear L R
  have L := L_; clear L_
  have R := R_; clear R_
  clear h0 h
  have K := Az.mk hK; clear hK
  have cR0 : World.cell? w1 ⟨gR, 0, none⟩ = some (.float .f32 0) := blkCell R.out 0
  have cR1 : World.cell? w1 ⟨gR, 1, none⟩ = some (.float .f32 0) := blkCell R.out 1
  have cR2 : World.cell? w1 ⟨gR, 2, none⟩ = some (.complex .f32 0 0) := blkCell R.out 2
  have hgR2 : gR < g := Nat.lt_of_lt_of_le hRl hgw
  have hw1 := L.out.size
  go_wp2_with fail
  refine (l08Picture_c w0 _ g (by first | exact K.out | exact K.out.alloc _ | exact K.out.drewN _ | exact (K.out.alloc _).alloc _)).mono ?_
  rintro e w2 ⟨v, wd, hh, rows, hw1', hw2, hh1, hh2, hh3, rfl, ⟨hrl, vs, ho, hp⟩, hlk, hK, h⟩
  have h0 : World.grownBy w1 w2 _ := (by refine World.grownBy.trans ?_ h; repeat (first | exact gr_refl _ _ | apply gr_drewN | apply gr_drew | apply gr_alloc))
  clear cR0 cR1 cR2
  have L_ := Az.mk (gr_new L.out h0 (by first | (simp; done) | (simp; omega) | omega))
  have R_ := Az.mk (blkGr R.out h0 (by first | (simp; done) | (simp; omega) | omega))
  clear L R
  have L := L_; clear L_
  have R := R_; clear R_
  clear h0 h
  clear K; have K := Az.mk hK; clear hK
  have cR0 : World.cell? w2 ⟨gR, 0, none⟩ = some (.float .f32 0) := blkCell R.out 0
  have cR1 : World.cell? w2 ⟨gR, 1, none⟩ = some (.float .f32 0) := blkCell R.out 1
  have cR2 : World.cell? w2 ⟨gR, 2, none⟩ = some (.complex .f32 0 0) := blkCell R.out 2
  have HRL := Az.mk hrl
  have HLK := Az.mk hlk
  have O := Az.mk (own_weak ho hw1)
  have P := Az.mk (hp.weak hw1)
  clear hrl ho hp hlk
  go_wp2_with fail
  refine (l08Channel_c w0 _ g (by first | exact K.out | exact K.out.alloc _ | exact K.out.drewN _ | exact (K.out.alloc _).alloc _)).mono ?_
  rintro e w3 ⟨A4, o4, x4, y4, hch, rfl, hK, h⟩
  have h0 : World.grownBy w2 w3 _ := (by refine World.grownBy.trans ?_ h; repeat (first | exact gr_refl _ _ | apply gr_drewN | apply gr_drew | apply gr_alloc))
  clear cR0 cR1 cR2
  have L_ := Az.mk (gr_new L.out h0 (by first | (simp; done) | (simp; omega) | omega))
  have R_ := Az.mk (blkGr R.out h0 (by first | (simp; done) | (simp; omega) | omega))
  have O_ := Az.mk (own_gr O.out h0 (by first | exact own_none _ | exact .inr hl?O.out | exact .inr (own_blk O.out R.out (by decide)) | exact .inr (own_cur O.out K.out (by decide))))
  have P_ := Az.mk (PicR_gr P.out h0 (by first | exact fun r hr => own_none _ | exact hl?P.out | exact PicR_blk P.out R.out (by decide) | exact PicR_cur P.out K.out | exact PicR_own P.out O.out (by decide) | exact PicR_low HLow.out O.out))
  clear L R O P
  have L := L_; clear L_
  have R := R_; clear R_
  have O := O_; clear O_
  have P := P_; clear P_
  clear h0 h
  clear K; have K := Az.mk hK; clear hK
  have cR0 : World.cell? w3 ⟨gR, 0, none⟩ = some (.float .f32 0) := blkCell R.out 0
  have cR1 : World.cell? w3 ⟨gR, 1, none⟩ = some (.float .f32 0) := blkCell R.out 1
  have cR2 : World.cell? w3 ⟨gR, 2, none⟩ = some (.complex .f32 0 0) := blkCell R.out 2
  have HCH := Az.mk hch
  clear hch
  go_wp2_with (first | ((with_reducible refine gateSt 3 rfl ?_); go_must (refine ev_st rfl rfl rfl (cs := #[.float .f32 A4, .float .f32 o4, .complex .f32 x4 y4]) rfl rfl R.out (by kernel_rfl) rfl (by simp [Value.oneCell']) ?_; intro W2 hbR h; have h0 : World.grownBy w3 W2 (some gR) := (by refine World.grownBy.trans ?_ h; repeat (first | exact gr_refl _ _ | apply gr_drewN | apply gr_drew | apply gr_alloc)); clear cR0 cR1 cR2; have L_ := Az.mk (gr_new L.out h0 (by first | (simp; done) | (simp; omega) | omega)); have K_ := Az.mk (Cur.gr K.out h0 (by first | (simp; done) | (simp; omega) | omega) (by first | (simp; done) | (simp; omega) | omega)); have O_ := Az.mk (own_gr O.out h0 (by first | exact own_none _ | exact .inr hlRO.out | exact .inr (own_blk O.out R.out (by decide)) | exact .inr (own_cur O.out K.out (by decide)))); have P_ := Az.mk (PicR_gr P.out h0 (by first | exact fun r hr => own_none _ | exact hlRP.out | exact PicR_blk P.out R.out (by decide) | exact PicR_cur P.out K.out | exact PicR_own P.out O.out (by decide) | exact PicR_low HLow.out O.out)); clear L K O P; have L := L_; clear L_; have K := K_; clear K_; have O := O_; clear O_; have P := P_; clear P_; clear h0 h; clear R; have R := Az.mk hbR; clear hbR; have cR0 : World.cell? W2 ⟨gR, 0, none⟩ = some (.float .f32 A4) := blkCell R.out 0; have cR1 : World.cell? W2 ⟨gR, 1, none⟩ = some (.float .f32 o4) := blkCell R.out 1; have cR2 : World.cell? W2 ⟨gR, 2, none⟩ = some (.complex .f32 x4 y4) := blkCell R.out 2)))
  refine bodyPost_ret (results_tc (u := 2) (p := 3) rfl _ _ gR 28 #[.float .f32 A4, .float .f32 o4, .complex .f32 x4 y4] _ rfl R.out Try.underlying28 rfl (by kernel_rfl)) rfl ⟨v, wd, hh, rows, A4, o4, x4, y4, by omega, by omega, by omega, by omega, by omega, rfl, ⟨HRL.out, vs, O.out, P.out⟩, HLK.out, HCH.out, L.out⟩
end Go.Proofs.Ytjomilloilbcgaa
