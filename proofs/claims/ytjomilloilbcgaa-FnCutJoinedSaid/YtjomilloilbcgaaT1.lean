/- Contracts of laws.big, spec.DrawTimes, DrawPlainChannel. No condition. -/
import Derived.Test.YtjomilloilbcgaaC3
import Derived.Test.YtjomilloilbcgaaD6
namespace Go.Proofs.Ytjomilloilbcgaa
open Go.RowKit
set_option linter.unusedVariables false
set_option linter.unusedSimpArgs false

theorem big_c (A : Option Addr) (n c : Nat) (hn : n ≤ 9223372036854775807) (w : World) : Calls Try.prog 8 #[.slice A n c] w (RetBo w (decide (1048576 < n))) := by
  have L := Az.mk (gr_refl w none)
  go_enter Try.func8, Try.ntmps8
  go_wp2
  go_ret
  exact ⟨by congr 2; simp; omega, L.out⟩

def RetPair (w : World) (e : Ending) (w' : World) : Prop := ∃ a b x y, e = .returned (.tuple #[.complex .f32 a b, .complex .f32 x y]) ∧ w.grownBy w' none
set_option maxHeartbeats 1000000 in
theorem DrawTimes_c (w0 w : World) (A : Option Addr) (n c : Nat) (hrd : BytesRd w0 A n) (hnc : n ≤ c) (hB : Below w0.heap.size w0 w) : Calls Try.prog 15 #[.slice A n c] w (RetPair w) := by
  have L := Az.mk (gr_refl w none)
  have HR := Az.mk hrd
  have HB := Az.mk hB
  have hS := hB.size
  clear hrd hB
  go_enter Try.func15, Try.ntmps15
  go_wp2_with fail
  refine (l01New_c w0 _ A n c HR.out hnc HB.out).mono ?_
  rintro e w1 ⟨g, rfl, hK, hgw, h⟩
  have h0 : World.grownBy w w1 _ := (by refine World.grownBy.trans ?_ h; repeat (first | exact gr_refl _ _ | apply gr_drewN | apply gr_drew | apply gr_alloc))
  have L_ := Az.mk (gr_new L.out h0 (by first | (simp; done) | (simp; omega) | omega))
  clear L
  have L := L_; clear L_
  clear h0 h
  have K := Az.mk hK; clear hK
  go_wp2_with fail
  refine (l02Cell_c w0 _ g (by first | exact K.out | exact K.out.alloc _ | exact K.out.drewN _ | exact (K.out.alloc _).alloc _)).mono ?_
  rintro e w2 ⟨y1, u1, v1, rfl, hK, h⟩
  have h0 : World.grownBy w1 w2 _ := (by refine World.grownBy.trans ?_ h; repeat (first | exact gr_refl _ _ | apply gr_drewN | apply gr_drew | apply gr_alloc))
  have L_ := Az.mk (gr_new L.out h0 (by first | (simp; done) | (simp; omega) | omega))
  clear L
  have L := L_; clear L_
  clear h0 h
  clear K; have K := Az.mk hK; clear hK
  go_wp2_with (first | ((with_reducible refine gateN 5 rfl ?_); go_must (refine ev_al 5 rfl rfl #[.float .f32 0, .complex .f32 0 0] 49 ?hr ?_; (case hr => first | (go_simp; done) | (go_simp; rfl)); intro gB heB W1 hbB h; have hgB : w.heap.size ≤ gB := Nat.le_trans L.out.size heB; have hgBK := Nat.lt_of_lt_of_le (Cur.lt K.out) heB; clear heB; have h0 : World.grownBy w2 W1 none := (by refine World.grownBy.trans ?_ h; repeat (first | exact gr_refl _ _ | apply gr_drewN | apply gr_drew | apply gr_alloc)); have L_ := Az.mk (gr_new L.out h0 (by first | (simp; done) | (simp; omega) | omega)); have K_ := Az.mk (Cur.gr K.out h0 (by first | (simp; done) | (simp; omega) | omega) (by first | (simp; done) | (simp; omega) | omega)); clear L K; have L := L_; clear L_; have K := K_; clear K_; clear h0 h; have B := Az.mk hbB; clear hbB; have cB0 : World.cell? W1 ⟨gB, 0, none⟩ = some (.float .f32 0) := blkCell B.out 0; have cB1 : World.cell? W1 ⟨gB, 1, none⟩ = some (.complex .f32 0 0) := blkCell B.out 1)) | ((with_reducible refine gateSt 5 rfl ?_); go_must (refine ev_st rfl rfl rfl (cs := #[.float .f32 y1, .complex .f32 u1 v1]) rfl rfl B.out (by kernel_rfl) rfl (by simp [Value.oneCell']) ?_; intro W2 hbB h; have h0 : World.grownBy W1 W2 (some gB) := (by refine World.grownBy.trans ?_ h; repeat (first | exact gr_refl _ _ | apply gr_drewN | apply gr_drew | apply gr_alloc)); clear cB0 cB1; have L_ := Az.mk (gr_new L.out h0 (by first | (simp; done) | (simp; omega) | omega)); have K_ := Az.mk (Cur.gr K.out h0 (by first | (simp; done) | (simp; omega) | omega) (by first | (simp; done) | (simp; omega) | omega)); clear L K; have L := L_; clear L_; have K := K_; clear K_; clear h0 h; clear B; have B := Az.mk hbB; clear hbB; have cB0 : World.cell? W2 ⟨gB, 0, none⟩ = some (.float .f32 y1) := blkCell B.out 0; have cB1 : World.cell? W2 ⟨gB, 1, none⟩ = some (.complex .f32 u1 v1) := blkCell B.out 1)))
  refine (l05Any_c w0 _ g (by first | exact K.out | exact K.out.alloc _ | exact K.out.drewN _ | exact (K.out.alloc _).alloc _)).mono ?_
  rintro e w3 ⟨a2, o2, x2, y2, rfl, hK, h⟩
  have h0 : World.grownBy W2 w3 _ := (by refine World.grownBy.trans ?_ h; repeat (first | exact gr_refl _ _ | apply gr_drewN | apply gr_drew | apply gr_alloc))
  clear cB0 cB1
  have L_ := Az.mk (gr_new L.out h0 (by first | (simp; done) | (simp; omega) | omega))
  have B_ := Az.mk (blkGr B.out h0 (by first | (simp; done) | (simp; omega) | omega))
  clear L B
  have L := L_; clear L_
  have B := B_; clear B_
  clear h0 h
  clear K; have K := Az.mk hK; clear hK
  have cB0 : World.cell? w3 ⟨gB, 0, none⟩ = some (.float .f32 y1) := blkCell B.out 0
  have cB1 : World.cell? w3 ⟨gB, 1, none⟩ = some (.complex .f32 u1 v1) := blkCell B.out 1
  go_wp2_with (first | ((with_reducible refine gateN 6 rfl ?_); go_must (refine ev_al 6 rfl rfl #[.float .f32 0, .float .f32 0, .complex .f32 0 0] 28 ?hr ?_; (case hr => first | (go_simp; done) | (go_simp; rfl)); intro gD heD W3 hbD h; have hgD : w.heap.size ≤ gD := Nat.le_trans L.out.size heD; have hgDK := Nat.lt_of_lt_of_le (Cur.lt K.out) heD; have hgDB : gB < gD := Nat.lt_of_lt_of_le (blkLt B.out) heD; clear heD; have h0 : World.grownBy w3 W3 none := (by refine World.grownBy.trans ?_ h; repeat (first | exact gr_refl _ _ | apply gr_drewN | apply gr_drew | apply gr_alloc)); clear cB0 cB1; have L_ := Az.mk (gr_new L.out h0 (by first | (simp; done) | (simp; omega) | omega)); have K_ := Az.mk (Cur.gr K.out h0 (by first | (simp; done) | (simp; omega) | omega) (by first | (simp; done) | (simp; omega) | omega)); have B_ := Az.mk (blkGr B.out h0 (by first | (simp; done) | (simp; omega) | omega)); clear L K B; have L := L_; clear L_; have K := K_; clear K_; have B := B_; clear B_; clear h0 h; have D := Az.mk hbD; clear hbD; have cB0 : World.cell? W3 ⟨gB, 0, none⟩ = some (.float .f32 y1) := blkCell B.out 0; have cB1 : World.cell? W3 ⟨gB, 1, none⟩ = some (.complex .f32 u1 v1) := blkCell B.out 1; have cD0 : World.cell? W3 ⟨gD, 0, none⟩ = some (.float .f32 0) := blkCell D.out 0; have cD1 : World.cell? W3 ⟨gD, 1, none⟩ = some (.float .f32 0) := blkCell D.out 1; have cD2 : World.cell? W3 ⟨gD, 2, none⟩ = some (.complex .f32 0 0) := blkCell D.out 2)) | ((with_reducible refine gateSt 6 rfl ?_); go_must (refine ev_st rfl rfl rfl (cs := #[.float .f32 a2, .float .f32 o2, .complex .f32 x2 y2]) rfl rfl D.out (by kernel_rfl) rfl (by simp [Value.oneCell']) ?_; intro W4 hbD h; have h0 : World.grownBy W3 W4 (some gD) := (by refine World.grownBy.trans ?_ h; repeat (first | exact gr_refl _ _ | apply gr_drewN | apply gr_drew | apply gr_alloc)); clear cB0 cB1 cD0 cD1 cD2; have L_ := Az.mk (gr_new L.out h0 (by first | (simp; done) | (simp; omega) | omega)); have K_ := Az.mk (Cur.gr K.out h0 (by first | (simp; done) | (simp; omega) | omega) (by first | (simp; done) | (simp; omega) | omega)); have B_ := Az.mk (blkGr B.out h0 (by first | (simp; done) | (simp; omega) | omega)); clear L K B; have L := L_; clear L_; have K := K_; clear K_; have B := B_; clear B_; clear h0 h; clear D; have D := Az.mk hbD; clear hbD; have cB0 : World.cell? W4 ⟨gB, 0, none⟩ = some (.float .f32 y1) := blkCell B.out 0; have cB1 : World.cell? W4 ⟨gB, 1, none⟩ = some (.complex .f32 u1 v1) := blkCell B.out 1; have cD0 : World.cell? W4 ⟨gD, 0, none⟩ = some (.float .f32 a2) := blkCell D.out 0; have cD1 : World.cell? W4 ⟨gD, 1, none⟩ = some (.float .f32 o2) := blkCell D.out 1; have cD2 : World.cell? W4 ⟨gD, 2, none⟩ = some (.complex .f32 x2 y2) := blkCell D.out 2)))
  have uB0 : ∀ w1, Up W4 w1 → w1.cell? ⟨gB, 0, none⟩ = some (.float .f32 y1) := fun w1 hu => blkCell (blkGr B.out hu (by simp)) 0
  have uB1 : ∀ w1, Up W4 w1 → w1.cell? ⟨gB, 1, none⟩ = some (.complex .f32 u1 v1) := fun w1 hu => blkCell (blkGr B.out hu (by simp)) 1
  have uD0 : ∀ w1, Up W4 w1 → w1.cell? ⟨gD, 0, none⟩ = some (.float .f32 a2) := fun w1 hu => blkCell (blkGr D.out hu (by simp)) 0
  have uD1 : ∀ w1, Up W4 w1 → w1.cell? ⟨gD, 1, none⟩ = some (.float .f32 o2) := fun w1 hu => blkCell (blkGr D.out hu (by simp)) 1
  have uD2 : ∀ w1, Up W4 w1 → w1.cell? ⟨gD, 2, none⟩ = some (.complex .f32 x2 y2) := fun w1 hu => blkCell (blkGr D.out hu (by simp)) 2
  refine wp_region_relF (fun _ _ _ _ => True) (by kernel_rfl) (by kernel_rfl) ?_
  repeat (first | (refine lex_val' rfl ?_; apply Exists.intro; refine ⟨fun w1 hu => ?_, ?_⟩; (focus (first | (go_simp; done) | (go_simp; rfl))); refine lexK (fun K hK => ?_); go_simp; refine hK _ ?_; clear hK K))
  refine lex_nil (fun W5 h hF => ?_)
  clear uB0 uB1 uD0 uD1 uD2
  have h0 : World.grownBy W4 W5 none := (by refine World.grownBy.trans ?_ h; repeat (first | exact gr_refl _ _ | apply gr_drewN | apply gr_drew | apply gr_alloc))
  clear cB0 cB1 cD0 cD1 cD2
  have L_ := Az.mk (gr_new L.out h0 (by first | (simp; done) | (simp; omega) | omega))
  have K_ := Az.mk (Cur.gr K.out h0 (by first | (simp; done) | (simp; omega) | omega) (by first | (simp; done) | (simp; omega) | omega))
  have B_ := Az.mk (blkGr B.out h0 (by first | (simp; done) | (simp; omega) | omega))
  have D_ := Az.mk (blkGr D.out h0 (by first | (simp; done) | (simp; omega) | omega))
  clear L K B D
  have L := L_; clear L_
  have K := K_; clear K_
  have B := B_; clear B_
  have D := D_; clear D_
  clear h0 h
  clear hF
  have cB0 : World.cell? W5 ⟨gB, 0, none⟩ = some (.float .f32 y1) := blkCell B.out 0
  have cB1 : World.cell? W5 ⟨gB, 1, none⟩ = some (.complex .f32 u1 v1) := blkCell B.out 1
  have cD0 : World.cell? W5 ⟨gD, 0, none⟩ = some (.float .f32 a2) := blkCell D.out 0
  have cD1 : World.cell? W5 ⟨gD, 1, none⟩ = some (.float .f32 o2) := blkCell D.out 1
  have cD2 : World.cell? W5 ⟨gD, 2, none⟩ = some (.complex .f32 x2 y2) := blkCell D.out 2
  go_wp2
  go_ret2
  exact ⟨_, _, _, _, rfl, L.out⟩

def RetPlain0 (w : World) (e : Ending) (w' : World) : Prop := ∃ A O x y : Nat, PlainCh A O x y ∧ e = .returned (.agg #[.float .f32 A, .float .f32 O, .complex .f32 x y]) ∧ w.grownBy w' none
set_option maxHeartbeats 1000000 in
theorem DrawPlainChannel_c (w0 w : World) (A : Option Addr) (n c : Nat) (hrd : BytesRd w0 A n) (hnc : n ≤ c) (hB : Below w0.heap.size w0 w) : Calls Try.prog 18 #[.slice A n c] w (RetPlain0 w) := by
  have L := Az.mk (gr_refl w none)
  have HR := Az.mk hrd
  have HB := Az.mk hB
  have hS := hB.size
  clear hrd hB
  go_enter Try.func18, Try.ntmps18
  go_wp2_with (first | ((with_reducible refine gateN 2 rfl ?_); go_must (refine ev_al 2 rfl rfl #[.float .f32 0, .float .f32 0, .complex .f32 0 0] 28 ?hr ?_; (case hr => first | (go_simp; done) | (go_simp; rfl)); intro gR heR W1 hbR h; have hgR : w.heap.size ≤ gR := Nat.le_trans L.out.size heR; clear heR; have h0 : World.grownBy w W1 none := (by refine World.grownBy.trans ?_ h; repeat (first | exact gr_refl _ _ | apply gr_drewN | apply gr_drew | apply gr_alloc)); have L_ := Az.mk (gr_new L.out h0 (by first | (simp; done) | (simp; omega) | omega)); clear L; have L := L_; clear L_; clear h0 h; have R := Az.mk hbR; clear hbR; have cR0 : World.cell? W1 ⟨gR, 0, none⟩ = some (.float .f32 0) := blkCell R.out 0; have cR1 : World.cell? W1 ⟨gR, 1, none⟩ = some (.float .f32 0) := blkCell R.out 1; have cR2 : World.cell? W1 ⟨gR, 2, none⟩ = some (.complex .f32 0 0) := blkCell R.out 2)))
  have hRl := blkLt R.out
  refine (l01New_c w0 _ A n c HR.out hnc (below_gr HB.out L.out (by omega) (by simp))).mono ?_
  rintro e w1 ⟨g, rfl, hK, hgw, h⟩
  have h0 : World.grownBy W1 w1 _ := (by refine World.grownBy.trans ?_ h; repeat (first | exact gr_refl _ _ | apply gr_drewN | apply gr_drew | apply gr_alloc))
  clear cR0 cR1 cR2
  have L_ := Az.mk (gr_new L.out h0 (by first | (simp; done) | (simp; omega) | omega))
  have R_ := Az.mk (blkGr R.out h0 (by first | (simp; done) | (simp; omega) | omega))
  clear L R
  have L := L_; clear L_
  have R := R_; clear R_
  clear h0 h
  have K := Az.mk hK; clear hK
  have cR0 : World.cell? w1 ⟨gR, 0, none⟩ = some (.float .f32 0) := blkCell R.out 0
  have cR1 : World.cell? w1 ⟨gR, 1, none⟩ = some (.float .f32 0) := blkCell R.out 1
  have cR2 : World.cell? w1 ⟨gR, 2, none⟩ = some (.complex .f32 0 0) := blkCell R.out 2
  have hgR2 : gR < g := Nat.lt_of_lt_of_le hRl hgw
  go_wp2_with fail
  refine (l05Plain_c w0 _ g (by first | exact K.out | exact K.out.alloc _ | exact K.out.drewN _ | exact (K.out.alloc _).alloc _)).mono ?_
  rintro e w2 ⟨a2, o2, x2, y2, hp, rfl, hK, h⟩
  have h0 : World.grownBy w1 w2 _ := (by refine World.grownBy.trans ?_ h; repeat (first | exact gr_refl _ _ | apply gr_drewN | apply gr_drew | apply gr_alloc))
  clear cR0 cR1 cR2
  have L_ := Az.mk (gr_new L.out h0 (by first | (simp; done) | (simp; omega) | omega))
  have R_ := Az.mk (blkGr R.out h0 (by first | (simp; done) | (simp; omega) | omega))
  clear L R
  have L := L_; clear L_
  have R := R_; clear R_
  clear h0 h
  clear K; have K := Az.mk hK; clear hK
  have cR0 : World.cell? w2 ⟨gR, 0, none⟩ = some (.float .f32 0) := blkCell R.out 0
  have cR1 : World.cell? w2 ⟨gR, 1, none⟩ = some (.float .f32 0) := blkCell R.out 1
  have cR2 : World.cell? w2 ⟨gR, 2, none⟩ = some (.complex .f32 0 0) := blkCell R.out 2
  go_wp2_with (first | ((with_reducible refine gateSt 2 rfl ?_); go_must (refine ev_st rfl rfl rfl (cs := #[.float .f32 a2, .float .f32 o2, .complex .f32 x2 y2]) rfl rfl R.out (by kernel_rfl) rfl (by simp [Value.oneCell']) ?_; intro W2 hbR h; have h0 : World.grownBy w2 W2 (some gR) := (by refine World.grownBy.trans ?_ h; repeat (first | exact gr_refl _ _ | apply gr_drewN | apply gr_drew | apply gr_alloc)); clear cR0 cR1 cR2; have L_ := Az.mk (gr_new L.out h0 (by first | (simp; done) | (simp; omega) | omega)); have K_ := Az.mk (Cur.gr K.out h0 (by first | (simp; done) | (simp; omega) | omega) (by first | (simp; done) | (simp; omega) | omega)); clear L K; have L := L_; clear L_; have K := K_; clear K_; clear h0 h; clear R; have R := Az.mk hbR; clear hbR; have cR0 : World.cell? W2 ⟨gR, 0, none⟩ = some (.float .f32 a2) := blkCell R.out 0; have cR1 : World.cell? W2 ⟨gR, 1, none⟩ = some (.float .f32 o2) := blkCell R.out 1; have cR2 : World.cell? W2 ⟨gR, 2, none⟩ = some (.complex .f32 x2 y2) := blkCell R.out 2)))
  refine bodyPost_ret (results_c rfl _ _ gR 28 #[.float .f32 a2, .float .f32 o2, .complex .f32 x2 y2] _ rfl R.out Try.underlying28 rfl (by kernel_rfl)) rfl ⟨a2, o2, x2, y2, hp, rfl, L.out⟩
end Go.Proofs.Ytjomilloilbcgaa
