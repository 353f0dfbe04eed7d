/- Contracts of spec.l01In, l05In, SetOk, NewSet. No condition. -/
import Derived.Test.YtfjafeepmpnegaaDoorSj
import Derived.Test.YtfjafeepmpnegaaDoorFv
namespace Go.Proofs.YtfjafeepmpnegaaDoor
open Go.RowKit
set_option linter.unusedVariables false
set_option linter.unusedSimpArgs false

theorem l01In_c (n lo hi : Int) (w : World) : Calls Tryd.prog 64 #[.int .i64 n, .int .i64 lo, .int .i64 hi] w (RetBo w (decide (lo ≤ n) && decide (n ≤ hi))) := by
  have L := Az.mk (gr_refl w none)
  by_cases h1 : lo ≤ n
  · by_cases h2 : n ≤ hi
    · go_enter Tryd.func64, Tryd.ntmps64
      go_wp2
      go_ret
      exact ⟨by simp [h1, h2], L.out⟩
    · go_enter Tryd.func64, Tryd.ntmps64
      go_wp2
      go_ret
      exact ⟨by simp [h1, h2], L.out⟩
  · have h3 : n < lo := by omega
    have h4 : decide (lo ≤ n) = false := by simp; omega
    go_enter Tryd.func64, Tryd.ntmps64
    go_wp2
    go_ret
    exact ⟨by simp [h1], L.out⟩
theorem l05In_c (x : Nat) (w : World) : Calls Tryd.prog 65 #[.float .f32 x, .float .f32 1149239296] w (RetBo w (inN (fN .f32 x))) := by
  have L := Az.mk (gr_refl w none)
  have en : Op.negFloat .f32 1149239296 = 3296722944 := by decide
  cases h1 : fge (fN .f32 x) (fc 3296722944) with
  | false =>
    have t1 : (FloatKind.f32.format.order x 3296722944 == some .gt || FloatKind.f32.format.order x 3296722944 == some .eq) = false := by rw [o_ge]; exact h1
    have H1 := Az.mk h1
    clear h1
    go_enter Tryd.func65, Tryd.ntmps65
    go_wp2_with fail
    go_ret
    exact ⟨by rw [inN, H1.out]; rfl, L.out⟩
  | true =>
    have t1 : (FloatKind.f32.format.order x 3296722944 == some .gt || FloatKind.f32.format.order x 3296722944 == some .eq) = true := by rw [o_ge]; exact h1
    have H1 := Az.mk h1
    clear h1
    go_enter Tryd.func65, Tryd.ntmps65
    go_wp2_with fail
    go_ret
    refine ⟨?_, L.out⟩
    rw [inN, H1.out, Bool.true_and, show fle (fN .f32 x) (fc 1149239296) = _ from (o_le x 1149239296).symm]
    rfl
set_option maxRecDepth 8000 in
set_option maxHeartbeats 4000000 in
theorem sSetOk_c (s : SetV) (A : Option Addr) (n c : Nat) (hn : s.log.length = n) (hm : n ≤ 9223372036854775807) (w : World) : Calls Tryd.prog 38 #[.agg (s.cs (.slice A n c))] w (RetBo w (setOkM s)) := by
  have L := Az.mk (gr_refl w none)
  have HN := Az.mk hn
  clear hn
  unfold SetV.cs
  go_enter Tryd.func38, Tryd.ntmps38
  go_wp2_with (first | ((with_reducible refine gateN 1 rfl ?_); go_must (refine ev_al 1 rfl rfl #[.int .i64 s.cells, .int .i64 s.rows, .float .f32 s.sl, .float .f32 s.le, .float .f32 s.sa, .slice A n c] 28 ?hr ?_; (case hr => first | (go_simp; done) | (go_simp; rfl)); intro gB heB W1 hbB h; have hgB : w.heap.size ≤ gB := Nat.le_trans L.out.size heB; clear heB; have h0 : World.grownBy w W1 none := (by refine World.grownBy.trans ?_ h; repeat (first | exact gr_refl _ _ | apply gr_drewN | apply gr_drew | apply gr_alloc)); have L_ := Az.mk (gr_new L.out h0 (by first | (simp; done) | (simp; omega) | omega)); clear L; have L := L_; clear L_; clear h0 h; have B := Az.mk hbB; clear hbB; have cB0 : World.cell? W1 ⟨gB, 0, none⟩ = some (.int .i64 s.cells) := blkCell B.out 0; have cB1 : World.cell? W1 ⟨gB, 1, none⟩ = some (.int .i64 s.rows) := blkCell B.out 1; have cB2 : World.cell? W1 ⟨gB, 2, none⟩ = some (.float .f32 s.sl) := blkCell B.out 2; have cB3 : World.cell? W1 ⟨gB, 3, none⟩ = some (.float .f32 s.le) := blkCell B.out 3; have cB4 : World.cell? W1 ⟨gB, 4, none⟩ = some (.float .f32 s.sa) := blkCell B.out 4; have cB5 : World.cell? W1 ⟨gB, 5, none⟩ = some (.slice A n c) := blkCell B.out 5)))
  refine (l01In_c s.cells 1 64 _).mono ?_
  rintro e w1 ⟨rfl, h⟩
  have h0 : World.grownBy W1 w1 _ := (by refine World.grownBy.trans ?_ h; repeat (first | exact gr_refl _ _ | apply gr_drewN | apply gr_drew | apply gr_alloc))
  clear cB0 cB1 cB2 cB3 cB4 cB5
  have L_ := Az.mk (gr_new L.out h0 (by first | (simp; done) | (simp; omega) | omega))
  have B_ := Az.mk (blkGr B.out h0 (by first | (simp; done) | (simp; omega) | omega))
  clear L B
  have L := L_; clear L_
  have B := B_; clear B_
  clear h0 h
  have cB0 : World.cell? w1 ⟨gB, 0, none⟩ = some (.int .i64 s.cells) := blkCell B.out 0
  have cB1 : World.cell? w1 ⟨gB, 1, none⟩ = some (.int .i64 s.rows) := blkCell B.out 1
  have cB2 : World.cell? w1 ⟨gB, 2, none⟩ = some (.float .f32 s.sl) := blkCell B.out 2
  have cB3 : World.cell? w1 ⟨gB, 3, none⟩ = some (.float .f32 s.le) := blkCell B.out 3
  have cB4 : World.cell? w1 ⟨gB, 4, none⟩ = some (.float .f32 s.sa) := blkCell B.out 4
  have cB5 : World.cell? w1 ⟨gB, 5, none⟩ = some (.slice A n c) := blkCell B.out 5
  obtain ⟨b1, hb1⟩ : ∃ b : Bool, (decide ((1 : Int) ≤ s.cells) && decide (s.cells ≤ (64 : Int))) = b := ⟨_, rfl⟩
  rw [hb1]
  have HB1 := Az.mk hb1
  clear hb1
  cases b1 with
  | false =>
    go_wp2_with fail
    go_ret
    exact ⟨by simp [setOkM, HB1.out], L.out⟩
  | true =>
  go_wp2_with fail
  refine (l01In_c s.rows 4 64 _).mono ?_
  rintro e w2 ⟨rfl, h⟩
  have h0 : World.grownBy w1 w2 _ := (by refine World.grownBy.trans ?_ h; repeat (first | exact gr_refl _ _ | apply gr_drewN | apply gr_drew | apply gr_alloc))
  clear cB0 cB1 cB2 cB3 cB4 cB5
  have L_ := Az.mk (gr_new L.out h0 (by first | (simp; done) | (simp; omega) | omega))
  have B_ := Az.mk (blkGr B.out h0 (by first | (simp; done) | (simp; omega) | omega))
  clear L B
  have L := L_; clear L_
  have B := B_; clear B_
  clear h0 h
  have cB0 : World.cell? w2 ⟨gB, 0, none⟩ = some (.int .i64 s.cells) := blkCell B.out 0
  have cB1 : World.cell? w2 ⟨gB, 1, none⟩ = some (.int .i64 s.rows) := blkCell B.out 1
  have cB2 : World.cell? w2 ⟨gB, 2, none⟩ = some (.float .f32 s.sl) := blkCell B.out 2
  have cB3 : World.cell? w2 ⟨gB, 3, none⟩ = some (.float .f32 s.le) := blkCell B.out 3
  have cB4 : World.cell? w2 ⟨gB, 4, none⟩ = some (.float .f32 s.sa) := blkCell B.out 4
  have cB5 : World.cell? w2 ⟨gB, 5, none⟩ = some (.slice A n c) := blkCell B.out 5
  obtain ⟨b2, hb2⟩ : ∃ b : Bool, (decide ((4 : Int) ≤ s.rows) && decide (s.rows ≤ (64 : Int))) = b := ⟨_, rfl⟩
  rw [hb2]
  have HB2 := Az.mk hb2
  clear hb2
  cases b2 with
  | false =>
    go_wp2_with fail
    go_ret
    exact ⟨by simp [setOkM, HB1.out, HB2.out], L.out⟩
  | true =>
  have hr : 4 ≤ s.rows ∧ s.rows ≤ 64 := by have := HB2.out; simpa using this
  obtain ⟨hr1, hr2⟩ := hr
  have htm : s.rows.tmod 4 = s.rows % 4 := Int.tmod_eq_emod_of_nonneg (by omega)
  obtain ⟨b3, hb3⟩ : ∃ b : Bool, (s.rows.tmod 4 == 0) = b := ⟨_, rfl⟩
  have t3 : (s.rows % 4 == 0) = b3 := by rw [← htm]; exact hb3
  have HB3 := Az.mk hb3
  clear hb3 htm
  cases b3 with
  | false =>
    go_wp2_with fail
    go_ret
    exact ⟨by simp [setOkM, HB1.out, HB2.out, HB3.out], L.out⟩
  | true =>
  go_wp2_with fail
  refine (l05In_c s.sl _).mono ?_
  rintro e w3 ⟨rfl, h⟩
  have h0 : World.grownBy w2 w3 _ := (by refine World.grownBy.trans ?_ h; repeat (first | exact gr_refl _ _ | apply gr_drewN | apply gr_drew | apply gr_alloc))
  clear cB0 cB1 cB2 cB3 cB4 cB5
  have L_ := Az.mk (gr_new L.out h0 (by first | (simp; done) | (simp; omega) | omega))
  have B_ := Az.mk (blkGr B.out h0 (by first | (simp; done) | (simp; omega) | omega))
  clear L B
  have L := L_; clear L_
  have B := B_; clear B_
  clear h0 h
  have cB0 : World.cell? w3 ⟨gB, 0, none⟩ = some (.int .i64 s.cells) := blkCell B.out 0
  have cB1 : World.cell? w3 ⟨gB, 1, none⟩ = some (.int .i64 s.rows) := blkCell B.out 1
  have cB2 : World.cell? w3 ⟨gB, 2, none⟩ = some (.float .f32 s.sl) := blkCell B.out 2
  have cB3 : World.cell? w3 ⟨gB, 3, none⟩ = some (.float .f32 s.le) := blkCell B.out 3
  have cB4 : World.cell? w3 ⟨gB, 4, none⟩ = some (.float .f32 s.sa) := blkCell B.out 4
  have cB5 : World.cell? w3 ⟨gB, 5, none⟩ = some (.slice A n c) := blkCell B.out 5
  rw [in_amount]
  obtain ⟨b4, hb4⟩ : ∃ b : Bool, (fle (amountN (fN .f32 s.sl)) (fc 1149239296)) = b := ⟨_, rfl⟩
  rw [hb4]
  have HB4 := Az.mk hb4
  clear hb4
  cases b4 with
  | false =>
    go_wp2_with fail
    go_ret
    exact ⟨by simp [setOkM, HB1.out, HB2.out, HB3.out, HB4.out], L.out⟩
  | true =>
  obtain ⟨b5, hb5⟩ : ∃ b : Bool, (fge (fN .f32 s.le) (fc 0)) = b := ⟨_, rfl⟩
  have t5 : (FloatKind.f32.format.order s.le 0 == some .gt || FloatKind.f32.format.order s.le 0 == some .eq) = b5 := by rw [o_ge]; exact hb5
  have HB5 := Az.mk hb5
  clear hb5
  cases b5 with
  | false =>
    go_wp2_with fail
    go_ret
    exact ⟨by simp [setOkM, HB1.out, HB2.out, HB3.out, HB4.out, HB5.out], L.out⟩
  | true =>
  obtain ⟨b6, hb6⟩ : ∃ b : Bool, (fle (fN .f32 s.le) (fc 1098907648)) = b := ⟨_, rfl⟩
  have t6 : (FloatKind.f32.format.order s.le 1098907648 == some .lt || FloatKind.f32.format.order s.le 1098907648 == some .eq) = b6 := by rw [o_le]; exact hb6
  have HB6 := Az.mk hb6
  clear hb6
  cases b6 with
  | false =>
    go_wp2_with fail
    go_ret
    exact ⟨by simp [setOkM, HB1.out, HB2.out, HB3.out, HB4.out, HB5.out, HB6.out], L.out⟩
  | true =>
  obtain ⟨b7, hb7⟩ : ∃ b : Bool, (fge (fN .f32 s.sa) (fc 0)) = b := ⟨_, rfl⟩
  have t7 : (FloatKind.f32.format.order s.sa 0 == some .gt || FloatKind.f32.format.order s.sa 0 == some .eq) = b7 := by rw [o_ge]; exact hb7
  have HB7 := Az.mk hb7
  clear hb7
  cases b7 with
  | false =>
    go_wp2_with fail
    go_ret
    exact ⟨by simp [setOkM, HB1.out, HB2.out, HB3.out, HB4.out, HB5.out, HB6.out, HB7.out], L.out⟩
  | true =>
  obtain ⟨b8, hb8⟩ : ∃ b : Bool, (fle (fN .f32 s.sa) (fc 1098907648)) = b := ⟨_, rfl⟩
  have t8 : (FloatKind.f32.format.order s.sa 1098907648 == some .lt || FloatKind.f32.format.order s.sa 1098907648 == some .eq) = b8 := by rw [o_le]; exact hb8
  have HB8 := Az.mk hb8
  clear hb8
  cases b8 with
  | false =>
    go_wp2_with fail
    go_ret
    exact ⟨by simp [setOkM, HB1.out, HB2.out, HB3.out, HB4.out, HB5.out, HB6.out, HB7.out, HB8.out], L.out⟩
  | true =>
  go_wp2_with fail
  go_ret
  refine ⟨?_, L.out⟩
  have := HN.out
  simp only [setOkM, HB1.out, HB2.out, HB3.out, HB4.out, HB5.out, HB6.out, HB7.out, HB8.out, Bool.true_and, this]
  simp
  omega
def RetNew (w : World) (o : Option SetV) (e : Ending) (w' : World) : Prop := e = .returned (.tuple #[.agg ((o.getD zeroS).cs (.slice none 0 0)), .bool o.isSome]) ∧ w.grownBy w' none
set_option maxHeartbeats 1000000 in
theorem sNewSet_c (x y : Int) (w : World) : Calls Tryd.prog 49 #[.int .i64 x, .int .i64 y] w (RetNew w (newM x y)) := by
  have L := Az.mk (gr_refl w none)
  go_enter Tryd.func49, Tryd.ntmps49
  go_wp2_with (first | ((with_reducible refine gateN 4 rfl ?_); go_must (refine ev_al 4 rfl rfl #[.int .i64 0, .int .i64 0, .float .f32 0, .float .f32 0, .float .f32 0, .slice none 0 0] 28 ?hr ?_; (case hr => first | (go_simp; done) | (go_simp; rfl)); intro gZ heZ W1 hbZ h; have hgZ : w.heap.size ≤ gZ := Nat.le_trans L.out.size heZ; clear heZ; have h0 : World.grownBy w W1 none := (by refine World.grownBy.trans ?_ h; repeat (first | exact gr_refl _ _ | apply gr_drewN | apply gr_drew | apply gr_alloc)); have L_ := Az.mk (gr_new L.out h0 (by first | (simp; done) | (simp; omega) | omega)); clear L; have L := L_; clear L_; clear h0 h; have Z := Az.mk hbZ; clear hbZ; have cZ0 : World.cell? W1 ⟨gZ, 0, none⟩ = some (.int .i64 0) := blkCell Z.out 0; have cZ1 : World.cell? W1 ⟨gZ, 1, none⟩ = some (.int .i64 0) := blkCell Z.out 1; have cZ2 : World.cell? W1 ⟨gZ, 2, none⟩ = some (.float .f32 0) := blkCell Z.out 2; have cZ3 : World.cell? W1 ⟨gZ, 3, none⟩ = some (.float .f32 0) := blkCell Z.out 3; have cZ4 : World.cell? W1 ⟨gZ, 4, none⟩ = some (.float .f32 0) := blkCell Z.out 4; have cZ5 : World.cell? W1 ⟨gZ, 5, none⟩ = some (.slice none 0 0) := blkCell Z.out 5)) | ((with_reducible refine gateN 6 rfl ?_); go_must (refine ev_al 6 rfl rfl #[.int .i64 0, .int .i64 0, .float .f32 0, .float .f32 0, .float .f32 0, .slice none 0 0] 28 ?hr ?_; (case hr => first | (go_simp; done) | (go_simp; rfl)); intro gB heB W2 hbB h; have hgB : w.heap.size ≤ gB := Nat.le_trans L.out.size heB; have hgBZ : gZ < gB := Nat.lt_of_lt_of_le (blkLt Z.out) heB; clear heB; have h0 : World.grownBy W1 W2 none := (by refine World.grownBy.trans ?_ h; repeat (first | exact gr_refl _ _ | apply gr_drewN | apply gr_drew | apply gr_alloc)); clear cZ0 cZ1 cZ2 cZ3 cZ4 cZ5; have L_ := Az.mk (gr_new L.out h0 (by first | (simp; done) | (simp; omega) | omega)); have Z_ := Az.mk (blkGr Z.out h0 (by first | (simp; done) | (simp; omega) | omega)); clear L Z; have L := L_; clear L_; have Z := Z_; clear Z_; clear h0 h; have B := Az.mk hbB; clear hbB; have cZ0 : World.cell? W2 ⟨gZ, 0, none⟩ = some (.int .i64 0) := blkCell Z.out 0; have cZ1 : World.cell? W2 ⟨gZ, 1, none⟩ = some (.int .i64 0) := blkCell Z.out 1; have cZ2 : World.cell? W2 ⟨gZ, 2, none⟩ = some (.float .f32 0) := blkCell Z.out 2; have cZ3 : World.cell? W2 ⟨gZ, 3, none⟩ = some (.float .f32 0) := blkCell Z.out 3; have cZ4 : World.cell? W2 ⟨gZ, 4, none⟩ = some (.float .f32 0) := blkCell Z.out 4; have cZ5 : World.cell? W2 ⟨gZ, 5, none⟩ = some (.slice none 0 0) := blkCell Z.out 5; have cB0 : World.cell? W2 ⟨gB, 0, none⟩ = some (.int .i64 0) := blkCell B.out 0; have cB1 : World.cell? W2 ⟨gB, 1, none⟩ = some (.int .i64 0) := blkCell B.out 1; have cB2 : World.cell? W2 ⟨gB, 2, none⟩ = some (.float .f32 0) := blkCell B.out 2; have cB3 : World.cell? W2 ⟨gB, 3, none⟩ = some (.float .f32 0) := blkCell B.out 3; have cB4 : World.cell? W2 ⟨gB, 4, none⟩ = some (.float .f32 0) := blkCell B.out 4; have cB5 : World.cell? W2 ⟨gB, 5, none⟩ = some (.slice none 0 0) := blkCell B.out 5)) | ((with_reducible refine gateSt 6 rfl ?_); go_must (refine ev_st rfl rfl rfl (cs := #[.int .i64 x, .int .i64 y, .float .f32 3250585600, .float .f32 1040187392, .float .f32 1065353216, .slice none 0 0]) rfl rfl B.out (by kernel_rfl) rfl (by simp [Value.oneCell']) ?_; intro W3 hbB h; have h0 : World.grownBy W2 W3 (some gB) := (by refine World.grownBy.trans ?_ h; repeat (first | exact gr_refl _ _ | apply gr_drewN | apply gr_drew | apply gr_alloc)); clear cZ0 cZ1 cZ2 cZ3 cZ4 cZ5 cB0 cB1 cB2 cB3 cB4 cB5; have L_ := Az.mk (gr_new L.out h0 (by first | (simp; done) | (simp; omega) | omega)); have Z_ := Az.mk (blkGr Z.out h0 (by first | (simp; done) | (simp; omega) | omega)); clear L Z; have L := L_; clear L_; have Z := Z_; clear Z_; clear h0 h; clear B; have B := Az.mk hbB; clear hbB; have cZ0 : World.cell? W3 ⟨gZ, 0, none⟩ = some (.int .i64 0) := blkCell Z.out 0; have cZ1 : World.cell? W3 ⟨gZ, 1, none⟩ = some (.int .i64 0) := blkCell Z.out 1; have cZ2 : World.cell? W3 ⟨gZ, 2, none⟩ = some (.float .f32 0) := blkCell Z.out 2; have cZ3 : World.cell? W3 ⟨gZ, 3, none⟩ = some (.float .f32 0) := blkCell Z.out 3; have cZ4 : World.cell? W3 ⟨gZ, 4, none⟩ = some (.float .f32 0) := blkCell Z.out 4; have cZ5 : World.cell? W3 ⟨gZ, 5, none⟩ = some (.slice none 0 0) := blkCell Z.out 5; have cB0 : World.cell? W3 ⟨gB, 0, none⟩ = some (.int .i64 x) := blkCell B.out 0; have cB1 : World.cell? W3 ⟨gB, 1, none⟩ = some (.int .i64 y) := blkCell B.out 1; have cB2 : World.cell? W3 ⟨gB, 2, none⟩ = some (.float .f32 3250585600) := blkCell B.out 2; have cB3 : World.cell? W3 ⟨gB, 3, none⟩ = some (.float .f32 1040187392) := blkCell B.out 3; have cB4 : World.cell? W3 ⟨gB, 4, none⟩ = some (.float .f32 1065353216) := blkCell B.out 4; have cB5 : World.cell? W3 ⟨gB, 5, none⟩ = some (.slice none 0 0) := blkCell B.out 5)) | ((with_reducible refine gateN 10 rfl ?_); go_must (refine ev_ld 10 rfl rfl rfl (cs := #[.int .i64 x, .int .i64 y, .float .f32 3250585600, .float .f32 1040187392, .float .f32 1065353216, .slice none 0 0]) rfl B.out Tryd.underlying28 rfl (by kernel_rfl) ?_)))
  refine (sSetOk_c (freshS x y) none 0 0 rfl (by omega) _).mono ?_
  rintro e w1 ⟨rfl, h⟩
  have h0 : World.grownBy W3 w1 _ := (by refine World.grownBy.trans ?_ h; repeat (first | exact gr_refl _ _ | apply gr_drewN | apply gr_drew | apply gr_alloc))
  clear cZ0 cZ1 cZ2 cZ3 cZ4 cZ5 cB0 cB1 cB2 cB3 cB4 cB5
  have L_ := Az.mk (gr_new L.out h0 (by first | (simp; done) | (simp; omega) | omega))
  have Z_ := Az.mk (blkGr Z.out h0 (by first | (simp; done) | (simp; omega) | omega))
  have B_ := Az.mk (blkGr B.out h0 (by first | (simp; done) | (simp; omega) | omega))
  clear L Z B
  have L := L_; clear L_
  have Z := Z_; clear Z_
  have B := B_; clear B_
  clear h0 h
  have cZ0 : World.cell? w1 ⟨gZ, 0, none⟩ = some (.int .i64 0) := blkCell Z.out 0
  have cZ1 : World.cell? w1 ⟨gZ, 1, none⟩ = some (.int .i64 0) := blkCell Z.out 1
  have cZ2 : World.cell? w1 ⟨gZ, 2, none⟩ = some (.float .f32 0) := blkCell Z.out 2
  have cZ3 : World.cell? w1 ⟨gZ, 3, none⟩ = some (.float .f32 0) := blkCell Z.out 3
  have cZ4 : World.cell? w1 ⟨gZ, 4, none⟩ = some (.float .f32 0) := blkCell Z.out 4
  have cZ5 : World.cell? w1 ⟨gZ, 5, none⟩ = some (.slice none 0 0) := blkCell Z.out 5
  have cB0 : World.cell? w1 ⟨gB, 0, none⟩ = some (.int .i64 x) := blkCell B.out 0
  have cB1 : World.cell? w1 ⟨gB, 1, none⟩ = some (.int .i64 y) := blkCell B.out 1
  have cB2 : World.cell? w1 ⟨gB, 2, none⟩ = some (.float .f32 3250585600) := blkCell B.out 2
  have cB3 : World.cell? w1 ⟨gB, 3, none⟩ = some (.float .f32 1040187392) := blkCell B.out 3
  have cB4 : World.cell? w1 ⟨gB, 4, none⟩ = some (.float .f32 1065353216) := blkCell B.out 4
  have cB5 : World.cell? w1 ⟨gB, 5, none⟩ = some (.slice none 0 0) := blkCell B.out 5
  cases hok : setOkM (freshS x y) with
  | true =>
    have HN : Az (newM x y = some (freshS x y)) := ⟨by rw [newM, if_pos hok]⟩
    clear hok
    go_wp2_with (first | ((with_reducible refine gateN 14 rfl ?_); go_must (refine ev_ld 14 rfl rfl rfl (cs := #[.int .i64 x, .int .i64 y, .float .f32 3250585600, .float .f32 1040187392, .float .f32 1065353216, .slice none 0 0]) rfl B.out Tryd.underlying28 rfl (by kernel_rfl) ?_)) | ((with_reducible refine gateSt 4 rfl ?_); go_must (refine ev_st rfl rfl rfl (cs := #[.int .i64 x, .int .i64 y, .float .f32 3250585600, .float .f32 1040187392, .float .f32 1065353216, .slice none 0 0]) rfl rfl Z.out (by kernel_rfl) rfl (by simp [Value.oneCell']) ?_; intro W4 hbZ h; have h0 : World.grownBy w1 W4 (some gZ) := (by refine World.grownBy.trans ?_ h; repeat (first | exact gr_refl _ _ | apply gr_drewN | apply gr_drew | apply gr_alloc)); clear cZ0 cZ1 cZ2 cZ3 cZ4 cZ5 cB0 cB1 cB2 cB3 cB4 cB5; have L_ := Az.mk (gr_new L.out h0 (by first | (simp; done) | (simp; omega) | omega)); have B_ := Az.mk (blkGr B.out h0 (by first | (simp; done) | (simp; omega) | omega)); clear L B; have L := L_; clear L_; have B := B_; clear B_; clear h0 h; clear Z; have Z := Az.mk hbZ; clear hbZ; have cZ0 : World.cell? W4 ⟨gZ, 0, none⟩ = some (.int .i64 x) := blkCell Z.out 0; have cZ1 : World.cell? W4 ⟨gZ, 1, none⟩ = some (.int .i64 y) := blkCell Z.out 1; have cZ2 : World.cell? W4 ⟨gZ, 2, none⟩ = some (.float .f32 3250585600) := blkCell Z.out 2; have cZ3 : World.cell? W4 ⟨gZ, 3, none⟩ = some (.float .f32 1040187392) := blkCell Z.out 3; have cZ4 : World.cell? W4 ⟨gZ, 4, none⟩ = some (.float .f32 1065353216) := blkCell Z.out 4; have cZ5 : World.cell? W4 ⟨gZ, 5, none⟩ = some (.slice none 0 0) := blkCell Z.out 5; have cB0 : World.cell? W4 ⟨gB, 0, none⟩ = some (.int .i64 x) := blkCell B.out 0; have cB1 : World.cell? W4 ⟨gB, 1, none⟩ = some (.int .i64 y) := blkCell B.out 1; have cB2 : World.cell? W4 ⟨gB, 2, none⟩ = some (.float .f32 3250585600) := blkCell B.out 2; have cB3 : World.cell? W4 ⟨gB, 3, none⟩ = some (.float .f32 1040187392) := blkCell B.out 3; have cB4 : World.cell? W4 ⟨gB, 4, none⟩ = some (.float .f32 1065353216) := blkCell B.out 4; have cB5 : World.cell? W4 ⟨gB, 5, none⟩ = some (.slice none 0 0) := blkCell B.out 5)))
    refine bodyPost_ret (results_ct (u := 5) rfl _ _ gZ 28 ((freshS x y).cs (.slice none 0 0)) _ rfl Z.out Tryd.underlying28 rfl (by kernel_rfl)) rfl ⟨?_, L.out⟩
    · rw [HN.out]; rfl
  | false =>
    have HN : Az (newM x y = none) := ⟨by rw [newM, if_neg (by rw [hok]; exact Bool.false_ne_true)]⟩
    clear hok
    go_wp2_with (first | ((with_reducible refine gateSt 4 rfl ?_); go_must (refine ev_st rfl rfl rfl (cs := #[.int .i64 0, .int .i64 0, .float .f32 0, .float .f32 0, .float .f32 0, .slice none 0 0]) rfl rfl Z.out (by kernel_rfl) rfl (by simp [Value.oneCell']) ?_; intro W5 hbZ h; have h0 : World.grownBy w1 W5 (some gZ) := (by refine World.grownBy.trans ?_ h; repeat (first | exact gr_refl _ _ | apply gr_drewN | apply gr_drew | apply gr_alloc)); clear cZ0 cZ1 cZ2 cZ3 cZ4 cZ5 cB0 cB1 cB2 cB3 cB4 cB5; have L_ := Az.mk (gr_new L.out h0 (by first | (simp; done) | (simp; omega) | omega)); have B_ := Az.mk (blkGr B.out h0 (by first | (simp; done) | (simp; omega) | omega)); clear L B; have L := L_; clear L_; have B := B_; clear B_; clear h0 h; clear Z; have Z := Az.mk hbZ; clear hbZ; have cZ0 : World.cell? W5 ⟨gZ, 0, none⟩ = some (.int .i64 0) := blkCell Z.out 0; have cZ1 : World.cell? W5 ⟨gZ, 1, none⟩ = some (.int .i64 0) := blkCell Z.out 1; have cZ2 : World.cell? W5 ⟨gZ, 2, none⟩ = some (.float .f32 0) := blkCell Z.out 2; have cZ3 : World.cell? W5 ⟨gZ, 3, none⟩ = some (.float .f32 0) := blkCell Z.out 3; have cZ4 : World.cell? W5 ⟨gZ, 4, none⟩ = some (.float .f32 0) := blkCell Z.out 4; have cZ5 : World.cell? W5 ⟨gZ, 5, none⟩ = some (.slice none 0 0) := blkCell Z.out 5; have cB0 : World.cell? W5 ⟨gB, 0, none⟩ = some (.int .i64 x) := blkCell B.out 0; have cB1 : World.cell? W5 ⟨gB, 1, none⟩ = some (.int .i64 y) := blkCell B.out 1; have cB2 : World.cell? W5 ⟨gB, 2, none⟩ = some (.float .f32 3250585600) := blkCell B.out 2; have cB3 : World.cell? W5 ⟨gB, 3, none⟩ = some (.float .f32 1040187392) := blkCell B.out 3; have cB4 : World.cell? W5 ⟨gB, 4, none⟩ = some (.float .f32 1065353216) := blkCell B.out 4; have cB5 : World.cell? W5 ⟨gB, 5, none⟩ = some (.slice none 0 0) := blkCell B.out 5)))
    refine bodyPost_ret (results_ct (u := 5) rfl _ _ gZ 28 (zeroS.cs (.slice none 0 0)) _ rfl Z.out Tryd.underlying28 rfl (by kernel_rfl)) rfl ⟨?_, L.out⟩
    · rw [HN.out]; rfl
end Go.Proofs.YtfjafeepmpnegaaDoor
