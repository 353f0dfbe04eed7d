/- The walk of laws.FnExactTune. Condition: the library's table and variable are there. -/
import Derived.Test.YtfjafeepmpnegaaDoorLc
import Derived.Test.YtfjafeepmpnegaaDoorSo
import Derived.Deep.RegionHeld3
namespace Go.Proofs.YtfjafeepmpnegaaDoor
open Go.RowKit
set_option linter.unusedVariables false
set_option linter.unusedSimpArgs false

theorem own_apart {w w1 : World} {b : Nat} {e e' : TypeId} {z z' : Nat} {v v' : Value} {n n' : Nat} {xs xs' : List Value} (h : w.ownsRow b e z v n xs) (h' : w1.ownsRow w.heap.size e' z' v' n' xs') : (v.ownBlock = none ∨ v.ownBlock ≠ v'.ownBlock) ∧ (v'.ownBlock = none ∨ v'.ownBlock ≠ v.ownBlock) := by
  cases hv : v.ownBlock with
  | none =>
    refine ⟨.inl rfl, ?_⟩
    cases hv' : v'.ownBlock with
    | none => exact .inl rfl
    | some k => exact .inr (by simp)
  | some k =>
    have h1 := (h.lt k hv).2
    cases hv' : v'.ownBlock with
    | none => exact ⟨.inr (by simp), .inl rfl⟩
    | some k' =>
      have h2 := own_base h' k' hv'
      exact ⟨.inr (by simp; omega), .inr (by simp; omega)⟩
set_option maxRecDepth 8000 in
set_option maxHeartbeats 8000000 in
theorem FnExactTune_walk (w : World) (s : SetV) (A : Option Addr) (n c : Nat) (l : Tx) (hE : Env w) (hn : s.log.length = n) (hmx : ∀ t ∈ s.log, t.length ≤ 9223372036854775807) (hl : l.length ≤ 9223372036854775807) (hrd : Rd w A n 1 (stV s.log)) :
    Calls Tryd.prog 5 #[.agg (s.cs (.slice A n c)), .string (tx l)] w (RetYesT w) := by
  have L := Az.mk (gr_refl w none)
  have HE := Az.mk hE
  have HN := Az.mk hn
  have HX := Az.mk hmx
  have HR := Az.mk hrd
  clear hE hn hmx hrd
  unfold SetV.cs
  by_cases hL : 1048576 < l.length
  · have hLi : (1048576 : Int) < l.length := by omega
    go_enter Tryd.func5, Tryd.ntmps5
    go_wp2_with (first | ((with_reducible refine gateN 2 rfl ?_); go_must (refine ev_al 2 rfl rfl #[.int .i64 s.cells, .int .i64 s.rows, .float .f32 s.sl, .float .f32 s.le, .float .f32 s.sa, .slice A n c] 25 ?hr ?_; (case hr => first | (go_simp; done) | (go_simp; rfl)); intro gB heB W1 hbB h; have hgB : w.heap.size ≤ gB := Nat.le_trans L.out.size heB; clear heB; have h0 : World.grownBy w W1 none := (by refine World.grownBy.trans ?_ h; repeat (first | exact gr_refl _ _ | apply gr_drewN | apply gr_drew | apply gr_alloc)); have L_ := Az.mk (gr_new L.out h0 (by first | (simp; done) | (simp; omega) | omega)); clear L; have L := L_; clear L_; clear h0 h; have B := Az.mk hbB; clear hbB; have cB0 : World.cell? W1 ⟨gB, 0, none⟩ = some (.int .i64 s.cells) := blkCell B.out 0; have cB1 : World.cell? W1 ⟨gB, 1, none⟩ = some (.int .i64 s.rows) := blkCell B.out 1; have cB2 : World.cell? W1 ⟨gB, 2, none⟩ = some (.float .f32 s.sl) := blkCell B.out 2; have cB3 : World.cell? W1 ⟨gB, 3, none⟩ = some (.float .f32 s.le) := blkCell B.out 3; have cB4 : World.cell? W1 ⟨gB, 4, none⟩ = some (.float .f32 s.sa) := blkCell B.out 4; have cB5 : World.cell? W1 ⟨gB, 5, none⟩ = some (.slice A n c) := blkCell B.out 5)))
    go_ret
    exact ⟨rfl, L.out⟩
  have hLi : ¬ (1048576 : Int) < l.length := by omega
  go_enter Tryd.func5, Tryd.ntmps5
  go_wp2_with (first | ((with_reducible refine gateN 2 rfl ?_); go_must (refine ev_al 2 rfl rfl #[.int .i64 s.cells, .int .i64 s.rows, .float .f32 s.sl, .float .f32 s.le, .float .f32 s.sa, .slice A n c] 25 ?hr ?_; (case hr => first | (go_simp; done) | (go_simp; rfl)); intro gB heB W2 hbB h; have hgB : w.heap.size ≤ gB := Nat.le_trans L.out.size heB; clear heB; have h0 : World.grownBy w W2 none := (by refine World.grownBy.trans ?_ h; repeat (first | exact gr_refl _ _ | apply gr_drewN | apply gr_drew | apply gr_alloc)); have L_ := Az.mk (gr_new L.out h0 (by first | (simp; done) | (simp; omega) | omega)); clear L; have L := L_; clear L_; clear h0 h; have B := Az.mk hbB; clear hbB; have cB0 : World.cell? W2 ⟨gB, 0, none⟩ = some (.int .i64 s.cells) := blkCell B.out 0; have cB1 : World.cell? W2 ⟨gB, 1, none⟩ = some (.int .i64 s.rows) := blkCell B.out 1; have cB2 : World.cell? W2 ⟨gB, 2, none⟩ = some (.float .f32 s.sl) := blkCell B.out 2; have cB3 : World.cell? W2 ⟨gB, 3, none⟩ = some (.float .f32 s.le) := blkCell B.out 3; have cB4 : World.cell? W2 ⟨gB, 4, none⟩ = some (.float .f32 s.sa) := blkCell B.out 4; have cB5 : World.cell? W2 ⟨gB, 5, none⟩ = some (.slice A n c) := blkCell B.out 5)) | ((with_reducible refine gateN 19 rfl ?_); go_must (refine ev_ld 19 rfl rfl rfl (cs := #[.int .i64 s.cells, .int .i64 s.rows, .float .f32 s.sl, .float .f32 s.le, .float .f32 s.sa, .slice A n c]) rfl B.out Tryd.underlying25 rfl (by kernel_rfl) ?_)))
  refine (szSet_c s A n c 1048576 (by decide) _ HN.out HX.out (HR.out.up L.out)).mono ?_
  rintro e w1 ⟨z, rfl, hz1, hz2, hz3, h⟩
  have h0 : World.grownBy W2 w1 _ := (by refine World.grownBy.trans ?_ h; repeat (first | exact gr_refl _ _ | apply gr_drewN | apply gr_drew | apply gr_alloc))
  clear cB0 cB1 cB2 cB3 cB4 cB5
  have L_ := Az.mk (gr_new L.out h0 (by first | (simp; done) | (simp; omega) | omega))
  have B_ := Az.mk (blkGr B.out h0 (by first | (simp; done) | (simp; omega) | omega))
  clear L B
  have L := L_; clear L_
  have B := B_; clear B_
  clear h0 h
  have cB0 : World.cell? w1 ⟨gB, 0, none⟩ = some (.int .i64 s.cells) := blkCell B.out 0
  have cB1 : World.cell? w1 ⟨gB, 1, none⟩ = some (.int .i64 s.rows) := blkCell B.out 1
  have cB2 : World.cell? w1 ⟨gB, 2, none⟩ = some (.float .f32 s.sl) := blkCell B.out 2
  have cB3 : World.cell? w1 ⟨gB, 3, none⟩ = some (.float .f32 s.le) := blkCell B.out 3
  have cB4 : World.cell? w1 ⟨gB, 4, none⟩ = some (.float .f32 s.sa) := blkCell B.out 4
  have cB5 : World.cell? w1 ⟨gB, 5, none⟩ = some (.slice A n c) := blkCell B.out 5
  have HZ3 := Az.mk hz3
  clear hz3
  by_cases hz : z < 0
  · go_wp2_with fail
    go_ret
    exact ⟨rfl, L.out⟩
  have hn20 : n ≤ 1048576 := (HZ3.out (by omega)).1
  have hsl : s.log.length ≤ 1048576 := by rw [HN.out]; exact hn20
  clear HZ3
  go_wp2_with (first | ((with_reducible refine gateN 25 rfl ?_); go_must (refine ev_ld 25 rfl rfl rfl (cs := #[.int .i64 s.cells, .int .i64 s.rows, .float .f32 s.sl, .float .f32 s.le, .float .f32 s.sa, .slice A n c]) rfl B.out Tryd.underlying25 rfl (by kernel_rfl) ?_)))
  have s1 := L.out.size
  refine (toSet_c s A n c (by omega) _ HN.out (HR.out.up L.out)).mono ?_
  rintro e w2 ⟨v1, rfl, hR1, h⟩
  have h0 : World.grownBy w1 w2 _ := (by refine World.grownBy.trans ?_ h; repeat (first | exact gr_refl _ _ | apply gr_drewN | apply gr_drew | apply gr_alloc))
  clear cB0 cB1 cB2 cB3 cB4 cB5
  have L_ := Az.mk (gr_new L.out h0 (by first | (simp; done) | (simp; omega) | omega))
  have B_ := Az.mk (blkGr B.out h0 (by first | (simp; done) | (simp; omega) | omega))
  clear L B
  have L := L_; clear L_
  have B := B_; clear B_
  clear h0 h
  have cB0 : World.cell? w2 ⟨gB, 0, none⟩ = some (.int .i64 s.cells) := blkCell B.out 0
  have cB1 : World.cell? w2 ⟨gB, 1, none⟩ = some (.int .i64 s.rows) := blkCell B.out 1
  have cB2 : World.cell? w2 ⟨gB, 2, none⟩ = some (.float .f32 s.sl) := blkCell B.out 2
  have cB3 : World.cell? w2 ⟨gB, 3, none⟩ = some (.float .f32 s.le) := blkCell B.out 3
  have cB4 : World.cell? w2 ⟨gB, 4, none⟩ = some (.float .f32 s.sa) := blkCell B.out 4
  have cB5 : World.cell? w2 ⟨gB, 5, none⟩ = some (.slice A n c) := blkCell B.out 5
  have R1 := Az.mk (own_weak hR1 s1)
  clear hR1
  obtain ⟨A1, c1, rfl, _⟩ := own_sl R1.out
  go_wp2_with fail
  have s2 := L.out.size
  refine (sTune_c s A1 s.log.length c1 l (by omega) (by omega) _ (own_slS R1.out)).mono ?_
  rintro e w3 ⟨v2, rfl, hR2, h⟩
  have h0 : World.grownBy w2 w3 _ := (by refine World.grownBy.trans ?_ h; repeat (first | exact gr_refl _ _ | apply gr_drewN | apply gr_drew | apply gr_alloc))
  clear cB0 cB1 cB2 cB3 cB4 cB5
  have L_ := Az.mk (gr_new L.out h0 (by first | (simp; done) | (simp; omega) | omega))
  have B_ := Az.mk (blkGr B.out h0 (by first | (simp; done) | (simp; omega) | omega))
  have R1_ := Az.mk (own_gr R1.out h0 (by first | exact own_none _ | exact .inr hl?R1.out | exact .inr (own_blk R1.out B.out (by decide))))
  clear L B R1
  have L := L_; clear L_
  have B := B_; clear B_
  have R1 := R1_; clear R1_
  clear h0 h
  have cB0 : World.cell? w3 ⟨gB, 0, none⟩ = some (.int .i64 s.cells) := blkCell B.out 0
  have cB1 : World.cell? w3 ⟨gB, 1, none⟩ = some (.int .i64 s.rows) := blkCell B.out 1
  have cB2 : World.cell? w3 ⟨gB, 2, none⟩ = some (.float .f32 s.sl) := blkCell B.out 2
  have cB3 : World.cell? w3 ⟨gB, 3, none⟩ = some (.float .f32 s.le) := blkCell B.out 3
  have cB4 : World.cell? w3 ⟨gB, 4, none⟩ = some (.float .f32 s.sa) := blkCell B.out 4
  have cB5 : World.cell? w3 ⟨gB, 5, none⟩ = some (.slice A n c) := blkCell B.out 5
  clear R1
  have hql := tuneD_log s l
  obtain ⟨q, hq⟩ : ∃ q, (tuneM s l).getD s = q := ⟨_, rfl⟩
  obtain ⟨ok, hok⟩ : ∃ ok, (tuneM s l).isSome = ok := ⟨_, rfl⟩
  rw [hq] at hR2 hql
  rw [hq, hok]
  have HQ := Az.mk hq
  have HOK := Az.mk hok
  clear hq hok
  have R2 := Az.mk (own_weak hR2 s2)
  clear hR2
  obtain ⟨A2, c2, rfl, _⟩ := own_sl R2.out
  go_wp2_with (first | ((with_reducible refine gateN 6 rfl ?_); go_must (refine ev_al 6 rfl rfl #[.int .i64 0, .int .i64 0, .float .f32 0, .float .f32 0, .float .f32 0, .slice none 0 0] 28 ?hr ?_; (case hr => first | (go_simp; done) | (go_simp; rfl)); intro gW heW W3 hbW h; have hgW : w.heap.size ≤ gW := Nat.le_trans L.out.size heW; have hgWB : gB < gW := Nat.lt_of_lt_of_le (blkLt B.out) heW; have hlWR2 := Az.mk (own_lows R2.out heW); clear heW; have h0 : World.grownBy w3 W3 none := (by refine World.grownBy.trans ?_ h; repeat (first | exact gr_refl _ _ | apply gr_drewN | apply gr_drew | apply gr_alloc)); clear cB0 cB1 cB2 cB3 cB4 cB5; have L_ := Az.mk (gr_new L.out h0 (by first | (simp; done) | (simp; omega) | omega)); have B_ := Az.mk (blkGr B.out h0 (by first | (simp; done) | (simp; omega) | omega)); have R2_ := Az.mk (own_gr R2.out h0 (by first | exact own_none _ | exact .inr hl?R2.out | exact .inr (own_blk R2.out B.out (by decide)))); clear L B R2; have L := L_; clear L_; have B := B_; clear B_; have R2 := R2_; clear R2_; clear h0 h; have W := Az.mk hbW; clear hbW; have cB0 : World.cell? W3 ⟨gB, 0, none⟩ = some (.int .i64 s.cells) := blkCell B.out 0; have cB1 : World.cell? W3 ⟨gB, 1, none⟩ = some (.int .i64 s.rows) := blkCell B.out 1; have cB2 : World.cell? W3 ⟨gB, 2, none⟩ = some (.float .f32 s.sl) := blkCell B.out 2; have cB3 : World.cell? W3 ⟨gB, 3, none⟩ = some (.float .f32 s.le) := blkCell B.out 3; have cB4 : World.cell? W3 ⟨gB, 4, none⟩ = some (.float .f32 s.sa) := blkCell B.out 4; have cB5 : World.cell? W3 ⟨gB, 5, none⟩ = some (.slice A n c) := blkCell B.out 5; have cW0 : World.cell? W3 ⟨gW, 0, none⟩ = some (.int .i64 0) := blkCell W.out 0; have cW1 : World.cell? W3 ⟨gW, 1, none⟩ = some (.int .i64 0) := blkCell W.out 1; have cW2 : World.cell? W3 ⟨gW, 2, none⟩ = some (.float .f32 0) := blkCell W.out 2; have cW3 : World.cell? W3 ⟨gW, 3, none⟩ = some (.float .f32 0) := blkCell W.out 3; have cW4 : World.cell? W3 ⟨gW, 4, none⟩ = some (.float .f32 0) := blkCell W.out 4; have cW5 : World.cell? W3 ⟨gW, 5, none⟩ = some (.slice none 0 0) := blkCell W.out 5)) | ((with_reducible refine gateSt 6 rfl ?_); go_must (refine ev_st rfl rfl rfl (cs := #[.int .i64 q.cells, .int .i64 q.rows, .float .f32 q.sl, .float .f32 q.le, .float .f32 q.sa, .slice A2 q.log.length c2]) rfl rfl W.out (by kernel_rfl) rfl (by simp [Value.oneCell']) ?_; intro W4 hbW h; have h0 : World.grownBy W3 W4 (some gW) := (by refine World.grownBy.trans ?_ h; repeat (first | exact gr_refl _ _ | apply gr_drewN | apply gr_drew | apply gr_alloc)); clear cB0 cB1 cB2 cB3 cB4 cB5 cW0 cW1 cW2 cW3 cW4 cW5; have L_ := Az.mk (gr_new L.out h0 (by first | (simp; done) | (simp; omega) | omega)); have B_ := Az.mk (blkGr B.out h0 (by first | (simp; done) | (simp; omega) | omega)); have R2_ := Az.mk (own_gr R2.out h0 (by first | exact own_none _ | exact .inr hlWR2.out | exact .inr (own_blk R2.out B.out (by decide)) | exact .inr (own_blk R2.out W.out (by decide)))); clear L B R2; have L := L_; clear L_; have B := B_; clear B_; have R2 := R2_; clear R2_; clear h0 h; clear W; have W := Az.mk hbW; clear hbW; have cB0 : World.cell? W4 ⟨gB, 0, none⟩ = some (.int .i64 s.cells) := blkCell B.out 0; have cB1 : World.cell? W4 ⟨gB, 1, none⟩ = some (.int .i64 s.rows) := blkCell B.out 1; have cB2 : World.cell? W4 ⟨gB, 2, none⟩ = some (.float .f32 s.sl) := blkCell B.out 2; have cB3 : World.cell? W4 ⟨gB, 3, none⟩ = some (.float .f32 s.le) := blkCell B.out 3; have cB4 : World.cell? W4 ⟨gB, 4, none⟩ = some (.float .f32 s.sa) := blkCell B.out 4; have cB5 : World.cell? W4 ⟨gB, 5, none⟩ = some (.slice A n c) := blkCell B.out 5; have cW0 : World.cell? W4 ⟨gW, 0, none⟩ = some (.int .i64 q.cells) := blkCell W.out 0; have cW1 : World.cell? W4 ⟨gW, 1, none⟩ = some (.int .i64 q.rows) := blkCell W.out 1; have cW2 : World.cell? W4 ⟨gW, 2, none⟩ = some (.float .f32 q.sl) := blkCell W.out 2; have cW3 : World.cell? W4 ⟨gW, 3, none⟩ = some (.float .f32 q.le) := blkCell W.out 3; have cW4 : World.cell? W4 ⟨gW, 4, none⟩ = some (.float .f32 q.sa) := blkCell W.out 4; have cW5 : World.cell? W4 ⟨gW, 5, none⟩ = some (.slice A2 q.log.length c2) := blkCell W.out 5)) | ((with_reducible refine gateN 31 rfl ?_); go_must (refine ev_ld 31 rfl rfl rfl (cs := #[.int .i64 s.cells, .int .i64 s.rows, .float .f32 s.sl, .float .f32 s.le, .float .f32 s.sa, .slice A n c]) rfl B.out Tryd.underlying25 rfl (by kernel_rfl) ?_)))
  have s3 := L.out.size
  have R2k := Az.mk R2.out
  refine (toSet_c s A n c (by omega) _ HN.out (HR.out.up L.out)).mono ?_
  rintro e w4 ⟨v3, rfl, hR3, h⟩
  have h0 : World.grownBy W4 w4 _ := (by refine World.grownBy.trans ?_ h; repeat (first | exact gr_refl _ _ | apply gr_drewN | apply gr_drew | apply gr_alloc))
  clear cB0 cB1 cB2 cB3 cB4 cB5 cW0 cW1 cW2 cW3 cW4 cW5
  have L_ := Az.mk (gr_new L.out h0 (by first | (simp; done) | (simp; omega) | omega))
  have B_ := Az.mk (blkGr B.out h0 (by first | (simp; done) | (simp; omega) | omega))
  have R2_ := Az.mk (own_gr R2.out h0 (by first | exact own_none _ | exact .inr hl?R2.out | exact .inr (own_blk R2.out B.out (by decide)) | exact .inr (own_blk R2.out W.out (by decide))))
  have W_ := Az.mk (blkGr W.out h0 (by first | (simp; done) | (simp; omega) | omega))
  clear L B R2 W
  have L := L_; clear L_
  have B := B_; clear B_
  have R2 := R2_; clear R2_
  have W := W_; clear W_
  clear h0 h
  have cB0 : World.cell? w4 ⟨gB, 0, none⟩ = some (.int .i64 s.cells) := blkCell B.out 0
  have cB1 : World.cell? w4 ⟨gB, 1, none⟩ = some (.int .i64 s.rows) := blkCell B.out 1
  have cB2 : World.cell? w4 ⟨gB, 2, none⟩ = some (.float .f32 s.sl) := blkCell B.out 2
  have cB3 : World.cell? w4 ⟨gB, 3, none⟩ = some (.float .f32 s.le) := blkCell B.out 3
  have cB4 : World.cell? w4 ⟨gB, 4, none⟩ = some (.float .f32 s.sa) := blkCell B.out 4
  have cB5 : World.cell? w4 ⟨gB, 5, none⟩ = some (.slice A n c) := blkCell B.out 5
  have cW0 : World.cell? w4 ⟨gW, 0, none⟩ = some (.int .i64 q.cells) := blkCell W.out 0
  have cW1 : World.cell? w4 ⟨gW, 1, none⟩ = some (.int .i64 q.rows) := blkCell W.out 1
  have cW2 : World.cell? w4 ⟨gW, 2, none⟩ = some (.float .f32 q.sl) := blkCell W.out 2
  have cW3 : World.cell? w4 ⟨gW, 3, none⟩ = some (.float .f32 q.le) := blkCell W.out 3
  have cW4 : World.cell? w4 ⟨gW, 4, none⟩ = some (.float .f32 q.sa) := blkCell W.out 4
  have cW5 : World.cell? w4 ⟨gW, 5, none⟩ = some (.slice A2 q.log.length c2) := blkCell W.out 5
  have HD23 := Az.mk (own_apart R2k.out hR3)
  clear R2k
  have R3 := Az.mk (own_weak hR3 s3)
  clear hR3
  obtain ⟨A3, c3, rfl, _⟩ := own_sl R3.out
  go_wp2_with (first | ((with_reducible refine gateN 8 rfl ?_); go_must (refine ev_al 8 rfl rfl #[.int .i64 0, .int .i64 0, .float .f32 0, .float .f32 0, .float .f32 0, .slice none 0 0] 28 ?hr ?_; (case hr => first | (go_simp; done) | (go_simp; rfl)); intro gX heX W5 hbX h; have hgX : w.heap.size ≤ gX := Nat.le_trans L.out.size heX; have hgXB : gB < gX := Nat.lt_of_lt_of_le (blkLt B.out) heX; have hlXR2 := Az.mk (own_lows R2.out heX); have hgXW : gW < gX := Nat.lt_of_lt_of_le (blkLt W.out) heX; have hlXR3 := Az.mk (own_lows R3.out heX); clear heX; have h0 : World.grownBy w4 W5 none := (by refine World.grownBy.trans ?_ h; repeat (first | exact gr_refl _ _ | apply gr_drewN | apply gr_drew | apply gr_alloc)); clear cB0 cB1 cB2 cB3 cB4 cB5 cW0 cW1 cW2 cW3 cW4 cW5; have L_ := Az.mk (gr_new L.out h0 (by first | (simp; done) | (simp; omega) | omega)); have B_ := Az.mk (blkGr B.out h0 (by first | (simp; done) | (simp; omega) | omega)); have R2_ := Az.mk (own_gr R2.out h0 (by first | exact own_none _ | exact .inr hl?R2.out | exact .inr (own_blk R2.out B.out (by decide)) | exact .inr (own_blk R2.out W.out (by decide)))); have W_ := Az.mk (blkGr W.out h0 (by first | (simp; done) | (simp; omega) | omega)); have R3_ := Az.mk (own_gr R3.out h0 (by first | exact own_none _ | exact .inr hl?R3.out | exact .inr (own_blk R3.out B.out (by decide)) | exact .inr (own_blk R3.out W.out (by decide)))); clear L B R2 W R3; have L := L_; clear L_; have B := B_; clear B_; have R2 := R2_; clear R2_; have W := W_; clear W_; have R3 := R3_; clear R3_; clear h0 h; have X := Az.mk hbX; clear hbX; have cB0 : World.cell? W5 ⟨gB, 0, none⟩ = some (.int .i64 s.cells) := blkCell B.out 0; have cB1 : World.cell? W5 ⟨gB, 1, none⟩ = some (.int .i64 s.rows) := blkCell B.out 1; have cB2 : World.cell? W5 ⟨gB, 2, none⟩ = some (.float .f32 s.sl) := blkCell B.out 2; have cB3 : World.cell? W5 ⟨gB, 3, none⟩ = some (.float .f32 s.le) := blkCell B.out 3; have cB4 : World.cell? W5 ⟨gB, 4, none⟩ = some (.float .f32 s.sa) := blkCell B.out 4; have cB5 : World.cell? W5 ⟨gB, 5, none⟩ = some (.slice A n c) := blkCell B.out 5; have cW0 : World.cell? W5 ⟨gW, 0, none⟩ = some (.int .i64 q.cells) := blkCell W.out 0; have cW1 : World.cell? W5 ⟨gW, 1, none⟩ = some (.int .i64 q.rows) := blkCell W.out 1; have cW2 : World.cell? W5 ⟨gW, 2, none⟩ = some (.float .f32 q.sl) := blkCell W.out 2; have cW3 : World.cell? W5 ⟨gW, 3, none⟩ = some (.float .f32 q.le) := blkCell W.out 3; have cW4 : World.cell? W5 ⟨gW, 4, none⟩ = some (.float .f32 q.sa) := blkCell W.out 4; have cW5 : World.cell? W5 ⟨gW, 5, none⟩ = some (.slice A2 q.log.length c2) := blkCell W.out 5; have cX0 : World.cell? W5 ⟨gX, 0, none⟩ = some (.int .i64 0) := blkCell X.out 0; have cX1 : World.cell? W5 ⟨gX, 1, none⟩ = some (.int .i64 0) := blkCell X.out 1; have cX2 : World.cell? W5 ⟨gX, 2, none⟩ = some (.float .f32 0) := blkCell X.out 2; have cX3 : World.cell? W5 ⟨gX, 3, none⟩ = some (.float .f32 0) := blkCell X.out 3; have cX4 : World.cell? W5 ⟨gX, 4, none⟩ = some (.float .f32 0) := blkCell X.out 4; have cX5 : World.cell? W5 ⟨gX, 5, none⟩ = some (.slice none 0 0) := blkCell X.out 5)) | ((with_reducible refine gateSt 8 rfl ?_); go_must (refine ev_st rfl rfl rfl (cs := #[.int .i64 s.cells, .int .i64 s.rows, .float .f32 s.sl, .float .f32 s.le, .float .f32 s.sa, .slice A3 s.log.length c3]) rfl rfl X.out (by kernel_rfl) rfl (by simp [Value.oneCell']) ?_; intro W6 hbX h; have h0 : World.grownBy W5 W6 (some gX) := (by refine World.grownBy.trans ?_ h; repeat (first | exact gr_refl _ _ | apply gr_drewN | apply gr_drew | apply gr_alloc)); clear cB0 cB1 cB2 cB3 cB4 cB5 cW0 cW1 cW2 cW3 cW4 cW5 cX0 cX1 cX2 cX3 cX4 cX5; have L_ := Az.mk (gr_new L.out h0 (by first | (simp; done) | (simp; omega) | omega)); have B_ := Az.mk (blkGr B.out h0 (by first | (simp; done) | (simp; omega) | omega)); have R2_ := Az.mk (own_gr R2.out h0 (by first | exact own_none _ | exact .inr hlXR2.out | exact .inr (own_blk R2.out B.out (by decide)) | exact .inr (own_blk R2.out W.out (by decide)) | exact .inr (own_blk R2.out X.out (by decide)))); have W_ := Az.mk (blkGr W.out h0 (by first | (simp; done) | (simp; omega) | omega)); have R3_ := Az.mk (own_gr R3.out h0 (by first | exact own_none _ | exact .inr hlXR3.out | exact .inr (own_blk R3.out B.out (by decide)) | exact .inr (own_blk R3.out W.out (by decide)) | exact .inr (own_blk R3.out X.out (by decide)))); clear L B R2 W R3; have L := L_; clear L_; have B := B_; clear B_; have R2 := R2_; clear R2_; have W := W_; clear W_; have R3 := R3_; clear R3_; clear h0 h; clear X; have X := Az.mk hbX; clear hbX; have cB0 : World.cell? W6 ⟨gB, 0, none⟩ = some (.int .i64 s.cells) := blkCell B.out 0; have cB1 : World.cell? W6 ⟨gB, 1, none⟩ = some (.int .i64 s.rows) := blkCell B.out 1; have cB2 : World.cell? W6 ⟨gB, 2, none⟩ = some (.float .f32 s.sl) := blkCell B.out 2; have cB3 : World.cell? W6 ⟨gB, 3, none⟩ = some (.float .f32 s.le) := blkCell B.out 3; have cB4 : World.cell? W6 ⟨gB, 4, none⟩ = some (.float .f32 s.sa) := blkCell B.out 4; have cB5 : World.cell? W6 ⟨gB, 5, none⟩ = some (.slice A n c) := blkCell B.out 5; have cW0 : World.cell? W6 ⟨gW, 0, none⟩ = some (.int .i64 q.cells) := blkCell W.out 0; have cW1 : World.cell? W6 ⟨gW, 1, none⟩ = some (.int .i64 q.rows) := blkCell W.out 1; have cW2 : World.cell? W6 ⟨gW, 2, none⟩ = some (.float .f32 q.sl) := blkCell W.out 2; have cW3 : World.cell? W6 ⟨gW, 3, none⟩ = some (.float .f32 q.le) := blkCell W.out 3; have cW4 : World.cell? W6 ⟨gW, 4, none⟩ = some (.float .f32 q.sa) := blkCell W.out 4; have cW5 : World.cell? W6 ⟨gW, 5, none⟩ = some (.slice A2 q.log.length c2) := blkCell W.out 5; have cX0 : World.cell? W6 ⟨gX, 0, none⟩ = some (.int .i64 s.cells) := blkCell X.out 0; have cX1 : World.cell? W6 ⟨gX, 1, none⟩ = some (.int .i64 s.rows) := blkCell X.out 1; have cX2 : World.cell? W6 ⟨gX, 2, none⟩ = some (.float .f32 s.sl) := blkCell X.out 2; have cX3 : World.cell? W6 ⟨gX, 3, none⟩ = some (.float .f32 s.le) := blkCell X.out 3; have cX4 : World.cell? W6 ⟨gX, 4, none⟩ = some (.float .f32 s.sa) := blkCell X.out 4; have cX5 : World.cell? W6 ⟨gX, 5, none⟩ = some (.slice A3 s.log.length c3) := blkCell X.out 5)) | ((with_reducible refine gateN 34 rfl ?_); go_must (refine ev_ld 34 rfl rfl rfl (cs := #[.int .i64 s.cells, .int .i64 s.rows, .float .f32 s.sl, .float .f32 s.le, .float .f32 s.sa, .slice A3 s.log.length c3]) rfl X.out Tryd.underlying28 rfl (by kernel_rfl) ?_)))
  have s4 := L.out.size
  have R2k := Az.mk R2.out
  have R3k := Az.mk R3.out
  refine (Tune_c s A3 s.log.length c3 l (by omega) (by omega) _ (HE.out.gr L.out) (own_slS R3.out)).mono ?_
  rintro e w5 ⟨v4, rfl, hR4, h⟩
  have h0 : World.grownBy W6 w5 _ := (by refine World.grownBy.trans ?_ h; repeat (first | exact gr_refl _ _ | apply gr_drewN | apply gr_drew | apply gr_alloc))
  clear cB0 cB1 cB2 cB3 cB4 cB5 cW0 cW1 cW2 cW3 cW4 cW5 cX0 cX1 cX2 cX3 cX4 cX5
  have L_ := Az.mk (gr_new L.out h0 (by first | (simp; done) | (simp; omega) | omega))
  have B_ := Az.mk (blkGr B.out h0 (by first | (simp; done) | (simp; omega) | omega))
  have R2_ := Az.mk (own_gr R2.out h0 (by first | exact own_none _ | exact .inr hl?R2.out | exact .inr (own_blk R2.out B.out (by decide)) | exact .inr (own_blk R2.out W.out (by decide)) | exact .inr (own_blk R2.out X.out (by decide))))
  have W_ := Az.mk (blkGr W.out h0 (by first | (simp; done) | (simp; omega) | omega))
  have R3_ := Az.mk (own_gr R3.out h0 (by first | exact own_none _ | exact .inr hl?R3.out | exact .inr (own_blk R3.out B.out (by decide)) | exact .inr (own_blk R3.out W.out (by decide)) | exact .inr (own_blk R3.out X.out (by decide))))
  have X_ := Az.mk (blkGr X.out h0 (by first | (simp; done) | (simp; omega) | omega))
  clear L B R2 W R3 X
  have L := L_; clear L_
  have B := B_; clear B_
  have R2 := R2_; clear R2_
  have W := W_; clear W_
  have R3 := R3_; clear R3_
  have X := X_; clear X_
  clear h0 h
  have cB0 : World.cell? w5 ⟨gB, 0, none⟩ = some (.int .i64 s.cells) := blkCell B.out 0
  have cB1 : World.cell? w5 ⟨gB, 1, none⟩ = some (.int .i64 s.rows) := blkCell B.out 1
  have cB2 : World.cell? w5 ⟨gB, 2, none⟩ = some (.float .f32 s.sl) := blkCell B.out 2
  have cB3 : World.cell? w5 ⟨gB, 3, none⟩ = some (.float .f32 s.le) := blkCell B.out 3
  have cB4 : World.cell? w5 ⟨gB, 4, none⟩ = some (.float .f32 s.sa) := blkCell B.out 4
  have cB5 : World.cell? w5 ⟨gB, 5, none⟩ = some (.slice A n c) := blkCell B.out 5
  have cW0 : World.cell? w5 ⟨gW, 0, none⟩ = some (.int .i64 q.cells) := blkCell W.out 0
  have cW1 : World.cell? w5 ⟨gW, 1, none⟩ = some (.int .i64 q.rows) := blkCell W.out 1
  have cW2 : World.cell? w5 ⟨gW, 2, none⟩ = some (.float .f32 q.sl) := blkCell W.out 2
  have cW3 : World.cell? w5 ⟨gW, 3, none⟩ = some (.float .f32 q.le) := blkCell W.out 3
  have cW4 : World.cell? w5 ⟨gW, 4, none⟩ = some (.float .f32 q.sa) := blkCell W.out 4
  have cW5 : World.cell? w5 ⟨gW, 5, none⟩ = some (.slice A2 q.log.length c2) := blkCell W.out 5
  have cX0 : World.cell? w5 ⟨gX, 0, none⟩ = some (.int .i64 s.cells) := blkCell X.out 0
  have cX1 : World.cell? w5 ⟨gX, 1, none⟩ = some (.int .i64 s.rows) := blkCell X.out 1
  have cX2 : World.cell? w5 ⟨gX, 2, none⟩ = some (.float .f32 s.sl) := blkCell X.out 2
  have cX3 : World.cell? w5 ⟨gX, 3, none⟩ = some (.float .f32 s.le) := blkCell X.out 3
  have cX4 : World.cell? w5 ⟨gX, 4, none⟩ = some (.float .f32 s.sa) := blkCell X.out 4
  have cX5 : World.cell? w5 ⟨gX, 5, none⟩ = some (.slice A3 s.log.length c3) := blkCell X.out 5
  rw [HQ.out] at hR4
  rw [HQ.out, HOK.out]
  have HD24 := Az.mk (own_apart R2k.out hR4)
  have HD34 := Az.mk (own_apart R3k.out hR4)
  clear R2k R3k
  have R4 := Az.mk (own_weak hR4 s4)
  clear hR4
  obtain ⟨A4, c4, rfl, _⟩ := own_sl R4.out
  go_wp2_with (first | ((with_reducible refine gateN 9 rfl ?_); go_must (refine ev_al 9 rfl rfl #[.int .i64 0, .int .i64 0, .float .f32 0, .float .f32 0, .float .f32 0, .slice none 0 0] 28 ?hr ?_; (case hr => first | (go_simp; done) | (go_simp; rfl)); intro gG heG W7 hbG h; have hgG : w.heap.size ≤ gG := Nat.le_trans L.out.size heG; have hgGB : gB < gG := Nat.lt_of_lt_of_le (blkLt B.out) heG; have hlGR2 := Az.mk (own_lows R2.out heG); have hgGW : gW < gG := Nat.lt_of_lt_of_le (blkLt W.out) heG; have hlGR3 := Az.mk (own_lows R3.out heG); have hgGX : gX < gG := Nat.lt_of_lt_of_le (blkLt X.out) heG; have hlGR4 := Az.mk (own_lows R4.out heG); clear heG; have h0 : World.grownBy w5 W7 none := (by refine World.grownBy.trans ?_ h; repeat (first | exact gr_refl _ _ | apply gr_drewN | apply gr_drew | apply gr_alloc)); clear cB0 cB1 cB2 cB3 cB4 cB5 cW0 cW1 cW2 cW3 cW4 cW5 cX0 cX1 cX2 cX3 cX4 cX5; have L_ := Az.mk (gr_new L.out h0 (by first | (simp; done) | (simp; omega) | omega)); have B_ := Az.mk (blkGr B.out h0 (by first | (simp; done) | (simp; omega) | omega)); have R2_ := Az.mk (own_gr R2.out h0 (by first | exact own_none _ | exact .inr hl?R2.out | exact .inr (own_blk R2.out B.out (by decide)) | exact .inr (own_blk R2.out W.out (by decide)) | exact .inr (own_blk R2.out X.out (by decide)))); have W_ := Az.mk (blkGr W.out h0 (by first | (simp; done) | (simp; omega) | omega)); have R3_ := Az.mk (own_gr R3.out h0 (by first | exact own_none _ | exact .inr hl?R3.out | exact .inr (own_blk R3.out B.out (by decide)) | exact .inr (own_blk R3.out W.out (by decide)) | exact .inr (own_blk R3.out X.out (by decide)))); have X_ := Az.mk (blkGr X.out h0 (by first | (simp; done) | (simp; omega) | omega)); have R4_ := Az.mk (own_gr R4.out h0 (by first | exact own_none _ | exact .inr hl?R4.out | exact .inr (own_blk R4.out B.out (by decide)) | exact .inr (own_blk R4.out W.out (by decide)) | exact .inr (own_blk R4.out X.out (by decide)))); clear L B R2 W R3 X R4; have L := L_; clear L_; have B := B_; clear B_; have R2 := R2_; clear R2_; have W := W_; clear W_; have R3 := R3_; clear R3_; have X := X_; clear X_; have R4 := R4_; clear R4_; clear h0 h; have G := Az.mk hbG; clear hbG; have cB0 : World.cell? W7 ⟨gB, 0, none⟩ = some (.int .i64 s.cells) := blkCell B.out 0; have cB1 : World.cell? W7 ⟨gB, 1, none⟩ = some (.int .i64 s.rows) := blkCell B.out 1; have cB2 : World.cell? W7 ⟨gB, 2, none⟩ = some (.float .f32 s.sl) := blkCell B.out 2; have cB3 : World.cell? W7 ⟨gB, 3, none⟩ = some (.float .f32 s.le) := blkCell B.out 3; have cB4 : World.cell? W7 ⟨gB, 4, none⟩ = some (.float .f32 s.sa) := blkCell B.out 4; have cB5 : World.cell? W7 ⟨gB, 5, none⟩ = some (.slice A n c) := blkCell B.out 5; have cW0 : World.cell? W7 ⟨gW, 0, none⟩ = some (.int .i64 q.cells) := blkCell W.out 0; have cW1 : World.cell? W7 ⟨gW, 1, none⟩ = some (.int .i64 q.rows) := blkCell W.out 1; have cW2 : World.cell? W7 ⟨gW, 2, none⟩ = some (.float .f32 q.sl) := blkCell W.out 2; have cW3 : World.cell? W7 ⟨gW, 3, none⟩ = some (.float .f32 q.le) := blkCell W.out 3; have cW4 : World.cell? W7 ⟨gW, 4, none⟩ = some (.float .f32 q.sa) := blkCell W.out 4; have cW5 : World.cell? W7 ⟨gW, 5, none⟩ = some (.slice A2 q.log.length c2) := blkCell W.out 5; have cX0 : World.cell? W7 ⟨gX, 0, none⟩ = some (.int .i64 s.cells) := blkCell X.out 0; have cX1 : World.cell? W7 ⟨gX, 1, none⟩ = some (.int .i64 s.rows) := blkCell X.out 1; have cX2 : World.cell? W7 ⟨gX, 2, none⟩ = some (.float .f32 s.sl) := blkCell X.out 2; have cX3 : World.cell? W7 ⟨gX, 3, none⟩ = some (.float .f32 s.le) := blkCell X.out 3; have cX4 : World.cell? W7 ⟨gX, 4, none⟩ = some (.float .f32 s.sa) := blkCell X.out 4; have cX5 : World.cell? W7 ⟨gX, 5, none⟩ = some (.slice A3 s.log.length c3) := blkCell X.out 5; have cG0 : World.cell? W7 ⟨gG, 0, none⟩ = some (.int .i64 0) := blkCell G.out 0; have cG1 : World.cell? W7 ⟨gG, 1, none⟩ = some (.int .i64 0) := blkCell G.out 1; have cG2 : World.cell? W7 ⟨gG, 2, none⟩ = some (.float .f32 0) := blkCell G.out 2; have cG3 : World.cell? W7 ⟨gG, 3, none⟩ = some (.float .f32 0) := blkCell G.out 3; have cG4 : World.cell? W7 ⟨gG, 4, none⟩ = some (.float .f32 0) := blkCell G.out 4; have cG5 : World.cell? W7 ⟨gG, 5, none⟩ = some (.slice none 0 0) := blkCell G.out 5)) | ((with_reducible refine gateSt 9 rfl ?_); go_must (refine ev_st rfl rfl rfl (cs := #[.int .i64 q.cells, .int .i64 q.rows, .float .f32 q.sl, .float .f32 q.le, .float .f32 q.sa, .slice A4 q.log.length c4]) rfl rfl G.out (by kernel_rfl) rfl (by simp [Value.oneCell']) ?_; intro W8 hbG h; have h0 : World.grownBy W7 W8 (some gG) := (by refine World.grownBy.trans ?_ h; repeat (first | exact gr_refl _ _ | apply gr_drewN | apply gr_drew | apply gr_alloc)); clear cB0 cB1 cB2 cB3 cB4 cB5 cW0 cW1 cW2 cW3 cW4 cW5 cX0 cX1 cX2 cX3 cX4 cX5 cG0 cG1 cG2 cG3 cG4 cG5; have L_ := Az.mk (gr_new L.out h0 (by first | (simp; done) | (simp; omega) | omega)); have B_ := Az.mk (blkGr B.out h0 (by first | (simp; done) | (simp; omega) | omega)); have R2_ := Az.mk (own_gr R2.out h0 (by first | exact own_none _ | exact .inr hlGR2.out | exact .inr (own_blk R2.out B.out (by decide)) | exact .inr (own_blk R2.out W.out (by decide)) | exact .inr (own_blk R2.out X.out (by decide)) | exact .inr (own_blk R2.out G.out (by decide)))); have W_ := Az.mk (blkGr W.out h0 (by first | (simp; done) | (simp; omega) | omega)); have R3_ := Az.mk (own_gr R3.out h0 (by first | exact own_none _ | exact .inr hlGR3.out | exact .inr (own_blk R3.out B.out (by decide)) | exact .inr (own_blk R3.out W.out (by decide)) | exact .inr (own_blk R3.out X.out (by decide)) | exact .inr (own_blk R3.out G.out (by decide)))); have X_ := Az.mk (blkGr X.out h0 (by first | (simp; done) | (simp; omega) | omega)); have R4_ := Az.mk (own_gr R4.out h0 (by first | exact own_none _ | exact .inr hlGR4.out | exact .inr (own_blk R4.out B.out (by decide)) | exact .inr (own_blk R4.out W.out (by decide)) | exact .inr (own_blk R4.out X.out (by decide)) | exact .inr (own_blk R4.out G.out (by decide)))); clear L B R2 W R3 X R4; have L := L_; clear L_; have B := B_; clear B_; have R2 := R2_; clear R2_; have W := W_; clear W_; have R3 := R3_; clear R3_; have X := X_; clear X_; have R4 := R4_; clear R4_; clear h0 h; clear G; have G := Az.mk hbG; clear hbG; have cB0 : World.cell? W8 ⟨gB, 0, none⟩ = some (.int .i64 s.cells) := blkCell B.out 0; have cB1 : World.cell? W8 ⟨gB, 1, none⟩ = some (.int .i64 s.rows) := blkCell B.out 1; have cB2 : World.cell? W8 ⟨gB, 2, none⟩ = some (.float .f32 s.sl) := blkCell B.out 2; have cB3 : World.cell? W8 ⟨gB, 3, none⟩ = some (.float .f32 s.le) := blkCell B.out 3; have cB4 : World.cell? W8 ⟨gB, 4, none⟩ = some (.float .f32 s.sa) := blkCell B.out 4; have cB5 : World.cell? W8 ⟨gB, 5, none⟩ = some (.slice A n c) := blkCell B.out 5; have cW0 : World.cell? W8 ⟨gW, 0, none⟩ = some (.int .i64 q.cells) := blkCell W.out 0; have cW1 : World.cell? W8 ⟨gW, 1, none⟩ = some (.int .i64 q.rows) := blkCell W.out 1; have cW2 : World.cell? W8 ⟨gW, 2, none⟩ = some (.float .f32 q.sl) := blkCell W.out 2; have cW3 : World.cell? W8 ⟨gW, 3, none⟩ = some (.float .f32 q.le) := blkCell W.out 3; have cW4 : World.cell? W8 ⟨gW, 4, none⟩ = some (.float .f32 q.sa) := blkCell W.out 4; have cW5 : World.cell? W8 ⟨gW, 5, none⟩ = some (.slice A2 q.log.length c2) := blkCell W.out 5; have cX0 : World.cell? W8 ⟨gX, 0, none⟩ = some (.int .i64 s.cells) := blkCell X.out 0; have cX1 : World.cell? W8 ⟨gX, 1, none⟩ = some (.int .i64 s.rows) := blkCell X.out 1; have cX2 : World.cell? W8 ⟨gX, 2, none⟩ = some (.float .f32 s.sl) := blkCell X.out 2; have cX3 : World.cell? W8 ⟨gX, 3, none⟩ = some (.float .f32 s.le) := blkCell X.out 3; have cX4 : World.cell? W8 ⟨gX, 4, none⟩ = some (.float .f32 s.sa) := blkCell X.out 4; have cX5 : World.cell? W8 ⟨gX, 5, none⟩ = some (.slice A3 s.log.length c3) := blkCell X.out 5; have cG0 : World.cell? W8 ⟨gG, 0, none⟩ = some (.int .i64 q.cells) := blkCell G.out 0; have cG1 : World.cell? W8 ⟨gG, 1, none⟩ = some (.int .i64 q.rows) := blkCell G.out 1; have cG2 : World.cell? W8 ⟨gG, 2, none⟩ = some (.float .f32 q.sl) := blkCell G.out 2; have cG3 : World.cell? W8 ⟨gG, 3, none⟩ = some (.float .f32 q.le) := blkCell G.out 3; have cG4 : World.cell? W8 ⟨gG, 4, none⟩ = some (.float .f32 q.sa) := blkCell G.out 4; have cG5 : World.cell? W8 ⟨gG, 5, none⟩ = some (.slice A4 q.log.length c4) := blkCell G.out 5)) | ((with_reducible refine gateN 39 rfl ?_); go_must (refine ev_ld 39 rfl rfl rfl (cs := #[.int .i64 q.cells, .int .i64 q.rows, .float .f32 q.sl, .float .f32 q.le, .float .f32 q.sa, .slice A4 q.log.length c4]) rfl G.out Tryd.underlying28 rfl (by kernel_rfl) ?_)) | ((with_reducible refine gateN 40 rfl ?_); go_must (refine ev_ld 40 rfl rfl rfl (cs := #[.int .i64 q.cells, .int .i64 q.rows, .float .f32 q.sl, .float .f32 q.le, .float .f32 q.sa, .slice A2 q.log.length c2]) rfl W.out Tryd.underlying28 rfl (by kernel_rfl) ?_)))
  refine (eqSet_c q A4 A2 q.log.length c4 c2 _ rfl (own_rdS R4.out) (own_rdS R2.out)).mono ?_
  rintro e w6 ⟨rfl, h⟩
  have h0 : World.grownBy W8 w6 _ := (by refine World.grownBy.trans ?_ h; repeat (first | exact gr_refl _ _ | apply gr_drewN | apply gr_drew | apply gr_alloc))
  clear cB0 cB1 cB2 cB3 cB4 cB5 cW0 cW1 cW2 cW3 cW4 cW5 cX0 cX1 cX2 cX3 cX4 cX5 cG0 cG1 cG2 cG3 cG4 cG5
  have L_ := Az.mk (gr_new L.out h0 (by first | (simp; done) | (simp; omega) | omega))
  have B_ := Az.mk (blkGr B.out h0 (by first | (simp; done) | (simp; omega) | omega))
  have R2_ := Az.mk (own_gr R2.out h0 (by first | exact own_none _ | exact .inr hl?R2.out | exact .inr (own_blk R2.out B.out (by decide)) | exact .inr (own_blk R2.out W.out (by decide)) | exact .inr (own_blk R2.out X.out (by decide)) | exact .inr (own_blk R2.out G.out (by decide))))
  have W_ := Az.mk (blkGr W.out h0 (by first | (simp; done) | (simp; omega) | omega))
  have R3_ := Az.mk (own_gr R3.out h0 (by first | exact own_none _ | exact .inr hl?R3.out | exact .inr (own_blk R3.out B.out (by decide)) | exact .inr (own_blk R3.out W.out (by decide)) | exact .inr (own_blk R3.out X.out (by decide)) | exact .inr (own_blk R3.out G.out (by decide))))
  have X_ := Az.mk (blkGr X.out h0 (by first | (simp; done) | (simp; omega) | omega))
  have R4_ := Az.mk (own_gr R4.out h0 (by first | exact own_none _ | exact .inr hl?R4.out | exact .inr (own_blk R4.out B.out (by decide)) | exact .inr (own_blk R4.out W.out (by decide)) | exact .inr (own_blk R4.out X.out (by decide)) | exact .inr (own_blk R4.out G.out (by decide))))
  have G_ := Az.mk (blkGr G.out h0 (by first | (simp; done) | (simp; omega) | omega))
  clear L B R2 W R3 X R4 G
  have L := L_; clear L_
  have B := B_; clear B_
  have R2 := R2_; clear R2_
  have W := W_; clear W_
  have R3 := R3_; clear R3_
  have X := X_; clear X_
  have R4 := R4_; clear R4_
  have G := G_; clear G_
  clear h0 h
  have cB0 : World.cell? w6 ⟨gB, 0, none⟩ = some (.int .i64 s.cells) := blkCell B.out 0
  have cB1 : World.cell? w6 ⟨gB, 1, none⟩ = some (.int .i64 s.rows) := blkCell B.out 1
  have cB2 : World.cell? w6 ⟨gB, 2, none⟩ = some (.float .f32 s.sl) := blkCell B.out 2
  have cB3 : World.cell? w6 ⟨gB, 3, none⟩ = some (.float .f32 s.le) := blkCell B.out 3
  have cB4 : World.cell? w6 ⟨gB, 4, none⟩ = some (.float .f32 s.sa) := blkCell B.out 4
  have cB5 : World.cell? w6 ⟨gB, 5, none⟩ = some (.slice A n c) := blkCell B.out 5
  have cW0 : World.cell? w6 ⟨gW, 0, none⟩ = some (.int .i64 q.cells) := blkCell W.out 0
  have cW1 : World.cell? w6 ⟨gW, 1, none⟩ = some (.int .i64 q.rows) := blkCell W.out 1
  have cW2 : World.cell? w6 ⟨gW, 2, none⟩ = some (.float .f32 q.sl) := blkCell W.out 2
  have cW3 : World.cell? w6 ⟨gW, 3, none⟩ = some (.float .f32 q.le) := blkCell W.out 3
  have cW4 : World.cell? w6 ⟨gW, 4, none⟩ = some (.float .f32 q.sa) := blkCell W.out 4
  have cW5 : World.cell? w6 ⟨gW, 5, none⟩ = some (.slice A2 q.log.length c2) := blkCell W.out 5
  have cX0 : World.cell? w6 ⟨gX, 0, none⟩ = some (.int .i64 s.cells) := blkCell X.out 0
  have cX1 : World.cell? w6 ⟨gX, 1, none⟩ = some (.int .i64 s.rows) := blkCell X.out 1
  have cX2 : World.cell? w6 ⟨gX, 2, none⟩ = some (.float .f32 s.sl) := blkCell X.out 2
  have cX3 : World.cell? w6 ⟨gX, 3, none⟩ = some (.float .f32 s.le) := blkCell X.out 3
  have cX4 : World.cell? w6 ⟨gX, 4, none⟩ = some (.float .f32 s.sa) := blkCell X.out 4
  have cX5 : World.cell? w6 ⟨gX, 5, none⟩ = some (.slice A3 s.log.length c3) := blkCell X.out 5
  have cG0 : World.cell? w6 ⟨gG, 0, none⟩ = some (.int .i64 q.cells) := blkCell G.out 0
  have cG1 : World.cell? w6 ⟨gG, 1, none⟩ = some (.int .i64 q.rows) := blkCell G.out 1
  have cG2 : World.cell? w6 ⟨gG, 2, none⟩ = some (.float .f32 q.sl) := blkCell G.out 2
  have cG3 : World.cell? w6 ⟨gG, 3, none⟩ = some (.float .f32 q.le) := blkCell G.out 3
  have cG4 : World.cell? w6 ⟨gG, 4, none⟩ = some (.float .f32 q.sa) := blkCell G.out 4
  have cG5 : World.cell? w6 ⟨gG, 5, none⟩ = some (.slice A4 q.log.length c4) := blkCell G.out 5
  have hbb : (ok != ok) = false := by simp
  go_wp2_with fail
  have uB0 : ∀ w1, World.grownBy w6 w1 none → w1.cell? ⟨gB, 0, none⟩ = some (.int .i64 s.cells) := fun w1 hu => blkCell (blkGr B.out hu (by simp)) 0
  have uB1 : ∀ w1, World.grownBy w6 w1 none → w1.cell? ⟨gB, 1, none⟩ = some (.int .i64 s.rows) := fun w1 hu => blkCell (blkGr B.out hu (by simp)) 1
  have uB2 : ∀ w1, World.grownBy w6 w1 none → w1.cell? ⟨gB, 2, none⟩ = some (.float .f32 s.sl) := fun w1 hu => blkCell (blkGr B.out hu (by simp)) 2
  have uB3 : ∀ w1, World.grownBy w6 w1 none → w1.cell? ⟨gB, 3, none⟩ = some (.float .f32 s.le) := fun w1 hu => blkCell (blkGr B.out hu (by simp)) 3
  have uB4 : ∀ w1, World.grownBy w6 w1 none → w1.cell? ⟨gB, 4, none⟩ = some (.float .f32 s.sa) := fun w1 hu => blkCell (blkGr B.out hu (by simp)) 4
  have uB5 : ∀ w1, World.grownBy w6 w1 none → w1.cell? ⟨gB, 5, none⟩ = some (.slice A n c) := fun w1 hu => blkCell (blkGr B.out hu (by simp)) 5
  have uX0 : ∀ w1, World.grownBy w6 w1 none → w1.cell? ⟨gX, 0, none⟩ = some (.int .i64 s.cells) := fun w1 hu => blkCell (blkGr X.out hu (by simp)) 0
  have uX1 : ∀ w1, World.grownBy w6 w1 none → w1.cell? ⟨gX, 1, none⟩ = some (.int .i64 s.rows) := fun w1 hu => blkCell (blkGr X.out hu (by simp)) 1
  have uX2 : ∀ w1, World.grownBy w6 w1 none → w1.cell? ⟨gX, 2, none⟩ = some (.float .f32 s.sl) := fun w1 hu => blkCell (blkGr X.out hu (by simp)) 2
  have uX3 : ∀ w1, World.grownBy w6 w1 none → w1.cell? ⟨gX, 3, none⟩ = some (.float .f32 s.le) := fun w1 hu => blkCell (blkGr X.out hu (by simp)) 3
  have uX4 : ∀ w1, World.grownBy w6 w1 none → w1.cell? ⟨gX, 4, none⟩ = some (.float .f32 s.sa) := fun w1 hu => blkCell (blkGr X.out hu (by simp)) 4
  have uX5 : ∀ w1, World.grownBy w6 w1 none → w1.cell? ⟨gX, 5, none⟩ = some (.slice A3 s.log.length c3) := fun w1 hu => blkCell (blkGr X.out hu (by simp)) 5
  go_region_held3 (fun w' => World.grownBy w6 w' none) (first | assumption | exact gr_drew (gr_refl _ _) | exact gr_trans (by assumption) h6 | exact gr_trans (by assumption) h5 | (apply gr_drew; assumption)) (first
    | (go_at_call 12; refine (toSet_c s A n c (by omega) _ HN.out (HR.out.up (gr_trans L.out (by assumption)))).mono ?_; rintro e w7 ⟨v5, rfl, hR5, h5⟩; obtain ⟨A5, c5, rfl, hS5⟩ := own_sl hR5)
    | (go_at_call 14; refine (eqSet_c s A3 A5 s.log.length c3 c5 _ rfl ((own_rdS R3.out).up (by assumption)) (by first | exact own_rdS hR5 | exact (own_rdS hR5).up (gr_drew (gr_refl _ _)))).mono ?_; rintro e w8 ⟨rfl, h6⟩))
  have h : World.grownBy w6 w8 none := by assumption
  clear h5 h6 hR5 hS5 uB0 uB1 uB2 uB3 uB4 uB5 uX0 uX1 uX2 uX3 uX4 uX5
  have h0 : World.grownBy w6 w8 none := (by refine World.grownBy.trans ?_ h; repeat (first | exact gr_refl _ _ | apply gr_drewN | apply gr_drew | apply gr_alloc))
  clear cB0 cB1 cB2 cB3 cB4 cB5 cW0 cW1 cW2 cW3 cW4 cW5 cX0 cX1 cX2 cX3 cX4 cX5 cG0 cG1 cG2 cG3 cG4 cG5
  have L_ := Az.mk (gr_new L.out h0 (by first | (simp; done) | (simp; omega) | omega))
  have B_ := Az.mk (blkGr B.out h0 (by first | (simp; done) | (simp; omega) | omega))
  have R2_ := Az.mk (own_gr R2.out h0 (by first | exact own_none _ | exact .inr hl?R2.out | exact .inr (own_blk R2.out B.out (by decide)) | exact .inr (own_blk R2.out W.out (by decide)) | exact .inr (own_blk R2.out X.out (by decide)) | exact .inr (own_blk R2.out G.out (by decide))))
  have W_ := Az.mk (blkGr W.out h0 (by first | (simp; done) | (simp; omega) | omega))
  have R3_ := Az.mk (own_gr R3.out h0 (by first | exact own_none _ | exact .inr hl?R3.out | exact .inr (own_blk R3.out B.out (by decide)) | exact .inr (own_blk R3.out W.out (by decide)) | exact .inr (own_blk R3.out X.out (by decide)) | exact .inr (own_blk R3.out G.out (by decide))))
  have X_ := Az.mk (blkGr X.out h0 (by first | (simp; done) | (simp; omega) | omega))
  have R4_ := Az.mk (own_gr R4.out h0 (by first | exact own_none _ | exact .inr hl?R4.out | exact .inr (own_blk R4.out B.out (by decide)) | exact .inr (own_blk R4.out W.out (by decide)) | exact .inr (own_blk R4.out X.out (by decide)) | exact .inr (own_blk R4.out G.out (by decide))))
  have G_ := Az.mk (blkGr G.out h0 (by first | (simp; done) | (simp; omega) | omega))
  clear L B R2 W R3 X R4 G
  have L := L_; clear L_
  have B := B_; clear B_
  have R2 := R2_; clear R2_
  have W := W_; clear W_
  have R3 := R3_; clear R3_
  have X := X_; clear X_
  have R4 := R4_; clear R4_
  have G := G_; clear G_
  clear h0 h
  have cB0 : World.cell? w8 ⟨gB, 0, none⟩ = some (.int .i64 s.cells) := blkCell B.out 0
  have cB1 : World.cell? w8 ⟨gB, 1, none⟩ = some (.int .i64 s.rows) := blkCell B.out 1
  have cB2 : World.cell? w8 ⟨gB, 2, none⟩ = some (.float .f32 s.sl) := blkCell B.out 2
  have cB3 : World.cell? w8 ⟨gB, 3, none⟩ = some (.float .f32 s.le) := blkCell B.out 3
  have cB4 : World.cell? w8 ⟨gB, 4, none⟩ = some (.float .f32 s.sa) := blkCell B.out 4
  have cB5 : World.cell? w8 ⟨gB, 5, none⟩ = some (.slice A n c) := blkCell B.out 5
  have cW0 : World.cell? w8 ⟨gW, 0, none⟩ = some (.int .i64 q.cells) := blkCell W.out 0
  have cW1 : World.cell? w8 ⟨gW, 1, none⟩ = some (.int .i64 q.rows) := blkCell W.out 1
  have cW2 : World.cell? w8 ⟨gW, 2, none⟩ = some (.float .f32 q.sl) := blkCell W.out 2
  have cW3 : World.cell? w8 ⟨gW, 3, none⟩ = some (.float .f32 q.le) := blkCell W.out 3
  have cW4 : World.cell? w8 ⟨gW, 4, none⟩ = some (.float .f32 q.sa) := blkCell W.out 4
  have cW5 : World.cell? w8 ⟨gW, 5, none⟩ = some (.slice A2 q.log.length c2) := blkCell W.out 5
  have cX0 : World.cell? w8 ⟨gX, 0, none⟩ = some (.int .i64 s.cells) := blkCell X.out 0
  have cX1 : World.cell? w8 ⟨gX, 1, none⟩ = some (.int .i64 s.rows) := blkCell X.out 1
  have cX2 : World.cell? w8 ⟨gX, 2, none⟩ = some (.float .f32 s.sl) := blkCell X.out 2
  have cX3 : World.cell? w8 ⟨gX, 3, none⟩ = some (.float .f32 s.le) := blkCell X.out 3
  have cX4 : World.cell? w8 ⟨gX, 4, none⟩ = some (.float .f32 s.sa) := blkCell X.out 4
  have cX5 : World.cell? w8 ⟨gX, 5, none⟩ = some (.slice A3 s.log.length c3) := blkCell X.out 5
  have cG0 : World.cell? w8 ⟨gG, 0, none⟩ = some (.int .i64 q.cells) := blkCell G.out 0
  have cG1 : World.cell? w8 ⟨gG, 1, none⟩ = some (.int .i64 q.rows) := blkCell G.out 1
  have cG2 : World.cell? w8 ⟨gG, 2, none⟩ = some (.float .f32 q.sl) := blkCell G.out 2
  have cG3 : World.cell? w8 ⟨gG, 3, none⟩ = some (.float .f32 q.le) := blkCell G.out 3
  have cG4 : World.cell? w8 ⟨gG, 4, none⟩ = some (.float .f32 q.sa) := blkCell G.out 4
  have cG5 : World.cell? w8 ⟨gG, 5, none⟩ = some (.slice A4 q.log.length c4) := blkCell G.out 5
  go_wp2_with fail
  refine (markSet_c s w.heap.size A3 s.log.length c3 1 (by decide) (by omega) rfl _ R3.out).mono ?_
  rintro e w8x ⟨rfl, hR, h⟩
  have h0 : World.grownBy w8 w8x _ := (by refine World.grownBy.trans ?_ h; repeat (first | exact gr_refl _ _ | apply gr_drewN | apply gr_drew | apply gr_alloc))
  have L_ := Az.mk (gr_new L.out h0 (fun j hj => .inl (own_base R3.out j hj)))
  have B_ := Az.mk (blkGr B.out h0 (fun he => own_blk R3.out B.out (by decide) he.symm))
  have W_ := Az.mk (blkGr W.out h0 (fun he => own_blk R3.out W.out (by decide) he.symm))
  have X_ := Az.mk (blkGr X.out h0 (fun he => own_blk R3.out X.out (by decide) he.symm))
  have G_ := Az.mk (blkGr G.out h0 (fun he => own_blk R3.out G.out (by decide) he.symm))
  have R2_ := Az.mk (own_gr R2.out h0 HD23.out.1)
  have R4_ := Az.mk (own_gr R4.out h0 HD34.out.2)
  clear cB0 cB1 cB2 cB3 cB4 cB5 cW0 cW1 cW2 cW3 cW4 cW5 cX0 cX1 cX2 cX3 cX4 cX5 cG0 cG1 cG2 cG3 cG4 cG5
  clear L B W X G R2 R4 R3 h0 h
  have R3 := Az.mk hR
  clear hR
  have L := L_; clear L_
  have B := B_; clear B_
  have W := W_; clear W_
  have X := X_; clear X_
  have G := G_; clear G_
  have R2 := R2_; clear R2_
  have R4 := R4_; clear R4_
  have cB0 : World.cell? w8x ⟨gB, 0, none⟩ = some (.int .i64 s.cells) := blkCell B.out 0
  have cB1 : World.cell? w8x ⟨gB, 1, none⟩ = some (.int .i64 s.rows) := blkCell B.out 1
  have cB2 : World.cell? w8x ⟨gB, 2, none⟩ = some (.float .f32 s.sl) := blkCell B.out 2
  have cB3 : World.cell? w8x ⟨gB, 3, none⟩ = some (.float .f32 s.le) := blkCell B.out 3
  have cB4 : World.cell? w8x ⟨gB, 4, none⟩ = some (.float .f32 s.sa) := blkCell B.out 4
  have cB5 : World.cell? w8x ⟨gB, 5, none⟩ = some (.slice A n c) := blkCell B.out 5
  have cW0 : World.cell? w8x ⟨gW, 0, none⟩ = some (.int .i64 q.cells) := blkCell W.out 0
  have cW1 : World.cell? w8x ⟨gW, 1, none⟩ = some (.int .i64 q.rows) := blkCell W.out 1
  have cW2 : World.cell? w8x ⟨gW, 2, none⟩ = some (.float .f32 q.sl) := blkCell W.out 2
  have cW3 : World.cell? w8x ⟨gW, 3, none⟩ = some (.float .f32 q.le) := blkCell W.out 3
  have cW4 : World.cell? w8x ⟨gW, 4, none⟩ = some (.float .f32 q.sa) := blkCell W.out 4
  have cW5 : World.cell? w8x ⟨gW, 5, none⟩ = some (.slice A2 q.log.length c2) := blkCell W.out 5
  have cX0 : World.cell? w8x ⟨gX, 0, none⟩ = some (.int .i64 s.cells) := blkCell X.out 0
  have cX1 : World.cell? w8x ⟨gX, 1, none⟩ = some (.int .i64 s.rows) := blkCell X.out 1
  have cX2 : World.cell? w8x ⟨gX, 2, none⟩ = some (.float .f32 s.sl) := blkCell X.out 2
  have cX3 : World.cell? w8x ⟨gX, 3, none⟩ = some (.float .f32 s.le) := blkCell X.out 3
  have cX4 : World.cell? w8x ⟨gX, 4, none⟩ = some (.float .f32 s.sa) := blkCell X.out 4
  have cX5 : World.cell? w8x ⟨gX, 5, none⟩ = some (.slice A3 s.log.length c3) := blkCell X.out 5
  have cG0 : World.cell? w8x ⟨gG, 0, none⟩ = some (.int .i64 q.cells) := blkCell G.out 0
  have cG1 : World.cell? w8x ⟨gG, 1, none⟩ = some (.int .i64 q.rows) := blkCell G.out 1
  have cG2 : World.cell? w8x ⟨gG, 2, none⟩ = some (.float .f32 q.sl) := blkCell G.out 2
  have cG3 : World.cell? w8x ⟨gG, 3, none⟩ = some (.float .f32 q.le) := blkCell G.out 3
  have cG4 : World.cell? w8x ⟨gG, 4, none⟩ = some (.float .f32 q.sa) := blkCell G.out 4
  have cG5 : World.cell? w8x ⟨gG, 5, none⟩ = some (.slice A4 q.log.length c4) := blkCell G.out 5
  have hk1 : ¬ ((1 + s.log.length : Nat) : Int) < 0 := by omega
  go_wp2_with (first | ((with_reducible refine gateN 59 rfl ?_); go_must (refine stripG (by first | rfl | (simp [Region.wanted, yielded]; done) | (simp [Region.wanted, yielded]; omega)) ?_; refine ev_ld 59 rfl rfl rfl (cs := #[.int .i64 q.cells, .int .i64 q.rows, .float .f32 q.sl, .float .f32 q.le, .float .f32 q.sa, .slice A4 q.log.length c4]) rfl G.out Tryd.underlying28 rfl (by kernel_rfl) ?_)) | ((with_reducible refine gateN 60 rfl ?_); go_must (refine stripG (by first | rfl | (simp [Region.wanted, yielded]; done) | (simp [Region.wanted, yielded]; omega)) ?_; refine ev_ld 60 rfl rfl rfl (cs := #[.int .i64 q.cells, .int .i64 q.rows, .float .f32 q.sl, .float .f32 q.le, .float .f32 q.sa, .slice A2 q.log.length c2]) rfl W.out Tryd.underlying28 rfl (by kernel_rfl) ?_)))
  refine (eqSet_c q A4 A2 q.log.length c4 c2 _ rfl (own_rdS R4.out) (own_rdS R2.out)).mono ?_
  rintro e w9 ⟨rfl, h⟩
  have h0 : World.grownBy w8x w9 _ := (by refine World.grownBy.trans ?_ h; repeat (first | exact gr_refl _ _ | apply gr_drewN | apply gr_drew | apply gr_alloc))
  clear cB0 cB1 cB2 cB3 cB4 cB5 cW0 cW1 cW2 cW3 cW4 cW5 cX0 cX1 cX2 cX3 cX4 cX5 cG0 cG1 cG2 cG3 cG4 cG5
  have L_ := Az.mk (gr_new L.out h0 (by first | (simp; done) | (simp; omega) | omega))
  have B_ := Az.mk (blkGr B.out h0 (by first | (simp; done) | (simp; omega) | omega))
  have W_ := Az.mk (blkGr W.out h0 (by first | (simp; done) | (simp; omega) | omega))
  have X_ := Az.mk (blkGr X.out h0 (by first | (simp; done) | (simp; omega) | omega))
  have G_ := Az.mk (blkGr G.out h0 (by first | (simp; done) | (simp; omega) | omega))
  have R2_ := Az.mk (own_gr R2.out h0 (by first | exact own_none _ | exact .inr hl?R2.out | exact .inr (own_blk R2.out B.out (by decide)) | exact .inr (own_blk R2.out W.out (by decide)) | exact .inr (own_blk R2.out X.out (by decide)) | exact .inr (own_blk R2.out G.out (by decide))))
  have R4_ := Az.mk (own_gr R4.out h0 (by first | exact own_none _ | exact .inr hl?R4.out | exact .inr (own_blk R4.out B.out (by decide)) | exact .inr (own_blk R4.out W.out (by decide)) | exact .inr (own_blk R4.out X.out (by decide)) | exact .inr (own_blk R4.out G.out (by decide))))
  have R3_ := Az.mk (own_gr R3.out h0 (by first | exact own_none _ | exact .inr hl?R3.out | exact .inr (own_blk R3.out B.out (by decide)) | exact .inr (own_blk R3.out W.out (by decide)) | exact .inr (own_blk R3.out X.out (by decide)) | exact .inr (own_blk R3.out G.out (by decide))))
  clear L B W X G R2 R4 R3
  have L := L_; clear L_
  have B := B_; clear B_
  have W := W_; clear W_
  have X := X_; clear X_
  have G := G_; clear G_
  have R2 := R2_; clear R2_
  have R4 := R4_; clear R4_
  have R3 := R3_; clear R3_
  clear h0 h
  have cB0 : World.cell? w9 ⟨gB, 0, none⟩ = some (.int .i64 s.cells) := blkCell B.out 0
  have cB1 : World.cell? w9 ⟨gB, 1, none⟩ = some (.int .i64 s.rows) := blkCell B.out 1
  have cB2 : World.cell? w9 ⟨gB, 2, none⟩ = some (.float .f32 s.sl) := blkCell B.out 2
  have cB3 : World.cell? w9 ⟨gB, 3, none⟩ = some (.float .f32 s.le) := blkCell B.out 3
  have cB4 : World.cell? w9 ⟨gB, 4, none⟩ = some (.float .f32 s.sa) := blkCell B.out 4
  have cB5 : World.cell? w9 ⟨gB, 5, none⟩ = some (.slice A n c) := blkCell B.out 5
  have cW0 : World.cell? w9 ⟨gW, 0, none⟩ = some (.int .i64 q.cells) := blkCell W.out 0
  have cW1 : World.cell? w9 ⟨gW, 1, none⟩ = some (.int .i64 q.rows) := blkCell W.out 1
  have cW2 : World.cell? w9 ⟨gW, 2, none⟩ = some (.float .f32 q.sl) := blkCell W.out 2
  have cW3 : World.cell? w9 ⟨gW, 3, none⟩ = some (.float .f32 q.le) := blkCell W.out 3
  have cW4 : World.cell? w9 ⟨gW, 4, none⟩ = some (.float .f32 q.sa) := blkCell W.out 4
  have cW5 : World.cell? w9 ⟨gW, 5, none⟩ = some (.slice A2 q.log.length c2) := blkCell W.out 5
  have cX0 : World.cell? w9 ⟨gX, 0, none⟩ = some (.int .i64 s.cells) := blkCell X.out 0
  have cX1 : World.cell? w9 ⟨gX, 1, none⟩ = some (.int .i64 s.rows) := blkCell X.out 1
  have cX2 : World.cell? w9 ⟨gX, 2, none⟩ = some (.float .f32 s.sl) := blkCell X.out 2
  have cX3 : World.cell? w9 ⟨gX, 3, none⟩ = some (.float .f32 s.le) := blkCell X.out 3
  have cX4 : World.cell? w9 ⟨gX, 4, none⟩ = some (.float .f32 s.sa) := blkCell X.out 4
  have cX5 : World.cell? w9 ⟨gX, 5, none⟩ = some (.slice A3 s.log.length c3) := blkCell X.out 5
  have cG0 : World.cell? w9 ⟨gG, 0, none⟩ = some (.int .i64 q.cells) := blkCell G.out 0
  have cG1 : World.cell? w9 ⟨gG, 1, none⟩ = some (.int .i64 q.rows) := blkCell G.out 1
  have cG2 : World.cell? w9 ⟨gG, 2, none⟩ = some (.float .f32 q.sl) := blkCell G.out 2
  have cG3 : World.cell? w9 ⟨gG, 3, none⟩ = some (.float .f32 q.le) := blkCell G.out 3
  have cG4 : World.cell? w9 ⟨gG, 4, none⟩ = some (.float .f32 q.sa) := blkCell G.out 4
  have cG5 : World.cell? w9 ⟨gG, 5, none⟩ = some (.slice A4 q.log.length c4) := blkCell G.out 5
  go_wp2_with (first | ((with_reducible refine gateN 69 rfl ?_); go_must (refine ev_ld 69 rfl rfl rfl (cs := #[.int .i64 q.cells, .int .i64 q.rows, .float .f32 q.sl, .float .f32 q.le, .float .f32 q.sa, .slice A4 q.log.length c4]) rfl G.out Tryd.underlying28 rfl (by kernel_rfl) ?_)))
  refine (markSet_c q w.heap.size A4 q.log.length c4 1 (by decide) (by omega) rfl _ R4.out).mono ?_
  rintro e w9x ⟨rfl, hR, h⟩
  have h0 : World.grownBy w9 w9x _ := (by refine World.grownBy.trans ?_ h; repeat (first | exact gr_refl _ _ | apply gr_drewN | apply gr_drew | apply gr_alloc))
  have L_ := Az.mk (gr_new L.out h0 (fun j hj => .inl (own_base R4.out j hj)))
  have B_ := Az.mk (blkGr B.out h0 (fun he => own_blk R4.out B.out (by decide) he.symm))
  have W_ := Az.mk (blkGr W.out h0 (fun he => own_blk R4.out W.out (by decide) he.symm))
  have X_ := Az.mk (blkGr X.out h0 (fun he => own_blk R4.out X.out (by decide) he.symm))
  have G_ := Az.mk (blkGr G.out h0 (fun he => own_blk R4.out G.out (by decide) he.symm))
  have R2_ := Az.mk (own_gr R2.out h0 HD24.out.1)
  have R3_ := Az.mk (own_gr R3.out h0 HD34.out.1)
  clear cB0 cB1 cB2 cB3 cB4 cB5 cW0 cW1 cW2 cW3 cW4 cW5 cX0 cX1 cX2 cX3 cX4 cX5 cG0 cG1 cG2 cG3 cG4 cG5
  clear L B W X G R2 R3 R4 h0 h
  have R4 := Az.mk hR
  clear hR
  have L := L_; clear L_
  have B := B_; clear B_
  have W := W_; clear W_
  have X := X_; clear X_
  have G := G_; clear G_
  have R2 := R2_; clear R2_
  have R3 := R3_; clear R3_
  have cB0 : World.cell? w9x ⟨gB, 0, none⟩ = some (.int .i64 s.cells) := blkCell B.out 0
  have cB1 : World.cell? w9x ⟨gB, 1, none⟩ = some (.int .i64 s.rows) := blkCell B.out 1
  have cB2 : World.cell? w9x ⟨gB, 2, none⟩ = some (.float .f32 s.sl) := blkCell B.out 2
  have cB3 : World.cell? w9x ⟨gB, 3, none⟩ = some (.float .f32 s.le) := blkCell B.out 3
  have cB4 : World.cell? w9x ⟨gB, 4, none⟩ = some (.float .f32 s.sa) := blkCell B.out 4
  have cB5 : World.cell? w9x ⟨gB, 5, none⟩ = some (.slice A n c) := blkCell B.out 5
  have cW0 : World.cell? w9x ⟨gW, 0, none⟩ = some (.int .i64 q.cells) := blkCell W.out 0
  have cW1 : World.cell? w9x ⟨gW, 1, none⟩ = some (.int .i64 q.rows) := blkCell W.out 1
  have cW2 : World.cell? w9x ⟨gW, 2, none⟩ = some (.float .f32 q.sl) := blkCell W.out 2
  have cW3 : World.cell? w9x ⟨gW, 3, none⟩ = some (.float .f32 q.le) := blkCell W.out 3
  have cW4 : World.cell? w9x ⟨gW, 4, none⟩ = some (.float .f32 q.sa) := blkCell W.out 4
  have cW5 : World.cell? w9x ⟨gW, 5, none⟩ = some (.slice A2 q.log.length c2) := blkCell W.out 5
  have cX0 : World.cell? w9x ⟨gX, 0, none⟩ = some (.int .i64 s.cells) := blkCell X.out 0
  have cX1 : World.cell? w9x ⟨gX, 1, none⟩ = some (.int .i64 s.rows) := blkCell X.out 1
  have cX2 : World.cell? w9x ⟨gX, 2, none⟩ = some (.float .f32 s.sl) := blkCell X.out 2
  have cX3 : World.cell? w9x ⟨gX, 3, none⟩ = some (.float .f32 s.le) := blkCell X.out 3
  have cX4 : World.cell? w9x ⟨gX, 4, none⟩ = some (.float .f32 s.sa) := blkCell X.out 4
  have cX5 : World.cell? w9x ⟨gX, 5, none⟩ = some (.slice A3 s.log.length c3) := blkCell X.out 5
  have cG0 : World.cell? w9x ⟨gG, 0, none⟩ = some (.int .i64 q.cells) := blkCell G.out 0
  have cG1 : World.cell? w9x ⟨gG, 1, none⟩ = some (.int .i64 q.rows) := blkCell G.out 1
  have cG2 : World.cell? w9x ⟨gG, 2, none⟩ = some (.float .f32 q.sl) := blkCell G.out 2
  have cG3 : World.cell? w9x ⟨gG, 3, none⟩ = some (.float .f32 q.le) := blkCell G.out 3
  have cG4 : World.cell? w9x ⟨gG, 4, none⟩ = some (.float .f32 q.sa) := blkCell G.out 4
  have cG5 : World.cell? w9x ⟨gG, 5, none⟩ = some (.slice A4 q.log.length c4) := blkCell G.out 5
  have hk2 : ¬ ((1 + q.log.length : Nat) : Int) < 0 := by omega
  go_wp2_with (first | ((with_reducible refine gateN 72 rfl ?_); go_must (refine ev_ld 72 rfl rfl rfl (cs := #[.int .i64 q.cells, .int .i64 q.rows, .float .f32 q.sl, .float .f32 q.le, .float .f32 q.sa, .slice A4 q.log.length c4]) rfl G.out Tryd.underlying28 rfl (by kernel_rfl) ?_)))
  refine (heldSet_c q A4 q.log.length c4 1 (by decide) (by omega) _ (own_rdS R4.out)).mono ?_
  rintro e wa ⟨rfl, h⟩
  have h0 : World.grownBy w9x wa _ := (by refine World.grownBy.trans ?_ h; repeat (first | exact gr_refl _ _ | apply gr_drewN | apply gr_drew | apply gr_alloc))
  clear cB0 cB1 cB2 cB3 cB4 cB5 cW0 cW1 cW2 cW3 cW4 cW5 cX0 cX1 cX2 cX3 cX4 cX5 cG0 cG1 cG2 cG3 cG4 cG5
  have L_ := Az.mk (gr_new L.out h0 (by first | (simp; done) | (simp; omega) | omega))
  have B_ := Az.mk (blkGr B.out h0 (by first | (simp; done) | (simp; omega) | omega))
  have W_ := Az.mk (blkGr W.out h0 (by first | (simp; done) | (simp; omega) | omega))
  have X_ := Az.mk (blkGr X.out h0 (by first | (simp; done) | (simp; omega) | omega))
  have G_ := Az.mk (blkGr G.out h0 (by first | (simp; done) | (simp; omega) | omega))
  have R2_ := Az.mk (own_gr R2.out h0 (by first | exact own_none _ | exact .inr hl?R2.out | exact .inr (own_blk R2.out B.out (by decide)) | exact .inr (own_blk R2.out W.out (by decide)) | exact .inr (own_blk R2.out X.out (by decide)) | exact .inr (own_blk R2.out G.out (by decide))))
  have R3_ := Az.mk (own_gr R3.out h0 (by first | exact own_none _ | exact .inr hl?R3.out | exact .inr (own_blk R3.out B.out (by decide)) | exact .inr (own_blk R3.out W.out (by decide)) | exact .inr (own_blk R3.out X.out (by decide)) | exact .inr (own_blk R3.out G.out (by decide))))
  have R4_ := Az.mk (own_gr R4.out h0 (by first | exact own_none _ | exact .inr hl?R4.out | exact .inr (own_blk R4.out B.out (by decide)) | exact .inr (own_blk R4.out W.out (by decide)) | exact .inr (own_blk R4.out X.out (by decide)) | exact .inr (own_blk R4.out G.out (by decide))))
  clear L B W X G R2 R3 R4
  have L := L_; clear L_
  have B := B_; clear B_
  have W := W_; clear W_
  have X := X_; clear X_
  have G := G_; clear G_
  have R2 := R2_; clear R2_
  have R3 := R3_; clear R3_
  have R4 := R4_; clear R4_
  clear h0 h
  have cB0 : World.cell? wa ⟨gB, 0, none⟩ = some (.int .i64 s.cells) := blkCell B.out 0
  have cB1 : World.cell? wa ⟨gB, 1, none⟩ = some (.int .i64 s.rows) := blkCell B.out 1
  have cB2 : World.cell? wa ⟨gB, 2, none⟩ = some (.float .f32 s.sl) := blkCell B.out 2
  have cB3 : World.cell? wa ⟨gB, 3, none⟩ = some (.float .f32 s.le) := blkCell B.out 3
  have cB4 : World.cell? wa ⟨gB, 4, none⟩ = some (.float .f32 s.sa) := blkCell B.out 4
  have cB5 : World.cell? wa ⟨gB, 5, none⟩ = some (.slice A n c) := blkCell B.out 5
  have cW0 : World.cell? wa ⟨gW, 0, none⟩ = some (.int .i64 q.cells) := blkCell W.out 0
  have cW1 : World.cell? wa ⟨gW, 1, none⟩ = some (.int .i64 q.rows) := blkCell W.out 1
  have cW2 : World.cell? wa ⟨gW, 2, none⟩ = some (.float .f32 q.sl) := blkCell W.out 2
  have cW3 : World.cell? wa ⟨gW, 3, none⟩ = some (.float .f32 q.le) := blkCell W.out 3
  have cW4 : World.cell? wa ⟨gW, 4, none⟩ = some (.float .f32 q.sa) := blkCell W.out 4
  have cW5 : World.cell? wa ⟨gW, 5, none⟩ = some (.slice A2 q.log.length c2) := blkCell W.out 5
  have cX0 : World.cell? wa ⟨gX, 0, none⟩ = some (.int .i64 s.cells) := blkCell X.out 0
  have cX1 : World.cell? wa ⟨gX, 1, none⟩ = some (.int .i64 s.rows) := blkCell X.out 1
  have cX2 : World.cell? wa ⟨gX, 2, none⟩ = some (.float .f32 s.sl) := blkCell X.out 2
  have cX3 : World.cell? wa ⟨gX, 3, none⟩ = some (.float .f32 s.le) := blkCell X.out 3
  have cX4 : World.cell? wa ⟨gX, 4, none⟩ = some (.float .f32 s.sa) := blkCell X.out 4
  have cX5 : World.cell? wa ⟨gX, 5, none⟩ = some (.slice A3 s.log.length c3) := blkCell X.out 5
  have cG0 : World.cell? wa ⟨gG, 0, none⟩ = some (.int .i64 q.cells) := blkCell G.out 0
  have cG1 : World.cell? wa ⟨gG, 1, none⟩ = some (.int .i64 q.rows) := blkCell G.out 1
  have cG2 : World.cell? wa ⟨gG, 2, none⟩ = some (.float .f32 q.sl) := blkCell G.out 2
  have cG3 : World.cell? wa ⟨gG, 3, none⟩ = some (.float .f32 q.le) := blkCell G.out 3
  have cG4 : World.cell? wa ⟨gG, 4, none⟩ = some (.float .f32 q.sa) := blkCell G.out 4
  have cG5 : World.cell? wa ⟨gG, 5, none⟩ = some (.slice A4 q.log.length c4) := blkCell G.out 5
  go_wp2_with (first | ((with_reducible refine gateN 81 rfl ?_); go_must (refine ev_ld 81 rfl rfl rfl (cs := #[.int .i64 s.cells, .int .i64 s.rows, .float .f32 s.sl, .float .f32 s.le, .float .f32 s.sa, .slice A n c]) rfl B.out Tryd.underlying25 rfl (by kernel_rfl) ?_)))
  have s5 := L.out.size
  refine (toSet_c s A n c (by omega) _ HN.out (HR.out.up L.out)).mono ?_
  rintro e wb ⟨v5, rfl, hR5, h⟩
  have h0 : World.grownBy wa wb _ := (by refine World.grownBy.trans ?_ h; repeat (first | exact gr_refl _ _ | apply gr_drewN | apply gr_drew | apply gr_alloc))
  clear cB0 cB1 cB2 cB3 cB4 cB5 cW0 cW1 cW2 cW3 cW4 cW5 cX0 cX1 cX2 cX3 cX4 cX5 cG0 cG1 cG2 cG3 cG4 cG5
  have L_ := Az.mk (gr_new L.out h0 (by first | (simp; done) | (simp; omega) | omega))
  have B_ := Az.mk (blkGr B.out h0 (by first | (simp; done) | (simp; omega) | omega))
  have W_ := Az.mk (blkGr W.out h0 (by first | (simp; done) | (simp; omega) | omega))
  have X_ := Az.mk (blkGr X.out h0 (by first | (simp; done) | (simp; omega) | omega))
  have G_ := Az.mk (blkGr G.out h0 (by first | (simp; done) | (simp; omega) | omega))
  have R2_ := Az.mk (own_gr R2.out h0 (by first | exact own_none _ | exact .inr hl?R2.out | exact .inr (own_blk R2.out B.out (by decide)) | exact .inr (own_blk R2.out W.out (by decide)) | exact .inr (own_blk R2.out X.out (by decide)) | exact .inr (own_blk R2.out G.out (by decide))))
  have R3_ := Az.mk (own_gr R3.out h0 (by first | exact own_none _ | exact .inr hl?R3.out | exact .inr (own_blk R3.out B.out (by decide)) | exact .inr (own_blk R3.out W.out (by decide)) | exact .inr (own_blk R3.out X.out (by decide)) | exact .inr (own_blk R3.out G.out (by decide))))
  have R4_ := Az.mk (own_gr R4.out h0 (by first | exact own_none _ | exact .inr hl?R4.out | exact .inr (own_blk R4.out B.out (by decide)) | exact .inr (own_blk R4.out W.out (by decide)) | exact .inr (own_blk R4.out X.out (by decide)) | exact .inr (own_blk R4.out G.out (by decide))))
  clear L B W X G R2 R3 R4
  have L := L_; clear L_
  have B := B_; clear B_
  have W := W_; clear W_
  have X := X_; clear X_
  have G := G_; clear G_
  have R2 := R2_; clear R2_
  have R3 := R3_; clear R3_
  have R4 := R4_; clear R4_
  clear h0 h
  have cB0 : World.cell? wb ⟨gB, 0, none⟩ = some (.int .i64 s.cells) := blkCell B.out 0
  have cB1 : World.cell? wb ⟨gB, 1, none⟩ = some (.int .i64 s.rows) := blkCell B.out 1
  have cB2 : World.cell? wb ⟨gB, 2, none⟩ = some (.float .f32 s.sl) := blkCell B.out 2
  have cB3 : World.cell? wb ⟨gB, 3, none⟩ = some (.float .f32 s.le) := blkCell B.out 3
  have cB4 : World.cell? wb ⟨gB, 4, none⟩ = some (.float .f32 s.sa) := blkCell B.out 4
  have cB5 : World.cell? wb ⟨gB, 5, none⟩ = some (.slice A n c) := blkCell B.out 5
  have cW0 : World.cell? wb ⟨gW, 0, none⟩ = some (.int .i64 q.cells) := blkCell W.out 0
  have cW1 : World.cell? wb ⟨gW, 1, none⟩ = some (.int .i64 q.rows) := blkCell W.out 1
  have cW2 : World.cell? wb ⟨gW, 2, none⟩ = some (.float .f32 q.sl) := blkCell W.out 2
  have cW3 : World.cell? wb ⟨gW, 3, none⟩ = some (.float .f32 q.le) := blkCell W.out 3
  have cW4 : World.cell? wb ⟨gW, 4, none⟩ = some (.float .f32 q.sa) := blkCell W.out 4
  have cW5 : World.cell? wb ⟨gW, 5, none⟩ = some (.slice A2 q.log.length c2) := blkCell W.out 5
  have cX0 : World.cell? wb ⟨gX, 0, none⟩ = some (.int .i64 s.cells) := blkCell X.out 0
  have cX1 : World.cell? wb ⟨gX, 1, none⟩ = some (.int .i64 s.rows) := blkCell X.out 1
  have cX2 : World.cell? wb ⟨gX, 2, none⟩ = some (.float .f32 s.sl) := blkCell X.out 2
  have cX3 : World.cell? wb ⟨gX, 3, none⟩ = some (.float .f32 s.le) := blkCell X.out 3
  have cX4 : World.cell? wb ⟨gX, 4, none⟩ = some (.float .f32 s.sa) := blkCell X.out 4
  have cX5 : World.cell? wb ⟨gX, 5, none⟩ = some (.slice A3 s.log.length c3) := blkCell X.out 5
  have cG0 : World.cell? wb ⟨gG, 0, none⟩ = some (.int .i64 q.cells) := blkCell G.out 0
  have cG1 : World.cell? wb ⟨gG, 1, none⟩ = some (.int .i64 q.rows) := blkCell G.out 1
  have cG2 : World.cell? wb ⟨gG, 2, none⟩ = some (.float .f32 q.sl) := blkCell G.out 2
  have cG3 : World.cell? wb ⟨gG, 3, none⟩ = some (.float .f32 q.le) := blkCell G.out 3
  have cG4 : World.cell? wb ⟨gG, 4, none⟩ = some (.float .f32 q.sa) := blkCell G.out 4
  have cG5 : World.cell? wb ⟨gG, 5, none⟩ = some (.slice A4 q.log.length c4) := blkCell G.out 5
  have R5 := Az.mk (own_weak hR5 s5)
  clear hR5
  obtain ⟨A5, c5, rfl, _⟩ := own_sl R5.out
  go_wp2_with fail
  have s6 := L.out.size
  refine (Tune_c s A5 s.log.length c5 l (by omega) (by omega) _ (HE.out.gr L.out) (own_slS R5.out)).mono ?_
  rintro e wc ⟨v6, rfl, hR6, h⟩
  have h0 : World.grownBy wb wc _ := (by refine World.grownBy.trans ?_ h; repeat (first | exact gr_refl _ _ | apply gr_drewN | apply gr_drew | apply gr_alloc))
  clear cB0 cB1 cB2 cB3 cB4 cB5 cW0 cW1 cW2 cW3 cW4 cW5 cX0 cX1 cX2 cX3 cX4 cX5 cG0 cG1 cG2 cG3 cG4 cG5
  have L_ := Az.mk (gr_new L.out h0 (by first | (simp; done) | (simp; omega) | omega))
  have B_ := Az.mk (blkGr B.out h0 (by first | (simp; done) | (simp; omega) | omega))
  have W_ := Az.mk (blkGr W.out h0 (by first | (simp; done) | (simp; omega) | omega))
  have X_ := Az.mk (blkGr X.out h0 (by first | (simp; done) | (simp; omega) | omega))
  have G_ := Az.mk (blkGr G.out h0 (by first | (simp; done) | (simp; omega) | omega))
  have R2_ := Az.mk (own_gr R2.out h0 (by first | exact own_none _ | exact .inr hl?R2.out | exact .inr (own_blk R2.out B.out (by decide)) | exact .inr (own_blk R2.out W.out (by decide)) | exact .inr (own_blk R2.out X.out (by decide)) | exact .inr (own_blk R2.out G.out (by decide))))
  have R3_ := Az.mk (own_gr R3.out h0 (by first | exact own_none _ | exact .inr hl?R3.out | exact .inr (own_blk R3.out B.out (by decide)) | exact .inr (own_blk R3.out W.out (by decide)) | exact .inr (own_blk R3.out X.out (by decide)) | exact .inr (own_blk R3.out G.out (by decide))))
  have R4_ := Az.mk (own_gr R4.out h0 (by first | exact own_none _ | exact .inr hl?R4.out | exact .inr (own_blk R4.out B.out (by decide)) | exact .inr (own_blk R4.out W.out (by decide)) | exact .inr (own_blk R4.out X.out (by decide)) | exact .inr (own_blk R4.out G.out (by decide))))
  have R5_ := Az.mk (own_gr R5.out h0 (by first | exact own_none _ | exact .inr hl?R5.out | exact .inr (own_blk R5.out B.out (by decide)) | exact .inr (own_blk R5.out W.out (by decide)) | exact .inr (own_blk R5.out X.out (by decide)) | exact .inr (own_blk R5.out G.out (by decide))))
  clear L B W X G R2 R3 R4 R5
  have L := L_; clear L_
  have B := B_; clear B_
  have W := W_; clear W_
  have X := X_; clear X_
  have G := G_; clear G_
  have R2 := R2_; clear R2_
  have R3 := R3_; clear R3_
  have R4 := R4_; clear R4_
  have R5 := R5_; clear R5_
  clear h0 h
  have cB0 : World.cell? wc ⟨gB, 0, none⟩ = some (.int .i64 s.cells) := blkCell B.out 0
  have cB1 : World.cell? wc ⟨gB, 1, none⟩ = some (.int .i64 s.rows) := blkCell B.out 1
  have cB2 : World.cell? wc ⟨gB, 2, none⟩ = some (.float .f32 s.sl) := blkCell B.out 2
  have cB3 : World.cell? wc ⟨gB, 3, none⟩ = some (.float .f32 s.le) := blkCell B.out 3
  have cB4 : World.cell? wc ⟨gB, 4, none⟩ = some (.float .f32 s.sa) := blkCell B.out 4
  have cB5 : World.cell? wc ⟨gB, 5, none⟩ = some (.slice A n c) := blkCell B.out 5
  have cW0 : World.cell? wc ⟨gW, 0, none⟩ = some (.int .i64 q.cells) := blkCell W.out 0
  have cW1 : World.cell? wc ⟨gW, 1, none⟩ = some (.int .i64 q.rows) := blkCell W.out 1
  have cW2 : World.cell? wc ⟨gW, 2, none⟩ = some (.float .f32 q.sl) := blkCell W.out 2
  have cW3 : World.cell? wc ⟨gW, 3, none⟩ = some (.float .f32 q.le) := blkCell W.out 3
  have cW4 : World.cell? wc ⟨gW, 4, none⟩ = some (.float .f32 q.sa) := blkCell W.out 4
  have cW5 : World.cell? wc ⟨gW, 5, none⟩ = some (.slice A2 q.log.length c2) := blkCell W.out 5
  have cX0 : World.cell? wc ⟨gX, 0, none⟩ = some (.int .i64 s.cells) := blkCell X.out 0
  have cX1 : World.cell? wc ⟨gX, 1, none⟩ = some (.int .i64 s.rows) := blkCell X.out 1
  have cX2 : World.cell? wc ⟨gX, 2, none⟩ = some (.float .f32 s.sl) := blkCell X.out 2
  have cX3 : World.cell? wc ⟨gX, 3, none⟩ = some (.float .f32 s.le) := blkCell X.out 3
  have cX4 : World.cell? wc ⟨gX, 4, none⟩ = some (.float .f32 s.sa) := blkCell X.out 4
  have cX5 : World.cell? wc ⟨gX, 5, none⟩ = some (.slice A3 s.log.length c3) := blkCell X.out 5
  have cG0 : World.cell? wc ⟨gG, 0, none⟩ = some (.int .i64 q.cells) := blkCell G.out 0
  have cG1 : World.cell? wc ⟨gG, 1, none⟩ = some (.int .i64 q.rows) := blkCell G.out 1
  have cG2 : World.cell? wc ⟨gG, 2, none⟩ = some (.float .f32 q.sl) := blkCell G.out 2
  have cG3 : World.cell? wc ⟨gG, 3, none⟩ = some (.float .f32 q.le) := blkCell G.out 3
  have cG4 : World.cell? wc ⟨gG, 4, none⟩ = some (.float .f32 q.sa) := blkCell G.out 4
  have cG5 : World.cell? wc ⟨gG, 5, none⟩ = some (.slice A4 q.log.length c4) := blkCell G.out 5
  rw [HQ.out] at hR6
  rw [HQ.out, HOK.out]
  have R6 := Az.mk (own_weak hR6 s6)
  clear hR6
  obtain ⟨A6, c6, rfl, _⟩ := own_sl R6.out
  go_wp2_with (first | ((with_reducible refine gateN 14 rfl ?_); go_must (refine ev_al 14 rfl rfl #[.int .i64 0, .int .i64 0, .float .f32 0, .float .f32 0, .float .f32 0, .slice none 0 0] 28 ?hr ?_; (case hr => first | (go_simp; done) | (go_simp; rfl)); intro gH heH W9 hbH h; have hgH : w.heap.size ≤ gH := Nat.le_trans L.out.size heH; have hgHB : gB < gH := Nat.lt_of_lt_of_le (blkLt B.out) heH; have hgHW : gW < gH := Nat.lt_of_lt_of_le (blkLt W.out) heH; have hgHX : gX < gH := Nat.lt_of_lt_of_le (blkLt X.out) heH; have hgHG : gG < gH := Nat.lt_of_lt_of_le (blkLt G.out) heH; have hlHR2 := Az.mk (own_lows R2.out heH); have hlHR3 := Az.mk (own_lows R3.out heH); have hlHR4 := Az.mk (own_lows R4.out heH); have hlHR5 := Az.mk (own_lows R5.out heH); have hlHR6 := Az.mk (own_lows R6.out heH); clear heH; have h0 : World.grownBy wc W9 none := (by refine World.grownBy.trans ?_ h; repeat (first | exact gr_refl _ _ | apply gr_drewN | apply gr_drew | apply gr_alloc)); clear cB0 cB1 cB2 cB3 cB4 cB5 cW0 cW1 cW2 cW3 cW4 cW5 cX0 cX1 cX2 cX3 cX4 cX5 cG0 cG1 cG2 cG3 cG4 cG5; have L_ := Az.mk (gr_new L.out h0 (by first | (simp; done) | (simp; omega) | omega)); have B_ := Az.mk (blkGr B.out h0 (by first | (simp; done) | (simp; omega) | omega)); have W_ := Az.mk (blkGr W.out h0 (by first | (simp; done) | (simp; omega) | omega)); have X_ := Az.mk (blkGr X.out h0 (by first | (simp; done) | (simp; omega) | omega)); have G_ := Az.mk (blkGr G.out h0 (by first | (simp; done) | (simp; omega) | omega)); have R2_ := Az.mk (own_gr R2.out h0 (by first | exact own_none _ | exact .inr hl?R2.out | exact .inr (own_blk R2.out B.out (by decide)) | exact .inr (own_blk R2.out W.out (by decide)) | exact .inr (own_blk R2.out X.out (by decide)) | exact .inr (own_blk R2.out G.out (by decide)))); have R3_ := Az.mk (own_gr R3.out h0 (by first | exact own_none _ | exact .inr hl?R3.out | exact .inr (own_blk R3.out B.out (by decide)) | exact .inr (own_blk R3.out W.out (by decide)) | exact .inr (own_blk R3.out X.out (by decide)) | exact .inr (own_blk R3.out G.out (by decide)))); have R4_ := Az.mk (own_gr R4.out h0 (by first | exact own_none _ | exact .inr hl?R4.out | exact .inr (own_blk R4.out B.out (by decide)) | exact .inr (own_blk R4.out W.out (by decide)) | exact .inr (own_blk R4.out X.out (by decide)) | exact .inr (own_blk R4.out G.out (by decide)))); have R5_ := Az.mk (own_gr R5.out h0 (by first | exact own_none _ | exact .inr hl?R5.out | exact .inr (own_blk R5.out B.out (by decide)) | exact .inr (own_blk R5.out W.out (by decide)) | exact .inr (own_blk R5.out X.out (by decide)) | exact .inr (own_blk R5.out G.out (by decide)))); have R6_ := Az.mk (own_gr R6.out h0 (by first | exact own_none _ | exact .inr hl?R6.out | exact .inr (own_blk R6.out B.out (by decide)) | exact .inr (own_blk R6.out W.out (by decide)) | exact .inr (own_blk R6.out X.out (by decide)) | exact .inr (own_blk R6.out G.out (by decide)))); clear L B W X G R2 R3 R4 R5 R6; have L := L_; clear L_; have B := B_; clear B_; have W := W_; clear W_; have X := X_; clear X_; have G := G_; clear G_; have R2 := R2_; clear R2_; have R3 := R3_; clear R3_; have R4 := R4_; clear R4_; have R5 := R5_; clear R5_; have R6 := R6_; clear R6_; clear h0 h; have H := Az.mk hbH; clear hbH; have cB0 : World.cell? W9 ⟨gB, 0, none⟩ = some (.int .i64 s.cells) := blkCell B.out 0; have cB1 : World.cell? W9 ⟨gB, 1, none⟩ = some (.int .i64 s.rows) := blkCell B.out 1; have cB2 : World.cell? W9 ⟨gB, 2, none⟩ = some (.float .f32 s.sl) := blkCell B.out 2; have cB3 : World.cell? W9 ⟨gB, 3, none⟩ = some (.float .f32 s.le) := blkCell B.out 3; have cB4 : World.cell? W9 ⟨gB, 4, none⟩ = some (.float .f32 s.sa) := blkCell B.out 4; have cB5 : World.cell? W9 ⟨gB, 5, none⟩ = some (.slice A n c) := blkCell B.out 5; have cW0 : World.cell? W9 ⟨gW, 0, none⟩ = some (.int .i64 q.cells) := blkCell W.out 0; have cW1 : World.cell? W9 ⟨gW, 1, none⟩ = some (.int .i64 q.rows) := blkCell W.out 1; have cW2 : World.cell? W9 ⟨gW, 2, none⟩ = some (.float .f32 q.sl) := blkCell W.out 2; have cW3 : World.cell? W9 ⟨gW, 3, none⟩ = some (.float .f32 q.le) := blkCell W.out 3; have cW4 : World.cell? W9 ⟨gW, 4, none⟩ = some (.float .f32 q.sa) := blkCell W.out 4; have cW5 : World.cell? W9 ⟨gW, 5, none⟩ = some (.slice A2 q.log.length c2) := blkCell W.out 5; have cX0 : World.cell? W9 ⟨gX, 0, none⟩ = some (.int .i64 s.cells) := blkCell X.out 0; have cX1 : World.cell? W9 ⟨gX, 1, none⟩ = some (.int .i64 s.rows) := blkCell X.out 1; have cX2 : World.cell? W9 ⟨gX, 2, none⟩ = some (.float .f32 s.sl) := blkCell X.out 2; have cX3 : World.cell? W9 ⟨gX, 3, none⟩ = some (.float .f32 s.le) := blkCell X.out 3; have cX4 : World.cell? W9 ⟨gX, 4, none⟩ = some (.float .f32 s.sa) := blkCell X.out 4; have cX5 : World.cell? W9 ⟨gX, 5, none⟩ = some (.slice A3 s.log.length c3) := blkCell X.out 5; have cG0 : World.cell? W9 ⟨gG, 0, none⟩ = some (.int .i64 q.cells) := blkCell G.out 0; have cG1 : World.cell? W9 ⟨gG, 1, none⟩ = some (.int .i64 q.rows) := blkCell G.out 1; have cG2 : World.cell? W9 ⟨gG, 2, none⟩ = some (.float .f32 q.sl) := blkCell G.out 2; have cG3 : World.cell? W9 ⟨gG, 3, none⟩ = some (.float .f32 q.le) := blkCell G.out 3; have cG4 : World.cell? W9 ⟨gG, 4, none⟩ = some (.float .f32 q.sa) := blkCell G.out 4; have cG5 : World.cell? W9 ⟨gG, 5, none⟩ = some (.slice A4 q.log.length c4) := blkCell G.out 5; have cH0 : World.cell? W9 ⟨gH, 0, none⟩ = some (.int .i64 0) := blkCell H.out 0; have cH1 : World.cell? W9 ⟨gH, 1, none⟩ = some (.int .i64 0) := blkCell H.out 1; have cH2 : World.cell? W9 ⟨gH, 2, none⟩ = some (.float .f32 0) := blkCell H.out 2; have cH3 : World.cell? W9 ⟨gH, 3, none⟩ = some (.float .f32 0) := blkCell H.out 3; have cH4 : World.cell? W9 ⟨gH, 4, none⟩ = some (.float .f32 0) := blkCell H.out 4; have cH5 : World.cell? W9 ⟨gH, 5, none⟩ = some (.slice none 0 0) := blkCell H.out 5)) | ((with_reducible refine gateSt 14 rfl ?_); go_must (refine ev_st rfl rfl rfl (cs := #[.int .i64 q.cells, .int .i64 q.rows, .float .f32 q.sl, .float .f32 q.le, .float .f32 q.sa, .slice A6 q.log.length c6]) rfl rfl H.out (by kernel_rfl) rfl (by simp [Value.oneCell']) ?_; intro W10 hbH h; have h0 : World.grownBy W9 W10 (some gH) := (by refine World.grownBy.trans ?_ h; repeat (first | exact gr_refl _ _ | apply gr_drewN | apply gr_drew | apply gr_alloc)); clear cB0 cB1 cB2 cB3 cB4 cB5 cW0 cW1 cW2 cW3 cW4 cW5 cX0 cX1 cX2 cX3 cX4 cX5 cG0 cG1 cG2 cG3 cG4 cG5 cH0 cH1 cH2 cH3 cH4 cH5; have L_ := Az.mk (gr_new L.out h0 (by first | (simp; done) | (simp; omega) | omega)); have B_ := Az.mk (blkGr B.out h0 (by first | (simp; done) | (simp; omega) | omega)); have W_ := Az.mk (blkGr W.out h0 (by first | (simp; done) | (simp; omega) | omega)); have X_ := Az.mk (blkGr X.out h0 (by first | (simp; done) | (simp; omega) | omega)); have G_ := Az.mk (blkGr G.out h0 (by first | (simp; done) | (simp; omega) | omega)); have R2_ := Az.mk (own_gr R2.out h0 (by first | exact own_none _ | exact .inr hlHR2.out | exact .inr (own_blk R2.out B.out (by decide)) | exact .inr (own_blk R2.out W.out (by decide)) | exact .inr (own_blk R2.out X.out (by decide)) | exact .inr (own_blk R2.out G.out (by decide)) | exact .inr (own_blk R2.out H.out (by decide)))); have R3_ := Az.mk (own_gr R3.out h0 (by first | exact own_none _ | exact .inr hlHR3.out | exact .inr (own_blk R3.out B.out (by decide)) | exact .inr (own_blk R3.out W.out (by decide)) | exact .inr (own_blk R3.out X.out (by decide)) | exact .inr (own_blk R3.out G.out (by decide)) | exact .inr (own_blk R3.out H.out (by decide)))); have R4_ := Az.mk (own_gr R4.out h0 (by first | exact own_none _ | exact .inr hlHR4.out | exact .inr (own_blk R4.out B.out (by decide)) | exact .inr (own_blk R4.out W.out (by decide)) | exact .inr (own_blk R4.out X.out (by decide)) | exact .inr (own_blk R4.out G.out (by decide)) | exact .inr (own_blk R4.out H.out (by decide)))); have R5_ := Az.mk (own_gr R5.out h0 (by first | exact own_none _ | exact .inr hlHR5.out | exact .inr (own_blk R5.out B.out (by decide)) | exact .inr (own_blk R5.out W.out (by decide)) | exact .inr (own_blk R5.out X.out (by decide)) | exact .inr (own_blk R5.out G.out (by decide)) | exact .inr (own_blk R5.out H.out (by decide)))); have R6_ := Az.mk (own_gr R6.out h0 (by first | exact own_none _ | exact .inr hlHR6.out | exact .inr (own_blk R6.out B.out (by decide)) | exact .inr (own_blk R6.out W.out (by decide)) | exact .inr (own_blk R6.out X.out (by decide)) | exact .inr (own_blk R6.out G.out (by decide)) | exact .inr (own_blk R6.out H.out (by decide)))); clear L B W X G R2 R3 R4 R5 R6; have L := L_; clear L_; have B := B_; clear B_; have W := W_; clear W_; have X := X_; clear X_; have G := G_; clear G_; have R2 := R2_; clear R2_; have R3 := R3_; clear R3_; have R4 := R4_; clear R4_; have R5 := R5_; clear R5_; have R6 := R6_; clear R6_; clear h0 h; clear H; have H := Az.mk hbH; clear hbH; have cB0 : World.cell? W10 ⟨gB, 0, none⟩ = some (.int .i64 s.cells) := blkCell B.out 0; have cB1 : World.cell? W10 ⟨gB, 1, none⟩ = some (.int .i64 s.rows) := blkCell B.out 1; have cB2 : World.cell? W10 ⟨gB, 2, none⟩ = some (.float .f32 s.sl) := blkCell B.out 2; have cB3 : World.cell? W10 ⟨gB, 3, none⟩ = some (.float .f32 s.le) := blkCell B.out 3; have cB4 : World.cell? W10 ⟨gB, 4, none⟩ = some (.float .f32 s.sa) := blkCell B.out 4; have cB5 : World.cell? W10 ⟨gB, 5, none⟩ = some (.slice A n c) := blkCell B.out 5; have cW0 : World.cell? W10 ⟨gW, 0, none⟩ = some (.int .i64 q.cells) := blkCell W.out 0; have cW1 : World.cell? W10 ⟨gW, 1, none⟩ = some (.int .i64 q.rows) := blkCell W.out 1; have cW2 : World.cell? W10 ⟨gW, 2, none⟩ = some (.float .f32 q.sl) := blkCell W.out 2; have cW3 : World.cell? W10 ⟨gW, 3, none⟩ = some (.float .f32 q.le) := blkCell W.out 3; have cW4 : World.cell? W10 ⟨gW, 4, none⟩ = some (.float .f32 q.sa) := blkCell W.out 4; have cW5 : World.cell? W10 ⟨gW, 5, none⟩ = some (.slice A2 q.log.length c2) := blkCell W.out 5; have cX0 : World.cell? W10 ⟨gX, 0, none⟩ = some (.int .i64 s.cells) := blkCell X.out 0; have cX1 : World.cell? W10 ⟨gX, 1, none⟩ = some (.int .i64 s.rows) := blkCell X.out 1; have cX2 : World.cell? W10 ⟨gX, 2, none⟩ = some (.float .f32 s.sl) := blkCell X.out 2; have cX3 : World.cell? W10 ⟨gX, 3, none⟩ = some (.float .f32 s.le) := blkCell X.out 3; have cX4 : World.cell? W10 ⟨gX, 4, none⟩ = some (.float .f32 s.sa) := blkCell X.out 4; have cX5 : World.cell? W10 ⟨gX, 5, none⟩ = some (.slice A3 s.log.length c3) := blkCell X.out 5; have cG0 : World.cell? W10 ⟨gG, 0, none⟩ = some (.int .i64 q.cells) := blkCell G.out 0; have cG1 : World.cell? W10 ⟨gG, 1, none⟩ = some (.int .i64 q.rows) := blkCell G.out 1; have cG2 : World.cell? W10 ⟨gG, 2, none⟩ = some (.float .f32 q.sl) := blkCell G.out 2; have cG3 : World.cell? W10 ⟨gG, 3, none⟩ = some (.float .f32 q.le) := blkCell G.out 3; have cG4 : World.cell? W10 ⟨gG, 4, none⟩ = some (.float .f32 q.sa) := blkCell G.out 4; have cG5 : World.cell? W10 ⟨gG, 5, none⟩ = some (.slice A4 q.log.length c4) := blkCell G.out 5; have cH0 : World.cell? W10 ⟨gH, 0, none⟩ = some (.int .i64 q.cells) := blkCell H.out 0; have cH1 : World.cell? W10 ⟨gH, 1, none⟩ = some (.int .i64 q.rows) := blkCell H.out 1; have cH2 : World.cell? W10 ⟨gH, 2, none⟩ = some (.float .f32 q.sl) := blkCell H.out 2; have cH3 : World.cell? W10 ⟨gH, 3, none⟩ = some (.float .f32 q.le) := blkCell H.out 3; have cH4 : World.cell? W10 ⟨gH, 4, none⟩ = some (.float .f32 q.sa) := blkCell H.out 4; have cH5 : World.cell? W10 ⟨gH, 5, none⟩ = some (.slice A6 q.log.length c6) := blkCell H.out 5)) | ((with_reducible refine gateN 87 rfl ?_); go_must (refine ev_ld 87 rfl rfl rfl (cs := #[.int .i64 q.cells, .int .i64 q.rows, .float .f32 q.sl, .float .f32 q.le, .float .f32 q.sa, .slice A6 q.log.length c6]) rfl H.out Tryd.underlying28 rfl (by kernel_rfl) ?_)) | ((with_reducible refine gateN 88 rfl ?_); go_must (refine ev_ld 88 rfl rfl rfl (cs := #[.int .i64 q.cells, .int .i64 q.rows, .float .f32 q.sl, .float .f32 q.le, .float .f32 q.sa, .slice A2 q.log.length c2]) rfl W.out Tryd.underlying28 rfl (by kernel_rfl) ?_)))
  refine (eqSet_c q A6 A2 q.log.length c6 c2 _ rfl (own_rdS R6.out) (own_rdS R2.out)).mono ?_
  rintro e wd ⟨rfl, h⟩
  have h0 : World.grownBy W10 wd _ := (by refine World.grownBy.trans ?_ h; repeat (first | exact gr_refl _ _ | apply gr_drewN | apply gr_drew | apply gr_alloc))
  clear cB0 cB1 cB2 cB3 cB4 cB5 cW0 cW1 cW2 cW3 cW4 cW5 cX0 cX1 cX2 cX3 cX4 cX5 cG0 cG1 cG2 cG3 cG4 cG5 cH0 cH1 cH2 cH3 cH4 cH5
  have L_ := Az.mk (gr_new L.out h0 (by first | (simp; done) | (simp; omega) | omega))
  have B_ := Az.mk (blkGr B.out h0 (by first | (simp; done) | (simp; omega) | omega))
  have W_ := Az.mk (blkGr W.out h0 (by first | (simp; done) | (simp; omega) | omega))
  have X_ := Az.mk (blkGr X.out h0 (by first | (simp; done) | (simp; omega) | omega))
  have G_ := Az.mk (blkGr G.out h0 (by first | (simp; done) | (simp; omega) | omega))
  have R2_ := Az.mk (own_gr R2.out h0 (by first | exact own_none _ | exact .inr hl?R2.out | exact .inr (own_blk R2.out B.out (by decide)) | exact .inr (own_blk R2.out W.out (by decide)) | exact .inr (own_blk R2.out X.out (by decide)) | exact .inr (own_blk R2.out G.out (by decide)) | exact .inr (own_blk R2.out H.out (by decide))))
  have R3_ := Az.mk (own_gr R3.out h0 (by first | exact own_none _ | exact .inr hl?R3.out | exact .inr (own_blk R3.out B.out (by decide)) | exact .inr (own_blk R3.out W.out (by decide)) | exact .inr (own_blk R3.out X.out (by decide)) | exact .inr (own_blk R3.out G.out (by decide)) | exact .inr (own_blk R3.out H.out (by decide))))
  have R4_ := Az.mk (own_gr R4.out h0 (by first | exact own_none _ | exact .inr hl?R4.out | exact .inr (own_blk R4.out B.out (by decide)) | exact .inr (own_blk R4.out W.out (by decide)) | exact .inr (own_blk R4.out X.out (by decide)) | exact .inr (own_blk R4.out G.out (by decide)) | exact .inr (own_blk R4.out H.out (by decide))))
  have R5_ := Az.mk (own_gr R5.out h0 (by first | exact own_none _ | exact .inr hl?R5.out | exact .inr (own_blk R5.out B.out (by decide)) | exact .inr (own_blk R5.out W.out (by decide)) | exact .inr (own_blk R5.out X.out (by decide)) | exact .inr (own_blk R5.out G.out (by decide)) | exact .inr (own_blk R5.out H.out (by decide))))
  have R6_ := Az.mk (own_gr R6.out h0 (by first | exact own_none _ | exact .inr hl?R6.out | exact .inr (own_blk R6.out B.out (by decide)) | exact .inr (own_blk R6.out W.out (by decide)) | exact .inr (own_blk R6.out X.out (by decide)) | exact .inr (own_blk R6.out G.out (by decide)) | exact .inr (own_blk R6.out H.out (by decide))))
  have H_ := Az.mk (blkGr H.out h0 (by first | (simp; done) | (simp; omega) | omega))
  clear L B W X G R2 R3 R4 R5 R6 H
  have L := L_; clear L_
  have B := B_; clear B_
  have W := W_; clear W_
  have X := X_; clear X_
  have G := G_; clear G_
  have R2 := R2_; clear R2_
  have R3 := R3_; clear R3_
  have R4 := R4_; clear R4_
  have R5 := R5_; clear R5_
  have R6 := R6_; clear R6_
  have H := H_; clear H_
  clear h0 h
  have cB0 : World.cell? wd ⟨gB, 0, none⟩ = some (.int .i64 s.cells) := blkCell B.out 0
  have cB1 : World.cell? wd ⟨gB, 1, none⟩ = some (.int .i64 s.rows) := blkCell B.out 1
  have cB2 : World.cell? wd ⟨gB, 2, none⟩ = some (.float .f32 s.sl) := blkCell B.out 2
  have cB3 : World.cell? wd ⟨gB, 3, none⟩ = some (.float .f32 s.le) := blkCell B.out 3
  have cB4 : World.cell? wd ⟨gB, 4, none⟩ = some (.float .f32 s.sa) := blkCell B.out 4
  have cB5 : World.cell? wd ⟨gB, 5, none⟩ = some (.slice A n c) := blkCell B.out 5
  have cW0 : World.cell? wd ⟨gW, 0, none⟩ = some (.int .i64 q.cells) := blkCell W.out 0
  have cW1 : World.cell? wd ⟨gW, 1, none⟩ = some (.int .i64 q.rows) := blkCell W.out 1
  have cW2 : World.cell? wd ⟨gW, 2, none⟩ = some (.float .f32 q.sl) := blkCell W.out 2
  have cW3 : World.cell? wd ⟨gW, 3, none⟩ = some (.float .f32 q.le) := blkCell W.out 3
  have cW4 : World.cell? wd ⟨gW, 4, none⟩ = some (.float .f32 q.sa) := blkCell W.out 4
  have cW5 : World.cell? wd ⟨gW, 5, none⟩ = some (.slice A2 q.log.length c2) := blkCell W.out 5
  have cX0 : World.cell? wd ⟨gX, 0, none⟩ = some (.int .i64 s.cells) := blkCell X.out 0
  have cX1 : World.cell? wd ⟨gX, 1, none⟩ = some (.int .i64 s.rows) := blkCell X.out 1
  have cX2 : World.cell? wd ⟨gX, 2, none⟩ = some (.float .f32 s.sl) := blkCell X.out 2
  have cX3 : World.cell? wd ⟨gX, 3, none⟩ = some (.float .f32 s.le) := blkCell X.out 3
  have cX4 : World.cell? wd ⟨gX, 4, none⟩ = some (.float .f32 s.sa) := blkCell X.out 4
  have cX5 : World.cell? wd ⟨gX, 5, none⟩ = some (.slice A3 s.log.length c3) := blkCell X.out 5
  have cG0 : World.cell? wd ⟨gG, 0, none⟩ = some (.int .i64 q.cells) := blkCell G.out 0
  have cG1 : World.cell? wd ⟨gG, 1, none⟩ = some (.int .i64 q.rows) := blkCell G.out 1
  have cG2 : World.cell? wd ⟨gG, 2, none⟩ = some (.float .f32 q.sl) := blkCell G.out 2
  have cG3 : World.cell? wd ⟨gG, 3, none⟩ = some (.float .f32 q.le) := blkCell G.out 3
  have cG4 : World.cell? wd ⟨gG, 4, none⟩ = some (.float .f32 q.sa) := blkCell G.out 4
  have cG5 : World.cell? wd ⟨gG, 5, none⟩ = some (.slice A4 q.log.length c4) := blkCell G.out 5
  have cH0 : World.cell? wd ⟨gH, 0, none⟩ = some (.int .i64 q.cells) := blkCell H.out 0
  have cH1 : World.cell? wd ⟨gH, 1, none⟩ = some (.int .i64 q.rows) := blkCell H.out 1
  have cH2 : World.cell? wd ⟨gH, 2, none⟩ = some (.float .f32 q.sl) := blkCell H.out 2
  have cH3 : World.cell? wd ⟨gH, 3, none⟩ = some (.float .f32 q.le) := blkCell H.out 3
  have cH4 : World.cell? wd ⟨gH, 4, none⟩ = some (.float .f32 q.sa) := blkCell H.out 4
  have cH5 : World.cell? wd ⟨gH, 5, none⟩ = some (.slice A6 q.log.length c6) := blkCell H.out 5
  go_wp2_with (first | ((with_reducible refine gateN 96 rfl ?_); go_must (refine ev_ld 96 rfl rfl rfl (cs := #[.int .i64 q.cells, .int .i64 q.rows, .float .f32 q.sl, .float .f32 q.le, .float .f32 q.sa, .slice A4 q.log.length c4]) rfl G.out Tryd.underlying28 rfl (by kernel_rfl) ?_)))
  refine (heldSet_c q A4 q.log.length c4 1 (by decide) (by omega) _ (own_rdS R4.out)).mono ?_
  rintro e we ⟨rfl, h⟩
  have h0 : World.grownBy wd we _ := (by refine World.grownBy.trans ?_ h; repeat (first | exact gr_refl _ _ | apply gr_drewN | apply gr_drew | apply gr_alloc))
  clear cB0 cB1 cB2 cB3 cB4 cB5 cW0 cW1 cW2 cW3 cW4 cW5 cX0 cX1 cX2 cX3 cX4 cX5 cG0 cG1 cG2 cG3 cG4 cG5 cH0 cH1 cH2 cH3 cH4 cH5
  have L_ := Az.mk (gr_new L.out h0 (by first | (simp; done) | (simp; omega) | omega))
  have B_ := Az.mk (blkGr B.out h0 (by first | (simp; done) | (simp; omega) | omega))
  have W_ := Az.mk (blkGr W.out h0 (by first | (simp; done) | (simp; omega) | omega))
  have X_ := Az.mk (blkGr X.out h0 (by first | (simp; done) | (simp; omega) | omega))
  have G_ := Az.mk (blkGr G.out h0 (by first | (simp; done) | (simp; omega) | omega))
  have R2_ := Az.mk (own_gr R2.out h0 (by first | exact own_none _ | exact .inr hl?R2.out | exact .inr (own_blk R2.out B.out (by decide)) | exact .inr (own_blk R2.out W.out (by decide)) | exact .inr (own_blk R2.out X.out (by decide)) | exact .inr (own_blk R2.out G.out (by decide)) | exact .inr (own_blk R2.out H.out (by decide))))
  have R3_ := Az.mk (own_gr R3.out h0 (by first | exact own_none _ | exact .inr hl?R3.out | exact .inr (own_blk R3.out B.out (by decide)) | exact .inr (own_blk R3.out W.out (by decide)) | exact .inr (own_blk R3.out X.out (by decide)) | exact .inr (own_blk R3.out G.out (by decide)) | exact .inr (own_blk R3.out H.out (by decide))))
  have R4_ := Az.mk (own_gr R4.out h0 (by first | exact own_none _ | exact .inr hl?R4.out | exact .inr (own_blk R4.out B.out (by decide)) | exact .inr (own_blk R4.out W.out (by decide)) | exact .inr (own_blk R4.out X.out (by decide)) | exact .inr (own_blk R4.out G.out (by decide)) | exact .inr (own_blk R4.out H.out (by decide))))
  have R5_ := Az.mk (own_gr R5.out h0 (by first | exact own_none _ | exact .inr hl?R5.out | exact .inr (own_blk R5.out B.out (by decide)) | exact .inr (own_blk R5.out W.out (by decide)) | exact .inr (own_blk R5.out X.out (by decide)) | exact .inr (own_blk R5.out G.out (by decide)) | exact .inr (own_blk R5.out H.out (by decide))))
  have R6_ := Az.mk (own_gr R6.out h0 (by first | exact own_none _ | exact .inr hl?R6.out | exact .inr (own_blk R6.out B.out (by decide)) | exact .inr (own_blk R6.out W.out (by decide)) | exact .inr (own_blk R6.out X.out (by decide)) | exact .inr (own_blk R6.out G.out (by decide)) | exact .inr (own_blk R6.out H.out (by decide))))
  have H_ := Az.mk (blkGr H.out h0 (by first | (simp; done) | (simp; omega) | omega))
  clear L B W X G R2 R3 R4 R5 R6 H
  have L := L_; clear L_
  have B := B_; clear B_
  have W := W_; clear W_
  have X := X_; clear X_
  have G := G_; clear G_
  have R2 := R2_; clear R2_
  have R3 := R3_; clear R3_
  have R4 := R4_; clear R4_
  have R5 := R5_; clear R5_
  have R6 := R6_; clear R6_
  have H := H_; clear H_
  clear h0 h
  have cB0 : World.cell? we ⟨gB, 0, none⟩ = some (.int .i64 s.cells) := blkCell B.out 0
  have cB1 : World.cell? we ⟨gB, 1, none⟩ = some (.int .i64 s.rows) := blkCell B.out 1
  have cB2 : World.cell? we ⟨gB, 2, none⟩ = some (.float .f32 s.sl) := blkCell B.out 2
  have cB3 : World.cell? we ⟨gB, 3, none⟩ = some (.float .f32 s.le) := blkCell B.out 3
  have cB4 : World.cell? we ⟨gB, 4, none⟩ = some (.float .f32 s.sa) := blkCell B.out 4
  have cB5 : World.cell? we ⟨gB, 5, none⟩ = some (.slice A n c) := blkCell B.out 5
  have cW0 : World.cell? we ⟨gW, 0, none⟩ = some (.int .i64 q.cells) := blkCell W.out 0
  have cW1 : World.cell? we ⟨gW, 1, none⟩ = some (.int .i64 q.rows) := blkCell W.out 1
  have cW2 : World.cell? we ⟨gW, 2, none⟩ = some (.float .f32 q.sl) := blkCell W.out 2
  have cW3 : World.cell? we ⟨gW, 3, none⟩ = some (.float .f32 q.le) := blkCell W.out 3
  have cW4 : World.cell? we ⟨gW, 4, none⟩ = some (.float .f32 q.sa) := blkCell W.out 4
  have cW5 : World.cell? we ⟨gW, 5, none⟩ = some (.slice A2 q.log.length c2) := blkCell W.out 5
  have cX0 : World.cell? we ⟨gX, 0, none⟩ = some (.int .i64 s.cells) := blkCell X.out 0
  have cX1 : World.cell? we ⟨gX, 1, none⟩ = some (.int .i64 s.rows) := blkCell X.out 1
  have cX2 : World.cell? we ⟨gX, 2, none⟩ = some (.float .f32 s.sl) := blkCell X.out 2
  have cX3 : World.cell? we ⟨gX, 3, none⟩ = some (.float .f32 s.le) := blkCell X.out 3
  have cX4 : World.cell? we ⟨gX, 4, none⟩ = some (.float .f32 s.sa) := blkCell X.out 4
  have cX5 : World.cell? we ⟨gX, 5, none⟩ = some (.slice A3 s.log.length c3) := blkCell X.out 5
  have cG0 : World.cell? we ⟨gG, 0, none⟩ = some (.int .i64 q.cells) := blkCell G.out 0
  have cG1 : World.cell? we ⟨gG, 1, none⟩ = some (.int .i64 q.rows) := blkCell G.out 1
  have cG2 : World.cell? we ⟨gG, 2, none⟩ = some (.float .f32 q.sl) := blkCell G.out 2
  have cG3 : World.cell? we ⟨gG, 3, none⟩ = some (.float .f32 q.le) := blkCell G.out 3
  have cG4 : World.cell? we ⟨gG, 4, none⟩ = some (.float .f32 q.sa) := blkCell G.out 4
  have cG5 : World.cell? we ⟨gG, 5, none⟩ = some (.slice A4 q.log.length c4) := blkCell G.out 5
  have cH0 : World.cell? we ⟨gH, 0, none⟩ = some (.int .i64 q.cells) := blkCell H.out 0
  have cH1 : World.cell? we ⟨gH, 1, none⟩ = some (.int .i64 q.rows) := blkCell H.out 1
  have cH2 : World.cell? we ⟨gH, 2, none⟩ = some (.float .f32 q.sl) := blkCell H.out 2
  have cH3 : World.cell? we ⟨gH, 3, none⟩ = some (.float .f32 q.le) := blkCell H.out 3
  have cH4 : World.cell? we ⟨gH, 4, none⟩ = some (.float .f32 q.sa) := blkCell H.out 4
  have cH5 : World.cell? we ⟨gH, 5, none⟩ = some (.slice A6 q.log.length c6) := blkCell H.out 5
  go_wp2_with fail
  go_ret
  exact ⟨rfl, L.out⟩
end Go.Proofs.YtfjafeepmpnegaaDoor
