/- Contract of spec.Tune. No condition. -/
import Derived.Test.YtfjafeepmpnegaaDoorSr
namespace Go.Proofs.YtfjafeepmpnegaaDoor
open Go.RowKit
set_option linter.unusedVariables false
set_option linter.unusedSimpArgs false

theorem join_snoc (a : List Tx) (ha : a ≠ []) (t : Tx) : Lib.join (a ++ [t]) [32] = Lib.join a [32] ++ 32 :: t := by
  cases a with
  | nil => exact absurd rfl ha
  | cons x r =>
    rw [List.cons_append, Lib.join_cons, Lib.join_cons]
    simp [Lib.joinTail]
theorem join_take (f : List Tx) (k : Nat) (t : Tx) (h : f[k]? = some t) (hk : 1 ≤ k) : Lib.join (f.take (k + 1)) [32] = Lib.join (f.take k) [32] ++ 32 :: t := by
  have hl := (List.getElem?_eq_some_iff.1 h).1
  rw [List.take_add_one, h]
  exact join_snoc _ (fun e => by have := congrArg List.length e; rw [List.length_take] at this; simp only [List.length_nil] at this; omega) t
theorem fsum_take (f : List Tx) (k : Nat) : fsum (f.take k) ≤ fsum f := by
  have h : fsum f = fsum (f.take k) + fsum (f.drop k) := by
    have e := List.take_append_drop k f
    have e2 : fsum (f.take k ++ f.drop k) = fsum (f.take k) + fsum (f.drop k) := by unfold fsum; rw [List.map_append, List.sum_append]
    rw [e] at e2
    exact e2
  omega
theorem join_room {l : Tx} {f : List Tx} (h : fieldsM l = some f) (k : Nat) : (Lib.join (f.take k) [32]).length ≤ 601 := by
  obtain ⟨h1, h2, _⟩ := fieldsM_some h
  have h3 := fieldsL_sum l
  have h4 := join_len (f.take k)
  have h5 := fsum_take f k
  rw [← h1] at h3
  omega
set_option maxRecDepth 8000 in
set_option maxHeartbeats 4000000 in
theorem sTune_c (s : SetV) (A : Option Addr) (n c : Nat) (l : Tx) (hs : n ≤ 1000000000) (hl : l.length ≤ 140737488355328) (w : World) (hrd : Sl w A n c s.log) :
    Calls Tryd.prog 21 #[.agg (s.cs (.slice A n c)), .string (tx l)] w (RetSetD w s (tuneM s l)) := by
  have L := Az.mk (gr_refl w none)
  have HR := Az.mk hrd
  have HN := Az.mk hrd.len
  clear hrd
  unfold SetV.cs
  go_enter Tryd.func21, Tryd.ntmps21
  go_wp2_with (first | ((with_reducible refine gateN 2 rfl ?_); go_must (refine ev_al 2 rfl rfl #[.int .i64 s.cells, .int .i64 s.rows, .float .f32 s.sl, .float .f32 s.le, .float .f32 s.sa, .slice A n c] 28 ?hr ?_; (case hr => first | (go_simp; done) | (go_simp; rfl)); intro gB heB W1 hbB h; have hgB : w.heap.size ≤ gB := Nat.le_trans L.out.size heB; clear heB; have h0 : World.grownBy w W1 none := (by refine World.grownBy.trans ?_ h; repeat (first | exact gr_refl _ _ | apply gr_drewN | apply gr_drew | apply gr_alloc)); have L_ := Az.mk (gr_new L.out h0 (by first | (simp; done) | (simp; omega) | omega)); clear L; have L := L_; clear L_; clear h0 h; have B := Az.mk hbB; clear hbB; have cB0 : World.cell? W1 ⟨gB, 0, none⟩ = some (.int .i64 s.cells) := blkCell B.out 0; have cB1 : World.cell? W1 ⟨gB, 1, none⟩ = some (.int .i64 s.rows) := blkCell B.out 1; have cB2 : World.cell? W1 ⟨gB, 2, none⟩ = some (.float .f32 s.sl) := blkCell B.out 2; have cB3 : World.cell? W1 ⟨gB, 3, none⟩ = some (.float .f32 s.le) := blkCell B.out 3; have cB4 : World.cell? W1 ⟨gB, 4, none⟩ = some (.float .f32 s.sa) := blkCell B.out 4; have cB5 : World.cell? W1 ⟨gB, 5, none⟩ = some (.slice A n c) := blkCell B.out 5)) | ((with_reducible refine gateN 4 rfl ?_); go_must (refine ev_al 4 rfl rfl #[.int .i64 0, .int .i64 0, .float .f32 0, .float .f32 0, .float .f32 0, .slice none 0 0] 28 ?hr ?_; (case hr => first | (go_simp; done) | (go_simp; rfl)); intro gZ heZ W2 hbZ h; have hgZ : w.heap.size ≤ gZ := Nat.le_trans L.out.size heZ; have hgZB : gB < gZ := Nat.lt_of_lt_of_le (blkLt B.out) heZ; clear heZ; have h0 : World.grownBy W1 W2 none := (by refine World.grownBy.trans ?_ h; repeat (first | exact gr_refl _ _ | apply gr_drewN | apply gr_drew | apply gr_alloc)); clear cB0 cB1 cB2 cB3 cB4 cB5; have L_ := Az.mk (gr_new L.out h0 (by first | (simp; done) | (simp; omega) | omega)); have B_ := Az.mk (blkGr B.out h0 (by first | (simp; done) | (simp; omega) | omega)); clear L B; have L := L_; clear L_; have B := B_; clear B_; clear h0 h; have Z := Az.mk hbZ; clear hbZ; have cB0 : World.cell? W2 ⟨gB, 0, none⟩ = some (.int .i64 s.cells) := blkCell B.out 0; have cB1 : World.cell? W2 ⟨gB, 1, none⟩ = some (.int .i64 s.rows) := blkCell B.out 1; have cB2 : World.cell? W2 ⟨gB, 2, none⟩ = some (.float .f32 s.sl) := blkCell B.out 2; have cB3 : World.cell? W2 ⟨gB, 3, none⟩ = some (.float .f32 s.le) := blkCell B.out 3; have cB4 : World.cell? W2 ⟨gB, 4, none⟩ = some (.float .f32 s.sa) := blkCell B.out 4; have cB5 : World.cell? W2 ⟨gB, 5, none⟩ = some (.slice A n c) := blkCell B.out 5; have cZ0 : World.cell? W2 ⟨gZ, 0, none⟩ = some (.int .i64 0) := blkCell Z.out 0; have cZ1 : World.cell? W2 ⟨gZ, 1, none⟩ = some (.int .i64 0) := blkCell Z.out 1; have cZ2 : World.cell? W2 ⟨gZ, 2, none⟩ = some (.float .f32 0) := blkCell Z.out 2; have cZ3 : World.cell? W2 ⟨gZ, 3, none⟩ = some (.float .f32 0) := blkCell Z.out 3; have cZ4 : World.cell? W2 ⟨gZ, 4, none⟩ = some (.float .f32 0) := blkCell Z.out 4; have cZ5 : World.cell? W2 ⟨gZ, 5, none⟩ = some (.slice none 0 0) := blkCell Z.out 5)))
  have s2 := L.out.size
  refine (sSplitFields_c l hl _).mono ?_
  rintro e w2 ⟨v2, rfl, hF, h⟩
  have h0 : World.grownBy W2 w2 _ := (by refine World.grownBy.trans ?_ h; repeat (first | exact gr_refl _ _ | apply gr_drewN | apply gr_drew | apply gr_alloc))
  clear cB0 cB1 cB2 cB3 cB4 cB5 cZ0 cZ1 cZ2 cZ3 cZ4 cZ5
  have L_ := Az.mk (gr_new L.out h0 (by first | (simp; done) | (simp; omega) | omega))
  have B_ := Az.mk (blkGr B.out h0 (by first | (simp; done) | (simp; omega) | omega))
  have Z_ := Az.mk (blkGr Z.out h0 (by first | (simp; done) | (simp; omega) | omega))
  clear L B Z
  have L := L_; clear L_
  have B := B_; clear B_
  have Z := Z_; clear Z_
  clear h0 h
  have cB0 : World.cell? w2 ⟨gB, 0, none⟩ = some (.int .i64 s.cells) := blkCell B.out 0
  have cB1 : World.cell? w2 ⟨gB, 1, none⟩ = some (.int .i64 s.rows) := blkCell B.out 1
  have cB2 : World.cell? w2 ⟨gB, 2, none⟩ = some (.float .f32 s.sl) := blkCell B.out 2
  have cB3 : World.cell? w2 ⟨gB, 3, none⟩ = some (.float .f32 s.le) := blkCell B.out 3
  have cB4 : World.cell? w2 ⟨gB, 4, none⟩ = some (.float .f32 s.sa) := blkCell B.out 4
  have cB5 : World.cell? w2 ⟨gB, 5, none⟩ = some (.slice A n c) := blkCell B.out 5
  have cZ0 : World.cell? w2 ⟨gZ, 0, none⟩ = some (.int .i64 0) := blkCell Z.out 0
  have cZ1 : World.cell? w2 ⟨gZ, 1, none⟩ = some (.int .i64 0) := blkCell Z.out 1
  have cZ2 : World.cell? w2 ⟨gZ, 2, none⟩ = some (.float .f32 0) := blkCell Z.out 2
  have cZ3 : World.cell? w2 ⟨gZ, 3, none⟩ = some (.float .f32 0) := blkCell Z.out 3
  have cZ4 : World.cell? w2 ⟨gZ, 4, none⟩ = some (.float .f32 0) := blkCell Z.out 4
  have cZ5 : World.cell? w2 ⟨gZ, 5, none⟩ = some (.slice none 0 0) := blkCell Z.out 5
  have F := Az.mk (own_weak hF s2)
  clear hF
  obtain ⟨A2, c2, rfl, hS2⟩ := own_sl F.out
  have HS2 := Az.mk hS2
  clear hS2
  obtain ⟨o, ho⟩ : ∃ o, fieldsM l = o := ⟨_, rfl⟩
  rw [ho] at F HS2
  rw [ho]
  have HFM := Az.mk ho
  clear ho
  cases o with
  | none =>
    have HT : Az (tuneM s l = none) := ⟨by rw [tuneM, HFM.out]; split <;> rfl⟩
    go_wp2_with (first | ((with_reducible refine gateN 35 rfl ?_); go_must (refine ev_ld 35 rfl rfl rfl (cs := #[.int .i64 s.cells, .int .i64 s.rows, .float .f32 s.sl, .float .f32 s.le, .float .f32 s.sa, .slice A n c]) rfl B.out Tryd.underlying28 rfl (by kernel_rfl) ?_)))
    have s5 := L.out.size
    refine (l08Copy_c s A n c (by omega) _ (HR.out.up L.out)).mono ?_
    rintro e x1 ⟨v5, rfl, hR5, h⟩
    have h0 : World.grownBy w2 x1 _ := (by refine World.grownBy.trans ?_ h; repeat (first | exact gr_refl _ _ | apply gr_drewN | apply gr_drew | apply gr_alloc))
    clear cB0 cB1 cB2 cB3 cB4 cB5 cZ0 cZ1 cZ2 cZ3 cZ4 cZ5
    have L_ := Az.mk (gr_new L.out h0 (by first | (simp; done) | (simp; omega) | omega))
    have B_ := Az.mk (blkGr B.out h0 (by first | (simp; done) | (simp; omega) | omega))
    have Z_ := Az.mk (blkGr Z.out h0 (by first | (simp; done) | (simp; omega) | omega))
    have F_ := Az.mk (own_gr F.out h0 (by first | exact own_none _ | exact .inr hl?F.out | exact .inr (own_blk F.out B.out (by decide)) | exact .inr (own_blk F.out Z.out (by decide))))
    clear L B Z F
    have L := L_; clear L_
    have B := B_; clear B_
    have Z := Z_; clear Z_
    have F := F_; clear F_
    clear h0 h
    have cB0 : World.cell? x1 ⟨gB, 0, none⟩ = some (.int .i64 s.cells) := blkCell B.out 0
    have cB1 : World.cell? x1 ⟨gB, 1, none⟩ = some (.int .i64 s.rows) := blkCell B.out 1
    have cB2 : World.cell? x1 ⟨gB, 2, none⟩ = some (.float .f32 s.sl) := blkCell B.out 2
    have cB3 : World.cell? x1 ⟨gB, 3, none⟩ = some (.float .f32 s.le) := blkCell B.out 3
    have cB4 : World.cell? x1 ⟨gB, 4, none⟩ = some (.float .f32 s.sa) := blkCell B.out 4
    have cB5 : World.cell? x1 ⟨gB, 5, none⟩ = some (.slice A n c) := blkCell B.out 5
    have cZ0 : World.cell? x1 ⟨gZ, 0, none⟩ = some (.int .i64 0) := blkCell Z.out 0
    have cZ1 : World.cell? x1 ⟨gZ, 1, none⟩ = some (.int .i64 0) := blkCell Z.out 1
    have cZ2 : World.cell? x1 ⟨gZ, 2, none⟩ = some (.float .f32 0) := blkCell Z.out 2
    have cZ3 : World.cell? x1 ⟨gZ, 3, none⟩ = some (.float .f32 0) := blkCell Z.out 3
    have cZ4 : World.cell? x1 ⟨gZ, 4, none⟩ = some (.float .f32 0) := blkCell Z.out 4
    have cZ5 : World.cell? x1 ⟨gZ, 5, none⟩ = some (.slice none 0 0) := blkCell Z.out 5
    have R5 := Az.mk (own_weak hR5 s5)
    clear hR5
    obtain ⟨A5, c5, rfl, _⟩ := own_sl R5.out
    go_wp2_with (first | ((with_reducible refine gateSt 4 rfl ?_); go_must (refine ev_st rfl rfl rfl (cs := #[.int .i64 s.cells, .int .i64 s.rows, .float .f32 s.sl, .float .f32 s.le, .float .f32 s.sa, .slice A5 s.log.length c5]) rfl rfl Z.out (by kernel_rfl) rfl (by simp [Value.oneCell']) ?_; intro W3 hbZ h; have h0 : World.grownBy x1 W3 (some gZ) := (by refine World.grownBy.trans ?_ h; repeat (first | exact gr_refl _ _ | apply gr_drewN | apply gr_drew | apply gr_alloc)); clear cB0 cB1 cB2 cB3 cB4 cB5 cZ0 cZ1 cZ2 cZ3 cZ4 cZ5; have L_ := Az.mk (gr_new L.out h0 (by first | (simp; done) | (simp; omega) | omega)); have B_ := Az.mk (blkGr B.out h0 (by first | (simp; done) | (simp; omega) | omega)); have F_ := Az.mk (own_gr F.out h0 (by first | exact own_none _ | exact .inr hlZF.out | exact .inr (own_blk F.out B.out (by decide)) | exact .inr (own_blk F.out Z.out (by decide)))); have R5_ := Az.mk (own_gr R5.out h0 (by first | exact own_none _ | exact .inr hlZR5.out | exact .inr (own_blk R5.out B.out (by decide)) | exact .inr (own_blk R5.out Z.out (by decide)))); clear L B F R5; have L := L_; clear L_; have B := B_; clear B_; have F := F_; clear F_; have R5 := R5_; clear R5_; clear h0 h; clear Z; have Z := Az.mk hbZ; clear hbZ; have cB0 : World.cell? W3 ⟨gB, 0, none⟩ = some (.int .i64 s.cells) := blkCell B.out 0; have cB1 : World.cell? W3 ⟨gB, 1, none⟩ = some (.int .i64 s.rows) := blkCell B.out 1; have cB2 : World.cell? W3 ⟨gB, 2, none⟩ = some (.float .f32 s.sl) := blkCell B.out 2; have cB3 : World.cell? W3 ⟨gB, 3, none⟩ = some (.float .f32 s.le) := blkCell B.out 3; have cB4 : World.cell? W3 ⟨gB, 4, none⟩ = some (.float .f32 s.sa) := blkCell B.out 4; have cB5 : World.cell? W3 ⟨gB, 5, none⟩ = some (.slice A n c) := blkCell B.out 5; have cZ0 : World.cell? W3 ⟨gZ, 0, none⟩ = some (.int .i64 s.cells) := blkCell Z.out 0; have cZ1 : World.cell? W3 ⟨gZ, 1, none⟩ = some (.int .i64 s.rows) := blkCell Z.out 1; have cZ2 : World.cell? W3 ⟨gZ, 2, none⟩ = some (.float .f32 s.sl) := blkCell Z.out 2; have cZ3 : World.cell? W3 ⟨gZ, 3, none⟩ = some (.float .f32 s.le) := blkCell Z.out 3; have cZ4 : World.cell? W3 ⟨gZ, 4, none⟩ = some (.float .f32 s.sa) := blkCell Z.out 4; have cZ5 : World.cell? W3 ⟨gZ, 5, none⟩ = some (.slice A5 s.log.length c5) := blkCell Z.out 5)))
    refine bodyPost_ret (results_ct (u := 5) rfl _ _ gZ 28 (s.cs (.slice A5 s.log.length c5)) _ rfl Z.out Tryd.underlying28 rfl (by kernel_rfl)) rfl ⟨.slice A5 s.log.length c5, ?_, ?_, L.out⟩
    · rw [HT.out]; rfl
    · rw [HT.out]; exact R5.out
  | some f =>
  by_cases hf0 : f = []
  · subst hf0
    have HT : Az (tuneM s l = none) := ⟨by rw [tuneM, HFM.out]; split <;> rfl⟩
    go_wp2_with (first | ((with_reducible refine gateN 35 rfl ?_); go_must (refine ev_ld 35 rfl rfl rfl (cs := #[.int .i64 s.cells, .int .i64 s.rows, .float .f32 s.sl, .float .f32 s.le, .float .f32 s.sa, .slice A n c]) rfl B.out Tryd.underlying28 rfl (by kernel_rfl) ?_)))
    have s5 := L.out.size
    refine (l08Copy_c s A n c (by omega) _ (HR.out.up L.out)).mono ?_
    rintro e x1 ⟨v5, rfl, hR5, h⟩
    have h0 : World.grownBy w2 x1 _ := (by refine World.grownBy.trans ?_ h; repeat (first | exact gr_refl _ _ | apply gr_drewN | apply gr_drew | apply gr_alloc))
    clear cB0 cB1 cB2 cB3 cB4 cB5 cZ0 cZ1 cZ2 cZ3 cZ4 cZ5
    have L_ := Az.mk (gr_new L.out h0 (by first | (simp; done) | (simp; omega) | omega))
    have B_ := Az.mk (blkGr B.out h0 (by first | (simp; done) | (simp; omega) | omega))
    have Z_ := Az.mk (blkGr Z.out h0 (by first | (simp; done) | (simp; omega) | omega))
    have F_ := Az.mk (own_gr F.out h0 (by first | exact own_none _ | exact .inr hl?F.out | exact .inr (own_blk F.out B.out (by decide)) | exact .inr (own_blk F.out Z.out (by decide))))
    clear L B Z F
    have L := L_; clear L_
    have B := B_; clear B_
    have Z := Z_; clear Z_
    have F := F_; clear F_
    clear h0 h
    have cB0 : World.cell? x1 ⟨gB, 0, none⟩ = some (.int .i64 s.cells) := blkCell B.out 0
    have cB1 : World.cell? x1 ⟨gB, 1, none⟩ = some (.int .i64 s.rows) := blkCell B.out 1
    have cB2 : World.cell? x1 ⟨gB, 2, none⟩ = some (.float .f32 s.sl) := blkCell B.out 2
    have cB3 : World.cell? x1 ⟨gB, 3, none⟩ = some (.float .f32 s.le) := blkCell B.out 3
    have cB4 : World.cell? x1 ⟨gB, 4, none⟩ = some (.float .f32 s.sa) := blkCell B.out 4
    have cB5 : World.cell? x1 ⟨gB, 5, none⟩ = some (.slice A n c) := blkCell B.out 5
    have cZ0 : World.cell? x1 ⟨gZ, 0, none⟩ = some (.int .i64 0) := blkCell Z.out 0
    have cZ1 : World.cell? x1 ⟨gZ, 1, none⟩ = some (.int .i64 0) := blkCell Z.out 1
    have cZ2 : World.cell? x1 ⟨gZ, 2, none⟩ = some (.float .f32 0) := blkCell Z.out 2
    have cZ3 : World.cell? x1 ⟨gZ, 3, none⟩ = some (.float .f32 0) := blkCell Z.out 3
    have cZ4 : World.cell? x1 ⟨gZ, 4, none⟩ = some (.float .f32 0) := blkCell Z.out 4
    have cZ5 : World.cell? x1 ⟨gZ, 5, none⟩ = some (.slice none 0 0) := blkCell Z.out 5
    have R5 := Az.mk (own_weak hR5 s5)
    clear hR5
    obtain ⟨A5, c5, rfl, _⟩ := own_sl R5.out
    go_wp2_with (first | ((with_reducible refine gateSt 4 rfl ?_); go_must (refine ev_st rfl rfl rfl (cs := #[.int .i64 s.cells, .int .i64 s.rows, .float .f32 s.sl, .float .f32 s.le, .float .f32 s.sa, .slice A5 s.log.length c5]) rfl rfl Z.out (by kernel_rfl) rfl (by simp [Value.oneCell']) ?_; intro W4 hbZ h; have h0 : World.grownBy x1 W4 (some gZ) := (by refine World.grownBy.trans ?_ h; repeat (first | exact gr_refl _ _ | apply gr_drewN | apply gr_drew | apply gr_alloc)); clear cB0 cB1 cB2 cB3 cB4 cB5 cZ0 cZ1 cZ2 cZ3 cZ4 cZ5; have L_ := Az.mk (gr_new L.out h0 (by first | (simp; done) | (simp; omega) | omega)); have B_ := Az.mk (blkGr B.out h0 (by first | (simp; done) | (simp; omega) | omega)); have F_ := Az.mk (own_gr F.out h0 (by first | exact own_none _ | exact .inr hlZF.out | exact .inr (own_blk F.out B.out (by decide)) | exact .inr (own_blk F.out Z.out (by decide)))); have R5_ := Az.mk (own_gr R5.out h0 (by first | exact own_none _ | exact .inr hlZR5.out | exact .inr (own_blk R5.out B.out (by decide)) | exact .inr (own_blk R5.out Z.out (by decide)))); clear L B F R5; have L := L_; clear L_; have B := B_; clear B_; have F := F_; clear F_; have R5 := R5_; clear R5_; clear h0 h; clear Z; have Z := Az.mk hbZ; clear hbZ; have cB0 : World.cell? W4 ⟨gB, 0, none⟩ = some (.int .i64 s.cells) := blkCell B.out 0; have cB1 : World.cell? W4 ⟨gB, 1, none⟩ = some (.int .i64 s.rows) := blkCell B.out 1; have cB2 : World.cell? W4 ⟨gB, 2, none⟩ = some (.float .f32 s.sl) := blkCell B.out 2; have cB3 : World.cell? W4 ⟨gB, 3, none⟩ = some (.float .f32 s.le) := blkCell B.out 3; have cB4 : World.cell? W4 ⟨gB, 4, none⟩ = some (.float .f32 s.sa) := blkCell B.out 4; have cB5 : World.cell? W4 ⟨gB, 5, none⟩ = some (.slice A n c) := blkCell B.out 5; have cZ0 : World.cell? W4 ⟨gZ, 0, none⟩ = some (.int .i64 s.cells) := blkCell Z.out 0; have cZ1 : World.cell? W4 ⟨gZ, 1, none⟩ = some (.int .i64 s.rows) := blkCell Z.out 1; have cZ2 : World.cell? W4 ⟨gZ, 2, none⟩ = some (.float .f32 s.sl) := blkCell Z.out 2; have cZ3 : World.cell? W4 ⟨gZ, 3, none⟩ = some (.float .f32 s.le) := blkCell Z.out 3; have cZ4 : World.cell? W4 ⟨gZ, 4, none⟩ = some (.float .f32 s.sa) := blkCell Z.out 4; have cZ5 : World.cell? W4 ⟨gZ, 5, none⟩ = some (.slice A5 s.log.length c5) := blkCell Z.out 5)))
    refine bodyPost_ret (results_ct (u := 5) rfl _ _ gZ 28 (s.cs (.slice A5 s.log.length c5)) _ rfl Z.out Tryd.underlying28 rfl (by kernel_rfl)) rfl ⟨.slice A5 s.log.length c5, ?_, ?_, L.out⟩
    · rw [HT.out]; rfl
    · rw [HT.out]; exact R5.out
  have hfl : 0 < f.length := List.length_pos_iff.2 hf0
  clear hf0
  have F_ := Az.mk (show World.ownsRow _ _ 9 1 (.slice A2 f.length c2) f.length (stV f) from F.out)
  clear F
  have F := F_
  clear F_
  have hflb : ((f.length : Int) == 0) = false := by simp; intro e; rw [e] at hfl; simp at hfl
  go_wp2_with (first | ((with_reducible refine gateN 25 rfl ?_); go_must (refine stripG (by first | rfl | (simp [Region.wanted, yielded]; done) | (simp [Region.wanted, yielded]; omega)) ?_; refine ev_ld 25 rfl rfl rfl (cs := #[.int .i64 s.cells, .int .i64 s.rows, .float .f32 s.sl, .float .f32 s.le, .float .f32 s.sa, .slice A n c]) rfl B.out Tryd.underlying28 rfl (by kernel_rfl) ?_)))
  refine (sSetOk_c s A n c HN.out (by omega) _).mono ?_
  rintro e w3 ⟨rfl, h⟩
  have h0 : World.grownBy w2 w3 _ := (by refine World.grownBy.trans ?_ h; repeat (first | exact gr_refl _ _ | apply gr_drewN | apply gr_drew | apply gr_alloc))
  clear cB0 cB1 cB2 cB3 cB4 cB5 cZ0 cZ1 cZ2 cZ3 cZ4 cZ5
  have L_ := Az.mk (gr_new L.out h0 (by first | (simp; done) | (simp; omega) | omega))
  have B_ := Az.mk (blkGr B.out h0 (by first | (simp; done) | (simp; omega) | omega))
  have Z_ := Az.mk (blkGr Z.out h0 (by first | (simp; done) | (simp; omega) | omega))
  have F_ := Az.mk (own_gr F.out h0 (by first | exact own_none _ | exact .inr hl?F.out | exact .inr (own_blk F.out B.out (by decide)) | exact .inr (own_blk F.out Z.out (by decide))))
  clear L B Z F
  have L := L_; clear L_
  have B := B_; clear B_
  have Z := Z_; clear Z_
  have F := F_; clear F_
  clear h0 h
  have cB0 : World.cell? w3 ⟨gB, 0, none⟩ = some (.int .i64 s.cells) := blkCell B.out 0
  have cB1 : World.cell? w3 ⟨gB, 1, none⟩ = some (.int .i64 s.rows) := blkCell B.out 1
  have cB2 : World.cell? w3 ⟨gB, 2, none⟩ = some (.float .f32 s.sl) := blkCell B.out 2
  have cB3 : World.cell? w3 ⟨gB, 3, none⟩ = some (.float .f32 s.le) := blkCell B.out 3
  have cB4 : World.cell? w3 ⟨gB, 4, none⟩ = some (.float .f32 s.sa) := blkCell B.out 4
  have cB5 : World.cell? w3 ⟨gB, 5, none⟩ = some (.slice A n c) := blkCell B.out 5
  have cZ0 : World.cell? w3 ⟨gZ, 0, none⟩ = some (.int .i64 0) := blkCell Z.out 0
  have cZ1 : World.cell? w3 ⟨gZ, 1, none⟩ = some (.int .i64 0) := blkCell Z.out 1
  have cZ2 : World.cell? w3 ⟨gZ, 2, none⟩ = some (.float .f32 0) := blkCell Z.out 2
  have cZ3 : World.cell? w3 ⟨gZ, 3, none⟩ = some (.float .f32 0) := blkCell Z.out 3
  have cZ4 : World.cell? w3 ⟨gZ, 4, none⟩ = some (.float .f32 0) := blkCell Z.out 4
  have cZ5 : World.cell? w3 ⟨gZ, 5, none⟩ = some (.slice none 0 0) := blkCell Z.out 5
  obtain ⟨b1, hb1⟩ : ∃ b, setOkM s = b := ⟨_, rfl⟩
  rw [hb1]
  have HB1 := Az.mk hb1
  clear hb1
  cases b1 with
  | false =>
    have HT : Az (tuneM s l = none) := ⟨by rw [tuneM, if_neg (fun h => by rw [HB1.out] at h; cases h.1)]⟩
    go_wp2_with (first | ((with_reducible refine gateN 35 rfl ?_); go_must (refine ev_ld 35 rfl rfl rfl (cs := #[.int .i64 s.cells, .int .i64 s.rows, .float .f32 s.sl, .float .f32 s.le, .float .f32 s.sa, .slice A n c]) rfl B.out Tryd.underlying28 rfl (by kernel_rfl) ?_)))
    have s5 := L.out.size
    refine (l08Copy_c s A n c (by omega) _ (HR.out.up L.out)).mono ?_
    rintro e x1 ⟨v5, rfl, hR5, h⟩
    have h0 : World.grownBy w3 x1 _ := (by refine World.grownBy.trans ?_ h; repeat (first | exact gr_refl _ _ | apply gr_drewN | apply gr_drew | apply gr_alloc))
    clear cB0 cB1 cB2 cB3 cB4 cB5 cZ0 cZ1 cZ2 cZ3 cZ4 cZ5
    have L_ := Az.mk (gr_new L.out h0 (by first | (simp; done) | (simp; omega) | omega))
    have B_ := Az.mk (blkGr B.out h0 (by first | (simp; done) | (simp; omega) | omega))
    have Z_ := Az.mk (blkGr Z.out h0 (by first | (simp; done) | (simp; omega) | omega))
    have F_ := Az.mk (own_gr F.out h0 (by first | exact own_none _ | exact .inr hl?F.out | exact .inr (own_blk F.out B.out (by decide)) | exact .inr (own_blk F.out Z.out (by decide))))
    clear L B Z F
    have L := L_; clear L_
    have B := B_; clear B_
    have Z := Z_; clear Z_
    have F := F_; clear F_
    clear h0 h
    have cB0 : World.cell? x1 ⟨gB, 0, none⟩ = some (.int .i64 s.cells) := blkCell B.out 0
    have cB1 : World.cell? x1 ⟨gB, 1, none⟩ = some (.int .i64 s.rows) := blkCell B.out 1
    have cB2 : World.cell? x1 ⟨gB, 2, none⟩ = some (.float .f32 s.sl) := blkCell B.out 2
    have cB3 : World.cell? x1 ⟨gB, 3, none⟩ = some (.float .f32 s.le) := blkCell B.out 3
    have cB4 : World.cell? x1 ⟨gB, 4, none⟩ = some (.float .f32 s.sa) := blkCell B.out 4
    have cB5 : World.cell? x1 ⟨gB, 5, none⟩ = some (.slice A n c) := blkCell B.out 5
    have cZ0 : World.cell? x1 ⟨gZ, 0, none⟩ = some (.int .i64 0) := blkCell Z.out 0
    have cZ1 : World.cell? x1 ⟨gZ, 1, none⟩ = some (.int .i64 0) := blkCell Z.out 1
    have cZ2 : World.cell? x1 ⟨gZ, 2, none⟩ = some (.float .f32 0) := blkCell Z.out 2
    have cZ3 : World.cell? x1 ⟨gZ, 3, none⟩ = some (.float .f32 0) := blkCell Z.out 3
    have cZ4 : World.cell? x1 ⟨gZ, 4, none⟩ = some (.float .f32 0) := blkCell Z.out 4
    have cZ5 : World.cell? x1 ⟨gZ, 5, none⟩ = some (.slice none 0 0) := blkCell Z.out 5
    have R5 := Az.mk (own_weak hR5 s5)
    clear hR5
    obtain ⟨A5, c5, rfl, _⟩ := own_sl R5.out
    go_wp2_with (first | ((with_reducible refine gateSt 4 rfl ?_); go_must (refine ev_st rfl rfl rfl (cs := #[.int .i64 s.cells, .int .i64 s.rows, .float .f32 s.sl, .float .f32 s.le, .float .f32 s.sa, .slice A5 s.log.length c5]) rfl rfl Z.out (by kernel_rfl) rfl (by simp [Value.oneCell']) ?_; intro W5 hbZ h; have h0 : World.grownBy x1 W5 (some gZ) := (by refine World.grownBy.trans ?_ h; repeat (first | exact gr_refl _ _ | apply gr_drewN | apply gr_drew | apply gr_alloc)); clear cB0 cB1 cB2 cB3 cB4 cB5 cZ0 cZ1 cZ2 cZ3 cZ4 cZ5; have L_ := Az.mk (gr_new L.out h0 (by first | (simp; done) | (simp; omega) | omega)); have B_ := Az.mk (blkGr B.out h0 (by first | (simp; done) | (simp; omega) | omega)); have F_ := Az.mk (own_gr F.out h0 (by first | exact own_none _ | exact .inr hlZF.out | exact .inr (own_blk F.out B.out (by decide)) | exact .inr (own_blk F.out Z.out (by decide)))); have R5_ := Az.mk (own_gr R5.out h0 (by first | exact own_none _ | exact .inr hlZR5.out | exact .inr (own_blk R5.out B.out (by decide)) | exact .inr (own_blk R5.out Z.out (by decide)))); clear L B F R5; have L := L_; clear L_; have B := B_; clear B_; have F := F_; clear F_; have R5 := R5_; clear R5_; clear h0 h; clear Z; have Z := Az.mk hbZ; clear hbZ; have cB0 : World.cell? W5 ⟨gB, 0, none⟩ = some (.int .i64 s.cells) := blkCell B.out 0; have cB1 : World.cell? W5 ⟨gB, 1, none⟩ = some (.int .i64 s.rows) := blkCell B.out 1; have cB2 : World.cell? W5 ⟨gB, 2, none⟩ = some (.float .f32 s.sl) := blkCell B.out 2; have cB3 : World.cell? W5 ⟨gB, 3, none⟩ = some (.float .f32 s.le) := blkCell B.out 3; have cB4 : World.cell? W5 ⟨gB, 4, none⟩ = some (.float .f32 s.sa) := blkCell B.out 4; have cB5 : World.cell? W5 ⟨gB, 5, none⟩ = some (.slice A n c) := blkCell B.out 5; have cZ0 : World.cell? W5 ⟨gZ, 0, none⟩ = some (.int .i64 s.cells) := blkCell Z.out 0; have cZ1 : World.cell? W5 ⟨gZ, 1, none⟩ = some (.int .i64 s.rows) := blkCell Z.out 1; have cZ2 : World.cell? W5 ⟨gZ, 2, none⟩ = some (.float .f32 s.sl) := blkCell Z.out 2; have cZ3 : World.cell? W5 ⟨gZ, 3, none⟩ = some (.float .f32 s.le) := blkCell Z.out 3; have cZ4 : World.cell? W5 ⟨gZ, 4, none⟩ = some (.float .f32 s.sa) := blkCell Z.out 4; have cZ5 : World.cell? W5 ⟨gZ, 5, none⟩ = some (.slice A5 s.log.length c5) := blkCell Z.out 5)))
    refine bodyPost_ret (results_ct (u := 5) rfl _ _ gZ 28 (s.cs (.slice A5 s.log.length c5)) _ rfl Z.out Tryd.underlying28 rfl (by kernel_rfl)) rfl ⟨.slice A5 s.log.length c5, ?_, ?_, L.out⟩
    · rw [HT.out]; rfl
    · rw [HT.out]; exact R5.out
  | true =>
  by_cases h100 : 100 ≤ n
  · have h100i : (100 : Int) ≤ n := by omega
    have HT : Az (tuneM s l = none) := ⟨by rw [tuneM, if_neg (fun h => by rw [HN.out] at h; omega)]⟩
    go_wp2_with (first | ((with_reducible refine gateN 35 rfl ?_); go_must (refine ev_ld 35 rfl rfl rfl (cs := #[.int .i64 s.cells, .int .i64 s.rows, .float .f32 s.sl, .float .f32 s.le, .float .f32 s.sa, .slice A n c]) rfl B.out Tryd.underlying28 rfl (by kernel_rfl) ?_)))
    have s5 := L.out.size
    refine (l08Copy_c s A n c (by omega) _ (HR.out.up L.out)).mono ?_
    rintro e x1 ⟨v5, rfl, hR5, h⟩
    have h0 : World.grownBy w3 x1 _ := (by refine World.grownBy.trans ?_ h; repeat (first | exact gr_refl _ _ | apply gr_drewN | apply gr_drew | apply gr_alloc))
    clear cB0 cB1 cB2 cB3 cB4 cB5 cZ0 cZ1 cZ2 cZ3 cZ4 cZ5
    have L_ := Az.mk (gr_new L.out h0 (by first | (simp; done) | (simp; omega) | omega))
    have B_ := Az.mk (blkGr B.out h0 (by first | (simp; done) | (simp; omega) | omega))
    have Z_ := Az.mk (blkGr Z.out h0 (by first | (simp; done) | (simp; omega) | omega))
    have F_ := Az.mk (own_gr F.out h0 (by first | exact own_none _ | exact .inr hl?F.out | exact .inr (own_blk F.out B.out (by decide)) | exact .inr (own_blk F.out Z.out (by decide))))
    clear L B Z F
    have L := L_; clear L_
    have B := B_; clear B_
    have Z := Z_; clear Z_
    have F := F_; clear F_
    clear h0 h
    have cB0 : World.cell? x1 ⟨gB, 0, none⟩ = some (.int .i64 s.cells) := blkCell B.out 0
    have cB1 : World.cell? x1 ⟨gB, 1, none⟩ = some (.int .i64 s.rows) := blkCell B.out 1
    have cB2 : World.cell? x1 ⟨gB, 2, none⟩ = some (.float .f32 s.sl) := blkCell B.out 2
    have cB3 : World.cell? x1 ⟨gB, 3, none⟩ = some (.float .f32 s.le) := blkCell B.out 3
    have cB4 : World.cell? x1 ⟨gB, 4, none⟩ = some (.float .f32 s.sa) := blkCell B.out 4
    have cB5 : World.cell? x1 ⟨gB, 5, none⟩ = some (.slice A n c) := blkCell B.out 5
    have cZ0 : World.cell? x1 ⟨gZ, 0, none⟩ = some (.int .i64 0) := blkCell Z.out 0
    have cZ1 : World.cell? x1 ⟨gZ, 1, none⟩ = some (.int .i64 0) := blkCell Z.out 1
    have cZ2 : World.cell? x1 ⟨gZ, 2, none⟩ = some (.float .f32 0) := blkCell Z.out 2
    have cZ3 : World.cell? x1 ⟨gZ, 3, none⟩ = some (.float .f32 0) := blkCell Z.out 3
    have cZ4 : World.cell? x1 ⟨gZ, 4, none⟩ = some (.float .f32 0) := blkCell Z.out 4
    have cZ5 : World.cell? x1 ⟨gZ, 5, none⟩ = some (.slice none 0 0) := blkCell Z.out 5
    have R5 := Az.mk (own_weak hR5 s5)
    clear hR5
    obtain ⟨A5, c5, rfl, _⟩ := own_sl R5.out
    go_wp2_with (first | ((with_reducible refine gateSt 4 rfl ?_); go_must (refine ev_st rfl rfl rfl (cs := #[.int .i64 s.cells, .int .i64 s.rows, .float .f32 s.sl, .float .f32 s.le, .float .f32 s.sa, .slice A5 s.log.length c5]) rfl rfl Z.out (by kernel_rfl) rfl (by simp [Value.oneCell']) ?_; intro W6 hbZ h; have h0 : World.grownBy x1 W6 (some gZ) := (by refine World.grownBy.trans ?_ h; repeat (first | exact gr_refl _ _ | apply gr_drewN | apply gr_drew | apply gr_alloc)); clear cB0 cB1 cB2 cB3 cB4 cB5 cZ0 cZ1 cZ2 cZ3 cZ4 cZ5; have L_ := Az.mk (gr_new L.out h0 (by first | (simp; done) | (simp; omega) | omega)); have B_ := Az.mk (blkGr B.out h0 (by first | (simp; done) | (simp; omega) | omega)); have F_ := Az.mk (own_gr F.out h0 (by first | exact own_none _ | exact .inr hlZF.out | exact .inr (own_blk F.out B.out (by decide)) | exact .inr (own_blk F.out Z.out (by decide)))); have R5_ := Az.mk (own_gr R5.out h0 (by first | exact own_none _ | exact .inr hlZR5.out | exact .inr (own_blk R5.out B.out (by decide)) | exact .inr (own_blk R5.out Z.out (by decide)))); clear L B F R5; have L := L_; clear L_; have B := B_; clear B_; have F := F_; clear F_; have R5 := R5_; clear R5_; clear h0 h; clear Z; have Z := Az.mk hbZ; clear hbZ; have cB0 : World.cell? W6 ⟨gB, 0, none⟩ = some (.int .i64 s.cells) := blkCell B.out 0; have cB1 : World.cell? W6 ⟨gB, 1, none⟩ = some (.int .i64 s.rows) := blkCell B.out 1; have cB2 : World.cell? W6 ⟨gB, 2, none⟩ = some (.float .f32 s.sl) := blkCell B.out 2; have cB3 : World.cell? W6 ⟨gB, 3, none⟩ = some (.float .f32 s.le) := blkCell B.out 3; have cB4 : World.cell? W6 ⟨gB, 4, none⟩ = some (.float .f32 s.sa) := blkCell B.out 4; have cB5 : World.cell? W6 ⟨gB, 5, none⟩ = some (.slice A n c) := blkCell B.out 5; have cZ0 : World.cell? W6 ⟨gZ, 0, none⟩ = some (.int .i64 s.cells) := blkCell Z.out 0; have cZ1 : World.cell? W6 ⟨gZ, 1, none⟩ = some (.int .i64 s.rows) := blkCell Z.out 1; have cZ2 : World.cell? W6 ⟨gZ, 2, none⟩ = some (.float .f32 s.sl) := blkCell Z.out 2; have cZ3 : World.cell? W6 ⟨gZ, 3, none⟩ = some (.float .f32 s.le) := blkCell Z.out 3; have cZ4 : World.cell? W6 ⟨gZ, 4, none⟩ = some (.float .f32 s.sa) := blkCell Z.out 4; have cZ5 : World.cell? W6 ⟨gZ, 5, none⟩ = some (.slice A5 s.log.length c5) := blkCell Z.out 5)))
    refine bodyPost_ret (results_ct (u := 5) rfl _ _ gZ 28 (s.cs (.slice A5 s.log.length c5)) _ rfl Z.out Tryd.underlying28 rfl (by kernel_rfl)) rfl ⟨.slice A5 s.log.length c5, ?_, ?_, L.out⟩
    · rw [HT.out]; rfl
    · rw [HT.out]; exact R5.out
  have h100i : ¬ (100 : Int) ≤ n := by omega
  have HL600 := Az.mk (fields_len HFM.out)
  have HT0 : Az (tuneM s l = (doneM s f).bind fun t => if setOkM t = true then some { t with log := t.log ++ [Lib.join f [32]] } else none) := ⟨by rw [tuneM, if_pos ⟨HB1.out, by rw [HN.out]; omega⟩, HFM.out]; rfl⟩
  go_wp2_with (first | ((with_reducible refine gateN 38 rfl ?_); go_must (refine ev_ld 38 rfl rfl rfl (cs := #[.int .i64 s.cells, .int .i64 s.rows, .float .f32 s.sl, .float .f32 s.le, .float .f32 s.sa, .slice A n c]) rfl B.out Tryd.underlying28 rfl (by kernel_rfl) ?_)))
  have s1 := L.out.size
  refine (l08Copy_c s A n c (by omega) _ (HR.out.up L.out)).mono ?_
  rintro e w4 ⟨v1, rfl, hR, h⟩
  have h0 : World.grownBy w3 w4 _ := (by refine World.grownBy.trans ?_ h; repeat (first | exact gr_refl _ _ | apply gr_drewN | apply gr_drew | apply gr_alloc))
  clear cB0 cB1 cB2 cB3 cB4 cB5 cZ0 cZ1 cZ2 cZ3 cZ4 cZ5
  have L_ := Az.mk (gr_new L.out h0 (by first | (simp; done) | (simp; omega) | omega))
  have B_ := Az.mk (blkGr B.out h0 (by first | (simp; done) | (simp; omega) | omega))
  have Z_ := Az.mk (blkGr Z.out h0 (by first | (simp; done) | (simp; omega) | omega))
  have F_ := Az.mk (own_gr F.out h0 (by first | exact own_none _ | exact .inr hl?F.out | exact .inr (own_blk F.out B.out (by decide)) | exact .inr (own_blk F.out Z.out (by decide))))
  clear L B Z F
  have L := L_; clear L_
  have B := B_; clear B_
  have Z := Z_; clear Z_
  have F := F_; clear F_
  clear h0 h
  have cB0 : World.cell? w4 ⟨gB, 0, none⟩ = some (.int .i64 s.cells) := blkCell B.out 0
  have cB1 : World.cell? w4 ⟨gB, 1, none⟩ = some (.int .i64 s.rows) := blkCell B.out 1
  have cB2 : World.cell? w4 ⟨gB, 2, none⟩ = some (.float .f32 s.sl) := blkCell B.out 2
  have cB3 : World.cell? w4 ⟨gB, 3, none⟩ = some (.float .f32 s.le) := blkCell B.out 3
  have cB4 : World.cell? w4 ⟨gB, 4, none⟩ = some (.float .f32 s.sa) := blkCell B.out 4
  have cB5 : World.cell? w4 ⟨gB, 5, none⟩ = some (.slice A n c) := blkCell B.out 5
  have cZ0 : World.cell? w4 ⟨gZ, 0, none⟩ = some (.int .i64 0) := blkCell Z.out 0
  have cZ1 : World.cell? w4 ⟨gZ, 1, none⟩ = some (.int .i64 0) := blkCell Z.out 1
  have cZ2 : World.cell? w4 ⟨gZ, 2, none⟩ = some (.float .f32 0) := blkCell Z.out 2
  have cZ3 : World.cell? w4 ⟨gZ, 3, none⟩ = some (.float .f32 0) := blkCell Z.out 3
  have cZ4 : World.cell? w4 ⟨gZ, 4, none⟩ = some (.float .f32 0) := blkCell Z.out 4
  have cZ5 : World.cell? w4 ⟨gZ, 5, none⟩ = some (.slice none 0 0) := blkCell Z.out 5
  have R := Az.mk (own_weak hR s1)
  clear hR
  obtain ⟨A1, c1, rfl, hS1⟩ := own_sl R.out
  have HS1 := Az.mk hS1.2.1
  clear hS1
  go_wp2_with fail
  refine (l08Done_c s A1 s.log.length c1 A2 f.length c2 f HL600.out _ (own_slS F.out)).mono ?_
  rintro e w5 ⟨t, ht, htl, rfl, h⟩
  have h0 : World.grownBy w4 w5 _ := (by refine World.grownBy.trans ?_ h; repeat (first | exact gr_refl _ _ | apply gr_drewN | apply gr_drew | apply gr_alloc))
  clear cB0 cB1 cB2 cB3 cB4 cB5 cZ0 cZ1 cZ2 cZ3 cZ4 cZ5
  have L_ := Az.mk (gr_new L.out h0 (by first | (simp; done) | (simp; omega) | omega))
  have B_ := Az.mk (blkGr B.out h0 (by first | (simp; done) | (simp; omega) | omega))
  have Z_ := Az.mk (blkGr Z.out h0 (by first | (simp; done) | (simp; omega) | omega))
  have F_ := Az.mk (own_gr F.out h0 (by first | exact own_none _ | exact .inr hl?F.out | exact .inr (own_blk F.out B.out (by decide)) | exact .inr (own_blk F.out Z.out (by decide))))
  have R_ := Az.mk (own_gr R.out h0 (by first | exact own_none _ | exact .inr hl?R.out | exact .inr (own_blk R.out B.out (by decide)) | exact .inr (own_blk R.out Z.out (by decide))))
  clear L B Z F R
  have L := L_; clear L_
  have B := B_; clear B_
  have Z := Z_; clear Z_
  have F := F_; clear F_
  have R := R_; clear R_
  clear h0 h
  have cB0 : World.cell? w5 ⟨gB, 0, none⟩ = some (.int .i64 s.cells) := blkCell B.out 0
  have cB1 : World.cell? w5 ⟨gB, 1, none⟩ = some (.int .i64 s.rows) := blkCell B.out 1
  have cB2 : World.cell? w5 ⟨gB, 2, none⟩ = some (.float .f32 s.sl) := blkCell B.out 2
  have cB3 : World.cell? w5 ⟨gB, 3, none⟩ = some (.float .f32 s.le) := blkCell B.out 3
  have cB4 : World.cell? w5 ⟨gB, 4, none⟩ = some (.float .f32 s.sa) := blkCell B.out 4
  have cB5 : World.cell? w5 ⟨gB, 5, none⟩ = some (.slice A n c) := blkCell B.out 5
  have cZ0 : World.cell? w5 ⟨gZ, 0, none⟩ = some (.int .i64 0) := blkCell Z.out 0
  have cZ1 : World.cell? w5 ⟨gZ, 1, none⟩ = some (.int .i64 0) := blkCell Z.out 1
  have cZ2 : World.cell? w5 ⟨gZ, 2, none⟩ = some (.float .f32 0) := blkCell Z.out 2
  have cZ3 : World.cell? w5 ⟨gZ, 3, none⟩ = some (.float .f32 0) := blkCell Z.out 3
  have cZ4 : World.cell? w5 ⟨gZ, 4, none⟩ = some (.float .f32 0) := blkCell Z.out 4
  have cZ5 : World.cell? w5 ⟨gZ, 5, none⟩ = some (.slice none 0 0) := blkCell Z.out 5
  have HTD := Az.mk ht
  have HTL := Az.mk htl
  clear ht htl
  obtain ⟨od, hod⟩ : ∃ od, doneM s f = od := ⟨_, rfl⟩
  rw [hod]
  rw [hod] at HT0 HTD
  have HOD := Az.mk hod
  clear hod
  unfold SetV.cs
  cases od with
  | none =>
    have HT : Az (tuneM s l = none) := ⟨by rw [HT0.out]; rfl⟩
    go_wp2_with (first | ((with_reducible refine gateN 8 rfl ?_); go_must (refine ev_al 8 rfl rfl #[.int .i64 0, .int .i64 0, .float .f32 0, .float .f32 0, .float .f32 0, .slice none 0 0] 28 ?hr ?_; (case hr => first | (go_simp; done) | (go_simp; rfl)); intro gT heT W7 hbT h; have hgT : w.heap.size ≤ gT := Nat.le_trans L.out.size heT; have hgTB : gB < gT := Nat.lt_of_lt_of_le (blkLt B.out) heT; have hgTZ : gZ < gT := Nat.lt_of_lt_of_le (blkLt Z.out) heT; have hlTF := Az.mk (own_lows F.out heT); have hlTR := Az.mk (own_lows R.out heT); clear heT; have h0 : World.grownBy w5 W7 none := (by refine World.grownBy.trans ?_ h; repeat (first | exact gr_refl _ _ | apply gr_drewN | apply gr_drew | apply gr_alloc)); clear cB0 cB1 cB2 cB3 cB4 cB5 cZ0 cZ1 cZ2 cZ3 cZ4 cZ5; have L_ := Az.mk (gr_new L.out h0 (by first | (simp; done) | (simp; omega) | omega)); have B_ := Az.mk (blkGr B.out h0 (by first | (simp; done) | (simp; omega) | omega)); have Z_ := Az.mk (blkGr Z.out h0 (by first | (simp; done) | (simp; omega) | omega)); have F_ := Az.mk (own_gr F.out h0 (by first | exact own_none _ | exact .inr hl?F.out | exact .inr (own_blk F.out B.out (by decide)) | exact .inr (own_blk F.out Z.out (by decide)))); have R_ := Az.mk (own_gr R.out h0 (by first | exact own_none _ | exact .inr hl?R.out | exact .inr (own_blk R.out B.out (by decide)) | exact .inr (own_blk R.out Z.out (by decide)))); clear L B Z F R; have L := L_; clear L_; have B := B_; clear B_; have Z := Z_; clear Z_; have F := F_; clear F_; have R := R_; clear R_; clear h0 h; have T := Az.mk hbT; clear hbT; have cB0 : World.cell? W7 ⟨gB, 0, none⟩ = some (.int .i64 s.cells) := blkCell B.out 0; have cB1 : World.cell? W7 ⟨gB, 1, none⟩ = some (.int .i64 s.rows) := blkCell B.out 1; have cB2 : World.cell? W7 ⟨gB, 2, none⟩ = some (.float .f32 s.sl) := blkCell B.out 2; have cB3 : World.cell? W7 ⟨gB, 3, none⟩ = some (.float .f32 s.le) := blkCell B.out 3; have cB4 : World.cell? W7 ⟨gB, 4, none⟩ = some (.float .f32 s.sa) := blkCell B.out 4; have cB5 : World.cell? W7 ⟨gB, 5, none⟩ = some (.slice A n c) := blkCell B.out 5; have cZ0 : World.cell? W7 ⟨gZ, 0, none⟩ = some (.int .i64 0) := blkCell Z.out 0; have cZ1 : World.cell? W7 ⟨gZ, 1, none⟩ = some (.int .i64 0) := blkCell Z.out 1; have cZ2 : World.cell? W7 ⟨gZ, 2, none⟩ = some (.float .f32 0) := blkCell Z.out 2; have cZ3 : World.cell? W7 ⟨gZ, 3, none⟩ = some (.float .f32 0) := blkCell Z.out 3; have cZ4 : World.cell? W7 ⟨gZ, 4, none⟩ = some (.float .f32 0) := blkCell Z.out 4; have cZ5 : World.cell? W7 ⟨gZ, 5, none⟩ = some (.slice none 0 0) := blkCell Z.out 5; have cT0 : World.cell? W7 ⟨gT, 0, none⟩ = some (.int .i64 0) := blkCell T.out 0; have cT1 : World.cell? W7 ⟨gT, 1, none⟩ = some (.int .i64 0) := blkCell T.out 1; have cT2 : World.cell? W7 ⟨gT, 2, none⟩ = some (.float .f32 0) := blkCell T.out 2; have cT3 : World.cell? W7 ⟨gT, 3, none⟩ = some (.float .f32 0) := blkCell T.out 3; have cT4 : World.cell? W7 ⟨gT, 4, none⟩ = some (.float .f32 0) := blkCell T.out 4; have cT5 : World.cell? W7 ⟨gT, 5, none⟩ = some (.slice none 0 0) := blkCell T.out 5)) | ((with_reducible refine gateSt 8 rfl ?_); go_must (refine ev_st rfl rfl rfl (cs := #[.int .i64 t.cells, .int .i64 t.rows, .float .f32 t.sl, .float .f32 t.le, .float .f32 t.sa, .slice A1 s.log.length c1]) rfl rfl T.out (by kernel_rfl) rfl (by simp [Value.oneCell']) ?_; intro W8 hbT h; have h0 : World.grownBy W7 W8 (some gT) := (by refine World.grownBy.trans ?_ h; repeat (first | exact gr_refl _ _ | apply gr_drewN | apply gr_drew | apply gr_alloc)); clear cB0 cB1 cB2 cB3 cB4 cB5 cZ0 cZ1 cZ2 cZ3 cZ4 cZ5 cT0 cT1 cT2 cT3 cT4 cT5; have L_ := Az.mk (gr_new L.out h0 (by first | (simp; done) | (simp; omega) | omega)); have B_ := Az.mk (blkGr B.out h0 (by first | (simp; done) | (simp; omega) | omega)); have Z_ := Az.mk (blkGr Z.out h0 (by first | (simp; done) | (simp; omega) | omega)); have F_ := Az.mk (own_gr F.out h0 (by first | exact own_none _ | exact .inr hlTF.out | exact .inr (own_blk F.out B.out (by decide)) | exact .inr (own_blk F.out Z.out (by decide)) | exact .inr (own_blk F.out T.out (by decide)))); have R_ := Az.mk (own_gr R.out h0 (by first | exact own_none _ | exact .inr hlTR.out | exact .inr (own_blk R.out B.out (by decide)) | exact .inr (own_blk R.out Z.out (by decide)) | exact .inr (own_blk R.out T.out (by decide)))); clear L B Z F R; have L := L_; clear L_; have B := B_; clear B_; have Z := Z_; clear Z_; have F := F_; clear F_; have R := R_; clear R_; clear h0 h; clear T; have T := Az.mk hbT; clear hbT; have cB0 : World.cell? W8 ⟨gB, 0, none⟩ = some (.int .i64 s.cells) := blkCell B.out 0; have cB1 : World.cell? W8 ⟨gB, 1, none⟩ = some (.int .i64 s.rows) := blkCell B.out 1; have cB2 : World.cell? W8 ⟨gB, 2, none⟩ = some (.float .f32 s.sl) := blkCell B.out 2; have cB3 : World.cell? W8 ⟨gB, 3, none⟩ = some (.float .f32 s.le) := blkCell B.out 3; have cB4 : World.cell? W8 ⟨gB, 4, none⟩ = some (.float .f32 s.sa) := blkCell B.out 4; have cB5 : World.cell? W8 ⟨gB, 5, none⟩ = some (.slice A n c) := blkCell B.out 5; have cZ0 : World.cell? W8 ⟨gZ, 0, none⟩ = some (.int .i64 0) := blkCell Z.out 0; have cZ1 : World.cell? W8 ⟨gZ, 1, none⟩ = some (.int .i64 0) := blkCell Z.out 1; have cZ2 : World.cell? W8 ⟨gZ, 2, none⟩ = some (.float .f32 0) := blkCell Z.out 2; have cZ3 : World.cell? W8 ⟨gZ, 3, none⟩ = some (.float .f32 0) := blkCell Z.out 3; have cZ4 : World.cell? W8 ⟨gZ, 4, none⟩ = some (.float .f32 0) := blkCell Z.out 4; have cZ5 : World.cell? W8 ⟨gZ, 5, none⟩ = some (.slice none 0 0) := blkCell Z.out 5; have cT0 : World.cell? W8 ⟨gT, 0, none⟩ = some (.int .i64 t.cells) := blkCell T.out 0; have cT1 : World.cell? W8 ⟨gT, 1, none⟩ = some (.int .i64 t.rows) := blkCell T.out 1; have cT2 : World.cell? W8 ⟨gT, 2, none⟩ = some (.float .f32 t.sl) := blkCell T.out 2; have cT3 : World.cell? W8 ⟨gT, 3, none⟩ = some (.float .f32 t.le) := blkCell T.out 3; have cT4 : World.cell? W8 ⟨gT, 4, none⟩ = some (.float .f32 t.sa) := blkCell T.out 4; have cT5 : World.cell? W8 ⟨gT, 5, none⟩ = some (.slice A1 s.log.length c1) := blkCell T.out 5)) | ((with_reducible refine gateN 51 rfl ?_); go_must (refine ev_ld 51 rfl rfl rfl (cs := #[.int .i64 s.cells, .int .i64 s.rows, .float .f32 s.sl, .float .f32 s.le, .float .f32 s.sa, .slice A n c]) rfl B.out Tryd.underlying28 rfl (by kernel_rfl) ?_)))
    have s5 := L.out.size
    refine (l08Copy_c s A n c (by omega) _ (HR.out.up L.out)).mono ?_
    rintro e x1 ⟨v5, rfl, hR5, h⟩
    have h0 : World.grownBy W8 x1 _ := (by refine World.grownBy.trans ?_ h; repeat (first | exact gr_refl _ _ | apply gr_drewN | apply gr_drew | apply gr_alloc))
    clear cB0 cB1 cB2 cB3 cB4 cB5 cZ0 cZ1 cZ2 cZ3 cZ4 cZ5 cT0 cT1 cT2 cT3 cT4 cT5
    have L_ := Az.mk (gr_new L.out h0 (by first | (simp; done) | (simp; omega) | omega))
    have B_ := Az.mk (blkGr B.out h0 (by first | (simp; done) | (simp; omega) | omega))
    have Z_ := Az.mk (blkGr Z.out h0 (by first | (simp; done) | (simp; omega) | omega))
    have F_ := Az.mk (own_gr F.out h0 (by first | exact own_none _ | exact .inr hl?F.out | exact .inr (own_blk F.out B.out (by decide)) | exact .inr (own_blk F.out Z.out (by decide)) | exact .inr (own_blk F.out T.out (by decide))))
    have R_ := Az.mk (own_gr R.out h0 (by first | exact own_none _ | exact .inr hl?R.out | exact .inr (own_blk R.out B.out (by decide)) | exact .inr (own_blk R.out Z.out (by decide)) | exact .inr (own_blk R.out T.out (by decide))))
    have T_ := Az.mk (blkGr T.out h0 (by first | (simp; done) | (simp; omega) | omega))
    clear L B Z F R T
    have L := L_; clear L_
    have B := B_; clear B_
    have Z := Z_; clear Z_
    have F := F_; clear F_
    have R := R_; clear R_
    have T := T_; clear T_
    clear h0 h
    have cB0 : World.cell? x1 ⟨gB, 0, none⟩ = some (.int .i64 s.cells) := blkCell B.out 0
    have cB1 : World.cell? x1 ⟨gB, 1, none⟩ = some (.int .i64 s.rows) := blkCell B.out 1
    have cB2 : World.cell? x1 ⟨gB, 2, none⟩ = some (.float .f32 s.sl) := blkCell B.out 2
    have cB3 : World.cell? x1 ⟨gB, 3, none⟩ = some (.float .f32 s.le) := blkCell B.out 3
    have cB4 : World.cell? x1 ⟨gB, 4, none⟩ = some (.float .f32 s.sa) := blkCell B.out 4
    have cB5 : World.cell? x1 ⟨gB, 5, none⟩ = some (.slice A n c) := blkCell B.out 5
    have cZ0 : World.cell? x1 ⟨gZ, 0, none⟩ = some (.int .i64 0) := blkCell Z.out 0
    have cZ1 : World.cell? x1 ⟨gZ, 1, none⟩ = some (.int .i64 0) := blkCell Z.out 1
    have cZ2 : World.cell? x1 ⟨gZ, 2, none⟩ = some (.float .f32 0) := blkCell Z.out 2
    have cZ3 : World.cell? x1 ⟨gZ, 3, none⟩ = some (.float .f32 0) := blkCell Z.out 3
    have cZ4 : World.cell? x1 ⟨gZ, 4, none⟩ = some (.float .f32 0) := blkCell Z.out 4
    have cZ5 : World.cell? x1 ⟨gZ, 5, none⟩ = some (.slice none 0 0) := blkCell Z.out 5
    have cT0 : World.cell? x1 ⟨gT, 0, none⟩ = some (.int .i64 t.cells) := blkCell T.out 0
    have cT1 : World.cell? x1 ⟨gT, 1, none⟩ = some (.int .i64 t.rows) := blkCell T.out 1
    have cT2 : World.cell? x1 ⟨gT, 2, none⟩ = some (.float .f32 t.sl) := blkCell T.out 2
    have cT3 : World.cell? x1 ⟨gT, 3, none⟩ = some (.float .f32 t.le) := blkCell T.out 3
    have cT4 : World.cell? x1 ⟨gT, 4, none⟩ = some (.float .f32 t.sa) := blkCell T.out 4
    have cT5 : World.cell? x1 ⟨gT, 5, none⟩ = some (.slice A1 s.log.length c1) := blkCell T.out 5
    have R5 := Az.mk (own_weak hR5 s5)
    clear hR5
    obtain ⟨A5, c5, rfl, _⟩ := own_sl R5.out
    go_wp2_with (first | ((with_reducible refine gateSt 4 rfl ?_); go_must (refine ev_st rfl rfl rfl (cs := #[.int .i64 s.cells, .int .i64 s.rows, .float .f32 s.sl, .float .f32 s.le, .float .f32 s.sa, .slice A5 s.log.length c5]) rfl rfl Z.out (by kernel_rfl) rfl (by simp [Value.oneCell']) ?_; intro W9 hbZ h; have h0 : World.grownBy x1 W9 (some gZ) := (by refine World.grownBy.trans ?_ h; repeat (first | exact gr_refl _ _ | apply gr_drewN | apply gr_drew | apply gr_alloc)); clear cB0 cB1 cB2 cB3 cB4 cB5 cZ0 cZ1 cZ2 cZ3 cZ4 cZ5 cT0 cT1 cT2 cT3 cT4 cT5; have L_ := Az.mk (gr_new L.out h0 (by first | (simp; done) | (simp; omega) | omega)); have B_ := Az.mk (blkGr B.out h0 (by first | (simp; done) | (simp; omega) | omega)); have F_ := Az.mk (own_gr F.out h0 (by first | exact own_none _ | exact .inr hlZF.out | exact .inr (own_blk F.out B.out (by decide)) | exact .inr (own_blk F.out Z.out (by decide)) | exact .inr (own_blk F.out T.out (by decide)))); have R_ := Az.mk (own_gr R.out h0 (by first | exact own_none _ | exact .inr hlZR.out | exact .inr (own_blk R.out B.out (by decide)) | exact .inr (own_blk R.out Z.out (by decide)) | exact .inr (own_blk R.out T.out (by decide)))); have T_ := Az.mk (blkGr T.out h0 (by first | (simp; done) | (simp; omega) | omega)); have R5_ := Az.mk (own_gr R5.out h0 (by first | exact own_none _ | exact .inr hlZR5.out | exact .inr (own_blk R5.out B.out (by decide)) | exact .inr (own_blk R5.out Z.out (by decide)) | exact .inr (own_blk R5.out T.out (by decide)))); clear L B F R T R5; have L := L_; clear L_; have B := B_; clear B_; have F := F_; clear F_; have R := R_; clear R_; have T := T_; clear T_; have R5 := R5_; clear R5_; clear h0 h; clear Z; have Z := Az.mk hbZ; clear hbZ; have cB0 : World.cell? W9 ⟨gB, 0, none⟩ = some (.int .i64 s.cells) := blkCell B.out 0; have cB1 : World.cell? W9 ⟨gB, 1, none⟩ = some (.int .i64 s.rows) := blkCell B.out 1; have cB2 : World.cell? W9 ⟨gB, 2, none⟩ = some (.float .f32 s.sl) := blkCell B.out 2; have cB3 : World.cell? W9 ⟨gB, 3, none⟩ = some (.float .f32 s.le) := blkCell B.out 3; have cB4 : World.cell? W9 ⟨gB, 4, none⟩ = some (.float .f32 s.sa) := blkCell B.out 4; have cB5 : World.cell? W9 ⟨gB, 5, none⟩ = some (.slice A n c) := blkCell B.out 5; have cZ0 : World.cell? W9 ⟨gZ, 0, none⟩ = some (.int .i64 s.cells) := blkCell Z.out 0; have cZ1 : World.cell? W9 ⟨gZ, 1, none⟩ = some (.int .i64 s.rows) := blkCell Z.out 1; have cZ2 : World.cell? W9 ⟨gZ, 2, none⟩ = some (.float .f32 s.sl) := blkCell Z.out 2; have cZ3 : World.cell? W9 ⟨gZ, 3, none⟩ = some (.float .f32 s.le) := blkCell Z.out 3; have cZ4 : World.cell? W9 ⟨gZ, 4, none⟩ = some (.float .f32 s.sa) := blkCell Z.out 4; have cZ5 : World.cell? W9 ⟨gZ, 5, none⟩ = some (.slice A5 s.log.length c5) := blkCell Z.out 5; have cT0 : World.cell? W9 ⟨gT, 0, none⟩ = some (.int .i64 t.cells) := blkCell T.out 0; have cT1 : World.cell? W9 ⟨gT, 1, none⟩ = some (.int .i64 t.rows) := blkCell T.out 1; have cT2 : World.cell? W9 ⟨gT, 2, none⟩ = some (.float .f32 t.sl) := blkCell T.out 2; have cT3 : World.cell? W9 ⟨gT, 3, none⟩ = some (.float .f32 t.le) := blkCell T.out 3; have cT4 : World.cell? W9 ⟨gT, 4, none⟩ = some (.float .f32 t.sa) := blkCell T.out 4; have cT5 : World.cell? W9 ⟨gT, 5, none⟩ = some (.slice A1 s.log.length c1) := blkCell T.out 5)))
    refine bodyPost_ret (results_ct (u := 5) rfl _ _ gZ 28 (s.cs (.slice A5 s.log.length c5)) _ rfl Z.out Tryd.underlying28 rfl (by kernel_rfl)) rfl ⟨.slice A5 s.log.length c5, ?_, ?_, L.out⟩
    · rw [HT.out]; rfl
    · rw [HT.out]; exact R5.out
  | some u =>
  obtain rfl : t = u := HTD.out u rfl
  go_wp2_with (first | ((with_reducible refine gateN 8 rfl ?_); go_must (refine ev_al 8 rfl rfl #[.int .i64 0, .int .i64 0, .float .f32 0, .float .f32 0, .float .f32 0, .slice none 0 0] 28 ?hr ?_; (case hr => first | (go_simp; done) | (go_simp; rfl)); intro gT heT W10 hbT h; have hgT : w.heap.size ≤ gT := Nat.le_trans L.out.size heT; have hgTB : gB < gT := Nat.lt_of_lt_of_le (blkLt B.out) heT; have hgTZ : gZ < gT := Nat.lt_of_lt_of_le (blkLt Z.out) heT; have hlTF := Az.mk (own_lows F.out heT); have hlTR := Az.mk (own_lows R.out heT); clear heT; have h0 : World.grownBy w5 W10 none := (by refine World.grownBy.trans ?_ h; repeat (first | exact gr_refl _ _ | apply gr_drewN | apply gr_drew | apply gr_alloc)); clear cB0 cB1 cB2 cB3 cB4 cB5 cZ0 cZ1 cZ2 cZ3 cZ4 cZ5; have L_ := Az.mk (gr_new L.out h0 (by first | (simp; done) | (simp; omega) | omega)); have B_ := Az.mk (blkGr B.out h0 (by first | (simp; done) | (simp; omega) | omega)); have Z_ := Az.mk (blkGr Z.out h0 (by first | (simp; done) | (simp; omega) | omega)); have F_ := Az.mk (own_gr F.out h0 (by first | exact own_none _ | exact .inr hl?F.out | exact .inr (own_blk F.out B.out (by decide)) | exact .inr (own_blk F.out Z.out (by decide)))); have R_ := Az.mk (own_gr R.out h0 (by first | exact own_none _ | exact .inr hl?R.out | exact .inr (own_blk R.out B.out (by decide)) | exact .inr (own_blk R.out Z.out (by decide)))); clear L B Z F R; have L := L_; clear L_; have B := B_; clear B_; have Z := Z_; clear Z_; have F := F_; clear F_; have R := R_; clear R_; clear h0 h; have T := Az.mk hbT; clear hbT; have cB0 : World.cell? W10 ⟨gB, 0, none⟩ = some (.int .i64 s.cells) := blkCell B.out 0; have cB1 : World.cell? W10 ⟨gB, 1, none⟩ = some (.int .i64 s.rows) := blkCell B.out 1; have cB2 : World.cell? W10 ⟨gB, 2, none⟩ = some (.float .f32 s.sl) := blkCell B.out 2; have cB3 : World.cell? W10 ⟨gB, 3, none⟩ = some (.float .f32 s.le) := blkCell B.out 3; have cB4 : World.cell? W10 ⟨gB, 4, none⟩ = some (.float .f32 s.sa) := blkCell B.out 4; have cB5 : World.cell? W10 ⟨gB, 5, none⟩ = some (.slice A n c) := blkCell B.out 5; have cZ0 : World.cell? W10 ⟨gZ, 0, none⟩ = some (.int .i64 0) := blkCell Z.out 0; have cZ1 : World.cell? W10 ⟨gZ, 1, none⟩ = some (.int .i64 0) := blkCell Z.out 1; have cZ2 : World.cell? W10 ⟨gZ, 2, none⟩ = some (.float .f32 0) := blkCell Z.out 2; have cZ3 : World.cell? W10 ⟨gZ, 3, none⟩ = some (.float .f32 0) := blkCell Z.out 3; have cZ4 : World.cell? W10 ⟨gZ, 4, none⟩ = some (.float .f32 0) := blkCell Z.out 4; have cZ5 : World.cell? W10 ⟨gZ, 5, none⟩ = some (.slice none 0 0) := blkCell Z.out 5; have cT0 : World.cell? W10 ⟨gT, 0, none⟩ = some (.int .i64 0) := blkCell T.out 0; have cT1 : World.cell? W10 ⟨gT, 1, none⟩ = some (.int .i64 0) := blkCell T.out 1; have cT2 : World.cell? W10 ⟨gT, 2, none⟩ = some (.float .f32 0) := blkCell T.out 2; have cT3 : World.cell? W10 ⟨gT, 3, none⟩ = some (.float .f32 0) := blkCell T.out 3; have cT4 : World.cell? W10 ⟨gT, 4, none⟩ = some (.float .f32 0) := blkCell T.out 4; have cT5 : World.cell? W10 ⟨gT, 5, none⟩ = some (.slice none 0 0) := blkCell T.out 5)) | ((with_reducible refine gateSt 8 rfl ?_); go_must (refine ev_st rfl rfl rfl (cs := #[.int .i64 t.cells, .int .i64 t.rows, .float .f32 t.sl, .float .f32 t.le, .float .f32 t.sa, .slice A1 s.log.length c1]) rfl rfl T.out (by kernel_rfl) rfl (by simp [Value.oneCell']) ?_; intro W11 hbT h; have h0 : World.grownBy W10 W11 (some gT) := (by refine World.grownBy.trans ?_ h; repeat (first | exact gr_refl _ _ | apply gr_drewN | apply gr_drew | apply gr_alloc)); clear cB0 cB1 cB2 cB3 cB4 cB5 cZ0 cZ1 cZ2 cZ3 cZ4 cZ5 cT0 cT1 cT2 cT3 cT4 cT5; have L_ := Az.mk (gr_new L.out h0 (by first | (simp; done) | (simp; omega) | omega)); have B_ := Az.mk (blkGr B.out h0 (by first | (simp; done) | (simp; omega) | omega)); have Z_ := Az.mk (blkGr Z.out h0 (by first | (simp; done) | (simp; omega) | omega)); have F_ := Az.mk (own_gr F.out h0 (by first | exact own_none _ | exact .inr hlTF.out | exact .inr (own_blk F.out B.out (by decide)) | exact .inr (own_blk F.out Z.out (by decide)) | exact .inr (own_blk F.out T.out (by decide)))); have R_ := Az.mk (own_gr R.out h0 (by first | exact own_none _ | exact .inr hlTR.out | exact .inr (own_blk R.out B.out (by decide)) | exact .inr (own_blk R.out Z.out (by decide)) | exact .inr (own_blk R.out T.out (by decide)))); clear L B Z F R; have L := L_; clear L_; have B := B_; clear B_; have Z := Z_; clear Z_; have F := F_; clear F_; have R := R_; clear R_; clear h0 h; clear T; have T := Az.mk hbT; clear hbT; have cB0 : World.cell? W11 ⟨gB, 0, none⟩ = some (.int .i64 s.cells) := blkCell B.out 0; have cB1 : World.cell? W11 ⟨gB, 1, none⟩ = some (.int .i64 s.rows) := blkCell B.out 1; have cB2 : World.cell? W11 ⟨gB, 2, none⟩ = some (.float .f32 s.sl) := blkCell B.out 2; have cB3 : World.cell? W11 ⟨gB, 3, none⟩ = some (.float .f32 s.le) := blkCell B.out 3; have cB4 : World.cell? W11 ⟨gB, 4, none⟩ = some (.float .f32 s.sa) := blkCell B.out 4; have cB5 : World.cell? W11 ⟨gB, 5, none⟩ = some (.slice A n c) := blkCell B.out 5; have cZ0 : World.cell? W11 ⟨gZ, 0, none⟩ = some (.int .i64 0) := blkCell Z.out 0; have cZ1 : World.cell? W11 ⟨gZ, 1, none⟩ = some (.int .i64 0) := blkCell Z.out 1; have cZ2 : World.cell? W11 ⟨gZ, 2, none⟩ = some (.float .f32 0) := blkCell Z.out 2; have cZ3 : World.cell? W11 ⟨gZ, 3, none⟩ = some (.float .f32 0) := blkCell Z.out 3; have cZ4 : World.cell? W11 ⟨gZ, 4, none⟩ = some (.float .f32 0) := blkCell Z.out 4; have cZ5 : World.cell? W11 ⟨gZ, 5, none⟩ = some (.slice none 0 0) := blkCell Z.out 5; have cT0 : World.cell? W11 ⟨gT, 0, none⟩ = some (.int .i64 t.cells) := blkCell T.out 0; have cT1 : World.cell? W11 ⟨gT, 1, none⟩ = some (.int .i64 t.rows) := blkCell T.out 1; have cT2 : World.cell? W11 ⟨gT, 2, none⟩ = some (.float .f32 t.sl) := blkCell T.out 2; have cT3 : World.cell? W11 ⟨gT, 3, none⟩ = some (.float .f32 t.le) := blkCell T.out 3; have cT4 : World.cell? W11 ⟨gT, 4, none⟩ = some (.float .f32 t.sa) := blkCell T.out 4; have cT5 : World.cell? W11 ⟨gT, 5, none⟩ = some (.slice A1 s.log.length c1) := blkCell T.out 5)) | ((with_reducible refine gateN 47 rfl ?_); go_must (refine stripG (by first | rfl | (simp [Region.wanted, yielded]; done) | (simp [Region.wanted, yielded]; omega)) ?_; refine ev_ld 47 rfl rfl rfl (cs := #[.int .i64 t.cells, .int .i64 t.rows, .float .f32 t.sl, .float .f32 t.le, .float .f32 t.sa, .slice A1 s.log.length c1]) rfl T.out Tryd.underlying28 rfl (by kernel_rfl) ?_)))
  refine (sSetOk_c t A1 s.log.length c1 (by rw [HTL.out]) (by have := HN.out; omega) _).mono ?_
  rintro e w6 ⟨rfl, h⟩
  have h0 : World.grownBy W11 w6 _ := (by refine World.grownBy.trans ?_ h; repeat (first | exact gr_refl _ _ | apply gr_drewN | apply gr_drew | apply gr_alloc))
  clear cB0 cB1 cB2 cB3 cB4 cB5 cZ0 cZ1 cZ2 cZ3 cZ4 cZ5 cT0 cT1 cT2 cT3 cT4 cT5
  have L_ := Az.mk (gr_new L.out h0 (by first | (simp; done) | (simp; omega) | omega))
  have B_ := Az.mk (blkGr B.out h0 (by first | (simp; done) | (simp; omega) | omega))
  have Z_ := Az.mk (blkGr Z.out h0 (by first | (simp; done) | (simp; omega) | omega))
  have F_ := Az.mk (own_gr F.out h0 (by first | exact own_none _ | exact .inr hl?F.out | exact .inr (own_blk F.out B.out (by decide)) | exact .inr (own_blk F.out Z.out (by decide)) | exact .inr (own_blk F.out T.out (by decide))))
  have R_ := Az.mk (own_gr R.out h0 (by first | exact own_none _ | exact .inr hl?R.out | exact .inr (own_blk R.out B.out (by decide)) | exact .inr (own_blk R.out Z.out (by decide)) | exact .inr (own_blk R.out T.out (by decide))))
  have T_ := Az.mk (blkGr T.out h0 (by first | (simp; done) | (simp; omega) | omega))
  clear L B Z F R T
  have L := L_; clear L_
  have B := B_; clear B_
  have Z := Z_; clear Z_
  have F := F_; clear F_
  have R := R_; clear R_
  have T := T_; clear T_
  clear h0 h
  have cB0 : World.cell? w6 ⟨gB, 0, none⟩ = some (.int .i64 s.cells) := blkCell B.out 0
  have cB1 : World.cell? w6 ⟨gB, 1, none⟩ = some (.int .i64 s.rows) := blkCell B.out 1
  have cB2 : World.cell? w6 ⟨gB, 2, none⟩ = some (.float .f32 s.sl) := blkCell B.out 2
  have cB3 : World.cell? w6 ⟨gB, 3, none⟩ = some (.float .f32 s.le) := blkCell B.out 3
  have cB4 : World.cell? w6 ⟨gB, 4, none⟩ = some (.float .f32 s.sa) := blkCell B.out 4
  have cB5 : World.cell? w6 ⟨gB, 5, none⟩ = some (.slice A n c) := blkCell B.out 5
  have cZ0 : World.cell? w6 ⟨gZ, 0, none⟩ = some (.int .i64 0) := blkCell Z.out 0
  have cZ1 : World.cell? w6 ⟨gZ, 1, none⟩ = some (.int .i64 0) := blkCell Z.out 1
  have cZ2 : World.cell? w6 ⟨gZ, 2, none⟩ = some (.float .f32 0) := blkCell Z.out 2
  have cZ3 : World.cell? w6 ⟨gZ, 3, none⟩ = some (.float .f32 0) := blkCell Z.out 3
  have cZ4 : World.cell? w6 ⟨gZ, 4, none⟩ = some (.float .f32 0) := blkCell Z.out 4
  have cZ5 : World.cell? w6 ⟨gZ, 5, none⟩ = some (.slice none 0 0) := blkCell Z.out 5
  have cT0 : World.cell? w6 ⟨gT, 0, none⟩ = some (.int .i64 t.cells) := blkCell T.out 0
  have cT1 : World.cell? w6 ⟨gT, 1, none⟩ = some (.int .i64 t.rows) := blkCell T.out 1
  have cT2 : World.cell? w6 ⟨gT, 2, none⟩ = some (.float .f32 t.sl) := blkCell T.out 2
  have cT3 : World.cell? w6 ⟨gT, 3, none⟩ = some (.float .f32 t.le) := blkCell T.out 3
  have cT4 : World.cell? w6 ⟨gT, 4, none⟩ = some (.float .f32 t.sa) := blkCell T.out 4
  have cT5 : World.cell? w6 ⟨gT, 5, none⟩ = some (.slice A1 s.log.length c1) := blkCell T.out 5
  obtain ⟨b2, hb2⟩ : ∃ b, setOkM t = b := ⟨_, rfl⟩
  rw [hb2]
  have HB2 := Az.mk hb2
  clear hb2
  cases b2 with
  | false =>
    have HT : Az (tuneM s l = none) := ⟨by rw [HT0.out]; show (if setOkM t = true then _ else none) = none; rw [HB2.out]; rfl⟩
    go_wp2_with (first | ((with_reducible refine gateN 51 rfl ?_); go_must (refine ev_ld 51 rfl rfl rfl (cs := #[.int .i64 s.cells, .int .i64 s.rows, .float .f32 s.sl, .float .f32 s.le, .float .f32 s.sa, .slice A n c]) rfl B.out Tryd.underlying28 rfl (by kernel_rfl) ?_)))
    have s5 := L.out.size
    refine (l08Copy_c s A n c (by omega) _ (HR.out.up L.out)).mono ?_
    rintro e x1 ⟨v5, rfl, hR5, h⟩
    have h0 : World.grownBy w6 x1 _ := (by refine World.grownBy.trans ?_ h; repeat (first | exact gr_refl _ _ | apply gr_drewN | apply gr_drew | apply gr_alloc))
    clear cB0 cB1 cB2 cB3 cB4 cB5 cZ0 cZ1 cZ2 cZ3 cZ4 cZ5 cT0 cT1 cT2 cT3 cT4 cT5
    have L_ := Az.mk (gr_new L.out h0 (by first | (simp; done) | (simp; omega) | omega))
    have B_ := Az.mk (blkGr B.out h0 (by first | (simp; done) | (simp; omega) | omega))
    have Z_ := Az.mk (blkGr Z.out h0 (by first | (simp; done) | (simp; omega) | omega))
    have F_ := Az.mk (own_gr F.out h0 (by first | exact own_none _ | exact .inr hl?F.out | exact .inr (own_blk F.out B.out (by decide)) | exact .inr (own_blk F.out Z.out (by decide)) | exact .inr (own_blk F.out T.out (by decide))))
    have R_ := Az.mk (own_gr R.out h0 (by first | exact own_none _ | exact .inr hl?R.out | exact .inr (own_blk R.out B.out (by decide)) | exact .inr (own_blk R.out Z.out (by decide)) | exact .inr (own_blk R.out T.out (by decide))))
    have T_ := Az.mk (blkGr T.out h0 (by first | (simp; done) | (simp; omega) | omega))
    clear L B Z F R T
    have L := L_; clear L_
    have B := B_; clear B_
    have Z := Z_; clear Z_
    have F := F_; clear F_
    have R := R_; clear R_
    have T := T_; clear T_
    clear h0 h
    have cB0 : World.cell? x1 ⟨gB, 0, none⟩ = some (.int .i64 s.cells) := blkCell B.out 0
    have cB1 : World.cell? x1 ⟨gB, 1, none⟩ = some (.int .i64 s.rows) := blkCell B.out 1
    have cB2 : World.cell? x1 ⟨gB, 2, none⟩ = some (.float .f32 s.sl) := blkCell B.out 2
    have cB3 : World.cell? x1 ⟨gB, 3, none⟩ = some (.float .f32 s.le) := blkCell B.out 3
    have cB4 : World.cell? x1 ⟨gB, 4, none⟩ = some (.float .f32 s.sa) := blkCell B.out 4
    have cB5 : World.cell? x1 ⟨gB, 5, none⟩ = some (.slice A n c) := blkCell B.out 5
    have cZ0 : World.cell? x1 ⟨gZ, 0, none⟩ = some (.int .i64 0) := blkCell Z.out 0
    have cZ1 : World.cell? x1 ⟨gZ, 1, none⟩ = some (.int .i64 0) := blkCell Z.out 1
    have cZ2 : World.cell? x1 ⟨gZ, 2, none⟩ = some (.float .f32 0) := blkCell Z.out 2
    have cZ3 : World.cell? x1 ⟨gZ, 3, none⟩ = some (.float .f32 0) := blkCell Z.out 3
    have cZ4 : World.cell? x1 ⟨gZ, 4, none⟩ = some (.float .f32 0) := blkCell Z.out 4
    have cZ5 : World.cell? x1 ⟨gZ, 5, none⟩ = some (.slice none 0 0) := blkCell Z.out 5
    have cT0 : World.cell? x1 ⟨gT, 0, none⟩ = some (.int .i64 t.cells) := blkCell T.out 0
    have cT1 : World.cell? x1 ⟨gT, 1, none⟩ = some (.int .i64 t.rows) := blkCell T.out 1
    have cT2 : World.cell? x1 ⟨gT, 2, none⟩ = some (.float .f32 t.sl) := blkCell T.out 2
    have cT3 : World.cell? x1 ⟨gT, 3, none⟩ = some (.float .f32 t.le) := blkCell T.out 3
    have cT4 : World.cell? x1 ⟨gT, 4, none⟩ = some (.float .f32 t.sa) := blkCell T.out 4
    have cT5 : World.cell? x1 ⟨gT, 5, none⟩ = some (.slice A1 s.log.length c1) := blkCell T.out 5
    have R5 := Az.mk (own_weak hR5 s5)
    clear hR5
    obtain ⟨A5, c5, rfl, _⟩ := own_sl R5.out
    go_wp2_with (first | ((with_reducible refine gateSt 4 rfl ?_); go_must (refine ev_st rfl rfl rfl (cs := #[.int .i64 s.cells, .int .i64 s.rows, .float .f32 s.sl, .float .f32 s.le, .float .f32 s.sa, .slice A5 s.log.length c5]) rfl rfl Z.out (by kernel_rfl) rfl (by simp [Value.oneCell']) ?_; intro W12 hbZ h; have h0 : World.grownBy x1 W12 (some gZ) := (by refine World.grownBy.trans ?_ h; repeat (first | exact gr_refl _ _ | apply gr_drewN | apply gr_drew | apply gr_alloc)); clear cB0 cB1 cB2 cB3 cB4 cB5 cZ0 cZ1 cZ2 cZ3 cZ4 cZ5 cT0 cT1 cT2 cT3 cT4 cT5; have L_ := Az.mk (gr_new L.out h0 (by first | (simp; done) | (simp; omega) | omega)); have B_ := Az.mk (blkGr B.out h0 (by first | (simp; done) | (simp; omega) | omega)); have F_ := Az.mk (own_gr F.out h0 (by first | exact own_none _ | exact .inr hlZF.out | exact .inr (own_blk F.out B.out (by decide)) | exact .inr (own_blk F.out Z.out (by decide)) | exact .inr (own_blk F.out T.out (by decide)))); have R_ := Az.mk (own_gr R.out h0 (by first | exact own_none _ | exact .inr hlZR.out | exact .inr (own_blk R.out B.out (by decide)) | exact .inr (own_blk R.out Z.out (by decide)) | exact .inr (own_blk R.out T.out (by decide)))); have T_ := Az.mk (blkGr T.out h0 (by first | (simp; done) | (simp; omega) | omega)); have R5_ := Az.mk (own_gr R5.out h0 (by first | exact own_none _ | exact .inr hlZR5.out | exact .inr (own_blk R5.out B.out (by decide)) | exact .inr (own_blk R5.out Z.out (by decide)) | exact .inr (own_blk R5.out T.out (by decide)))); clear L B F R T R5; have L := L_; clear L_; have B := B_; clear B_; have F := F_; clear F_; have R := R_; clear R_; have T := T_; clear T_; have R5 := R5_; clear R5_; clear h0 h; clear Z; have Z := Az.mk hbZ; clear hbZ; have cB0 : World.cell? W12 ⟨gB, 0, none⟩ = some (.int .i64 s.cells) := blkCell B.out 0; have cB1 : World.cell? W12 ⟨gB, 1, none⟩ = some (.int .i64 s.rows) := blkCell B.out 1; have cB2 : World.cell? W12 ⟨gB, 2, none⟩ = some (.float .f32 s.sl) := blkCell B.out 2; have cB3 : World.cell? W12 ⟨gB, 3, none⟩ = some (.float .f32 s.le) := blkCell B.out 3; have cB4 : World.cell? W12 ⟨gB, 4, none⟩ = some (.float .f32 s.sa) := blkCell B.out 4; have cB5 : World.cell? W12 ⟨gB, 5, none⟩ = some (.slice A n c) := blkCell B.out 5; have cZ0 : World.cell? W12 ⟨gZ, 0, none⟩ = some (.int .i64 s.cells) := blkCell Z.out 0; have cZ1 : World.cell? W12 ⟨gZ, 1, none⟩ = some (.int .i64 s.rows) := blkCell Z.out 1; have cZ2 : World.cell? W12 ⟨gZ, 2, none⟩ = some (.float .f32 s.sl) := blkCell Z.out 2; have cZ3 : World.cell? W12 ⟨gZ, 3, none⟩ = some (.float .f32 s.le) := blkCell Z.out 3; have cZ4 : World.cell? W12 ⟨gZ, 4, none⟩ = some (.float .f32 s.sa) := blkCell Z.out 4; have cZ5 : World.cell? W12 ⟨gZ, 5, none⟩ = some (.slice A5 s.log.length c5) := blkCell Z.out 5; have cT0 : World.cell? W12 ⟨gT, 0, none⟩ = some (.int .i64 t.cells) := blkCell T.out 0; have cT1 : World.cell? W12 ⟨gT, 1, none⟩ = some (.int .i64 t.rows) := blkCell T.out 1; have cT2 : World.cell? W12 ⟨gT, 2, none⟩ = some (.float .f32 t.sl) := blkCell T.out 2; have cT3 : World.cell? W12 ⟨gT, 3, none⟩ = some (.float .f32 t.le) := blkCell T.out 3; have cT4 : World.cell? W12 ⟨gT, 4, none⟩ = some (.float .f32 t.sa) := blkCell T.out 4; have cT5 : World.cell? W12 ⟨gT, 5, none⟩ = some (.slice A1 s.log.length c1) := blkCell T.out 5)))
    refine bodyPost_ret (results_ct (u := 5) rfl _ _ gZ 28 (s.cs (.slice A5 s.log.length c5)) _ rfl Z.out Tryd.underlying28 rfl (by kernel_rfl)) rfl ⟨.slice A5 s.log.length c5, ?_, ?_, L.out⟩
    · rw [HT.out]; rfl
    · rw [HT.out]; exact R5.out
  | true =>
  have HT : Az (tuneM s l = some { t with log := t.log ++ [Lib.join f [32]] }) := ⟨by rw [HT0.out]; show (if setOkM t = true then _ else none) = _; rw [HB2.out]; rfl⟩
  obtain ⟨gF, cF, hgF, hcF, hgF2, hgF3⟩ := own_slice F.out hfl
  injection hgF with e1 e2 e3
  subst e1
  subst e3
  clear HS2 hflb
  have hflm : f.length ≤ 24 := (fieldsM_some HFM.out).2.2.2
  obtain ⟨f0, hf0⟩ : ∃ t, f[0]? = some t := ⟨_, List.getElem?_eq_getElem hfl⟩
  have HF0 := Az.mk hf0
  clear hf0
  have dF := own_cell F.out (stV_get HF0.out)
  go_wp2_with fail
  clear dF
  clear cB0 cB1 cB2 cB3 cB4 cB5 cZ0 cZ1 cZ2 cZ3 cZ4 cZ5 cT0 cT1 cT2 cT3 cT4 cT5
  go_loopw [10, 11] (fun x i wr => ∃ k : Nat, i = .int .i64 k ∧ x = .string (tx (Lib.join (f.take k) [32])) ∧ 1 ≤ k ∧ k ≤ f.length ∧ Az (w.grownBy wr none) ∧ Az (wr.heap[gZ]? = some (.cells #[.int .i64 0, .int .i64 0, .float .f32 0, .float .f32 0, .float .f32 0, .slice none 0 0] 28 (0, 0))) ∧ Az (wr.heap[gT]? = some (.cells #[.int .i64 t.cells, .int .i64 t.rows, .float .f32 t.sl, .float .f32 t.le, .float .f32 t.sa, .slice A1 s.log.length c1] 28 (0, 0))) ∧ Az (wr.ownsRow w.heap.size 9 1 (.slice A1 s.log.length c1) s.log.length (stV s.log)) ∧ Az (wr.ownsRow w.heap.size 9 1 (.slice (some ⟨gF, 0, none⟩) f.length c2) f.length (stV f))) (fun _ i _ => f.length - (intOf i).toNat)
  case atStart =>
    refine ⟨1, by go_num, ?_, by omega, by omega, L, Z, T, R, F⟩
    rw [List.take_add_one, HF0.out]
    simp [Lib.join_one]
  case round =>
    clear L Z T R F B
    obtain ⟨k, rfl, rfl, hk1, hk, L, Z, T, R, F⟩ := hrel
    have cZ0 : World.cell? wr ⟨gZ, 0, none⟩ = some (.int .i64 0) := blkCell Z.out 0
    have cZ1 : World.cell? wr ⟨gZ, 1, none⟩ = some (.int .i64 0) := blkCell Z.out 1
    have cZ2 : World.cell? wr ⟨gZ, 2, none⟩ = some (.float .f32 0) := blkCell Z.out 2
    have cZ3 : World.cell? wr ⟨gZ, 3, none⟩ = some (.float .f32 0) := blkCell Z.out 3
    have cZ4 : World.cell? wr ⟨gZ, 4, none⟩ = some (.float .f32 0) := blkCell Z.out 4
    have cZ5 : World.cell? wr ⟨gZ, 5, none⟩ = some (.slice none 0 0) := blkCell Z.out 5
    have cT0 : World.cell? wr ⟨gT, 0, none⟩ = some (.int .i64 t.cells) := blkCell T.out 0
    have cT1 : World.cell? wr ⟨gT, 1, none⟩ = some (.int .i64 t.rows) := blkCell T.out 1
    have cT2 : World.cell? wr ⟨gT, 2, none⟩ = some (.float .f32 t.sl) := blkCell T.out 2
    have cT3 : World.cell? wr ⟨gT, 3, none⟩ = some (.float .f32 t.le) := blkCell T.out 3
    have cT4 : World.cell? wr ⟨gT, 4, none⟩ = some (.float .f32 t.sa) := blkCell T.out 4
    have cT5 : World.cell? wr ⟨gT, 5, none⟩ = some (.slice A1 s.log.length c1) := blkCell T.out 5
    have HJR := Az.mk (join_room HFM.out k)
    have hjr := HJR.out
    clear HJR
    by_cases hkl : k < f.length
    · have hki : (k : Int) < f.length := by omega
      obtain ⟨ft, hft⟩ : ∃ t, f[k]? = some t := ⟨_, List.getElem?_eq_getElem hkl⟩
      have HFT := Az.mk hft
      have hftl : ft.length ≤ 600 := HL600.out ft (List.mem_of_getElem? hft)
      clear hft
      have HJ := Az.mk (join_take f k ft HFT.out hk1)
      have dF := own_cell F.out (stV_get HFT.out)
      go_wp2_with fail
      refine ⟨⟨k + 1, by go_num, ?_, by omega, by omega, L, Z, T, R, F⟩, by simp only [intOf]; omega⟩
      rw [HJ.out]
    · obtain rfl : k = f.length := by omega
      have hki : ¬ (f.length : Int) < f.length := by omega
      rw [List.take_length]
      rw [List.take_length] at hjr
      have hsl : s.log.length ≤ 1000000000 := by have := HN.out; omega
      go_wp2_with (first | ((with_reducible refine gateN 72 rfl ?_); go_must (refine ev_bs 72 rfl rfl #[.string (tx (Lib.join f [32]))] 9 1 ?hr ?_; (case hr => first | (go_simp; done) | (go_simp; rfl)); intro gN heN W13 hbN h; have hgN : w.heap.size ≤ gN := Nat.le_trans L.out.size heN; have hgNZ : gZ < gN := Nat.lt_of_lt_of_le (blkLt Z.out) heN; have hgNT : gT < gN := Nat.lt_of_lt_of_le (blkLt T.out) heN; have hlNR := Az.mk (own_lows R.out heN); clear heN; have h0 : World.grownBy wr W13 none := (by refine World.grownBy.trans ?_ h; repeat (first | exact gr_refl _ _ | apply gr_drewN | apply gr_drew | apply gr_alloc)); clear cZ0 cZ1 cZ2 cZ3 cZ4 cZ5 cT0 cT1 cT2 cT3 cT4 cT5; have L_ := Az.mk (gr_new L.out h0 (by first | (simp; done) | (simp; omega) | omega)); have Z_ := Az.mk (blkGr Z.out h0 (by first | (simp; done) | (simp; omega) | omega)); have T_ := Az.mk (blkGr T.out h0 (by first | (simp; done) | (simp; omega) | omega)); have R_ := Az.mk (own_gr R.out h0 (by first | exact own_none _ | exact .inr hl?R.out | exact .inr (own_blk R.out Z.out (by decide)) | exact .inr (own_blk R.out T.out (by decide)))); clear L Z T R; have L := L_; clear L_; have Z := Z_; clear Z_; have T := T_; clear T_; have R := R_; clear R_; clear h0 h; have N := Az.mk hbN; clear hbN; have cZ0 : World.cell? W13 ⟨gZ, 0, none⟩ = some (.int .i64 0) := blkCell Z.out 0; have cZ1 : World.cell? W13 ⟨gZ, 1, none⟩ = some (.int .i64 0) := blkCell Z.out 1; have cZ2 : World.cell? W13 ⟨gZ, 2, none⟩ = some (.float .f32 0) := blkCell Z.out 2; have cZ3 : World.cell? W13 ⟨gZ, 3, none⟩ = some (.float .f32 0) := blkCell Z.out 3; have cZ4 : World.cell? W13 ⟨gZ, 4, none⟩ = some (.float .f32 0) := blkCell Z.out 4; have cZ5 : World.cell? W13 ⟨gZ, 5, none⟩ = some (.slice none 0 0) := blkCell Z.out 5; have cT0 : World.cell? W13 ⟨gT, 0, none⟩ = some (.int .i64 t.cells) := blkCell T.out 0; have cT1 : World.cell? W13 ⟨gT, 1, none⟩ = some (.int .i64 t.rows) := blkCell T.out 1; have cT2 : World.cell? W13 ⟨gT, 2, none⟩ = some (.float .f32 t.sl) := blkCell T.out 2; have cT3 : World.cell? W13 ⟨gT, 3, none⟩ = some (.float .f32 t.le) := blkCell T.out 3; have cT4 : World.cell? W13 ⟨gT, 4, none⟩ = some (.float .f32 t.sa) := blkCell T.out 4; have cT5 : World.cell? W13 ⟨gT, 5, none⟩ = some (.slice A1 s.log.length c1) := blkCell T.out 5; have cN0 : World.cell? W13 ⟨gN, 0, none⟩ = some (.string (tx (Lib.join f [32]))) := blkCell N.out 0)) | ((with_reducible refine gateN 73 rfl ?_); go_must (refine ev_app 73 rfl rfl rfl Tryd.underlying23 (z := .string ByteArray.empty) (size := 1) (bytes := 16) (by kernel_rfl) rfl (by decide) rfl R.out rfl N.out rfl (by simp [Value.oneCell']) ?hbase ?hl ?hl2 ?_; (case hbase => have := L.out.size; omega); (case hl => omega); (case hl2 => omega); intro v W14 hR h; obtain ⟨vA, vc, rfl, _, _, _⟩ := own_rd hR; have h0 : World.grownBy W13 W14 _ := (by refine World.grownBy.trans ?_ h; repeat (first | exact gr_refl _ _ | apply gr_drewN | apply gr_drew | apply gr_alloc)); clear cZ0 cZ1 cZ2 cZ3 cZ4 cZ5 cT0 cT1 cT2 cT3 cT4 cT5 cN0; have L_ := Az.mk (gr_new L.out h0 (fun j hj => .inl (own_base R.out j hj))); have Z_ := Az.mk (blkGr Z.out h0 (by first | exact fun he => own_blk R.out Z.out (by decide) he.symm | exact fun he => hlZR.out he.symm | exact fun he => (by have := own_base R.out _ he.symm; omega))); have T_ := Az.mk (blkGr T.out h0 (by first | exact fun he => own_blk R.out T.out (by decide) he.symm | exact fun he => hlTR.out he.symm | exact fun he => (by have := own_base R.out _ he.symm; omega))); clear L Z T; have L := L_; clear L_; have Z := Z_; clear Z_; have T := T_; clear T_; clear h0 h; clear R N; have R := Az.mk hR; clear hR; have cZ0 : World.cell? W14 ⟨gZ, 0, none⟩ = some (.int .i64 0) := blkCell Z.out 0; have cZ1 : World.cell? W14 ⟨gZ, 1, none⟩ = some (.int .i64 0) := blkCell Z.out 1; have cZ2 : World.cell? W14 ⟨gZ, 2, none⟩ = some (.float .f32 0) := blkCell Z.out 2; have cZ3 : World.cell? W14 ⟨gZ, 3, none⟩ = some (.float .f32 0) := blkCell Z.out 3; have cZ4 : World.cell? W14 ⟨gZ, 4, none⟩ = some (.float .f32 0) := blkCell Z.out 4; have cZ5 : World.cell? W14 ⟨gZ, 5, none⟩ = some (.slice none 0 0) := blkCell Z.out 5; have cT0 : World.cell? W14 ⟨gT, 0, none⟩ = some (.int .i64 t.cells) := blkCell T.out 0; have cT1 : World.cell? W14 ⟨gT, 1, none⟩ = some (.int .i64 t.rows) := blkCell T.out 1; have cT2 : World.cell? W14 ⟨gT, 2, none⟩ = some (.float .f32 t.sl) := blkCell T.out 2; have cT3 : World.cell? W14 ⟨gT, 3, none⟩ = some (.float .f32 t.le) := blkCell T.out 3; have cT4 : World.cell? W14 ⟨gT, 4, none⟩ = some (.float .f32 t.sa) := blkCell T.out 4; have cT5 : World.cell? W14 ⟨gT, 5, none⟩ = some (.slice A1 s.log.length c1) := blkCell T.out 5)) | ((with_reducible refine gateSt 74 rfl ?_); go_must (refine ev_st1 rfl rfl rfl (i := 5) (v := .slice vA (s.log.length + 1) vc) rfl rfl T.out (by kernel_rfl) rfl (by simp) ?_; intro W15 hbT h; have h0 : World.grownBy W14 W15 (some gT) := (by refine World.grownBy.trans ?_ h; repeat (first | exact gr_refl _ _ | apply gr_drewN | apply gr_drew | apply gr_alloc)); clear cZ0 cZ1 cZ2 cZ3 cZ4 cZ5 cT0 cT1 cT2 cT3 cT4 cT5; have L_ := Az.mk (gr_new L.out h0 (by first | (simp; done) | (simp; omega) | omega)); have Z_ := Az.mk (blkGr Z.out h0 (by first | (simp; done) | (simp; omega) | omega)); have R_ := Az.mk (own_gr R.out h0 (by first | exact own_none _ | exact .inr hlTR.out | exact .inr (own_blk R.out Z.out (by decide)) | exact .inr (own_blk R.out T.out (by decide)))); clear L Z R; have L := L_; clear L_; have Z := Z_; clear Z_; have R := R_; clear R_; clear h0 h; simp only [List.setIfInBounds_toArray, List.set_cons_zero, List.set_cons_succ] at hbT; clear T; have T := Az.mk hbT; clear hbT; have cZ0 : World.cell? W15 ⟨gZ, 0, none⟩ = some (.int .i64 0) := blkCell Z.out 0; have cZ1 : World.cell? W15 ⟨gZ, 1, none⟩ = some (.int .i64 0) := blkCell Z.out 1; have cZ2 : World.cell? W15 ⟨gZ, 2, none⟩ = some (.float .f32 0) := blkCell Z.out 2; have cZ3 : World.cell? W15 ⟨gZ, 3, none⟩ = some (.float .f32 0) := blkCell Z.out 3; have cZ4 : World.cell? W15 ⟨gZ, 4, none⟩ = some (.float .f32 0) := blkCell Z.out 4; have cZ5 : World.cell? W15 ⟨gZ, 5, none⟩ = some (.slice none 0 0) := blkCell Z.out 5; have cT0 : World.cell? W15 ⟨gT, 0, none⟩ = some (.int .i64 t.cells) := blkCell T.out 0; have cT1 : World.cell? W15 ⟨gT, 1, none⟩ = some (.int .i64 t.rows) := blkCell T.out 1; have cT2 : World.cell? W15 ⟨gT, 2, none⟩ = some (.float .f32 t.sl) := blkCell T.out 2; have cT3 : World.cell? W15 ⟨gT, 3, none⟩ = some (.float .f32 t.le) := blkCell T.out 3; have cT4 : World.cell? W15 ⟨gT, 4, none⟩ = some (.float .f32 t.sa) := blkCell T.out 4; have cT5 : World.cell? W15 ⟨gT, 5, none⟩ = some (.slice vA (s.log.length + 1) vc) := blkCell T.out 5)) | ((with_reducible refine gateN 75 rfl ?_); go_must (refine ev_ld 75 rfl rfl rfl (cs := #[.int .i64 t.cells, .int .i64 t.rows, .float .f32 t.sl, .float .f32 t.le, .float .f32 t.sa, .slice vA (s.log.length + 1) vc]) rfl T.out Tryd.underlying28 rfl (by kernel_rfl) ?_)) | ((with_reducible refine gateSt 4 rfl ?_); go_must (refine ev_st rfl rfl rfl (cs := #[.int .i64 t.cells, .int .i64 t.rows, .float .f32 t.sl, .float .f32 t.le, .float .f32 t.sa, .slice vA (s.log.length + 1) vc]) rfl rfl Z.out (by kernel_rfl) rfl (by simp [Value.oneCell']) ?_; intro W16 hbZ h; have h0 : World.grownBy W15 W16 (some gZ) := (by refine World.grownBy.trans ?_ h; repeat (first | exact gr_refl _ _ | apply gr_drewN | apply gr_drew | apply gr_alloc)); clear cZ0 cZ1 cZ2 cZ3 cZ4 cZ5 cT0 cT1 cT2 cT3 cT4 cT5; have L_ := Az.mk (gr_new L.out h0 (by first | (simp; done) | (simp; omega) | omega)); have T_ := Az.mk (blkGr T.out h0 (by first | (simp; done) | (simp; omega) | omega)); have R_ := Az.mk (own_gr R.out h0 (by first | exact own_none _ | exact .inr hlZR.out | exact .inr (own_blk R.out Z.out (by decide)) | exact .inr (own_blk R.out T.out (by decide)))); clear L T R; have L := L_; clear L_; have T := T_; clear T_; have R := R_; clear R_; clear h0 h; clear Z; have Z := Az.mk hbZ; clear hbZ; have cZ0 : World.cell? W16 ⟨gZ, 0, none⟩ = some (.int .i64 t.cells) := blkCell Z.out 0; have cZ1 : World.cell? W16 ⟨gZ, 1, none⟩ = some (.int .i64 t.rows) := blkCell Z.out 1; have cZ2 : World.cell? W16 ⟨gZ, 2, none⟩ = some (.float .f32 t.sl) := blkCell Z.out 2; have cZ3 : World.cell? W16 ⟨gZ, 3, none⟩ = some (.float .f32 t.le) := blkCell Z.out 3; have cZ4 : World.cell? W16 ⟨gZ, 4, none⟩ = some (.float .f32 t.sa) := blkCell Z.out 4; have cZ5 : World.cell? W16 ⟨gZ, 5, none⟩ = some (.slice vA (s.log.length + 1) vc) := blkCell Z.out 5; have cT0 : World.cell? W16 ⟨gT, 0, none⟩ = some (.int .i64 t.cells) := blkCell T.out 0; have cT1 : World.cell? W16 ⟨gT, 1, none⟩ = some (.int .i64 t.rows) := blkCell T.out 1; have cT2 : World.cell? W16 ⟨gT, 2, none⟩ = some (.float .f32 t.sl) := blkCell T.out 2; have cT3 : World.cell? W16 ⟨gT, 3, none⟩ = some (.float .f32 t.le) := blkCell T.out 3; have cT4 : World.cell? W16 ⟨gT, 4, none⟩ = some (.float .f32 t.sa) := blkCell T.out 4; have cT5 : World.cell? W16 ⟨gT, 5, none⟩ = some (.slice vA (s.log.length + 1) vc) := blkCell T.out 5)))
      refine bodyPost_ret (results_ct (u := 5) rfl _ _ gZ 28 (t.cs (.slice vA (s.log.length + 1) vc)) _ rfl Z.out Tryd.underlying28 rfl (by kernel_rfl)) rfl ⟨.slice vA (s.log.length + 1) vc, ?_, ?_, L.out⟩
      · rw [HT.out]; rfl
      · rw [HT.out]
        show World.ownsRow _ _ _ _ _ (t.log ++ [Lib.join f [32]]).length (stV (t.log ++ [Lib.join f [32]]))
        rw [HTL.out, stV_snoc, List.length_append]
        exact R.out
end Go.Proofs.YtfjafeepmpnegaaDoor
