/- Contracts of the library's Join of fields, and of impl.Tune. Condition: the library's table and variable are there. -/
import Derived.Test.YtfjafeepmpnegaaDoorSg
namespace Go.Proofs.YtfjafeepmpnegaaDoor
open Go.RowKit
set_option linter.unusedVariables false
set_option linter.unusedSimpArgs false

theorem Join_c (b off n c : Nat) (f : List Tx) (w : World) (hf : f.length = n) (hn : n ≤ 100) (hb : b < w.heap.size) (hrd : Rd w (some ⟨b, off, none⟩) n 1 (stV f)) (hnc : n ≤ c) (hlen : (Lib.join f [32]).length ≤ 140737488355328) :
    Calls Tryd.prog 46 #[.slice (some ⟨b, off, none⟩) n c, .string { data := #[32] }] w (RetSt w (Lib.join f [32])) := by
  have hm : (f.map tx).map (·.data.toList) = f := by rw [List.map_map]; exact List.map_id _
  have hl : (f.map tx).length = n := by rw [List.length_map]; exact hf
  have h := Tryd.strings_Join b off c (f.map tx) { data := #[32] } w (fun j x hx => by
    rw [List.getElem?_map] at hx
    cases hj : f[j]? with
    | none => rw [hj] at hx; cases hx
    | some t =>
      rw [hj] at hx
      injection hx with hx
      subst hx
      have hjl := (List.getElem?_eq_some_iff.1 hj).1
      obtain ⟨b', off', e, hcell⟩ := hrd.2.2 (by omega)
      injection e with e
      injection e with e1 e2
      subst e1; subst e2
      exact hcell j _ (stV_get hj)) hb (by rw [hl]; omega) (by rw [hl]; exact hnc) (by rw [hm]; exact hlen)
  rw [hl, hm] at h
  exact h.mono fun e w' ⟨he, hw⟩ => ⟨he, gr_ofBelow hw _⟩
/-- A command, done: the new set; none where it is refused. -/
theorem own_slS {w : World} {base : Nat} {e : TypeId} {A : Option Addr} {m c : Nat} {fs : List Tx} (h : w.ownsRow base e 1 (.slice A m c) m (stV fs)) : Sl w A m c fs := by
  obtain ⟨A', c', h1, h2⟩ := own_sl h
  injection h1 with h3 h4 h5
  subst h3; subst h5
  exact h2
theorem own_bne {w : World} {base : Nat} {e t : TypeId} {A : Option Addr} {m n c g : Nat} {xs : List Value} {cs : Array Value} (h : w.ownsRow base e 1 (.slice A n c) m xs) (hb : w.heap[g]? = some (.cells cs t (0, 0))) (hne : e ≠ t) : ∀ a, A = some a → a.block ≠ g := by
  intro a ha e
  subst ha
  exact own_blk h hb hne (by simp [Value.ownBlock, e])
def tuneM (s : SetV) (l : Tx) : Option SetV :=
  if setOkM s = true ∧ s.log.length < 100 then (fieldsM l).bind fun f => (doneM s f).bind fun t => if setOkM t = true then some { t with log := t.log ++ [Lib.join f [32]] } else none
  else none
def RetSetD (w : World) (d : SetV) (o : Option SetV) (e : Ending) (w' : World) : Prop :=
  ∃ v, e = .returned (.tuple #[.agg ((o.getD d).cs v), .bool o.isSome]) ∧ w'.ownsRow w.heap.size 9 1 v (o.getD d).log.length (stV (o.getD d).log) ∧ w.grownBy w' none
theorem doneM_fields {s t : SetV} {f : List Tx} (h : doneM s f = some t) : f.length = 2 ∨ f.length = 3 := by
  match f, h with
  | [_, _], _ => exact .inl rfl
  | [_, _, _], _ => exact .inr rfl
  | [], h => cases h
  | [_], h => cases h
  | _ :: _ :: _ :: _ :: _, h => cases h
theorem le_sum {l : List Nat} {a : Nat} (h : a ∈ l) : a ≤ l.sum := by
  induction l with
  | nil => cases h
  | cons b l ih =>
    rw [List.sum_cons]
    rcases List.mem_cons.1 h with rfl | h
    · omega
    · have := ih h; omega
theorem fields_len {l : Tx} {f : List Tx} (h : fieldsM l = some f) : ∀ t ∈ f, t.length ≤ 600 := by
  obtain ⟨h1, h2, _⟩ := fieldsM_some h
  intro t ht
  have h3 := fieldsL_sum l
  rw [h1] at ht
  have h4 : t.length + 1 ≤ fsum (fieldsL l) := by
    unfold fsum
    exact le_sum (List.mem_map.2 ⟨t, ht, rfl⟩)
  omega
/-- Whatever the fields: impl.tuned. -/
theorem tuned_c (s : SetV) (A2 : Option Addr) (n2 c2 : Nat) (gB : Nat) (h8 : 8 ≤ gB) (A : Option Addr) (n c : Nat) (f : List Tx) (hl : ∀ t ∈ f, t.length ≤ 600) (w : World) (hE : Env w) (hrd : Sl w A n c f) (hbg : ∀ a, A = some a → a.block ≠ gB)
    (hb : w.heap[gB]? = some (.cells (s.cs (.slice A2 n2 c2)) 28 (0, 0))) :
    Calls Tryd.prog 59 #[.pointer (some ⟨gB, 0, none⟩), .slice A n c] w (RetTuned s (.slice A2 n2 c2) gB f w) := by
  have hn := hrd.len
  match f, hn, hl, hrd with
  | [f0, f1], hn, hl, hrd =>
    simp at hn; subst hn
    obtain ⟨b, off, rfl, hcell⟩ := hrd.1.2.2 (by omega)
    exact tuned_two s A2 n2 c2 gB h8 b off c f0 f1 (hl f1 (by simp)) w hE (hbg _ rfl) (hcell 0 _ rfl) (hcell 1 _ rfl) hb
  | [f0, f1, f2], hn, hl, hrd =>
    simp at hn; subst hn
    obtain ⟨b, off, rfl, hcell⟩ := hrd.1.2.2 (by omega)
    by_cases h0 : f0 = wSize
    · exact tuned_three_yes s A2 n2 c2 gB h8 b off c f0 f1 f2 h0 (hl f1 (by simp)) (hl f2 (by simp)) w hE (hbg _ rfl) (hcell 0 _ rfl) (hcell 1 _ rfl) (hcell 2 _ rfl) hb
    · exact tuned_three_no s A2 n2 c2 gB h8 b off c f0 f1 f2 h0 w hE (hbg _ rfl) (hcell 0 _ rfl) (hcell 1 _ rfl) (hcell 2 _ rfl) hb
  | [], hn, hl, hrd => exact tuned_short s A2 n2 c2 gB h8 A n c [] hn (by simp at hn; omega) (by simp at hn; omega) hrd.1.max w hE hb
  | [x], hn, hl, hrd => exact tuned_short s A2 n2 c2 gB h8 A n c [x] hn (by simp at hn; omega) (by simp at hn; omega) hrd.1.max w hE hb
  | x1 :: x2 :: x3 :: x4 :: r, hn, hl, hrd => exact tuned_short s A2 n2 c2 gB h8 A n c _ hn (by simp at hn; omega) (by simp at hn; omega) hrd.1.max w hE hb
set_option maxRecDepth 8000 in
set_option maxHeartbeats 8000000 in
theorem Tune_c (s : SetV) (A : Option Addr) (n c : Nat) (l : Tx) (hs : n ≤ 1000000000) (hl : l.length ≤ 140737488355328) (w : World) (hE : Env w) (hrd : Sl w A n c s.log) :
    Calls Tryd.prog 22 #[.agg (s.cs (.slice A n c)), .string (tx l)] w (RetSetD w s (tuneM s l)) := by
  have L := Az.mk (gr_refl w none)
  have HE := Az.mk hE
  have HR := Az.mk hrd
  have HN := Az.mk hrd.len
  have h8w := hE.2.2
  have hsl : s.log.length ≤ 1000000000 := by have := hrd.len; omega
  clear hE hrd
  unfold SetV.cs
  go_enter Tryd.func22, Tryd.ntmps22
  go_wp2_with (first | ((with_reducible refine gateN 2 rfl ?_); go_must (refine ev_al 2 rfl rfl #[.int .i64 s.cells, .int .i64 s.rows, .float .f32 s.sl, .float .f32 s.le, .float .f32 s.sa, .slice A n c] 28 ?hr ?_; (case hr => first | (go_simp; done) | (go_simp; rfl)); intro gB heB W1 hbB h; have hgB : w.heap.size ≤ gB := Nat.le_trans L.out.size heB; clear heB; have h0 : World.grownBy w W1 none := (by refine World.grownBy.trans ?_ h; repeat (first | exact gr_refl _ _ | apply gr_drewN | apply gr_drew | apply gr_alloc)); have L_ := Az.mk (gr_new L.out h0 (by first | (simp; done) | (simp; omega) | omega)); clear L; have L := L_; clear L_; clear h0 h; have B := Az.mk hbB; clear hbB; have cB0 : World.cell? W1 ⟨gB, 0, none⟩ = some (.int .i64 s.cells) := blkCell B.out 0; have cB1 : World.cell? W1 ⟨gB, 1, none⟩ = some (.int .i64 s.rows) := blkCell B.out 1; have cB2 : World.cell? W1 ⟨gB, 2, none⟩ = some (.float .f32 s.sl) := blkCell B.out 2; have cB3 : World.cell? W1 ⟨gB, 3, none⟩ = some (.float .f32 s.le) := blkCell B.out 3; have cB4 : World.cell? W1 ⟨gB, 4, none⟩ = some (.float .f32 s.sa) := blkCell B.out 4; have cB5 : World.cell? W1 ⟨gB, 5, none⟩ = some (.slice A n c) := blkCell B.out 5)) | ((with_reducible refine gateN 4 rfl ?_); go_must (refine ev_al 4 rfl rfl #[.int .i64 0, .int .i64 0, .float .f32 0, .float .f32 0, .float .f32 0, .slice none 0 0] 28 ?hr ?_; (case hr => first | (go_simp; done) | (go_simp; rfl)); intro gZ heZ W2 hbZ h; have hgZ : w.heap.size ≤ gZ := Nat.le_trans L.out.size heZ; have hgZB : gB < gZ := Nat.lt_of_lt_of_le (blkLt B.out) heZ; clear heZ; have h0 : World.grownBy W1 W2 none := (by refine World.grownBy.trans ?_ h; repeat (first | exact gr_refl _ _ | apply gr_drewN | apply gr_drew | apply gr_alloc)); clear cB0 cB1 cB2 cB3 cB4 cB5; have L_ := Az.mk (gr_new L.out h0 (by first | (simp; done) | (simp; omega) | omega)); have B_ := Az.mk (blkGr B.out h0 (by first | (simp; done) | (simp; omega) | omega)); clear L B; have L := L_; clear L_; have B := B_; clear B_; clear h0 h; have Z := Az.mk hbZ; clear hbZ; have cB0 : World.cell? W2 ⟨gB, 0, none⟩ = some (.int .i64 s.cells) := blkCell B.out 0; have cB1 : World.cell? W2 ⟨gB, 1, none⟩ = some (.int .i64 s.rows) := blkCell B.out 1; have cB2 : World.cell? W2 ⟨gB, 2, none⟩ = some (.float .f32 s.sl) := blkCell B.out 2; have cB3 : World.cell? W2 ⟨gB, 3, none⟩ = some (.float .f32 s.le) := blkCell B.out 3; have cB4 : World.cell? W2 ⟨gB, 4, none⟩ = some (.float .f32 s.sa) := blkCell B.out 4; have cB5 : World.cell? W2 ⟨gB, 5, none⟩ = some (.slice A n c) := blkCell B.out 5; have cZ0 : World.cell? W2 ⟨gZ, 0, none⟩ = some (.int .i64 0) := blkCell Z.out 0; have cZ1 : World.cell? W2 ⟨gZ, 1, none⟩ = some (.int .i64 0) := blkCell Z.out 1; have cZ2 : World.cell? W2 ⟨gZ, 2, none⟩ = some (.float .f32 0) := blkCell Z.out 2; have cZ3 : World.cell? W2 ⟨gZ, 3, none⟩ = some (.float .f32 0) := blkCell Z.out 3; have cZ4 : World.cell? W2 ⟨gZ, 4, none⟩ = some (.float .f32 0) := blkCell Z.out 4; have cZ5 : World.cell? W2 ⟨gZ, 5, none⟩ = some (.slice none 0 0) := blkCell Z.out 5)) | ((with_reducible refine gateN 9 rfl ?_); go_must (refine ev_ld 9 rfl rfl rfl (cs := #[.int .i64 s.cells, .int .i64 s.rows, .float .f32 s.sl, .float .f32 s.le, .float .f32 s.sa, .slice A n c]) rfl B.out Tryd.underlying28 rfl (by kernel_rfl) ?_)))
  have s1 := L.out.size
  refine (copySet_c s A n c (by omega) _ (HR.out.up L.out)).mono ?_
  rintro e w1 ⟨v1, rfl, hR, h⟩
  have h0 : World.grownBy W2 w1 _ := (by refine World.grownBy.trans ?_ h; repeat (first | exact gr_refl _ _ | apply gr_drewN | apply gr_drew | apply gr_alloc))
  clear cB0 cB1 cB2 cB3 cB4 cB5 cZ0 cZ1 cZ2 cZ3 cZ4 cZ5
  have L_ := Az.mk (gr_new L.out h0 (by first | (simp; done) | (simp; omega) | omega))
  have B_ := Az.mk (blkGr B.out h0 (by first | (simp; done) | (simp; omega) | omega))
  have Z_ := Az.mk (blkGr Z.out h0 (by first | (simp; done) | (simp; omega) | omega))
  clear L B Z
  have L := L_; clear L_
  have B := B_; clear B_
  have Z := Z_; clear Z_
  clear h0 h
  have cB0 : World.cell? w1 ⟨gB, 0, none⟩ = some (.int .i64 s.cells) := blkCell B.out 0
  have cB1 : World.cell? w1 ⟨gB, 1, none⟩ = some (.int .i64 s.rows) := blkCell B.out 1
  have cB2 : World.cell? w1 ⟨gB, 2, none⟩ = some (.float .f32 s.sl) := blkCell B.out 2
  have cB3 : World.cell? w1 ⟨gB, 3, none⟩ = some (.float .f32 s.le) := blkCell B.out 3
  have cB4 : World.cell? w1 ⟨gB, 4, none⟩ = some (.float .f32 s.sa) := blkCell B.out 4
  have cB5 : World.cell? w1 ⟨gB, 5, none⟩ = some (.slice A n c) := blkCell B.out 5
  have cZ0 : World.cell? w1 ⟨gZ, 0, none⟩ = some (.int .i64 0) := blkCell Z.out 0
  have cZ1 : World.cell? w1 ⟨gZ, 1, none⟩ = some (.int .i64 0) := blkCell Z.out 1
  have cZ2 : World.cell? w1 ⟨gZ, 2, none⟩ = some (.float .f32 0) := blkCell Z.out 2
  have cZ3 : World.cell? w1 ⟨gZ, 3, none⟩ = some (.float .f32 0) := blkCell Z.out 3
  have cZ4 : World.cell? w1 ⟨gZ, 4, none⟩ = some (.float .f32 0) := blkCell Z.out 4
  have cZ5 : World.cell? w1 ⟨gZ, 5, none⟩ = some (.slice none 0 0) := blkCell Z.out 5
  have R := Az.mk (own_weak hR s1)
  clear hR
  obtain ⟨A1, c1, rfl, hS1⟩ := own_sl R.out
  have HS1 := Az.mk hS1.2.1
  clear hS1
  go_wp2_with (first | ((with_reducible refine gateN 6 rfl ?_); go_must (refine ev_al 6 rfl rfl #[.int .i64 0, .int .i64 0, .float .f32 0, .float .f32 0, .float .f32 0, .slice none 0 0] 28 ?hr ?_; (case hr => first | (go_simp; done) | (go_simp; rfl)); intro gO heO W3 hbO h; have hgO : w.heap.size ≤ gO := Nat.le_trans L.out.size heO; have hgOB : gB < gO := Nat.lt_of_lt_of_le (blkLt B.out) heO; have hgOZ : gZ < gO := Nat.lt_of_lt_of_le (blkLt Z.out) heO; have hlOR := Az.mk (own_lows R.out heO); clear heO; have h0 : World.grownBy w1 W3 none := (by refine World.grownBy.trans ?_ h; repeat (first | exact gr_refl _ _ | apply gr_drewN | apply gr_drew | apply gr_alloc)); clear cB0 cB1 cB2 cB3 cB4 cB5 cZ0 cZ1 cZ2 cZ3 cZ4 cZ5; have L_ := Az.mk (gr_new L.out h0 (by first | (simp; done) | (simp; omega) | omega)); have B_ := Az.mk (blkGr B.out h0 (by first | (simp; done) | (simp; omega) | omega)); have Z_ := Az.mk (blkGr Z.out h0 (by first | (simp; done) | (simp; omega) | omega)); have R_ := Az.mk (own_gr R.out h0 (by first | exact own_none _ | exact .inr hl?R.out | exact .inr (own_blk R.out B.out (by decide)) | exact .inr (own_blk R.out Z.out (by decide)))); clear L B Z R; have L := L_; clear L_; have B := B_; clear B_; have Z := Z_; clear Z_; have R := R_; clear R_; clear h0 h; have O := Az.mk hbO; clear hbO; have cB0 : World.cell? W3 ⟨gB, 0, none⟩ = some (.int .i64 s.cells) := blkCell B.out 0; have cB1 : World.cell? W3 ⟨gB, 1, none⟩ = some (.int .i64 s.rows) := blkCell B.out 1; have cB2 : World.cell? W3 ⟨gB, 2, none⟩ = some (.float .f32 s.sl) := blkCell B.out 2; have cB3 : World.cell? W3 ⟨gB, 3, none⟩ = some (.float .f32 s.le) := blkCell B.out 3; have cB4 : World.cell? W3 ⟨gB, 4, none⟩ = some (.float .f32 s.sa) := blkCell B.out 4; have cB5 : World.cell? W3 ⟨gB, 5, none⟩ = some (.slice A n c) := blkCell B.out 5; have cZ0 : World.cell? W3 ⟨gZ, 0, none⟩ = some (.int .i64 0) := blkCell Z.out 0; have cZ1 : World.cell? W3 ⟨gZ, 1, none⟩ = some (.int .i64 0) := blkCell Z.out 1; have cZ2 : World.cell? W3 ⟨gZ, 2, none⟩ = some (.float .f32 0) := blkCell Z.out 2; have cZ3 : World.cell? W3 ⟨gZ, 3, none⟩ = some (.float .f32 0) := blkCell Z.out 3; have cZ4 : World.cell? W3 ⟨gZ, 4, none⟩ = some (.float .f32 0) := blkCell Z.out 4; have cZ5 : World.cell? W3 ⟨gZ, 5, none⟩ = some (.slice none 0 0) := blkCell Z.out 5; have cO0 : World.cell? W3 ⟨gO, 0, none⟩ = some (.int .i64 0) := blkCell O.out 0; have cO1 : World.cell? W3 ⟨gO, 1, none⟩ = some (.int .i64 0) := blkCell O.out 1; have cO2 : World.cell? W3 ⟨gO, 2, none⟩ = some (.float .f32 0) := blkCell O.out 2; have cO3 : World.cell? W3 ⟨gO, 3, none⟩ = some (.float .f32 0) := blkCell O.out 3; have cO4 : World.cell? W3 ⟨gO, 4, none⟩ = some (.float .f32 0) := blkCell O.out 4; have cO5 : World.cell? W3 ⟨gO, 5, none⟩ = some (.slice none 0 0) := blkCell O.out 5)) | ((with_reducible refine gateSt 6 rfl ?_); go_must (refine ev_st rfl rfl rfl (cs := #[.int .i64 s.cells, .int .i64 s.rows, .float .f32 s.sl, .float .f32 s.le, .float .f32 s.sa, .slice A1 s.log.length c1]) rfl rfl O.out (by kernel_rfl) rfl (by simp [Value.oneCell']) ?_; intro W4 hbO h; have h0 : World.grownBy W3 W4 (some gO) := (by refine World.grownBy.trans ?_ h; repeat (first | exact gr_refl _ _ | apply gr_drewN | apply gr_drew | apply gr_alloc)); clear cB0 cB1 cB2 cB3 cB4 cB5 cZ0 cZ1 cZ2 cZ3 cZ4 cZ5 cO0 cO1 cO2 cO3 cO4 cO5; have L_ := Az.mk (gr_new L.out h0 (by first | (simp; done) | (simp; omega) | omega)); have B_ := Az.mk (blkGr B.out h0 (by first | (simp; done) | (simp; omega) | omega)); have Z_ := Az.mk (blkGr Z.out h0 (by first | (simp; done) | (simp; omega) | omega)); have R_ := Az.mk (own_gr R.out h0 (by first | exact own_none _ | exact .inr hlOR.out | exact .inr (own_blk R.out B.out (by decide)) | exact .inr (own_blk R.out Z.out (by decide)) | exact .inr (own_blk R.out O.out (by decide)))); clear L B Z R; have L := L_; clear L_; have B := B_; clear B_; have Z := Z_; clear Z_; have R := R_; clear R_; clear h0 h; clear O; have O := Az.mk hbO; clear hbO; have cB0 : World.cell? W4 ⟨gB, 0, none⟩ = some (.int .i64 s.cells) := blkCell B.out 0; have cB1 : World.cell? W4 ⟨gB, 1, none⟩ = some (.int .i64 s.rows) := blkCell B.out 1; have cB2 : World.cell? W4 ⟨gB, 2, none⟩ = some (.float .f32 s.sl) := blkCell B.out 2; have cB3 : World.cell? W4 ⟨gB, 3, none⟩ = some (.float .f32 s.le) := blkCell B.out 3; have cB4 : World.cell? W4 ⟨gB, 4, none⟩ = some (.float .f32 s.sa) := blkCell B.out 4; have cB5 : World.cell? W4 ⟨gB, 5, none⟩ = some (.slice A n c) := blkCell B.out 5; have cZ0 : World.cell? W4 ⟨gZ, 0, none⟩ = some (.int .i64 0) := blkCell Z.out 0; have cZ1 : World.cell? W4 ⟨gZ, 1, none⟩ = some (.int .i64 0) := blkCell Z.out 1; have cZ2 : World.cell? W4 ⟨gZ, 2, none⟩ = some (.float .f32 0) := blkCell Z.out 2; have cZ3 : World.cell? W4 ⟨gZ, 3, none⟩ = some (.float .f32 0) := blkCell Z.out 3; have cZ4 : World.cell? W4 ⟨gZ, 4, none⟩ = some (.float .f32 0) := blkCell Z.out 4; have cZ5 : World.cell? W4 ⟨gZ, 5, none⟩ = some (.slice none 0 0) := blkCell Z.out 5; have cO0 : World.cell? W4 ⟨gO, 0, none⟩ = some (.int .i64 s.cells) := blkCell O.out 0; have cO1 : World.cell? W4 ⟨gO, 1, none⟩ = some (.int .i64 s.rows) := blkCell O.out 1; have cO2 : World.cell? W4 ⟨gO, 2, none⟩ = some (.float .f32 s.sl) := blkCell O.out 2; have cO3 : World.cell? W4 ⟨gO, 3, none⟩ = some (.float .f32 s.le) := blkCell O.out 3; have cO4 : World.cell? W4 ⟨gO, 4, none⟩ = some (.float .f32 s.sa) := blkCell O.out 4; have cO5 : World.cell? W4 ⟨gO, 5, none⟩ = some (.slice A1 s.log.length c1) := blkCell O.out 5)))
  have s2 := L.out.size
  refine (SplitFields_c l hl _ (HE.out.gr L.out)).mono ?_
  rintro e w2 ⟨v2, rfl, hF, h⟩
  have h0 : World.grownBy W4 w2 _ := (by refine World.grownBy.trans ?_ h; repeat (first | exact gr_refl _ _ | apply gr_drewN | apply gr_drew | apply gr_alloc))
  clear cB0 cB1 cB2 cB3 cB4 cB5 cZ0 cZ1 cZ2 cZ3 cZ4 cZ5 cO0 cO1 cO2 cO3 cO4 cO5
  have L_ := Az.mk (gr_new L.out h0 (by first | (simp; done) | (simp; omega) | omega))
  have B_ := Az.mk (blkGr B.out h0 (by first | (simp; done) | (simp; omega) | omega))
  have Z_ := Az.mk (blkGr Z.out h0 (by first | (simp; done) | (simp; omega) | omega))
  have R_ := Az.mk (own_gr R.out h0 (by first | exact own_none _ | exact .inr hl?R.out | exact .inr (own_blk R.out B.out (by decide)) | exact .inr (own_blk R.out Z.out (by decide)) | exact .inr (own_blk R.out O.out (by decide))))
  have O_ := Az.mk (blkGr O.out h0 (by first | (simp; done) | (simp; omega) | omega))
  clear L B Z R O
  have L := L_; clear L_
  have B := B_; clear B_
  have Z := Z_; clear Z_
  have R := R_; clear R_
  have O := O_; clear O_
  clear h0 h
  have cB0 : World.cell? w2 ⟨gB, 0, none⟩ = some (.int .i64 s.cells) := blkCell B.out 0
  have cB1 : World.cell? w2 ⟨gB, 1, none⟩ = some (.int .i64 s.rows) := blkCell B.out 1
  have cB2 : World.cell? w2 ⟨gB, 2, none⟩ = some (.float .f32 s.sl) := blkCell B.out 2
  have cB3 : World.cell? w2 ⟨gB, 3, none⟩ = some (.float .f32 s.le) := blkCell B.out 3
  have cB4 : World.cell? w2 ⟨gB, 4, none⟩ = some (.float .f32 s.sa) := blkCell B.out 4
  have cB5 : World.cell? w2 ⟨gB, 5, none⟩ = some (.slice A n c) := blkCell B.out 5
  have cZ0 : World.cell? w2 ⟨gZ, 0, none⟩ = some (.int .i64 0) := blkCell Z.out 0
  have cZ1 : World.cell? w2 ⟨gZ, 1, none⟩ = some (.int .i64 0) := blkCell Z.out 1
  have cZ2 : World.cell? w2 ⟨gZ, 2, none⟩ = some (.float .f32 0) := blkCell Z.out 2
  have cZ3 : World.cell? w2 ⟨gZ, 3, none⟩ = some (.float .f32 0) := blkCell Z.out 3
  have cZ4 : World.cell? w2 ⟨gZ, 4, none⟩ = some (.float .f32 0) := blkCell Z.out 4
  have cZ5 : World.cell? w2 ⟨gZ, 5, none⟩ = some (.slice none 0 0) := blkCell Z.out 5
  have cO0 : World.cell? w2 ⟨gO, 0, none⟩ = some (.int .i64 s.cells) := blkCell O.out 0
  have cO1 : World.cell? w2 ⟨gO, 1, none⟩ = some (.int .i64 s.rows) := blkCell O.out 1
  have cO2 : World.cell? w2 ⟨gO, 2, none⟩ = some (.float .f32 s.sl) := blkCell O.out 2
  have cO3 : World.cell? w2 ⟨gO, 3, none⟩ = some (.float .f32 s.le) := blkCell O.out 3
  have cO4 : World.cell? w2 ⟨gO, 4, none⟩ = some (.float .f32 s.sa) := blkCell O.out 4
  have cO5 : World.cell? w2 ⟨gO, 5, none⟩ = some (.slice A1 s.log.length c1) := blkCell O.out 5
  have F := Az.mk (own_weak hF s2)
  clear hF
  obtain ⟨A2, c2, rfl, hS2⟩ := own_sl F.out
  have HS2 := Az.mk hS2
  clear hS2
  obtain ⟨o, ho⟩ : ∃ o, fieldsM l = o := ⟨_, rfl⟩
  rw [ho] at F HS2
  rw [ho]
  have HFM := Az.mk ho
  clear ho
  have hnl := HN.out
  clear hnl
  go_wp2_with (first | ((with_reducible refine gateN 16 rfl ?_); go_must (refine ev_ld 16 rfl rfl rfl (cs := #[.int .i64 s.cells, .int .i64 s.rows, .float .f32 s.sl, .float .f32 s.le, .float .f32 s.sa, .slice A n c]) rfl B.out Tryd.underlying28 rfl (by kernel_rfl) ?_)))
  refine (SetOk_c s A n c HN.out (by omega) _).mono ?_
  rintro e w3 ⟨rfl, h⟩
  have h0 : World.grownBy w2 w3 _ := (by refine World.grownBy.trans ?_ h; repeat (first | exact gr_refl _ _ | apply gr_drewN | apply gr_drew | apply gr_alloc))
  clear cB0 cB1 cB2 cB3 cB4 cB5 cZ0 cZ1 cZ2 cZ3 cZ4 cZ5 cO0 cO1 cO2 cO3 cO4 cO5
  have L_ := Az.mk (gr_new L.out h0 (by first | (simp; done) | (simp; omega) | omega))
  have B_ := Az.mk (blkGr B.out h0 (by first | (simp; done) | (simp; omega) | omega))
  have Z_ := Az.mk (blkGr Z.out h0 (by first | (simp; done) | (simp; omega) | omega))
  have R_ := Az.mk (own_gr R.out h0 (by first | exact own_none _ | exact .inr hl?R.out | exact .inr (own_blk R.out B.out (by decide)) | exact .inr (own_blk R.out Z.out (by decide)) | exact .inr (own_blk R.out O.out (by decide))))
  have O_ := Az.mk (blkGr O.out h0 (by first | (simp; done) | (simp; omega) | omega))
  have F_ := Az.mk (own_gr F.out h0 (by first | exact own_none _ | exact .inr hl?F.out | exact .inr (own_blk F.out B.out (by decide)) | exact .inr (own_blk F.out Z.out (by decide)) | exact .inr (own_blk F.out O.out (by decide))))
  clear L B Z R O F
  have L := L_; clear L_
  have B := B_; clear B_
  have Z := Z_; clear Z_
  have R := R_; clear R_
  have O := O_; clear O_
  have F := F_; clear F_
  clear h0 h
  have cB0 : World.cell? w3 ⟨gB, 0, none⟩ = some (.int .i64 s.cells) := blkCell B.out 0
  have cB1 : World.cell? w3 ⟨gB, 1, none⟩ = some (.int .i64 s.rows) := blkCell B.out 1
  have cB2 : World.cell? w3 ⟨gB, 2, none⟩ = some (.float .f32 s.sl) := blkCell B.out 2
  have cB3 : World.cell? w3 ⟨gB, 3, none⟩ = some (.float .f32 s.le) := blkCell B.out 3
  have cB4 : World.cell? w3 ⟨gB, 4, none⟩ = some (.float .f32 s.sa) := blkCell B.out 4
  have cB5 : World.cell? w3 ⟨gB, 5, none⟩ = some (.slice A n c) := blkCell B.out 5
  have cZ0 : World.cell? w3 ⟨gZ, 0, none⟩ = some (.int .i64 0) := blkCell Z.out 0
  have cZ1 : World.cell? w3 ⟨gZ, 1, none⟩ = some (.int .i64 0) := blkCell Z.out 1
  have cZ2 : World.cell? w3 ⟨gZ, 2, none⟩ = some (.float .f32 0) := blkCell Z.out 2
  have cZ3 : World.cell? w3 ⟨gZ, 3, none⟩ = some (.float .f32 0) := blkCell Z.out 3
  have cZ4 : World.cell? w3 ⟨gZ, 4, none⟩ = some (.float .f32 0) := blkCell Z.out 4
  have cZ5 : World.cell? w3 ⟨gZ, 5, none⟩ = some (.slice none 0 0) := blkCell Z.out 5
  have cO0 : World.cell? w3 ⟨gO, 0, none⟩ = some (.int .i64 s.cells) := blkCell O.out 0
  have cO1 : World.cell? w3 ⟨gO, 1, none⟩ = some (.int .i64 s.rows) := blkCell O.out 1
  have cO2 : World.cell? w3 ⟨gO, 2, none⟩ = some (.float .f32 s.sl) := blkCell O.out 2
  have cO3 : World.cell? w3 ⟨gO, 3, none⟩ = some (.float .f32 s.le) := blkCell O.out 3
  have cO4 : World.cell? w3 ⟨gO, 4, none⟩ = some (.float .f32 s.sa) := blkCell O.out 4
  have cO5 : World.cell? w3 ⟨gO, 5, none⟩ = some (.slice A1 s.log.length c1) := blkCell O.out 5
  obtain ⟨b1, hb1⟩ : ∃ b, setOkM s = b := ⟨_, rfl⟩
  rw [hb1]
  have HB1 := Az.mk hb1
  clear hb1
  cases b1 with
  | false =>
    have HT : Az (tuneM s l = none) := ⟨by rw [tuneM, if_neg (fun h => by rw [HB1.out] at h; cases h.1)]⟩
    go_wp2_with (first | ((with_reducible refine gateN 39 rfl ?_); go_must (refine ev_ld 39 rfl rfl rfl (cs := #[.int .i64 s.cells, .int .i64 s.rows, .float .f32 s.sl, .float .f32 s.le, .float .f32 s.sa, .slice A n c]) rfl B.out Tryd.underlying28 rfl (by kernel_rfl) ?_)))
    have s5 := L.out.size
    refine (copySet_c s A n c (by omega) _ (HR.out.up L.out)).mono ?_
    rintro e x1 ⟨v5, rfl, hR5, h⟩
    have h0 : World.grownBy w3 x1 _ := (by refine World.grownBy.trans ?_ h; repeat (first | exact gr_refl _ _ | apply gr_drewN | apply gr_drew | apply gr_alloc))
    clear cB0 cB1 cB2 cB3 cB4 cB5 cZ0 cZ1 cZ2 cZ3 cZ4 cZ5 cO0 cO1 cO2 cO3 cO4 cO5
    have L_ := Az.mk (gr_new L.out h0 (by first | (simp; done) | (simp; omega) | omega))
    have B_ := Az.mk (blkGr B.out h0 (by first | (simp; done) | (simp; omega) | omega))
    have Z_ := Az.mk (blkGr Z.out h0 (by first | (simp; done) | (simp; omega) | omega))
    have R_ := Az.mk (own_gr R.out h0 (by first | exact own_none _ | exact .inr hl?R.out | exact .inr (own_blk R.out B.out (by decide)) | exact .inr (own_blk R.out Z.out (by decide)) | exact .inr (own_blk R.out O.out (by decide))))
    have O_ := Az.mk (blkGr O.out h0 (by first | (simp; done) | (simp; omega) | omega))
    have F_ := Az.mk (own_gr F.out h0 (by first | exact own_none _ | exact .inr hl?F.out | exact .inr (own_blk F.out B.out (by decide)) | exact .inr (own_blk F.out Z.out (by decide)) | exact .inr (own_blk F.out O.out (by decide))))
    clear L B Z R O F
    have L := L_; clear L_
    have B := B_; clear B_
    have Z := Z_; clear Z_
    have R := R_; clear R_
    have O := O_; clear O_
    have F := F_; clear F_
    clear h0 h
    have cB0 : World.cell? x1 ⟨gB, 0, none⟩ = some (.int .i64 s.cells) := blkCell B.out 0
    have cB1 : World.cell? x1 ⟨gB, 1, none⟩ = some (.int .i64 s.rows) := blkCell B.out 1
    have cB2 : World.cell? x1 ⟨gB, 2, none⟩ = some (.float .f32 s.sl) := blkCell B.out 2
    have cB3 : World.cell? x1 ⟨gB, 3, none⟩ = some (.float .f32 s.le) := blkCell B.out 3
    have cB4 : World.cell? x1 ⟨gB, 4, none⟩ = some (.float .f32 s.sa) := blkCell B.out 4
    have cB5 : World.cell? x1 ⟨gB, 5, none⟩ = some (.slice A n c) := blkCell B.out 5
    have cZ0 : World.cell? x1 ⟨gZ, 0, none⟩ = some (.int .i64 0) := blkCell Z.out 0
    have cZ1 : World.cell? x1 ⟨gZ, 1, none⟩ = some (.int .i64 0) := blkCell Z.out 1
    have cZ2 : World.cell? x1 ⟨gZ, 2, none⟩ = some (.float .f32 0) := blkCell Z.out 2
    have cZ3 : World.cell? x1 ⟨gZ, 3, none⟩ = some (.float .f32 0) := blkCell Z.out 3
    have cZ4 : World.cell? x1 ⟨gZ, 4, none⟩ = some (.float .f32 0) := blkCell Z.out 4
    have cZ5 : World.cell? x1 ⟨gZ, 5, none⟩ = some (.slice none 0 0) := blkCell Z.out 5
    have cO0 : World.cell? x1 ⟨gO, 0, none⟩ = some (.int .i64 s.cells) := blkCell O.out 0
    have cO1 : World.cell? x1 ⟨gO, 1, none⟩ = some (.int .i64 s.rows) := blkCell O.out 1
    have cO2 : World.cell? x1 ⟨gO, 2, none⟩ = some (.float .f32 s.sl) := blkCell O.out 2
    have cO3 : World.cell? x1 ⟨gO, 3, none⟩ = some (.float .f32 s.le) := blkCell O.out 3
    have cO4 : World.cell? x1 ⟨gO, 4, none⟩ = some (.float .f32 s.sa) := blkCell O.out 4
    have cO5 : World.cell? x1 ⟨gO, 5, none⟩ = some (.slice A1 s.log.length c1) := blkCell O.out 5
    have R5 := Az.mk (own_weak hR5 s5)
    clear hR5
    obtain ⟨A5, c5, rfl, _⟩ := own_sl R5.out
    go_wp2_with (first | ((with_reducible refine gateSt 4 rfl ?_); go_must (refine ev_st rfl rfl rfl (cs := #[.int .i64 s.cells, .int .i64 s.rows, .float .f32 s.sl, .float .f32 s.le, .float .f32 s.sa, .slice A5 s.log.length c5]) rfl rfl Z.out (by kernel_rfl) rfl (by simp [Value.oneCell']) ?_; intro W5 hbZ h; have h0 : World.grownBy x1 W5 (some gZ) := (by refine World.grownBy.trans ?_ h; repeat (first | exact gr_refl _ _ | apply gr_drewN | apply gr_drew | apply gr_alloc)); clear cB0 cB1 cB2 cB3 cB4 cB5 cZ0 cZ1 cZ2 cZ3 cZ4 cZ5 cO0 cO1 cO2 cO3 cO4 cO5; have L_ := Az.mk (gr_new L.out h0 (by first | (simp; done) | (simp; omega) | omega)); have B_ := Az.mk (blkGr B.out h0 (by first | (simp; done) | (simp; omega) | omega)); have R_ := Az.mk (own_gr R.out h0 (by first | exact own_none _ | exact .inr hlZR.out | exact .inr (own_blk R.out B.out (by decide)) | exact .inr (own_blk R.out Z.out (by decide)) | exact .inr (own_blk R.out O.out (by decide)))); have O_ := Az.mk (blkGr O.out h0 (by first | (simp; done) | (simp; omega) | omega)); have F_ := Az.mk (own_gr F.out h0 (by first | exact own_none _ | exact .inr hlZF.out | exact .inr (own_blk F.out B.out (by decide)) | exact .inr (own_blk F.out Z.out (by decide)) | exact .inr (own_blk F.out O.out (by decide)))); have R5_ := Az.mk (own_gr R5.out h0 (by first | exact own_none _ | exact .inr hlZR5.out | exact .inr (own_blk R5.out B.out (by decide)) | exact .inr (own_blk R5.out Z.out (by decide)) | exact .inr (own_blk R5.out O.out (by decide)))); clear L B R O F R5; have L := L_; clear L_; have B := B_; clear B_; have R := R_; clear R_; have O := O_; clear O_; have F := F_; clear F_; have R5 := R5_; clear R5_; clear h0 h; clear Z; have Z := Az.mk hbZ; clear hbZ; have cB0 : World.cell? W5 ⟨gB, 0, none⟩ = some (.int .i64 s.cells) := blkCell B.out 0; have cB1 : World.cell? W5 ⟨gB, 1, none⟩ = some (.int .i64 s.rows) := blkCell B.out 1; have cB2 : World.cell? W5 ⟨gB, 2, none⟩ = some (.float .f32 s.sl) := blkCell B.out 2; have cB3 : World.cell? W5 ⟨gB, 3, none⟩ = some (.float .f32 s.le) := blkCell B.out 3; have cB4 : World.cell? W5 ⟨gB, 4, none⟩ = some (.float .f32 s.sa) := blkCell B.out 4; have cB5 : World.cell? W5 ⟨gB, 5, none⟩ = some (.slice A n c) := blkCell B.out 5; have cZ0 : World.cell? W5 ⟨gZ, 0, none⟩ = some (.int .i64 s.cells) := blkCell Z.out 0; have cZ1 : World.cell? W5 ⟨gZ, 1, none⟩ = some (.int .i64 s.rows) := blkCell Z.out 1; have cZ2 : World.cell? W5 ⟨gZ, 2, none⟩ = some (.float .f32 s.sl) := blkCell Z.out 2; have cZ3 : World.cell? W5 ⟨gZ, 3, none⟩ = some (.float .f32 s.le) := blkCell Z.out 3; have cZ4 : World.cell? W5 ⟨gZ, 4, none⟩ = some (.float .f32 s.sa) := blkCell Z.out 4; have cZ5 : World.cell? W5 ⟨gZ, 5, none⟩ = some (.slice A5 s.log.length c5) := blkCell Z.out 5; have cO0 : World.cell? W5 ⟨gO, 0, none⟩ = some (.int .i64 s.cells) := blkCell O.out 0; have cO1 : World.cell? W5 ⟨gO, 1, none⟩ = some (.int .i64 s.rows) := blkCell O.out 1; have cO2 : World.cell? W5 ⟨gO, 2, none⟩ = some (.float .f32 s.sl) := blkCell O.out 2; have cO3 : World.cell? W5 ⟨gO, 3, none⟩ = some (.float .f32 s.le) := blkCell O.out 3; have cO4 : World.cell? W5 ⟨gO, 4, none⟩ = some (.float .f32 s.sa) := blkCell O.out 4; have cO5 : World.cell? W5 ⟨gO, 5, none⟩ = some (.slice A1 s.log.length c1) := blkCell O.out 5)))
    refine bodyPost_ret (results_ct (u := 5) rfl _ _ gZ 28 (s.cs (.slice A5 s.log.length c5)) _ rfl Z.out Tryd.underlying28 rfl (by kernel_rfl)) rfl ⟨.slice A5 s.log.length c5, ?_, ?_, L.out⟩
    · rw [HT.out]; rfl
    · rw [HT.out]; exact R5.out
  | true =>
  by_cases h100 : 100 ≤ n
  · have h100i : (100 : Int) ≤ n := by omega
    have HT : Az (tuneM s l = none) := ⟨by rw [tuneM, if_neg (fun h => by rw [HN.out] at h; omega)]⟩
    go_wp2_with (first | ((with_reducible refine gateN 39 rfl ?_); go_must (refine ev_ld 39 rfl rfl rfl (cs := #[.int .i64 s.cells, .int .i64 s.rows, .float .f32 s.sl, .float .f32 s.le, .float .f32 s.sa, .slice A n c]) rfl B.out Tryd.underlying28 rfl (by kernel_rfl) ?_)))
    have s5 := L.out.size
    refine (copySet_c s A n c (by omega) _ (HR.out.up L.out)).mono ?_
    rintro e x1 ⟨v5, rfl, hR5, h⟩
    have h0 : World.grownBy w3 x1 _ := (by refine World.grownBy.trans ?_ h; repeat (first | exact gr_refl _ _ | apply gr_drewN | apply gr_drew | apply gr_alloc))
    clear cB0 cB1 cB2 cB3 cB4 cB5 cZ0 cZ1 cZ2 cZ3 cZ4 cZ5 cO0 cO1 cO2 cO3 cO4 cO5
    have L_ := Az.mk (gr_new L.out h0 (by first | (simp; done) | (simp; omega) | omega))
    have B_ := Az.mk (blkGr B.out h0 (by first | (simp; done) | (simp; omega) | omega))
    have Z_ := Az.mk (blkGr Z.out h0 (by first | (simp; done) | (simp; omega) | omega))
    have R_ := Az.mk (own_gr R.out h0 (by first | exact own_none _ | exact .inr hl?R.out | exact .inr (own_blk R.out B.out (by decide)) | exact .inr (own_blk R.out Z.out (by decide)) | exact .inr (own_blk R.out O.out (by decide))))
    have O_ := Az.mk (blkGr O.out h0 (by first | (simp; done) | (simp; omega) | omega))
    have F_ := Az.mk (own_gr F.out h0 (by first | exact own_none _ | exact .inr hl?F.out | exact .inr (own_blk F.out B.out (by decide)) | exact .inr (own_blk F.out Z.out (by decide)) | exact .inr (own_blk F.out O.out (by decide))))
    clear L B Z R O F
    have L := L_; clear L_
    have B := B_; clear B_
    have Z := Z_; clear Z_
    have R := R_; clear R_
    have O := O_; clear O_
    have F := F_; clear F_
    clear h0 h
    have cB0 : World.cell? x1 ⟨gB, 0, none⟩ = some (.int .i64 s.cells) := blkCell B.out 0
    have cB1 : World.cell? x1 ⟨gB, 1, none⟩ = some (.int .i64 s.rows) := blkCell B.out 1
    have cB2 : World.cell? x1 ⟨gB, 2, none⟩ = some (.float .f32 s.sl) := blkCell B.out 2
    have cB3 : World.cell? x1 ⟨gB, 3, none⟩ = some (.float .f32 s.le) := blkCell B.out 3
    have cB4 : World.cell? x1 ⟨gB, 4, none⟩ = some (.float .f32 s.sa) := blkCell B.out 4
    have cB5 : World.cell? x1 ⟨gB, 5, none⟩ = some (.slice A n c) := blkCell B.out 5
    have cZ0 : World.cell? x1 ⟨gZ, 0, none⟩ = some (.int .i64 0) := blkCell Z.out 0
    have cZ1 : World.cell? x1 ⟨gZ, 1, none⟩ = some (.int .i64 0) := blkCell Z.out 1
    have cZ2 : World.cell? x1 ⟨gZ, 2, none⟩ = some (.float .f32 0) := blkCell Z.out 2
    have cZ3 : World.cell? x1 ⟨gZ, 3, none⟩ = some (.float .f32 0) := blkCell Z.out 3
    have cZ4 : World.cell? x1 ⟨gZ, 4, none⟩ = some (.float .f32 0) := blkCell Z.out 4
    have cZ5 : World.cell? x1 ⟨gZ, 5, none⟩ = some (.slice none 0 0) := blkCell Z.out 5
    have cO0 : World.cell? x1 ⟨gO, 0, none⟩ = some (.int .i64 s.cells) := blkCell O.out 0
    have cO1 : World.cell? x1 ⟨gO, 1, none⟩ = some (.int .i64 s.rows) := blkCell O.out 1
    have cO2 : World.cell? x1 ⟨gO, 2, none⟩ = some (.float .f32 s.sl) := blkCell O.out 2
    have cO3 : World.cell? x1 ⟨gO, 3, none⟩ = some (.float .f32 s.le) := blkCell O.out 3
    have cO4 : World.cell? x1 ⟨gO, 4, none⟩ = some (.float .f32 s.sa) := blkCell O.out 4
    have cO5 : World.cell? x1 ⟨gO, 5, none⟩ = some (.slice A1 s.log.length c1) := blkCell O.out 5
    have R5 := Az.mk (own_weak hR5 s5)
    clear hR5
    obtain ⟨A5, c5, rfl, _⟩ := own_sl R5.out
    go_wp2_with (first | ((with_reducible refine gateSt 4 rfl ?_); go_must (refine ev_st rfl rfl rfl (cs := #[.int .i64 s.cells, .int .i64 s.rows, .float .f32 s.sl, .float .f32 s.le, .float .f32 s.sa, .slice A5 s.log.length c5]) rfl rfl Z.out (by kernel_rfl) rfl (by simp [Value.oneCell']) ?_; intro W6 hbZ h; have h0 : World.grownBy x1 W6 (some gZ) := (by refine World.grownBy.trans ?_ h; repeat (first | exact gr_refl _ _ | apply gr_drewN | apply gr_drew | apply gr_alloc)); clear cB0 cB1 cB2 cB3 cB4 cB5 cZ0 cZ1 cZ2 cZ3 cZ4 cZ5 cO0 cO1 cO2 cO3 cO4 cO5; have L_ := Az.mk (gr_new L.out h0 (by first | (simp; done) | (simp; omega) | omega)); have B_ := Az.mk (blkGr B.out h0 (by first | (simp; done) | (simp; omega) | omega)); have R_ := Az.mk (own_gr R.out h0 (by first | exact own_none _ | exact .inr hlZR.out | exact .inr (own_blk R.out B.out (by decide)) | exact .inr (own_blk R.out Z.out (by decide)) | exact .inr (own_blk R.out O.out (by decide)))); have O_ := Az.mk (blkGr O.out h0 (by first | (simp; done) | (simp; omega) | omega)); have F_ := Az.mk (own_gr F.out h0 (by first | exact own_none _ | exact .inr hlZF.out | exact .inr (own_blk F.out B.out (by decide)) | exact .inr (own_blk F.out Z.out (by decide)) | exact .inr (own_blk F.out O.out (by decide)))); have R5_ := Az.mk (own_gr R5.out h0 (by first | exact own_none _ | exact .inr hlZR5.out | exact .inr (own_blk R5.out B.out (by decide)) | exact .inr (own_blk R5.out Z.out (by decide)) | exact .inr (own_blk R5.out O.out (by decide)))); clear L B R O F R5; have L := L_; clear L_; have B := B_; clear B_; have R := R_; clear R_; have O := O_; clear O_; have F := F_; clear F_; have R5 := R5_; clear R5_; clear h0 h; clear Z; have Z := Az.mk hbZ; clear hbZ; have cB0 : World.cell? W6 ⟨gB, 0, none⟩ = some (.int .i64 s.cells) := blkCell B.out 0; have cB1 : World.cell? W6 ⟨gB, 1, none⟩ = some (.int .i64 s.rows) := blkCell B.out 1; have cB2 : World.cell? W6 ⟨gB, 2, none⟩ = some (.float .f32 s.sl) := blkCell B.out 2; have cB3 : World.cell? W6 ⟨gB, 3, none⟩ = some (.float .f32 s.le) := blkCell B.out 3; have cB4 : World.cell? W6 ⟨gB, 4, none⟩ = some (.float .f32 s.sa) := blkCell B.out 4; have cB5 : World.cell? W6 ⟨gB, 5, none⟩ = some (.slice A n c) := blkCell B.out 5; have cZ0 : World.cell? W6 ⟨gZ, 0, none⟩ = some (.int .i64 s.cells) := blkCell Z.out 0; have cZ1 : World.cell? W6 ⟨gZ, 1, none⟩ = some (.int .i64 s.rows) := blkCell Z.out 1; have cZ2 : World.cell? W6 ⟨gZ, 2, none⟩ = some (.float .f32 s.sl) := blkCell Z.out 2; have cZ3 : World.cell? W6 ⟨gZ, 3, none⟩ = some (.float .f32 s.le) := blkCell Z.out 3; have cZ4 : World.cell? W6 ⟨gZ, 4, none⟩ = some (.float .f32 s.sa) := blkCell Z.out 4; have cZ5 : World.cell? W6 ⟨gZ, 5, none⟩ = some (.slice A5 s.log.length c5) := blkCell Z.out 5; have cO0 : World.cell? W6 ⟨gO, 0, none⟩ = some (.int .i64 s.cells) := blkCell O.out 0; have cO1 : World.cell? W6 ⟨gO, 1, none⟩ = some (.int .i64 s.rows) := blkCell O.out 1; have cO2 : World.cell? W6 ⟨gO, 2, none⟩ = some (.float .f32 s.sl) := blkCell O.out 2; have cO3 : World.cell? W6 ⟨gO, 3, none⟩ = some (.float .f32 s.le) := blkCell O.out 3; have cO4 : World.cell? W6 ⟨gO, 4, none⟩ = some (.float .f32 s.sa) := blkCell O.out 4; have cO5 : World.cell? W6 ⟨gO, 5, none⟩ = some (.slice A1 s.log.length c1) := blkCell O.out 5)))
    refine bodyPost_ret (results_ct (u := 5) rfl _ _ gZ 28 (s.cs (.slice A5 s.log.length c5)) _ rfl Z.out Tryd.underlying28 rfl (by kernel_rfl)) rfl ⟨.slice A5 s.log.length c5, ?_, ?_, L.out⟩
    · rw [HT.out]; rfl
    · rw [HT.out]; exact R5.out
  have h100i : ¬ (100 : Int) ≤ n := by omega
  cases o with
  | none =>
    have HT : Az (tuneM s l = none) := ⟨by rw [tuneM, HFM.out]; split <;> rfl⟩
    go_wp2_with (first | ((with_reducible refine gateN 39 rfl ?_); go_must (refine ev_ld 39 rfl rfl rfl (cs := #[.int .i64 s.cells, .int .i64 s.rows, .float .f32 s.sl, .float .f32 s.le, .float .f32 s.sa, .slice A n c]) rfl B.out Tryd.underlying28 rfl (by kernel_rfl) ?_)))
    have s5 := L.out.size
    refine (copySet_c s A n c (by omega) _ (HR.out.up L.out)).mono ?_
    rintro e x1 ⟨v5, rfl, hR5, h⟩
    have h0 : World.grownBy w3 x1 _ := (by refine World.grownBy.trans ?_ h; repeat (first | exact gr_refl _ _ | apply gr_drewN | apply gr_drew | apply gr_alloc))
    clear cB0 cB1 cB2 cB3 cB4 cB5 cZ0 cZ1 cZ2 cZ3 cZ4 cZ5 cO0 cO1 cO2 cO3 cO4 cO5
    have L_ := Az.mk (gr_new L.out h0 (by first | (simp; done) | (simp; omega) | omega))
    have B_ := Az.mk (blkGr B.out h0 (by first | (simp; done) | (simp; omega) | omega))
    have Z_ := Az.mk (blkGr Z.out h0 (by first | (simp; done) | (simp; omega) | omega))
    have R_ := Az.mk (own_gr R.out h0 (by first | exact own_none _ | exact .inr hl?R.out | exact .inr (own_blk R.out B.out (by decide)) | exact .inr (own_blk R.out Z.out (by decide)) | exact .inr (own_blk R.out O.out (by decide))))
    have O_ := Az.mk (blkGr O.out h0 (by first | (simp; done) | (simp; omega) | omega))
    have F_ := Az.mk (own_gr F.out h0 (by first | exact own_none _ | exact .inr hl?F.out | exact .inr (own_blk F.out B.out (by decide)) | exact .inr (own_blk F.out Z.out (by decide)) | exact .inr (own_blk F.out O.out (by decide))))
    clear L B Z R O F
    have L := L_; clear L_
    have B := B_; clear B_
    have Z := Z_; clear Z_
    have R := R_; clear R_
    have O := O_; clear O_
    have F := F_; clear F_
    clear h0 h
    have cB0 : World.cell? x1 ⟨gB, 0, none⟩ = some (.int .i64 s.cells) := blkCell B.out 0
    have cB1 : World.cell? x1 ⟨gB, 1, none⟩ = some (.int .i64 s.rows) := blkCell B.out 1
    have cB2 : World.cell? x1 ⟨gB, 2, none⟩ = some (.float .f32 s.sl) := blkCell B.out 2
    have cB3 : World.cell? x1 ⟨gB, 3, none⟩ = some (.float .f32 s.le) := blkCell B.out 3
    have cB4 : World.cell? x1 ⟨gB, 4, none⟩ = some (.float .f32 s.sa) := blkCell B.out 4
    have cB5 : World.cell? x1 ⟨gB, 5, none⟩ = some (.slice A n c) := blkCell B.out 5
    have cZ0 : World.cell? x1 ⟨gZ, 0, none⟩ = some (.int .i64 0) := blkCell Z.out 0
    have cZ1 : World.cell? x1 ⟨gZ, 1, none⟩ = some (.int .i64 0) := blkCell Z.out 1
    have cZ2 : World.cell? x1 ⟨gZ, 2, none⟩ = some (.float .f32 0) := blkCell Z.out 2
    have cZ3 : World.cell? x1 ⟨gZ, 3, none⟩ = some (.float .f32 0) := blkCell Z.out 3
    have cZ4 : World.cell? x1 ⟨gZ, 4, none⟩ = some (.float .f32 0) := blkCell Z.out 4
    have cZ5 : World.cell? x1 ⟨gZ, 5, none⟩ = some (.slice none 0 0) := blkCell Z.out 5
    have cO0 : World.cell? x1 ⟨gO, 0, none⟩ = some (.int .i64 s.cells) := blkCell O.out 0
    have cO1 : World.cell? x1 ⟨gO, 1, none⟩ = some (.int .i64 s.rows) := blkCell O.out 1
    have cO2 : World.cell? x1 ⟨gO, 2, none⟩ = some (.float .f32 s.sl) := blkCell O.out 2
    have cO3 : World.cell? x1 ⟨gO, 3, none⟩ = some (.float .f32 s.le) := blkCell O.out 3
    have cO4 : World.cell? x1 ⟨gO, 4, none⟩ = some (.float .f32 s.sa) := blkCell O.out 4
    have cO5 : World.cell? x1 ⟨gO, 5, none⟩ = some (.slice A1 s.log.length c1) := blkCell O.out 5
    have R5 := Az.mk (own_weak hR5 s5)
    clear hR5
    obtain ⟨A5, c5, rfl, _⟩ := own_sl R5.out
    go_wp2_with (first | ((with_reducible refine gateSt 4 rfl ?_); go_must (refine ev_st rfl rfl rfl (cs := #[.int .i64 s.cells, .int .i64 s.rows, .float .f32 s.sl, .float .f32 s.le, .float .f32 s.sa, .slice A5 s.log.length c5]) rfl rfl Z.out (by kernel_rfl) rfl (by simp [Value.oneCell']) ?_; intro W7 hbZ h; have h0 : World.grownBy x1 W7 (some gZ) := (by refine World.grownBy.trans ?_ h; repeat (first | exact gr_refl _ _ | apply gr_drewN | apply gr_drew | apply gr_alloc)); clear cB0 cB1 cB2 cB3 cB4 cB5 cZ0 cZ1 cZ2 cZ3 cZ4 cZ5 cO0 cO1 cO2 cO3 cO4 cO5; have L_ := Az.mk (gr_new L.out h0 (by first | (simp; done) | (simp; omega) | omega)); have B_ := Az.mk (blkGr B.out h0 (by first | (simp; done) | (simp; omega) | omega)); have R_ := Az.mk (own_gr R.out h0 (by first | exact own_none _ | exact .inr hlZR.out | exact .inr (own_blk R.out B.out (by decide)) | exact .inr (own_blk R.out Z.out (by decide)) | exact .inr (own_blk R.out O.out (by decide)))); have O_ := Az.mk (blkGr O.out h0 (by first | (simp; done) | (simp; omega) | omega)); have F_ := Az.mk (own_gr F.out h0 (by first | exact own_none _ | exact .inr hlZF.out | exact .inr (own_blk F.out B.out (by decide)) | exact .inr (own_blk F.out Z.out (by decide)) | exact .inr (own_blk F.out O.out (by decide)))); have R5_ := Az.mk (own_gr R5.out h0 (by first | exact own_none _ | exact .inr hlZR5.out | exact .inr (own_blk R5.out B.out (by decide)) | exact .inr (own_blk R5.out Z.out (by decide)) | exact .inr (own_blk R5.out O.out (by decide)))); clear L B R O F R5; have L := L_; clear L_; have B := B_; clear B_; have R := R_; clear R_; have O := O_; clear O_; have F := F_; clear F_; have R5 := R5_; clear R5_; clear h0 h; clear Z; have Z := Az.mk hbZ; clear hbZ; have cB0 : World.cell? W7 ⟨gB, 0, none⟩ = some (.int .i64 s.cells) := blkCell B.out 0; have cB1 : World.cell? W7 ⟨gB, 1, none⟩ = some (.int .i64 s.rows) := blkCell B.out 1; have cB2 : World.cell? W7 ⟨gB, 2, none⟩ = some (.float .f32 s.sl) := blkCell B.out 2; have cB3 : World.cell? W7 ⟨gB, 3, none⟩ = some (.float .f32 s.le) := blkCell B.out 3; have cB4 : World.cell? W7 ⟨gB, 4, none⟩ = some (.float .f32 s.sa) := blkCell B.out 4; have cB5 : World.cell? W7 ⟨gB, 5, none⟩ = some (.slice A n c) := blkCell B.out 5; have cZ0 : World.cell? W7 ⟨gZ, 0, none⟩ = some (.int .i64 s.cells) := blkCell Z.out 0; have cZ1 : World.cell? W7 ⟨gZ, 1, none⟩ = some (.int .i64 s.rows) := blkCell Z.out 1; have cZ2 : World.cell? W7 ⟨gZ, 2, none⟩ = some (.float .f32 s.sl) := blkCell Z.out 2; have cZ3 : World.cell? W7 ⟨gZ, 3, none⟩ = some (.float .f32 s.le) := blkCell Z.out 3; have cZ4 : World.cell? W7 ⟨gZ, 4, none⟩ = some (.float .f32 s.sa) := blkCell Z.out 4; have cZ5 : World.cell? W7 ⟨gZ, 5, none⟩ = some (.slice A5 s.log.length c5) := blkCell Z.out 5; have cO0 : World.cell? W7 ⟨gO, 0, none⟩ = some (.int .i64 s.cells) := blkCell O.out 0; have cO1 : World.cell? W7 ⟨gO, 1, none⟩ = some (.int .i64 s.rows) := blkCell O.out 1; have cO2 : World.cell? W7 ⟨gO, 2, none⟩ = some (.float .f32 s.sl) := blkCell O.out 2; have cO3 : World.cell? W7 ⟨gO, 3, none⟩ = some (.float .f32 s.le) := blkCell O.out 3; have cO4 : World.cell? W7 ⟨gO, 4, none⟩ = some (.float .f32 s.sa) := blkCell O.out 4; have cO5 : World.cell? W7 ⟨gO, 5, none⟩ = some (.slice A1 s.log.length c1) := blkCell O.out 5)))
    refine bodyPost_ret (results_ct (u := 5) rfl _ _ gZ 28 (s.cs (.slice A5 s.log.length c5)) _ rfl Z.out Tryd.underlying28 rfl (by kernel_rfl)) rfl ⟨.slice A5 s.log.length c5, ?_, ?_, L.out⟩
    · rw [HT.out]; rfl
    · rw [HT.out]; exact R5.out
  | some f =>
  have HL600 := Az.mk (fields_len HFM.out)
  have HT0 : Az (tuneM s l = (doneM s f).bind fun t => if setOkM t = true then some { t with log := t.log ++ [Lib.join f [32]] } else none) := ⟨by rw [tuneM, if_pos ⟨HB1.out, by rw [HN.out]; omega⟩, HFM.out]; rfl⟩
  have F_ := Az.mk (show World.ownsRow w3 _ 9 1 (.slice A2 f.length c2) f.length (stV f) from F.out)
  clear F
  have F := F_
  clear F_
  have HBG := Az.mk (own_bne F.out O.out (by decide))
  go_wp2_with fail
  clear cO0 cO1 cO2 cO3 cO4 cO5
  refine (tuned_c s A1 s.log.length c1 gO (by omega) A2 f.length c2 f HL600.out _ (HE.out.gr L.out) (own_slS F.out) HBG.out O.out).mono ?_
  rintro e w4 ⟨t, ht, htl, rfl, hO, h⟩
  have h0 : World.grownBy w3 w4 _ := (by refine World.grownBy.trans ?_ h; repeat (first | exact gr_refl _ _ | apply gr_drewN | apply gr_drew | apply gr_alloc))
  clear cB0 cB1 cB2 cB3 cB4 cB5 cZ0 cZ1 cZ2 cZ3 cZ4 cZ5
  have L_ := Az.mk (gr_new L.out h0 (by first | (simp; done) | (simp; omega) | omega))
  have B_ := Az.mk (blkGr B.out h0 (by first | (simp; done) | (simp; omega) | omega))
  have Z_ := Az.mk (blkGr Z.out h0 (by first | (simp; done) | (simp; omega) | omega))
  have R_ := Az.mk (own_gr R.out h0 (by first | exact own_none _ | exact .inr hl?R.out | exact .inr (own_blk R.out B.out (by decide)) | exact .inr (own_blk R.out Z.out (by decide)) | exact .inr (own_blk R.out O.out (by decide))))
  have F_ := Az.mk (own_gr F.out h0 (by first | exact own_none _ | exact .inr hl?F.out | exact .inr (own_blk F.out B.out (by decide)) | exact .inr (own_blk F.out Z.out (by decide)) | exact .inr (own_blk F.out O.out (by decide))))
  clear L B Z R F
  have L := L_; clear L_
  have B := B_; clear B_
  have Z := Z_; clear Z_
  have R := R_; clear R_
  have F := F_; clear F_
  clear h0 h
  clear O; have O := Az.mk hO; clear hO
  have cB0 : World.cell? w4 ⟨gB, 0, none⟩ = some (.int .i64 s.cells) := blkCell B.out 0
  have cB1 : World.cell? w4 ⟨gB, 1, none⟩ = some (.int .i64 s.rows) := blkCell B.out 1
  have cB2 : World.cell? w4 ⟨gB, 2, none⟩ = some (.float .f32 s.sl) := blkCell B.out 2
  have cB3 : World.cell? w4 ⟨gB, 3, none⟩ = some (.float .f32 s.le) := blkCell B.out 3
  have cB4 : World.cell? w4 ⟨gB, 4, none⟩ = some (.float .f32 s.sa) := blkCell B.out 4
  have cB5 : World.cell? w4 ⟨gB, 5, none⟩ = some (.slice A n c) := blkCell B.out 5
  have cZ0 : World.cell? w4 ⟨gZ, 0, none⟩ = some (.int .i64 0) := blkCell Z.out 0
  have cZ1 : World.cell? w4 ⟨gZ, 1, none⟩ = some (.int .i64 0) := blkCell Z.out 1
  have cZ2 : World.cell? w4 ⟨gZ, 2, none⟩ = some (.float .f32 0) := blkCell Z.out 2
  have cZ3 : World.cell? w4 ⟨gZ, 3, none⟩ = some (.float .f32 0) := blkCell Z.out 3
  have cZ4 : World.cell? w4 ⟨gZ, 4, none⟩ = some (.float .f32 0) := blkCell Z.out 4
  have cZ5 : World.cell? w4 ⟨gZ, 5, none⟩ = some (.slice none 0 0) := blkCell Z.out 5
  have HTD := Az.mk ht
  have HTL := Az.mk htl
  unfold SetV.cs at O
  clear ht htl
  have cB0 : World.cell? w4 ⟨gB, 0, none⟩ = some (.int .i64 s.cells) := blkCell B.out 0
  have cB1 : World.cell? w4 ⟨gB, 1, none⟩ = some (.int .i64 s.rows) := blkCell B.out 1
  have cB2 : World.cell? w4 ⟨gB, 2, none⟩ = some (.float .f32 s.sl) := blkCell B.out 2
  have cB3 : World.cell? w4 ⟨gB, 3, none⟩ = some (.float .f32 s.le) := blkCell B.out 3
  have cB4 : World.cell? w4 ⟨gB, 4, none⟩ = some (.float .f32 s.sa) := blkCell B.out 4
  have cB5 : World.cell? w4 ⟨gB, 5, none⟩ = some (.slice A n c) := blkCell B.out 5
  have cZ0 : World.cell? w4 ⟨gZ, 0, none⟩ = some (.int .i64 0) := blkCell Z.out 0
  have cZ1 : World.cell? w4 ⟨gZ, 1, none⟩ = some (.int .i64 0) := blkCell Z.out 1
  have cZ2 : World.cell? w4 ⟨gZ, 2, none⟩ = some (.float .f32 0) := blkCell Z.out 2
  have cZ3 : World.cell? w4 ⟨gZ, 3, none⟩ = some (.float .f32 0) := blkCell Z.out 3
  have cZ4 : World.cell? w4 ⟨gZ, 4, none⟩ = some (.float .f32 0) := blkCell Z.out 4
  have cZ5 : World.cell? w4 ⟨gZ, 5, none⟩ = some (.slice none 0 0) := blkCell Z.out 5
  have cO0 : World.cell? w4 ⟨gO, 0, none⟩ = some (.int .i64 t.cells) := blkCell O.out 0
  have cO1 : World.cell? w4 ⟨gO, 1, none⟩ = some (.int .i64 t.rows) := blkCell O.out 1
  have cO2 : World.cell? w4 ⟨gO, 2, none⟩ = some (.float .f32 t.sl) := blkCell O.out 2
  have cO3 : World.cell? w4 ⟨gO, 3, none⟩ = some (.float .f32 t.le) := blkCell O.out 3
  have cO4 : World.cell? w4 ⟨gO, 4, none⟩ = some (.float .f32 t.sa) := blkCell O.out 4
  have cO5 : World.cell? w4 ⟨gO, 5, none⟩ = some (.slice A1 s.log.length c1) := blkCell O.out 5
  obtain ⟨od, hod⟩ : ∃ od, doneM s f = od := ⟨_, rfl⟩
  rw [hod]
  rw [hod] at HT0 HTD
  have HOD := Az.mk hod
  clear hod
  cases od with
  | none =>
    have HT : Az (tuneM s l = none) := ⟨by rw [HT0.out]; rfl⟩
    go_wp2_with (first | ((with_reducible refine gateN 39 rfl ?_); go_must (refine ev_ld 39 rfl rfl rfl (cs := #[.int .i64 s.cells, .int .i64 s.rows, .float .f32 s.sl, .float .f32 s.le, .float .f32 s.sa, .slice A n c]) rfl B.out Tryd.underlying28 rfl (by kernel_rfl) ?_)))
    have s5 := L.out.size
    refine (copySet_c s A n c (by omega) _ (HR.out.up L.out)).mono ?_
    rintro e x1 ⟨v5, rfl, hR5, h⟩
    have h0 : World.grownBy w4 x1 _ := (by refine World.grownBy.trans ?_ h; repeat (first | exact gr_refl _ _ | apply gr_drewN | apply gr_drew | apply gr_alloc))
    clear cB0 cB1 cB2 cB3 cB4 cB5 cZ0 cZ1 cZ2 cZ3 cZ4 cZ5 cO0 cO1 cO2 cO3 cO4 cO5
    have L_ := Az.mk (gr_new L.out h0 (by first | (simp; done) | (simp; omega) | omega))
    have B_ := Az.mk (blkGr B.out h0 (by first | (simp; done) | (simp; omega) | omega))
    have Z_ := Az.mk (blkGr Z.out h0 (by first | (simp; done) | (simp; omega) | omega))
    have R_ := Az.mk (own_gr R.out h0 (by first | exact own_none _ | exact .inr hl?R.out | exact .inr (own_blk R.out B.out (by decide)) | exact .inr (own_blk R.out Z.out (by decide)) | exact .inr (own_blk R.out O.out (by decide))))
    have F_ := Az.mk (own_gr F.out h0 (by first | exact own_none _ | exact .inr hl?F.out | exact .inr (own_blk F.out B.out (by decide)) | exact .inr (own_blk F.out Z.out (by decide)) | exact .inr (own_blk F.out O.out (by decide))))
    have O_ := Az.mk (blkGr O.out h0 (by first | (simp; done) | (simp; omega) | omega))
    clear L B Z R F O
    have L := L_; clear L_
    have B := B_; clear B_
    have Z := Z_; clear Z_
    have R := R_; clear R_
    have F := F_; clear F_
    have O := O_; clear O_
    clear h0 h
    have cB0 : World.cell? x1 ⟨gB, 0, none⟩ = some (.int .i64 s.cells) := blkCell B.out 0
    have cB1 : World.cell? x1 ⟨gB, 1, none⟩ = some (.int .i64 s.rows) := blkCell B.out 1
    have cB2 : World.cell? x1 ⟨gB, 2, none⟩ = some (.float .f32 s.sl) := blkCell B.out 2
    have cB3 : World.cell? x1 ⟨gB, 3, none⟩ = some (.float .f32 s.le) := blkCell B.out 3
    have cB4 : World.cell? x1 ⟨gB, 4, none⟩ = some (.float .f32 s.sa) := blkCell B.out 4
    have cB5 : World.cell? x1 ⟨gB, 5, none⟩ = some (.slice A n c) := blkCell B.out 5
    have cZ0 : World.cell? x1 ⟨gZ, 0, none⟩ = some (.int .i64 0) := blkCell Z.out 0
    have cZ1 : World.cell? x1 ⟨gZ, 1, none⟩ = some (.int .i64 0) := blkCell Z.out 1
    have cZ2 : World.cell? x1 ⟨gZ, 2, none⟩ = some (.float .f32 0) := blkCell Z.out 2
    have cZ3 : World.cell? x1 ⟨gZ, 3, none⟩ = some (.float .f32 0) := blkCell Z.out 3
    have cZ4 : World.cell? x1 ⟨gZ, 4, none⟩ = some (.float .f32 0) := blkCell Z.out 4
    have cZ5 : World.cell? x1 ⟨gZ, 5, none⟩ = some (.slice none 0 0) := blkCell Z.out 5
    have cO0 : World.cell? x1 ⟨gO, 0, none⟩ = some (.int .i64 t.cells) := blkCell O.out 0
    have cO1 : World.cell? x1 ⟨gO, 1, none⟩ = some (.int .i64 t.rows) := blkCell O.out 1
    have cO2 : World.cell? x1 ⟨gO, 2, none⟩ = some (.float .f32 t.sl) := blkCell O.out 2
    have cO3 : World.cell? x1 ⟨gO, 3, none⟩ = some (.float .f32 t.le) := blkCell O.out 3
    have cO4 : World.cell? x1 ⟨gO, 4, none⟩ = some (.float .f32 t.sa) := blkCell O.out 4
    have cO5 : World.cell? x1 ⟨gO, 5, none⟩ = some (.slice A1 s.log.length c1) := blkCell O.out 5
    have R5 := Az.mk (own_weak hR5 s5)
    clear hR5
    obtain ⟨A5, c5, rfl, _⟩ := own_sl R5.out
    go_wp2_with (first | ((with_reducible refine gateSt 4 rfl ?_); go_must (refine ev_st rfl rfl rfl (cs := #[.int .i64 s.cells, .int .i64 s.rows, .float .f32 s.sl, .float .f32 s.le, .float .f32 s.sa, .slice A5 s.log.length c5]) rfl rfl Z.out (by kernel_rfl) rfl (by simp [Value.oneCell']) ?_; intro W8 hbZ h; have h0 : World.grownBy x1 W8 (some gZ) := (by refine World.grownBy.trans ?_ h; repeat (first | exact gr_refl _ _ | apply gr_drewN | apply gr_drew | apply gr_alloc)); clear cB0 cB1 cB2 cB3 cB4 cB5 cZ0 cZ1 cZ2 cZ3 cZ4 cZ5 cO0 cO1 cO2 cO3 cO4 cO5; have L_ := Az.mk (gr_new L.out h0 (by first | (simp; done) | (simp; omega) | omega)); have B_ := Az.mk (blkGr B.out h0 (by first | (simp; done) | (simp; omega) | omega)); have R_ := Az.mk (own_gr R.out h0 (by first | exact own_none _ | exact .inr hlZR.out | exact .inr (own_blk R.out B.out (by decide)) | exact .inr (own_blk R.out Z.out (by decide)) | exact .inr (own_blk R.out O.out (by decide)))); have F_ := Az.mk (own_gr F.out h0 (by first | exact own_none _ | exact .inr hlZF.out | exact .inr (own_blk F.out B.out (by decide)) | exact .inr (own_blk F.out Z.out (by decide)) | exact .inr (own_blk F.out O.out (by decide)))); have O_ := Az.mk (blkGr O.out h0 (by first | (simp; done) | (simp; omega) | omega)); have R5_ := Az.mk (own_gr R5.out h0 (by first | exact own_none _ | exact .inr hlZR5.out | exact .inr (own_blk R5.out B.out (by decide)) | exact .inr (own_blk R5.out Z.out (by decide)) | exact .inr (own_blk R5.out O.out (by decide)))); clear L B R F O R5; have L := L_; clear L_; have B := B_; clear B_; have R := R_; clear R_; have F := F_; clear F_; have O := O_; clear O_; have R5 := R5_; clear R5_; clear h0 h; clear Z; have Z := Az.mk hbZ; clear hbZ; have cB0 : World.cell? W8 ⟨gB, 0, none⟩ = some (.int .i64 s.cells) := blkCell B.out 0; have cB1 : World.cell? W8 ⟨gB, 1, none⟩ = some (.int .i64 s.rows) := blkCell B.out 1; have cB2 : World.cell? W8 ⟨gB, 2, none⟩ = some (.float .f32 s.sl) := blkCell B.out 2; have cB3 : World.cell? W8 ⟨gB, 3, none⟩ = some (.float .f32 s.le) := blkCell B.out 3; have cB4 : World.cell? W8 ⟨gB, 4, none⟩ = some (.float .f32 s.sa) := blkCell B.out 4; have cB5 : World.cell? W8 ⟨gB, 5, none⟩ = some (.slice A n c) := blkCell B.out 5; have cZ0 : World.cell? W8 ⟨gZ, 0, none⟩ = some (.int .i64 s.cells) := blkCell Z.out 0; have cZ1 : World.cell? W8 ⟨gZ, 1, none⟩ = some (.int .i64 s.rows) := blkCell Z.out 1; have cZ2 : World.cell? W8 ⟨gZ, 2, none⟩ = some (.float .f32 s.sl) := blkCell Z.out 2; have cZ3 : World.cell? W8 ⟨gZ, 3, none⟩ = some (.float .f32 s.le) := blkCell Z.out 3; have cZ4 : World.cell? W8 ⟨gZ, 4, none⟩ = some (.float .f32 s.sa) := blkCell Z.out 4; have cZ5 : World.cell? W8 ⟨gZ, 5, none⟩ = some (.slice A5 s.log.length c5) := blkCell Z.out 5; have cO0 : World.cell? W8 ⟨gO, 0, none⟩ = some (.int .i64 t.cells) := blkCell O.out 0; have cO1 : World.cell? W8 ⟨gO, 1, none⟩ = some (.int .i64 t.rows) := blkCell O.out 1; have cO2 : World.cell? W8 ⟨gO, 2, none⟩ = some (.float .f32 t.sl) := blkCell O.out 2; have cO3 : World.cell? W8 ⟨gO, 3, none⟩ = some (.float .f32 t.le) := blkCell O.out 3; have cO4 : World.cell? W8 ⟨gO, 4, none⟩ = some (.float .f32 t.sa) := blkCell O.out 4; have cO5 : World.cell? W8 ⟨gO, 5, none⟩ = some (.slice A1 s.log.length c1) := blkCell O.out 5)))
    refine bodyPost_ret (results_ct (u := 5) rfl _ _ gZ 28 (s.cs (.slice A5 s.log.length c5)) _ rfl Z.out Tryd.underlying28 rfl (by kernel_rfl)) rfl ⟨.slice A5 s.log.length c5, ?_, ?_, L.out⟩
    · rw [HT.out]; rfl
    · rw [HT.out]; exact R5.out
  | some u =>
  obtain rfl : t = u := HTD.out u rfl
  go_wp2_with (first | ((with_reducible refine gateN 35 rfl ?_); go_must (refine stripG (by first | rfl | (simp [Region.wanted, yielded]; done) | (simp [Region.wanted, yielded]; omega)) ?_; refine ev_ld 35 rfl rfl rfl (cs := #[.int .i64 t.cells, .int .i64 t.rows, .float .f32 t.sl, .float .f32 t.le, .float .f32 t.sa, .slice A1 s.log.length c1]) rfl O.out Tryd.underlying28 rfl (by kernel_rfl) ?_)))
  refine (SetOk_c t A1 s.log.length c1 (by rw [HTL.out]) (by have := HN.out; omega) _).mono ?_
  rintro e w5 ⟨rfl, h⟩
  have h0 : World.grownBy w4 w5 _ := (by refine World.grownBy.trans ?_ h; repeat (first | exact gr_refl _ _ | apply gr_drewN | apply gr_drew | apply gr_alloc))
  clear cB0 cB1 cB2 cB3 cB4 cB5 cZ0 cZ1 cZ2 cZ3 cZ4 cZ5 cO0 cO1 cO2 cO3 cO4 cO5
  have L_ := Az.mk (gr_new L.out h0 (by first | (simp; done) | (simp; omega) | omega))
  have B_ := Az.mk (blkGr B.out h0 (by first | (simp; done) | (simp; omega) | omega))
  have Z_ := Az.mk (blkGr Z.out h0 (by first | (simp; done) | (simp; omega) | omega))
  have R_ := Az.mk (own_gr R.out h0 (by first | exact own_none _ | exact .inr hl?R.out | exact .inr (own_blk R.out B.out (by decide)) | exact .inr (own_blk R.out Z.out (by decide)) | exact .inr (own_blk R.out O.out (by decide))))
  have F_ := Az.mk (own_gr F.out h0 (by first | exact own_none _ | exact .inr hl?F.out | exact .inr (own_blk F.out B.out (by decide)) | exact .inr (own_blk F.out Z.out (by decide)) | exact .inr (own_blk F.out O.out (by decide))))
  have O_ := Az.mk (blkGr O.out h0 (by first | (simp; done) | (simp; omega) | omega))
  clear L B Z R F O
  have L := L_; clear L_
  have B := B_; clear B_
  have Z := Z_; clear Z_
  have R := R_; clear R_
  have F := F_; clear F_
  have O := O_; clear O_
  clear h0 h
  have cB0 : World.cell? w5 ⟨gB, 0, none⟩ = some (.int .i64 s.cells) := blkCell B.out 0
  have cB1 : World.cell? w5 ⟨gB, 1, none⟩ = some (.int .i64 s.rows) := blkCell B.out 1
  have cB2 : World.cell? w5 ⟨gB, 2, none⟩ = some (.float .f32 s.sl) := blkCell B.out 2
  have cB3 : World.cell? w5 ⟨gB, 3, none⟩ = some (.float .f32 s.le) := blkCell B.out 3
  have cB4 : World.cell? w5 ⟨gB, 4, none⟩ = some (.float .f32 s.sa) := blkCell B.out 4
  have cB5 : World.cell? w5 ⟨gB, 5, none⟩ = some (.slice A n c) := blkCell B.out 5
  have cZ0 : World.cell? w5 ⟨gZ, 0, none⟩ = some (.int .i64 0) := blkCell Z.out 0
  have cZ1 : World.cell? w5 ⟨gZ, 1, none⟩ = some (.int .i64 0) := blkCell Z.out 1
  have cZ2 : World.cell? w5 ⟨gZ, 2, none⟩ = some (.float .f32 0) := blkCell Z.out 2
  have cZ3 : World.cell? w5 ⟨gZ, 3, none⟩ = some (.float .f32 0) := blkCell Z.out 3
  have cZ4 : World.cell? w5 ⟨gZ, 4, none⟩ = some (.float .f32 0) := blkCell Z.out 4
  have cZ5 : World.cell? w5 ⟨gZ, 5, none⟩ = some (.slice none 0 0) := blkCell Z.out 5
  have cO0 : World.cell? w5 ⟨gO, 0, none⟩ = some (.int .i64 t.cells) := blkCell O.out 0
  have cO1 : World.cell? w5 ⟨gO, 1, none⟩ = some (.int .i64 t.rows) := blkCell O.out 1
  have cO2 : World.cell? w5 ⟨gO, 2, none⟩ = some (.float .f32 t.sl) := blkCell O.out 2
  have cO3 : World.cell? w5 ⟨gO, 3, none⟩ = some (.float .f32 t.le) := blkCell O.out 3
  have cO4 : World.cell? w5 ⟨gO, 4, none⟩ = some (.float .f32 t.sa) := blkCell O.out 4
  have cO5 : World.cell? w5 ⟨gO, 5, none⟩ = some (.slice A1 s.log.length c1) := blkCell O.out 5
  obtain ⟨b2, hb2⟩ : ∃ b, setOkM t = b := ⟨_, rfl⟩
  rw [hb2]
  have HB2 := Az.mk hb2
  clear hb2
  cases b2 with
  | false =>
    have HT : Az (tuneM s l = none) := ⟨by rw [HT0.out]; show (if setOkM t = true then _ else none) = none; rw [HB2.out]; rfl⟩
    go_wp2_with (first | ((with_reducible refine gateN 39 rfl ?_); go_must (refine ev_ld 39 rfl rfl rfl (cs := #[.int .i64 s.cells, .int .i64 s.rows, .float .f32 s.sl, .float .f32 s.le, .float .f32 s.sa, .slice A n c]) rfl B.out Tryd.underlying28 rfl (by kernel_rfl) ?_)))
    have s5 := L.out.size
    refine (copySet_c s A n c (by omega) _ (HR.out.up L.out)).mono ?_
    rintro e x1 ⟨v5, rfl, hR5, h⟩
    have h0 : World.grownBy w5 x1 _ := (by refine World.grownBy.trans ?_ h; repeat (first | exact gr_refl _ _ | apply gr_drewN | apply gr_drew | apply gr_alloc))
    clear cB0 cB1 cB2 cB3 cB4 cB5 cZ0 cZ1 cZ2 cZ3 cZ4 cZ5 cO0 cO1 cO2 cO3 cO4 cO5
    have L_ := Az.mk (gr_new L.out h0 (by first | (simp; done) | (simp; omega) | omega))
    have B_ := Az.mk (blkGr B.out h0 (by first | (simp; done) | (simp; omega) | omega))
    have Z_ := Az.mk (blkGr Z.out h0 (by first | (simp; done) | (simp; omega) | omega))
    have R_ := Az.mk (own_gr R.out h0 (by first | exact own_none _ | exact .inr hl?R.out | exact .inr (own_blk R.out B.out (by decide)) | exact .inr (own_blk R.out Z.out (by decide)) | exact .inr (own_blk R.out O.out (by decide))))
    have F_ := Az.mk (own_gr F.out h0 (by first | exact own_none _ | exact .inr hl?F.out | exact .inr (own_blk F.out B.out (by decide)) | exact .inr (own_blk F.out Z.out (by decide)) | exact .inr (own_blk F.out O.out (by decide))))
    have O_ := Az.mk (blkGr O.out h0 (by first | (simp; done) | (simp; omega) | omega))
    clear L B Z R F O
    have L := L_; clear L_
    have B := B_; clear B_
    have Z := Z_; clear Z_
    have R := R_; clear R_
    have F := F_; clear F_
    have O := O_; clear O_
    clear h0 h
    have cB0 : World.cell? x1 ⟨gB, 0, none⟩ = some (.int .i64 s.cells) := blkCell B.out 0
    have cB1 : World.cell? x1 ⟨gB, 1, none⟩ = some (.int .i64 s.rows) := blkCell B.out 1
    have cB2 : World.cell? x1 ⟨gB, 2, none⟩ = some (.float .f32 s.sl) := blkCell B.out 2
    have cB3 : World.cell? x1 ⟨gB, 3, none⟩ = some (.float .f32 s.le) := blkCell B.out 3
    have cB4 : World.cell? x1 ⟨gB, 4, none⟩ = some (.float .f32 s.sa) := blkCell B.out 4
    have cB5 : World.cell? x1 ⟨gB, 5, none⟩ = some (.slice A n c) := blkCell B.out 5
    have cZ0 : World.cell? x1 ⟨gZ, 0, none⟩ = some (.int .i64 0) := blkCell Z.out 0
    have cZ1 : World.cell? x1 ⟨gZ, 1, none⟩ = some (.int .i64 0) := blkCell Z.out 1
    have cZ2 : World.cell? x1 ⟨gZ, 2, none⟩ = some (.float .f32 0) := blkCell Z.out 2
    have cZ3 : World.cell? x1 ⟨gZ, 3, none⟩ = some (.float .f32 0) := blkCell Z.out 3
    have cZ4 : World.cell? x1 ⟨gZ, 4, none⟩ = some (.float .f32 0) := blkCell Z.out 4
    have cZ5 : World.cell? x1 ⟨gZ, 5, none⟩ = some (.slice none 0 0) := blkCell Z.out 5
    have cO0 : World.cell? x1 ⟨gO, 0, none⟩ = some (.int .i64 t.cells) := blkCell O.out 0
    have cO1 : World.cell? x1 ⟨gO, 1, none⟩ = some (.int .i64 t.rows) := blkCell O.out 1
    have cO2 : World.cell? x1 ⟨gO, 2, none⟩ = some (.float .f32 t.sl) := blkCell O.out 2
    have cO3 : World.cell? x1 ⟨gO, 3, none⟩ = some (.float .f32 t.le) := blkCell O.out 3
    have cO4 : World.cell? x1 ⟨gO, 4, none⟩ = some (.float .f32 t.sa) := blkCell O.out 4
    have cO5 : World.cell? x1 ⟨gO, 5, none⟩ = some (.slice A1 s.log.length c1) := blkCell O.out 5
    have R5 := Az.mk (own_weak hR5 s5)
    clear hR5
    obtain ⟨A5, c5, rfl, _⟩ := own_sl R5.out
    go_wp2_with (first | ((with_reducible refine gateSt 4 rfl ?_); go_must (refine ev_st rfl rfl rfl (cs := #[.int .i64 s.cells, .int .i64 s.rows, .float .f32 s.sl, .float .f32 s.le, .float .f32 s.sa, .slice A5 s.log.length c5]) rfl rfl Z.out (by kernel_rfl) rfl (by simp [Value.oneCell']) ?_; intro W9 hbZ h; have h0 : World.grownBy x1 W9 (some gZ) := (by refine World.grownBy.trans ?_ h; repeat (first | exact gr_refl _ _ | apply gr_drewN | apply gr_drew | apply gr_alloc)); clear cB0 cB1 cB2 cB3 cB4 cB5 cZ0 cZ1 cZ2 cZ3 cZ4 cZ5 cO0 cO1 cO2 cO3 cO4 cO5; have L_ := Az.mk (gr_new L.out h0 (by first | (simp; done) | (simp; omega) | omega)); have B_ := Az.mk (blkGr B.out h0 (by first | (simp; done) | (simp; omega) | omega)); have R_ := Az.mk (own_gr R.out h0 (by first | exact own_none _ | exact .inr hlZR.out | exact .inr (own_blk R.out B.out (by decide)) | exact .inr (own_blk R.out Z.out (by decide)) | exact .inr (own_blk R.out O.out (by decide)))); have F_ := Az.mk (own_gr F.out h0 (by first | exact own_none _ | exact .inr hlZF.out | exact .inr (own_blk F.out B.out (by decide)) | exact .inr (own_blk F.out Z.out (by decide)) | exact .inr (own_blk F.out O.out (by decide)))); have O_ := Az.mk (blkGr O.out h0 (by first | (simp; done) | (simp; omega) | omega)); have R5_ := Az.mk (own_gr R5.out h0 (by first | exact own_none _ | exact .inr hlZR5.out | exact .inr (own_blk R5.out B.out (by decide)) | exact .inr (own_blk R5.out Z.out (by decide)) | exact .inr (own_blk R5.out O.out (by decide)))); clear L B R F O R5; have L := L_; clear L_; have B := B_; clear B_; have R := R_; clear R_; have F := F_; clear F_; have O := O_; clear O_; have R5 := R5_; clear R5_; clear h0 h; clear Z; have Z := Az.mk hbZ; clear hbZ; have cB0 : World.cell? W9 ⟨gB, 0, none⟩ = some (.int .i64 s.cells) := blkCell B.out 0; have cB1 : World.cell? W9 ⟨gB, 1, none⟩ = some (.int .i64 s.rows) := blkCell B.out 1; have cB2 : World.cell? W9 ⟨gB, 2, none⟩ = some (.float .f32 s.sl) := blkCell B.out 2; have cB3 : World.cell? W9 ⟨gB, 3, none⟩ = some (.float .f32 s.le) := blkCell B.out 3; have cB4 : World.cell? W9 ⟨gB, 4, none⟩ = some (.float .f32 s.sa) := blkCell B.out 4; have cB5 : World.cell? W9 ⟨gB, 5, none⟩ = some (.slice A n c) := blkCell B.out 5; have cZ0 : World.cell? W9 ⟨gZ, 0, none⟩ = some (.int .i64 s.cells) := blkCell Z.out 0; have cZ1 : World.cell? W9 ⟨gZ, 1, none⟩ = some (.int .i64 s.rows) := blkCell Z.out 1; have cZ2 : World.cell? W9 ⟨gZ, 2, none⟩ = some (.float .f32 s.sl) := blkCell Z.out 2; have cZ3 : World.cell? W9 ⟨gZ, 3, none⟩ = some (.float .f32 s.le) := blkCell Z.out 3; have cZ4 : World.cell? W9 ⟨gZ, 4, none⟩ = some (.float .f32 s.sa) := blkCell Z.out 4; have cZ5 : World.cell? W9 ⟨gZ, 5, none⟩ = some (.slice A5 s.log.length c5) := blkCell Z.out 5; have cO0 : World.cell? W9 ⟨gO, 0, none⟩ = some (.int .i64 t.cells) := blkCell O.out 0; have cO1 : World.cell? W9 ⟨gO, 1, none⟩ = some (.int .i64 t.rows) := blkCell O.out 1; have cO2 : World.cell? W9 ⟨gO, 2, none⟩ = some (.float .f32 t.sl) := blkCell O.out 2; have cO3 : World.cell? W9 ⟨gO, 3, none⟩ = some (.float .f32 t.le) := blkCell O.out 3; have cO4 : World.cell? W9 ⟨gO, 4, none⟩ = some (.float .f32 t.sa) := blkCell O.out 4; have cO5 : World.cell? W9 ⟨gO, 5, none⟩ = some (.slice A1 s.log.length c1) := blkCell O.out 5)))
    refine bodyPost_ret (results_ct (u := 5) rfl _ _ gZ 28 (s.cs (.slice A5 s.log.length c5)) _ rfl Z.out Tryd.underlying28 rfl (by kernel_rfl)) rfl ⟨.slice A5 s.log.length c5, ?_, ?_, L.out⟩
    · rw [HT.out]; rfl
    · rw [HT.out]; exact R5.out
  | true =>
  have HT : Az (tuneM s l = some { t with log := t.log ++ [Lib.join f [32]] }) := ⟨by rw [HT0.out]; show (if setOkM t = true then _ else none) = _; rw [HB2.out]; rfl⟩
  have hfl := doneM_fields HOD.out
  have hf1 : 0 < f.length := by omega
  obtain ⟨gF, cF, hgF, hcF, hgF2, hgF3⟩ := own_slice F.out hf1
  injection hgF with e1 e2 e3
  subst e1
  subst e3
  have HJL : Az ((Lib.join f [32]).length ≤ 140737488355328) := ⟨by
    have h1 := join_len f
    obtain ⟨h2, h3, _⟩ := fieldsM_some HFM.out
    have h4 := fieldsL_sum l
    rw [← h2] at h4
    omega⟩
  go_wp2_with fail
  have uB0 : ∀ w1, Up w5 w1 → w1.cell? ⟨gB, 0, none⟩ = some (.int .i64 s.cells) := fun w1 hu => blkCell (blkGr B.out hu (by simp)) 0
  have uB1 : ∀ w1, Up w5 w1 → w1.cell? ⟨gB, 1, none⟩ = some (.int .i64 s.rows) := fun w1 hu => blkCell (blkGr B.out hu (by simp)) 1
  have uB2 : ∀ w1, Up w5 w1 → w1.cell? ⟨gB, 2, none⟩ = some (.float .f32 s.sl) := fun w1 hu => blkCell (blkGr B.out hu (by simp)) 2
  have uB3 : ∀ w1, Up w5 w1 → w1.cell? ⟨gB, 3, none⟩ = some (.float .f32 s.le) := fun w1 hu => blkCell (blkGr B.out hu (by simp)) 3
  have uB4 : ∀ w1, Up w5 w1 → w1.cell? ⟨gB, 4, none⟩ = some (.float .f32 s.sa) := fun w1 hu => blkCell (blkGr B.out hu (by simp)) 4
  have uB5 : ∀ w1, Up w5 w1 → w1.cell? ⟨gB, 5, none⟩ = some (.slice A n c) := fun w1 hu => blkCell (blkGr B.out hu (by simp)) 5
  have uZ0 : ∀ w1, Up w5 w1 → w1.cell? ⟨gZ, 0, none⟩ = some (.int .i64 0) := fun w1 hu => blkCell (blkGr Z.out hu (by simp)) 0
  have uZ1 : ∀ w1, Up w5 w1 → w1.cell? ⟨gZ, 1, none⟩ = some (.int .i64 0) := fun w1 hu => blkCell (blkGr Z.out hu (by simp)) 1
  have uZ2 : ∀ w1, Up w5 w1 → w1.cell? ⟨gZ, 2, none⟩ = some (.float .f32 0) := fun w1 hu => blkCell (blkGr Z.out hu (by simp)) 2
  have uZ3 : ∀ w1, Up w5 w1 → w1.cell? ⟨gZ, 3, none⟩ = some (.float .f32 0) := fun w1 hu => blkCell (blkGr Z.out hu (by simp)) 3
  have uZ4 : ∀ w1, Up w5 w1 → w1.cell? ⟨gZ, 4, none⟩ = some (.float .f32 0) := fun w1 hu => blkCell (blkGr Z.out hu (by simp)) 4
  have uZ5 : ∀ w1, Up w5 w1 → w1.cell? ⟨gZ, 5, none⟩ = some (.slice none 0 0) := fun w1 hu => blkCell (blkGr Z.out hu (by simp)) 5
  have uO0 : ∀ w1, Up w5 w1 → w1.cell? ⟨gO, 0, none⟩ = some (.int .i64 t.cells) := fun w1 hu => blkCell (blkGr O.out hu (by simp)) 0
  have uO1 : ∀ w1, Up w5 w1 → w1.cell? ⟨gO, 1, none⟩ = some (.int .i64 t.rows) := fun w1 hu => blkCell (blkGr O.out hu (by simp)) 1
  have uO2 : ∀ w1, Up w5 w1 → w1.cell? ⟨gO, 2, none⟩ = some (.float .f32 t.sl) := fun w1 hu => blkCell (blkGr O.out hu (by simp)) 2
  have uO3 : ∀ w1, Up w5 w1 → w1.cell? ⟨gO, 3, none⟩ = some (.float .f32 t.le) := fun w1 hu => blkCell (blkGr O.out hu (by simp)) 3
  have uO4 : ∀ w1, Up w5 w1 → w1.cell? ⟨gO, 4, none⟩ = some (.float .f32 t.sa) := fun w1 hu => blkCell (blkGr O.out hu (by simp)) 4
  have uO5 : ∀ w1, Up w5 w1 → w1.cell? ⟨gO, 5, none⟩ = some (.slice A1 s.log.length c1) := fun w1 hu => blkCell (blkGr O.out hu (by simp)) 5
  refine wp_region_rel 5 (fun _ _ v _ => v = .string (tx (Lib.join f [32]))) (by kernel_rfl) (by kernel_rfl) ?_
  simp only [List.take_succ_cons, List.take_zero, List.drop_succ_cons, List.drop_zero]
  repeat (first | ((with_reducible refine gateLexN 44 rfl ?_); go_must (refine lex_call rfl Tryd.func46 (by kernel_rfl) rfl #[.slice (some ⟨gF, 0, none⟩) f.length c2, .string { data := #[32] }] rfl (by simp only [List.map_toArray, List.map_cons, List.map_nil]; rfl) (fun w1 hu => (Join_c gF 0 f.length c2 f w1 rfl (by omega) (Nat.lt_of_lt_of_le hgF3 hu.size) ((own_rdS F.out).up hu) hcF HJL.out).mono ?_) ?_; (rintro e w2 ⟨rfl, h⟩; exact ⟨_, rfl, h, rfl⟩); rintro v ⟨w2', rfl⟩; refine lexK (fun K hK => ?_); go_simp; refine hK _ ?_; clear hK K)) | ((with_reducible refine gateLexN 45 rfl ?_); go_must (refine lex_bs rfl #[.string (tx (Lib.join f [32]))] 9 1 (fun w1 hu => ?_) ?_; (focus (first | (go_simp; done) | (go_simp; rfl))); intro gN heN; have hgN : w.heap.size ≤ gN := Nat.le_trans L.out.size heN; clear heN; refine lexK (fun K hK => ?_); go_simp; refine hK _ ?_; clear hK K)) | (refine lex_val' rfl ?_; apply Exists.intro; refine ⟨fun w1 hu => ?_, ?_⟩; (focus (first | (go_simp; done) | (go_simp; rfl))); refine lexK (fun K hK => ?_); go_simp; refine hK _ ?_; clear hK K))
  refine lex_nil (fun W10 h hF => ?_)
  clear uB0 uB1 uB2 uB3 uB4 uB5 uZ0 uZ1 uZ2 uZ3 uZ4 uZ5 uO0 uO1 uO2 uO3 uO4 uO5
  have h0 : World.grownBy w5 W10 none := (by refine World.grownBy.trans ?_ h; repeat (first | exact gr_refl _ _ | apply gr_drewN | apply gr_drew | apply gr_alloc))
  clear cB0 cB1 cB2 cB3 cB4 cB5 cZ0 cZ1 cZ2 cZ3 cZ4 cZ5 cO0 cO1 cO2 cO3 cO4 cO5
  have L_ := Az.mk (gr_new L.out h0 (by first | (simp; done) | (simp; omega) | omega))
  have B_ := Az.mk (blkGr B.out h0 (by first | (simp; done) | (simp; omega) | omega))
  have Z_ := Az.mk (blkGr Z.out h0 (by first | (simp; done) | (simp; omega) | omega))
  have R_ := Az.mk (own_gr R.out h0 (by first | exact own_none _ | exact .inr hl?R.out | exact .inr (own_blk R.out B.out (by decide)) | exact .inr (own_blk R.out Z.out (by decide)) | exact .inr (own_blk R.out O.out (by decide))))
  have F_ := Az.mk (own_gr F.out h0 (by first | exact own_none _ | exact .inr hl?F.out | exact .inr (own_blk F.out B.out (by decide)) | exact .inr (own_blk F.out Z.out (by decide)) | exact .inr (own_blk F.out O.out (by decide))))
  have O_ := Az.mk (blkGr O.out h0 (by first | (simp; done) | (simp; omega) | omega))
  clear L B Z R F O
  have L := L_; clear L_
  have B := B_; clear B_
  have Z := Z_; clear Z_
  have R := R_; clear R_
  have F := F_; clear F_
  have O := O_; clear O_
  clear h0 h
  have N := Az.mk (show W10.heap[gN]? = some (.cells #[.string (tx (Lib.join f [32]))] _ (0, 0)) from by first | exact hF.2 | exact hF.1.2 | exact hF.1.1.2 | exact hF.1.1.1.2)
  clear hF
  have cB0 : World.cell? W10 ⟨gB, 0, none⟩ = some (.int .i64 s.cells) := blkCell B.out 0
  have cB1 : World.cell? W10 ⟨gB, 1, none⟩ = some (.int .i64 s.rows) := blkCell B.out 1
  have cB2 : World.cell? W10 ⟨gB, 2, none⟩ = some (.float .f32 s.sl) := blkCell B.out 2
  have cB3 : World.cell? W10 ⟨gB, 3, none⟩ = some (.float .f32 s.le) := blkCell B.out 3
  have cB4 : World.cell? W10 ⟨gB, 4, none⟩ = some (.float .f32 s.sa) := blkCell B.out 4
  have cB5 : World.cell? W10 ⟨gB, 5, none⟩ = some (.slice A n c) := blkCell B.out 5
  have cZ0 : World.cell? W10 ⟨gZ, 0, none⟩ = some (.int .i64 0) := blkCell Z.out 0
  have cZ1 : World.cell? W10 ⟨gZ, 1, none⟩ = some (.int .i64 0) := blkCell Z.out 1
  have cZ2 : World.cell? W10 ⟨gZ, 2, none⟩ = some (.float .f32 0) := blkCell Z.out 2
  have cZ3 : World.cell? W10 ⟨gZ, 3, none⟩ = some (.float .f32 0) := blkCell Z.out 3
  have cZ4 : World.cell? W10 ⟨gZ, 4, none⟩ = some (.float .f32 0) := blkCell Z.out 4
  have cZ5 : World.cell? W10 ⟨gZ, 5, none⟩ = some (.slice none 0 0) := blkCell Z.out 5
  have cO0 : World.cell? W10 ⟨gO, 0, none⟩ = some (.int .i64 t.cells) := blkCell O.out 0
  have cO1 : World.cell? W10 ⟨gO, 1, none⟩ = some (.int .i64 t.rows) := blkCell O.out 1
  have cO2 : World.cell? W10 ⟨gO, 2, none⟩ = some (.float .f32 t.sl) := blkCell O.out 2
  have cO3 : World.cell? W10 ⟨gO, 3, none⟩ = some (.float .f32 t.le) := blkCell O.out 3
  have cO4 : World.cell? W10 ⟨gO, 4, none⟩ = some (.float .f32 t.sa) := blkCell O.out 4
  have cO5 : World.cell? W10 ⟨gO, 5, none⟩ = some (.slice A1 s.log.length c1) := blkCell O.out 5
  have cN0 : World.cell? W10 ⟨gN, 0, none⟩ = some (.string (tx (Lib.join f [32]))) := blkCell N.out 0
  go_wp2_with (first | ((with_reducible refine gateN 46 rfl ?_); go_must (refine ev_app 46 rfl rfl rfl Tryd.underlying23 (z := .string ByteArray.empty) (size := 1) (bytes := 16) (by kernel_rfl) rfl (by decide) rfl R.out rfl N.out rfl (by simp [Value.oneCell']) ?hbase ?hl ?hl2 ?_; (case hbase => have := L.out.size; omega); (case hl => omega); (case hl2 => omega); intro v W11 hR h; obtain ⟨vA, vc, rfl, _, _, _⟩ := own_rd hR; have h0 : World.grownBy W10 W11 _ := (by refine World.grownBy.trans ?_ h; repeat (first | exact gr_refl _ _ | apply gr_drewN | apply gr_drew | apply gr_alloc)); clear cB0 cB1 cB2 cB3 cB4 cB5 cZ0 cZ1 cZ2 cZ3 cZ4 cZ5 cO0 cO1 cO2 cO3 cO4 cO5 cN0; have L_ := Az.mk (gr_new L.out h0 (fun j hj => .inl (own_base R.out j hj))); have B_ := Az.mk (blkGr B.out h0 (by first | exact fun he => own_blk R.out B.out (by decide) he.symm | exact fun he => hlBR.out he.symm | exact fun he => (by have := own_base R.out _ he.symm; omega))); have Z_ := Az.mk (blkGr Z.out h0 (by first | exact fun he => own_blk R.out Z.out (by decide) he.symm | exact fun he => hlZR.out he.symm | exact fun he => (by have := own_base R.out _ he.symm; omega))); have O_ := Az.mk (blkGr O.out h0 (by first | exact fun he => own_blk R.out O.out (by decide) he.symm | exact fun he => hlOR.out he.symm | exact fun he => (by have := own_base R.out _ he.symm; omega))); clear L B Z O; have L := L_; clear L_; have B := B_; clear B_; have Z := Z_; clear Z_; have O := O_; clear O_; clear h0 h; clear R N; have R := Az.mk hR; clear hR; have cB0 : World.cell? W11 ⟨gB, 0, none⟩ = some (.int .i64 s.cells) := blkCell B.out 0; have cB1 : World.cell? W11 ⟨gB, 1, none⟩ = some (.int .i64 s.rows) := blkCell B.out 1; have cB2 : World.cell? W11 ⟨gB, 2, none⟩ = some (.float .f32 s.sl) := blkCell B.out 2; have cB3 : World.cell? W11 ⟨gB, 3, none⟩ = some (.float .f32 s.le) := blkCell B.out 3; have cB4 : World.cell? W11 ⟨gB, 4, none⟩ = some (.float .f32 s.sa) := blkCell B.out 4; have cB5 : World.cell? W11 ⟨gB, 5, none⟩ = some (.slice A n c) := blkCell B.out 5; have cZ0 : World.cell? W11 ⟨gZ, 0, none⟩ = some (.int .i64 0) := blkCell Z.out 0; have cZ1 : World.cell? W11 ⟨gZ, 1, none⟩ = some (.int .i64 0) := blkCell Z.out 1; have cZ2 : World.cell? W11 ⟨gZ, 2, none⟩ = some (.float .f32 0) := blkCell Z.out 2; have cZ3 : World.cell? W11 ⟨gZ, 3, none⟩ = some (.float .f32 0) := blkCell Z.out 3; have cZ4 : World.cell? W11 ⟨gZ, 4, none⟩ = some (.float .f32 0) := blkCell Z.out 4; have cZ5 : World.cell? W11 ⟨gZ, 5, none⟩ = some (.slice none 0 0) := blkCell Z.out 5; have cO0 : World.cell? W11 ⟨gO, 0, none⟩ = some (.int .i64 t.cells) := blkCell O.out 0; have cO1 : World.cell? W11 ⟨gO, 1, none⟩ = some (.int .i64 t.rows) := blkCell O.out 1; have cO2 : World.cell? W11 ⟨gO, 2, none⟩ = some (.float .f32 t.sl) := blkCell O.out 2; have cO3 : World.cell? W11 ⟨gO, 3, none⟩ = some (.float .f32 t.le) := blkCell O.out 3; have cO4 : World.cell? W11 ⟨gO, 4, none⟩ = some (.float .f32 t.sa) := blkCell O.out 4; have cO5 : World.cell? W11 ⟨gO, 5, none⟩ = some (.slice A1 s.log.length c1) := blkCell O.out 5)) | ((with_reducible refine gateSt 47 rfl ?_); go_must (refine ev_st1 rfl rfl rfl (i := 5) (v := .slice vA (s.log.length + 1) vc) rfl rfl O.out (by kernel_rfl) rfl (by simp) ?_; intro W12 hbO h; have h0 : World.grownBy W11 W12 (some gO) := (by refine World.grownBy.trans ?_ h; repeat (first | exact gr_refl _ _ | apply gr_drewN | apply gr_drew | apply gr_alloc)); clear cB0 cB1 cB2 cB3 cB4 cB5 cZ0 cZ1 cZ2 cZ3 cZ4 cZ5 cO0 cO1 cO2 cO3 cO4 cO5; have L_ := Az.mk (gr_new L.out h0 (by first | (simp; done) | (simp; omega) | omega)); have B_ := Az.mk (blkGr B.out h0 (by first | (simp; done) | (simp; omega) | omega)); have Z_ := Az.mk (blkGr Z.out h0 (by first | (simp; done) | (simp; omega) | omega)); have R_ := Az.mk (own_gr R.out h0 (by first | exact own_none _ | exact .inr hlOR.out | exact .inr (own_blk R.out B.out (by decide)) | exact .inr (own_blk R.out Z.out (by decide)) | exact .inr (own_blk R.out O.out (by decide)))); clear L B Z R; have L := L_; clear L_; have B := B_; clear B_; have Z := Z_; clear Z_; have R := R_; clear R_; clear h0 h; simp only [List.setIfInBounds_toArray, List.set_cons_zero, List.set_cons_succ] at hbO; clear O; have O := Az.mk hbO; clear hbO; have cB0 : World.cell? W12 ⟨gB, 0, none⟩ = some (.int .i64 s.cells) := blkCell B.out 0; have cB1 : World.cell? W12 ⟨gB, 1, none⟩ = some (.int .i64 s.rows) := blkCell B.out 1; have cB2 : World.cell? W12 ⟨gB, 2, none⟩ = some (.float .f32 s.sl) := blkCell B.out 2; have cB3 : World.cell? W12 ⟨gB, 3, none⟩ = some (.float .f32 s.le) := blkCell B.out 3; have cB4 : World.cell? W12 ⟨gB, 4, none⟩ = some (.float .f32 s.sa) := blkCell B.out 4; have cB5 : World.cell? W12 ⟨gB, 5, none⟩ = some (.slice A n c) := blkCell B.out 5; have cZ0 : World.cell? W12 ⟨gZ, 0, none⟩ = some (.int .i64 0) := blkCell Z.out 0; have cZ1 : World.cell? W12 ⟨gZ, 1, none⟩ = some (.int .i64 0) := blkCell Z.out 1; have cZ2 : World.cell? W12 ⟨gZ, 2, none⟩ = some (.float .f32 0) := blkCell Z.out 2; have cZ3 : World.cell? W12 ⟨gZ, 3, none⟩ = some (.float .f32 0) := blkCell Z.out 3; have cZ4 : World.cell? W12 ⟨gZ, 4, none⟩ = some (.float .f32 0) := blkCell Z.out 4; have cZ5 : World.cell? W12 ⟨gZ, 5, none⟩ = some (.slice none 0 0) := blkCell Z.out 5; have cO0 : World.cell? W12 ⟨gO, 0, none⟩ = some (.int .i64 t.cells) := blkCell O.out 0; have cO1 : World.cell? W12 ⟨gO, 1, none⟩ = some (.int .i64 t.rows) := blkCell O.out 1; have cO2 : World.cell? W12 ⟨gO, 2, none⟩ = some (.float .f32 t.sl) := blkCell O.out 2; have cO3 : World.cell? W12 ⟨gO, 3, none⟩ = some (.float .f32 t.le) := blkCell O.out 3; have cO4 : World.cell? W12 ⟨gO, 4, none⟩ = some (.float .f32 t.sa) := blkCell O.out 4; have cO5 : World.cell? W12 ⟨gO, 5, none⟩ = some (.slice vA (s.log.length + 1) vc) := blkCell O.out 5)) | ((with_reducible refine gateN 48 rfl ?_); go_must (refine ev_ld 48 rfl rfl rfl (cs := #[.int .i64 t.cells, .int .i64 t.rows, .float .f32 t.sl, .float .f32 t.le, .float .f32 t.sa, .slice vA (s.log.length + 1) vc]) rfl O.out Tryd.underlying28 rfl (by kernel_rfl) ?_)) | ((with_reducible refine gateSt 4 rfl ?_); go_must (refine ev_st rfl rfl rfl (cs := #[.int .i64 t.cells, .int .i64 t.rows, .float .f32 t.sl, .float .f32 t.le, .float .f32 t.sa, .slice vA (s.log.length + 1) vc]) rfl rfl Z.out (by kernel_rfl) rfl (by simp [Value.oneCell']) ?_; intro W13 hbZ h; have h0 : World.grownBy W12 W13 (some gZ) := (by refine World.grownBy.trans ?_ h; repeat (first | exact gr_refl _ _ | apply gr_drewN | apply gr_drew | apply gr_alloc)); clear cB0 cB1 cB2 cB3 cB4 cB5 cZ0 cZ1 cZ2 cZ3 cZ4 cZ5 cO0 cO1 cO2 cO3 cO4 cO5; have L_ := Az.mk (gr_new L.out h0 (by first | (simp; done) | (simp; omega) | omega)); have B_ := Az.mk (blkGr B.out h0 (by first | (simp; done) | (simp; omega) | omega)); have R_ := Az.mk (own_gr R.out h0 (by first | exact own_none _ | exact .inr hlZR.out | exact .inr (own_blk R.out B.out (by decide)) | exact .inr (own_blk R.out Z.out (by decide)) | exact .inr (own_blk R.out O.out (by decide)))); have O_ := Az.mk (blkGr O.out h0 (by first | (simp; done) | (simp; omega) | omega)); clear L B R O; have L := L_; clear L_; have B := B_; clear B_; have R := R_; clear R_; have O := O_; clear O_; clear h0 h; clear Z; have Z := Az.mk hbZ; clear hbZ; have cB0 : World.cell? W13 ⟨gB, 0, none⟩ = some (.int .i64 s.cells) := blkCell B.out 0; have cB1 : World.cell? W13 ⟨gB, 1, none⟩ = some (.int .i64 s.rows) := blkCell B.out 1; have cB2 : World.cell? W13 ⟨gB, 2, none⟩ = some (.float .f32 s.sl) := blkCell B.out 2; have cB3 : World.cell? W13 ⟨gB, 3, none⟩ = some (.float .f32 s.le) := blkCell B.out 3; have cB4 : World.cell? W13 ⟨gB, 4, none⟩ = some (.float .f32 s.sa) := blkCell B.out 4; have cB5 : World.cell? W13 ⟨gB, 5, none⟩ = some (.slice A n c) := blkCell B.out 5; have cZ0 : World.cell? W13 ⟨gZ, 0, none⟩ = some (.int .i64 t.cells) := blkCell Z.out 0; have cZ1 : World.cell? W13 ⟨gZ, 1, none⟩ = some (.int .i64 t.rows) := blkCell Z.out 1; have cZ2 : World.cell? W13 ⟨gZ, 2, none⟩ = some (.float .f32 t.sl) := blkCell Z.out 2; have cZ3 : World.cell? W13 ⟨gZ, 3, none⟩ = some (.float .f32 t.le) := blkCell Z.out 3; have cZ4 : World.cell? W13 ⟨gZ, 4, none⟩ = some (.float .f32 t.sa) := blkCell Z.out 4; have cZ5 : World.cell? W13 ⟨gZ, 5, none⟩ = some (.slice vA (s.log.length + 1) vc) := blkCell Z.out 5; have cO0 : World.cell? W13 ⟨gO, 0, none⟩ = some (.int .i64 t.cells) := blkCell O.out 0; have cO1 : World.cell? W13 ⟨gO, 1, none⟩ = some (.int .i64 t.rows) := blkCell O.out 1; have cO2 : World.cell? W13 ⟨gO, 2, none⟩ = some (.float .f32 t.sl) := blkCell O.out 2; have cO3 : World.cell? W13 ⟨gO, 3, none⟩ = some (.float .f32 t.le) := blkCell O.out 3; have cO4 : World.cell? W13 ⟨gO, 4, none⟩ = some (.float .f32 t.sa) := blkCell O.out 4; have cO5 : World.cell? W13 ⟨gO, 5, none⟩ = some (.slice vA (s.log.length + 1) vc) := blkCell O.out 5)))
  refine bodyPost_ret (results_ct (u := 5) rfl _ _ gZ 28 (t.cs (.slice vA (s.log.length + 1) vc)) _ rfl Z.out Tryd.underlying28 rfl (by kernel_rfl)) rfl ⟨.slice vA (s.log.length + 1) vc, ?_, ?_, L.out⟩
  · rw [HT.out]; rfl
  · rw [HT.out]
    show World.ownsRow _ _ _ _ _ (t.log ++ [Lib.join f [32]]).length (stV (t.log ++ [Lib.join f [32]]))
    rw [stV_snoc, List.length_append, HTL.out]; exact R.out
end Go.Proofs.YtfjafeepmpnegaaDoor
