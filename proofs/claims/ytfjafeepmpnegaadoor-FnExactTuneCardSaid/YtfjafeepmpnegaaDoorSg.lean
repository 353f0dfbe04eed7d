/- Contracts of impl.NewSet, tuned. Condition: the library's table is there. -/
import Derived.Test.YtfjafeepmpnegaaDoorSf
namespace Go.Proofs.YtfjafeepmpnegaaDoor
open Go.RowKit
set_option linter.unusedVariables false
set_option linter.unusedSimpArgs false

def zeroS : SetV := ⟨0, 0, 0, 0, 0, []⟩
def freshS (x y : Int) : SetV := ⟨x, y, 3250585600, 1040187392, 1065353216, []⟩
def newM (x y : Int) : Option SetV := if setOkM (freshS x y) = true then some (freshS x y) else none
def RetSetO (w : World) (o : Option SetV) (e : Ending) (w' : World) : Prop :=
  ∃ v, e = .returned (.tuple #[.agg ((o.getD zeroS).cs v), .bool o.isSome]) ∧ w'.ownsRow w.heap.size 9 1 v (o.getD zeroS).log.length (stV (o.getD zeroS).log) ∧ w.grownBy w' none
set_option maxHeartbeats 1000000 in
theorem NewSet_c (x y : Int) (w : World) : Calls Tryd.prog 39 #[.int .i64 x, .int .i64 y] w (RetSetO w (newM x y)) := by
  have L := Az.mk (gr_refl w none)
  go_enter Tryd.func39, Tryd.ntmps39
  go_wp2_with (first | ((with_reducible refine gateN 4 rfl ?_); go_must (refine ev_al 4 rfl rfl #[.int .i64 0, .int .i64 0, .float .f32 0, .float .f32 0, .float .f32 0, .slice none 0 0] 28 ?hr ?_; (case hr => first | (go_simp; done) | (go_simp; rfl)); intro gZ heZ W1 hbZ h; have hgZ : w.heap.size ≤ gZ := Nat.le_trans L.out.size heZ; clear heZ; have h0 : World.grownBy w W1 none := (by refine World.grownBy.trans ?_ h; repeat (first | exact gr_refl _ _ | apply gr_drewN | apply gr_drew | apply gr_alloc)); have L_ := Az.mk (gr_new L.out h0 (by first | (simp; done) | (simp; omega) | omega)); clear L; have L := L_; clear L_; clear h0 h; have Z := Az.mk hbZ; clear hbZ; have cZ0 : World.cell? W1 ⟨gZ, 0, none⟩ = some (.int .i64 0) := blkCell Z.out 0; have cZ1 : World.cell? W1 ⟨gZ, 1, none⟩ = some (.int .i64 0) := blkCell Z.out 1; have cZ2 : World.cell? W1 ⟨gZ, 2, none⟩ = some (.float .f32 0) := blkCell Z.out 2; have cZ3 : World.cell? W1 ⟨gZ, 3, none⟩ = some (.float .f32 0) := blkCell Z.out 3; have cZ4 : World.cell? W1 ⟨gZ, 4, none⟩ = some (.float .f32 0) := blkCell Z.out 4; have cZ5 : World.cell? W1 ⟨gZ, 5, none⟩ = some (.slice none 0 0) := blkCell Z.out 5)) | ((with_reducible refine gateN 6 rfl ?_); go_must (refine ev_al 6 rfl rfl #[.int .i64 0, .int .i64 0, .float .f32 0, .float .f32 0, .float .f32 0, .slice none 0 0] 28 ?hr ?_; (case hr => first | (go_simp; done) | (go_simp; rfl)); intro gB heB W2 hbB h; have hgB : w.heap.size ≤ gB := Nat.le_trans L.out.size heB; have hgBZ : gZ < gB := Nat.lt_of_lt_of_le (blkLt Z.out) heB; clear heB; have h0 : World.grownBy W1 W2 none := (by refine World.grownBy.trans ?_ h; repeat (first | exact gr_refl _ _ | apply gr_drewN | apply gr_drew | apply gr_alloc)); clear cZ0 cZ1 cZ2 cZ3 cZ4 cZ5; have L_ := Az.mk (gr_new L.out h0 (by first | (simp; done) | (simp; omega) | omega)); have Z_ := Az.mk (blkGr Z.out h0 (by first | (simp; done) | (simp; omega) | omega)); clear L Z; have L := L_; clear L_; have Z := Z_; clear Z_; clear h0 h; have B := Az.mk hbB; clear hbB; have cZ0 : World.cell? W2 ⟨gZ, 0, none⟩ = some (.int .i64 0) := blkCell Z.out 0; have cZ1 : World.cell? W2 ⟨gZ, 1, none⟩ = some (.int .i64 0) := blkCell Z.out 1; have cZ2 : World.cell? W2 ⟨gZ, 2, none⟩ = some (.float .f32 0) := blkCell Z.out 2; have cZ3 : World.cell? W2 ⟨gZ, 3, none⟩ = some (.float .f32 0) := blkCell Z.out 3; have cZ4 : World.cell? W2 ⟨gZ, 4, none⟩ = some (.float .f32 0) := blkCell Z.out 4; have cZ5 : World.cell? W2 ⟨gZ, 5, none⟩ = some (.slice none 0 0) := blkCell Z.out 5; have cB0 : World.cell? W2 ⟨gB, 0, none⟩ = some (.int .i64 0) := blkCell B.out 0; have cB1 : World.cell? W2 ⟨gB, 1, none⟩ = some (.int .i64 0) := blkCell B.out 1; have cB2 : World.cell? W2 ⟨gB, 2, none⟩ = some (.float .f32 0) := blkCell B.out 2; have cB3 : World.cell? W2 ⟨gB, 3, none⟩ = some (.float .f32 0) := blkCell B.out 3; have cB4 : World.cell? W2 ⟨gB, 4, none⟩ = some (.float .f32 0) := blkCell B.out 4; have cB5 : World.cell? W2 ⟨gB, 5, none⟩ = some (.slice none 0 0) := blkCell B.out 5)) | ((with_reducible refine gateSt 6 rfl ?_); go_must (refine ev_st rfl rfl rfl (cs := #[.int .i64 x, .int .i64 y, .float .f32 3250585600, .float .f32 1040187392, .float .f32 1065353216, .slice none 0 0]) rfl rfl B.out (by kernel_rfl) rfl (by simp [Value.oneCell']) ?_; intro W3 hbB h; have h0 : World.grownBy W2 W3 (some gB) := (by refine World.grownBy.trans ?_ h; repeat (first | exact gr_refl _ _ | apply gr_drewN | apply gr_drew | apply gr_alloc)); clear cZ0 cZ1 cZ2 cZ3 cZ4 cZ5 cB0 cB1 cB2 cB3 cB4 cB5; have L_ := Az.mk (gr_new L.out h0 (by first | (simp; done) | (simp; omega) | omega)); have Z_ := Az.mk (blkGr Z.out h0 (by first | (simp; done) | (simp; omega) | omega)); clear L Z; have L := L_; clear L_; have Z := Z_; clear Z_; clear h0 h; clear B; have B := Az.mk hbB; clear hbB; have cZ0 : World.cell? W3 ⟨gZ, 0, none⟩ = some (.int .i64 0) := blkCell Z.out 0; have cZ1 : World.cell? W3 ⟨gZ, 1, none⟩ = some (.int .i64 0) := blkCell Z.out 1; have cZ2 : World.cell? W3 ⟨gZ, 2, none⟩ = some (.float .f32 0) := blkCell Z.out 2; have cZ3 : World.cell? W3 ⟨gZ, 3, none⟩ = some (.float .f32 0) := blkCell Z.out 3; have cZ4 : World.cell? W3 ⟨gZ, 4, none⟩ = some (.float .f32 0) := blkCell Z.out 4; have cZ5 : World.cell? W3 ⟨gZ, 5, none⟩ = some (.slice none 0 0) := blkCell Z.out 5; have cB0 : World.cell? W3 ⟨gB, 0, none⟩ = some (.int .i64 x) := blkCell B.out 0; have cB1 : World.cell? W3 ⟨gB, 1, none⟩ = some (.int .i64 y) := blkCell B.out 1; have cB2 : World.cell? W3 ⟨gB, 2, none⟩ = some (.float .f32 3250585600) := blkCell B.out 2; have cB3 : World.cell? W3 ⟨gB, 3, none⟩ = some (.float .f32 1040187392) := blkCell B.out 3; have cB4 : World.cell? W3 ⟨gB, 4, none⟩ = some (.float .f32 1065353216) := blkCell B.out 4; have cB5 : World.cell? W3 ⟨gB, 5, none⟩ = some (.slice none 0 0) := blkCell B.out 5)) | ((with_reducible refine gateN 10 rfl ?_); go_must (refine ev_ld 10 rfl rfl rfl (cs := #[.int .i64 x, .int .i64 y, .float .f32 3250585600, .float .f32 1040187392, .float .f32 1065353216, .slice none 0 0]) rfl B.out Tryd.underlying28 rfl (by kernel_rfl) ?_)))
  refine (SetOk_c (freshS x y) none 0 0 rfl (by omega) _).mono ?_
  rintro e w1 ⟨rfl, h⟩
  have h0 : World.grownBy W3 w1 _ := (by refine World.grownBy.trans ?_ h; repeat (first | exact gr_refl _ _ | apply gr_drewN | apply gr_drew | apply gr_alloc))
  clear cZ0 cZ1 cZ2 cZ3 cZ4 cZ5 cB0 cB1 cB2 cB3 cB4 cB5
  have L_ := Az.mk (gr_new L.out h0 (by first | (simp; done) | (simp; omega) | omega))
  have Z_ := Az.mk (blkGr Z.out h0 (by first | (simp; done) | (simp; omega) | omega))
  have B_ := Az.mk (blkGr B.out h0 (by first | (simp; done) | (simp; omega) | omega))
  clear L Z B
  have L := L_; clear L_
  have Z := Z_; clear Z_
  have B := B_; clear B_
  clear h0 h
  have cZ0 : World.cell? w1 ⟨gZ, 0, none⟩ = some (.int .i64 0) := blkCell Z.out 0
  have cZ1 : World.cell? w1 ⟨gZ, 1, none⟩ = some (.int .i64 0) := blkCell Z.out 1
  have cZ2 : World.cell? w1 ⟨gZ, 2, none⟩ = some (.float .f32 0) := blkCell Z.out 2
  have cZ3 : World.cell? w1 ⟨gZ, 3, none⟩ = some (.float .f32 0) := blkCell Z.out 3
  have cZ4 : World.cell? w1 ⟨gZ, 4, none⟩ = some (.float .f32 0) := blkCell Z.out 4
  have cZ5 : World.cell? w1 ⟨gZ, 5, none⟩ = some (.slice none 0 0) := blkCell Z.out 5
  have cB0 : World.cell? w1 ⟨gB, 0, none⟩ = some (.int .i64 x) := blkCell B.out 0
  have cB1 : World.cell? w1 ⟨gB, 1, none⟩ = some (.int .i64 y) := blkCell B.out 1
  have cB2 : World.cell? w1 ⟨gB, 2, none⟩ = some (.float .f32 3250585600) := blkCell B.out 2
  have cB3 : World.cell? w1 ⟨gB, 3, none⟩ = some (.float .f32 1040187392) := blkCell B.out 3
  have cB4 : World.cell? w1 ⟨gB, 4, none⟩ = some (.float .f32 1065353216) := blkCell B.out 4
  have cB5 : World.cell? w1 ⟨gB, 5, none⟩ = some (.slice none 0 0) := blkCell B.out 5
  cases hok : setOkM (freshS x y) with
  | true =>
    have HN : Az (newM x y = some (freshS x y)) := ⟨by rw [newM, if_pos hok]⟩
    clear hok
    go_wp2_with (first | ((with_reducible refine gateN 14 rfl ?_); go_must (refine ev_ld 14 rfl rfl rfl (cs := #[.int .i64 x, .int .i64 y, .float .f32 3250585600, .float .f32 1040187392, .float .f32 1065353216, .slice none 0 0]) rfl B.out Tryd.underlying28 rfl (by kernel_rfl) ?_)) | ((with_reducible refine gateSt 4 rfl ?_); go_must (refine ev_st rfl rfl rfl (cs := #[.int .i64 x, .int .i64 y, .float .f32 3250585600, .float .f32 1040187392, .float .f32 1065353216, .slice none 0 0]) rfl rfl Z.out (by kernel_rfl) rfl (by simp [Value.oneCell']) ?_; intro W4 hbZ h; have h0 : World.grownBy w1 W4 (some gZ) := (by refine World.grownBy.trans ?_ h; repeat (first | exact gr_refl _ _ | apply gr_drewN | apply gr_drew | apply gr_alloc)); clear cZ0 cZ1 cZ2 cZ3 cZ4 cZ5 cB0 cB1 cB2 cB3 cB4 cB5; have L_ := Az.mk (gr_new L.out h0 (by first | (simp; done) | (simp; omega) | omega)); have B_ := Az.mk (blkGr B.out h0 (by first | (simp; done) | (simp; omega) | omega)); clear L B; have L := L_; clear L_; have B := B_; clear B_; clear h0 h; clear Z; have Z := Az.mk hbZ; clear hbZ; have cZ0 : World.cell? W4 ⟨gZ, 0, none⟩ = some (.int .i64 x) := blkCell Z.out 0; have cZ1 : World.cell? W4 ⟨gZ, 1, none⟩ = some (.int .i64 y) := blkCell Z.out 1; have cZ2 : World.cell? W4 ⟨gZ, 2, none⟩ = some (.float .f32 3250585600) := blkCell Z.out 2; have cZ3 : World.cell? W4 ⟨gZ, 3, none⟩ = some (.float .f32 1040187392) := blkCell Z.out 3; have cZ4 : World.cell? W4 ⟨gZ, 4, none⟩ = some (.float .f32 1065353216) := blkCell Z.out 4; have cZ5 : World.cell? W4 ⟨gZ, 5, none⟩ = some (.slice none 0 0) := blkCell Z.out 5; have cB0 : World.cell? W4 ⟨gB, 0, none⟩ = some (.int .i64 x) := blkCell B.out 0; have cB1 : World.cell? W4 ⟨gB, 1, none⟩ = some (.int .i64 y) := blkCell B.out 1; have cB2 : World.cell? W4 ⟨gB, 2, none⟩ = some (.float .f32 3250585600) := blkCell B.out 2; have cB3 : World.cell? W4 ⟨gB, 3, none⟩ = some (.float .f32 1040187392) := blkCell B.out 3; have cB4 : World.cell? W4 ⟨gB, 4, none⟩ = some (.float .f32 1065353216) := blkCell B.out 4; have cB5 : World.cell? W4 ⟨gB, 5, none⟩ = some (.slice none 0 0) := blkCell B.out 5)))
    refine bodyPost_ret (results_ct (u := 5) rfl _ _ gZ 28 ((freshS x y).cs (.slice none 0 0)) _ rfl Z.out Tryd.underlying28 rfl (by kernel_rfl)) rfl ⟨.slice none 0 0, ?_, ?_, L.out⟩
    · rw [HN.out]; rfl
    · rw [HN.out]; exact own_nil _ _ _ _
  | false =>
    have HN : Az (newM x y = none) := ⟨by rw [newM, if_neg (by rw [hok]; exact Bool.false_ne_true)]⟩
    clear hok
    go_wp2_with (first | ((with_reducible refine gateSt 4 rfl ?_); go_must (refine ev_st rfl rfl rfl (cs := #[.int .i64 0, .int .i64 0, .float .f32 0, .float .f32 0, .float .f32 0, .slice none 0 0]) rfl rfl Z.out (by kernel_rfl) rfl (by simp [Value.oneCell']) ?_; intro W5 hbZ h; have h0 : World.grownBy w1 W5 (some gZ) := (by refine World.grownBy.trans ?_ h; repeat (first | exact gr_refl _ _ | apply gr_drewN | apply gr_drew | apply gr_alloc)); clear cZ0 cZ1 cZ2 cZ3 cZ4 cZ5 cB0 cB1 cB2 cB3 cB4 cB5; have L_ := Az.mk (gr_new L.out h0 (by first | (simp; done) | (simp; omega) | omega)); have B_ := Az.mk (blkGr B.out h0 (by first | (simp; done) | (simp; omega) | omega)); clear L B; have L := L_; clear L_; have B := B_; clear B_; clear h0 h; clear Z; have Z := Az.mk hbZ; clear hbZ; have cZ0 : World.cell? W5 ⟨gZ, 0, none⟩ = some (.int .i64 0) := blkCell Z.out 0; have cZ1 : World.cell? W5 ⟨gZ, 1, none⟩ = some (.int .i64 0) := blkCell Z.out 1; have cZ2 : World.cell? W5 ⟨gZ, 2, none⟩ = some (.float .f32 0) := blkCell Z.out 2; have cZ3 : World.cell? W5 ⟨gZ, 3, none⟩ = some (.float .f32 0) := blkCell Z.out 3; have cZ4 : World.cell? W5 ⟨gZ, 4, none⟩ = some (.float .f32 0) := blkCell Z.out 4; have cZ5 : World.cell? W5 ⟨gZ, 5, none⟩ = some (.slice none 0 0) := blkCell Z.out 5; have cB0 : World.cell? W5 ⟨gB, 0, none⟩ = some (.int .i64 x) := blkCell B.out 0; have cB1 : World.cell? W5 ⟨gB, 1, none⟩ = some (.int .i64 y) := blkCell B.out 1; have cB2 : World.cell? W5 ⟨gB, 2, none⟩ = some (.float .f32 3250585600) := blkCell B.out 2; have cB3 : World.cell? W5 ⟨gB, 3, none⟩ = some (.float .f32 1040187392) := blkCell B.out 3; have cB4 : World.cell? W5 ⟨gB, 4, none⟩ = some (.float .f32 1065353216) := blkCell B.out 4; have cB5 : World.cell? W5 ⟨gB, 5, none⟩ = some (.slice none 0 0) := blkCell B.out 5)))
    refine bodyPost_ret (results_ct (u := 5) rfl _ _ gZ 28 (zeroS.cs (.slice none 0 0)) _ rfl Z.out Tryd.underlying28 rfl (by kernel_rfl)) rfl ⟨.slice none 0 0, ?_, ?_, L.out⟩
    · rw [HN.out]; rfl
    · rw [HN.out]; exact own_nil _ _ _ _
abbrev wSize : Tx := [115, 105, 122, 101]
abbrev wSlice : Tx := [115, 108, 105, 99, 101]
abbrev wKiller : Tx := [107, 105, 108, 108, 101, 114]
abbrev wSat : Tx := [115, 97, 116, 117, 114, 97, 116, 105, 111, 110]
def sizeM (s : SetV) : Option Nat → Option Nat → Option SetV
  | some x, some y => some { s with cells := x, rows := y }
  | _, _ => none
def partM (s : SetV) (a : Tx) (n : Int) : Option SetV :=
  if a = wSlice then some { s with sl := fixS n } else if a = wKiller then some { s with le := fixS n } else if a = wSat then some { s with sa := fixS n } else none
/-- A command of so many fields, done. -/
def doneM (s : SetV) : List Tx → Option SetV
  | [a, b, c] => if a = wSize then sizeM s (uintM b) (uintM c) else none
  | [a, b] => (parseM b).bind (partM s a)
  | _ => none
def RetTuned (s : SetV) (v : Value) (g : Nat) (f : List Tx) (w : World) (e : Ending) (w' : World) : Prop :=
  ∃ t : SetV, (∀ u, doneM s f = some u → t = u) ∧ t.log = s.log ∧ e = .returned (.bool (doneM s f).isSome) ∧ w'.heap[g]? = some (.cells (t.cs v) 28 (0, 0)) ∧ w.grownBy w' (some g)
set_option maxRecDepth 8000 in
set_option maxHeartbeats 4000000 in
theorem tuned_short (s : SetV) (A2 : Option Addr) (n2 c2 : Nat) (gB : Nat) (h8 : 8 ≤ gB) (A : Option Addr) (n c : Nat) (f : List Tx) (hf : f.length = n) (hn2 : n ≠ 2) (hn3 : n ≠ 3) (hm : n ≤ 9223372036854775807) (w : World) (hE : Env w) (hb : w.heap[gB]? = some (.cells (s.cs (.slice A2 n2 c2)) 28 (0, 0))) :
    Calls Tryd.prog 59 #[.pointer (some ⟨gB, 0, none⟩), .slice A n c] w (RetTuned s (.slice A2 n2 c2) gB f w) := by
  have L := Az.mk (gr_refl w (some gB))
  have HE := Az.mk hE
  have B := Az.mk hb
  have hgB := blkLt hb
  clear hE hb
  unfold SetV.cs at B
  have cB0 : World.cell? w ⟨gB, 0, none⟩ = some (.int .i64 s.cells) := blkCell B.out 0
  have cB1 : World.cell? w ⟨gB, 1, none⟩ = some (.int .i64 s.rows) := blkCell B.out 1
  have cB2 : World.cell? w ⟨gB, 2, none⟩ = some (.float .f32 s.sl) := blkCell B.out 2
  have cB3 : World.cell? w ⟨gB, 3, none⟩ = some (.float .f32 s.le) := blkCell B.out 3
  have cB4 : World.cell? w ⟨gB, 4, none⟩ = some (.float .f32 s.sa) := blkCell B.out 4
  have cB5 : World.cell? w ⟨gB, 5, none⟩ = some (.slice A2 n2 c2) := blkCell B.out 5
  have e2 : ((n : Int) != 2) = true := by simp; omega
  have e3 : ((n : Int) == 3) = false := by simp; omega
  have HD : Az (doneM s f = none) := ⟨by
    match f, hf with
    | [], _ => rfl
    | [_], _ => rfl
    | [_, _], h => simp at h; omega
    | [_, _, _], h => simp at h; omega
    | _ :: _ :: _ :: _ :: _, _ => rfl⟩
  clear hn2 hn3
  go_enter Tryd.func59, Tryd.ntmps59
  go_wp2_with fail
  go_ret
  exact ⟨s, fun u hu => (by rw [HD.out] at hu; cases hu), rfl, by rw [HD.out]; rfl, B.out, L.out⟩
set_option maxRecDepth 8000 in
set_option maxHeartbeats 4000000 in
theorem tuned_three_no (s : SetV) (A2 : Option Addr) (n2 c2 : Nat) (gB : Nat) (h8 : 8 ≤ gB) (b off c : Nat) (f0 f1 f2 : Tx) (hno : f0 ≠ wSize) (w : World) (hE : Env w) (hbg : b ≠ gB) (hd0 : w.cell? ⟨b, off, none⟩ = some (.string (tx f0))) (hd1 : w.cell? ⟨b, off + 1, none⟩ = some (.string (tx f1))) (hd2 : w.cell? ⟨b, off + 2, none⟩ = some (.string (tx f2))) (hb : w.heap[gB]? = some (.cells (s.cs (.slice A2 n2 c2)) 28 (0, 0))) :
    Calls Tryd.prog 59 #[.pointer (some ⟨gB, 0, none⟩), .slice (some ⟨b, off, none⟩) 3 c] w (RetTuned s (.slice A2 n2 c2) gB [f0, f1, f2] w) := by
  have L := Az.mk (gr_refl w (some gB))
  have HE := Az.mk hE
  have B := Az.mk hb
  have hgB := blkLt hb
  clear hE hb
  unfold SetV.cs at B
  have cB0 : World.cell? w ⟨gB, 0, none⟩ = some (.int .i64 s.cells) := blkCell B.out 0
  have cB1 : World.cell? w ⟨gB, 1, none⟩ = some (.int .i64 s.rows) := blkCell B.out 1
  have cB2 : World.cell? w ⟨gB, 2, none⟩ = some (.float .f32 s.sl) := blkCell B.out 2
  have cB3 : World.cell? w ⟨gB, 3, none⟩ = some (.float .f32 s.le) := blkCell B.out 3
  have cB4 : World.cell? w ⟨gB, 4, none⟩ = some (.float .f32 s.sa) := blkCell B.out 4
  have cB5 : World.cell? w ⟨gB, 5, none⟩ = some (.slice A2 n2 c2) := blkCell B.out 5
  have HNE : Az (some b ≠ some gB) := ⟨by simp [hbg]⟩
  have HD0 := Az.mk hd0
  have HD1 := Az.mk hd1
  have HD : Az (doneM s [f0, f1, f2] = none) := ⟨by simp [doneM, hno]⟩
  have hb1 : (f0 == [115, 105, 122, 101]) = false := by simpa using hno
  clear hno hbg
  go_enter Tryd.func59, Tryd.ntmps59
  go_wp2_with fail
  go_ret
  exact ⟨s, fun u hu => (by rw [HD.out] at hu; cases hu), rfl, by rw [HD.out]; rfl, B.out, L.out⟩
set_option maxRecDepth 8000 in
set_option maxHeartbeats 4000000 in
theorem tuned_three_yes (s : SetV) (A2 : Option Addr) (n2 c2 : Nat) (gB : Nat) (h8 : 8 ≤ gB) (b off c : Nat) (f0 f1 f2 : Tx) (hyes : f0 = wSize) (hl1 : f1.length ≤ 600) (hl2 : f2.length ≤ 600) (w : World) (hE : Env w) (hbg : b ≠ gB) (hd0 : w.cell? ⟨b, off, none⟩ = some (.string (tx f0))) (hd1 : w.cell? ⟨b, off + 1, none⟩ = some (.string (tx f1))) (hd2 : w.cell? ⟨b, off + 2, none⟩ = some (.string (tx f2))) (hb : w.heap[gB]? = some (.cells (s.cs (.slice A2 n2 c2)) 28 (0, 0))) :
    Calls Tryd.prog 59 #[.pointer (some ⟨gB, 0, none⟩), .slice (some ⟨b, off, none⟩) 3 c] w (RetTuned s (.slice A2 n2 c2) gB [f0, f1, f2] w) := by
  have L := Az.mk (gr_refl w (some gB))
  have HE := Az.mk hE
  have B := Az.mk hb
  have hgB := blkLt hb
  clear hE hb
  unfold SetV.cs at B
  have cB0 : World.cell? w ⟨gB, 0, none⟩ = some (.int .i64 s.cells) := blkCell B.out 0
  have cB1 : World.cell? w ⟨gB, 1, none⟩ = some (.int .i64 s.rows) := blkCell B.out 1
  have cB2 : World.cell? w ⟨gB, 2, none⟩ = some (.float .f32 s.sl) := blkCell B.out 2
  have cB3 : World.cell? w ⟨gB, 3, none⟩ = some (.float .f32 s.le) := blkCell B.out 3
  have cB4 : World.cell? w ⟨gB, 4, none⟩ = some (.float .f32 s.sa) := blkCell B.out 4
  have cB5 : World.cell? w ⟨gB, 5, none⟩ = some (.slice A2 n2 c2) := blkCell B.out 5
  have HNE : Az (some b ≠ some gB) := ⟨by simp [hbg]⟩
  have HD0 := Az.mk hd0
  have HD1 := Az.mk hd1
  have HD2 := Az.mk hd2
  have HD : Az (doneM s [f0, f1, f2] = sizeM s (uintM f1) (uintM f2)) := ⟨by simp [doneM, hyes]⟩
  have hb1 : (f0 == [115, 105, 122, 101]) = true := by simpa using hyes
  clear hyes hbg hd0 hd1 hd2
  have d0 := cellGr L.out HD0.out HNE.out
  have d1 := cellGr L.out HD1.out HNE.out
  have d2 := cellGr L.out HD2.out HNE.out
  go_enter Tryd.func59, Tryd.ntmps59
  go_wp2_with fail
  refine (ParseUint_c f1 (by omega) _ (HE.out.cur L.out h8)).mono ?_
  rintro e w1 ⟨rfl, h⟩
  have h0 : World.grownBy w w1 _ := (by refine World.grownBy.trans ?_ h; repeat (first | exact gr_refl _ _ | apply gr_drewN | apply gr_drew | apply gr_alloc))
  clear cB0 cB1 cB2 cB3 cB4 cB5 d0 d1 d2
  have L_ := Az.mk (gr_new L.out h0 (by first | (simp; done) | (simp; omega) | omega))
  have B_ := Az.mk (blkGr B.out h0 (by first | (simp; done) | (simp; omega) | omega))
  clear L B
  have L := L_; clear L_
  have B := B_; clear B_
  clear h0 h
  have d0 := cellGr L.out HD0.out HNE.out
  have d1 := cellGr L.out HD1.out HNE.out
  have d2 := cellGr L.out HD2.out HNE.out
  have cB0 : World.cell? w1 ⟨gB, 0, none⟩ = some (.int .i64 s.cells) := blkCell B.out 0
  have cB1 : World.cell? w1 ⟨gB, 1, none⟩ = some (.int .i64 s.rows) := blkCell B.out 1
  have cB2 : World.cell? w1 ⟨gB, 2, none⟩ = some (.float .f32 s.sl) := blkCell B.out 2
  have cB3 : World.cell? w1 ⟨gB, 3, none⟩ = some (.float .f32 s.le) := blkCell B.out 3
  have cB4 : World.cell? w1 ⟨gB, 4, none⟩ = some (.float .f32 s.sa) := blkCell B.out 4
  have cB5 : World.cell? w1 ⟨gB, 5, none⟩ = some (.slice A2 n2 c2) := blkCell B.out 5
  go_wp2_with fail
  refine (ParseUint_c f2 (by omega) _ (HE.out.cur L.out h8)).mono ?_
  rintro e w2 ⟨rfl, h⟩
  have h0 : World.grownBy w1 w2 _ := (by refine World.grownBy.trans ?_ h; repeat (first | exact gr_refl _ _ | apply gr_drewN | apply gr_drew | apply gr_alloc))
  clear cB0 cB1 cB2 cB3 cB4 cB5 d0 d1 d2
  have L_ := Az.mk (gr_new L.out h0 (by first | (simp; done) | (simp; omega) | omega))
  have B_ := Az.mk (blkGr B.out h0 (by first | (simp; done) | (simp; omega) | omega))
  clear L B
  have L := L_; clear L_
  have B := B_; clear B_
  clear h0 h
  have d0 := cellGr L.out HD0.out HNE.out
  have d1 := cellGr L.out HD1.out HNE.out
  have d2 := cellGr L.out HD2.out HNE.out
  have cB0 : World.cell? w2 ⟨gB, 0, none⟩ = some (.int .i64 s.cells) := blkCell B.out 0
  have cB1 : World.cell? w2 ⟨gB, 1, none⟩ = some (.int .i64 s.rows) := blkCell B.out 1
  have cB2 : World.cell? w2 ⟨gB, 2, none⟩ = some (.float .f32 s.sl) := blkCell B.out 2
  have cB3 : World.cell? w2 ⟨gB, 3, none⟩ = some (.float .f32 s.le) := blkCell B.out 3
  have cB4 : World.cell? w2 ⟨gB, 4, none⟩ = some (.float .f32 s.sa) := blkCell B.out 4
  have cB5 : World.cell? w2 ⟨gB, 5, none⟩ = some (.slice A2 n2 c2) := blkCell B.out 5
  clear d0 d1 d2
  have HS : Az (doneM s [f0, f1, f2] = sizeM s (uintM f1) (uintM f2)) := HD
  obtain ⟨o1, ho1⟩ : ∃ o, uintM f1 = o := ⟨_, rfl⟩
  obtain ⟨o2, ho2⟩ : ∃ o, uintM f2 = o := ⟨_, rfl⟩
  rw [ho1, ho2]
  rw [ho1, ho2] at HD HS
  clear ho1 ho2
  rcases o1 with _ | x <;> rcases o2 with _ | y
  · have hnop := True.intro
    clear hnop
    go_wp2_with (first | ((with_reducible refine gateSt 40 rfl ?_); go_must (refine ev_st1 rfl rfl rfl (i := 0) (v := .int .i64 (0 : Int)) rfl rfl B.out (by kernel_rfl) rfl (by simp) ?_; intro W1 hbB h; have h0 : World.grownBy w2 W1 (some gB) := (by refine World.grownBy.trans ?_ h; repeat (first | exact gr_refl _ _ | apply gr_drewN | apply gr_drew | apply gr_alloc)); clear cB0 cB1 cB2 cB3 cB4 cB5; have L_ := Az.mk (gr_new L.out h0 (by first | (simp; done) | (simp; omega) | omega)); clear L; have L := L_; clear L_; clear h0 h; simp only [List.setIfInBounds_toArray, List.set_cons_zero, List.set_cons_succ] at hbB; clear B; have B := Az.mk hbB; clear hbB; have cB0 : World.cell? W1 ⟨gB, 0, none⟩ = some (.int .i64 (0 : Int)) := blkCell B.out 0; have cB1 : World.cell? W1 ⟨gB, 1, none⟩ = some (.int .i64 s.rows) := blkCell B.out 1; have cB2 : World.cell? W1 ⟨gB, 2, none⟩ = some (.float .f32 s.sl) := blkCell B.out 2; have cB3 : World.cell? W1 ⟨gB, 3, none⟩ = some (.float .f32 s.le) := blkCell B.out 3; have cB4 : World.cell? W1 ⟨gB, 4, none⟩ = some (.float .f32 s.sa) := blkCell B.out 4; have cB5 : World.cell? W1 ⟨gB, 5, none⟩ = some (.slice A2 n2 c2) := blkCell B.out 5)) | ((with_reducible refine gateSt 42 rfl ?_); go_must (refine ev_st1 rfl rfl rfl (i := 1) (v := .int .i64 (0 : Int)) rfl rfl B.out (by kernel_rfl) rfl (by simp) ?_; intro W2 hbB h; have h0 : World.grownBy W1 W2 (some gB) := (by refine World.grownBy.trans ?_ h; repeat (first | exact gr_refl _ _ | apply gr_drewN | apply gr_drew | apply gr_alloc)); clear cB0 cB1 cB2 cB3 cB4 cB5; have L_ := Az.mk (gr_new L.out h0 (by first | (simp; done) | (simp; omega) | omega)); clear L; have L := L_; clear L_; clear h0 h; simp only [List.setIfInBounds_toArray, List.set_cons_zero, List.set_cons_succ] at hbB; clear B; have B := Az.mk hbB; clear hbB; have cB0 : World.cell? W2 ⟨gB, 0, none⟩ = some (.int .i64 (0 : Int)) := blkCell B.out 0; have cB1 : World.cell? W2 ⟨gB, 1, none⟩ = some (.int .i64 (0 : Int)) := blkCell B.out 1; have cB2 : World.cell? W2 ⟨gB, 2, none⟩ = some (.float .f32 s.sl) := blkCell B.out 2; have cB3 : World.cell? W2 ⟨gB, 3, none⟩ = some (.float .f32 s.le) := blkCell B.out 3; have cB4 : World.cell? W2 ⟨gB, 4, none⟩ = some (.float .f32 s.sa) := blkCell B.out 4; have cB5 : World.cell? W2 ⟨gB, 5, none⟩ = some (.slice A2 n2 c2) := blkCell B.out 5)))
    go_ret
    exact ⟨{ s with cells := 0, rows := 0 }, fun u hu => (by rw [HD.out] at hu; cases hu), rfl, by rw [HD.out]; rfl, B.out, L.out⟩
  · have hnop := True.intro
    clear hnop
    go_wp2_with (first | ((with_reducible refine gateSt 40 rfl ?_); go_must (refine ev_st1 rfl rfl rfl (i := 0) (v := .int .i64 (0 : Int)) rfl rfl B.out (by kernel_rfl) rfl (by simp) ?_; intro W3 hbB h; have h0 : World.grownBy w2 W3 (some gB) := (by refine World.grownBy.trans ?_ h; repeat (first | exact gr_refl _ _ | apply gr_drewN | apply gr_drew | apply gr_alloc)); clear cB0 cB1 cB2 cB3 cB4 cB5; have L_ := Az.mk (gr_new L.out h0 (by first | (simp; done) | (simp; omega) | omega)); clear L; have L := L_; clear L_; clear h0 h; simp only [List.setIfInBounds_toArray, List.set_cons_zero, List.set_cons_succ] at hbB; clear B; have B := Az.mk hbB; clear hbB; have cB0 : World.cell? W3 ⟨gB, 0, none⟩ = some (.int .i64 (0 : Int)) := blkCell B.out 0; have cB1 : World.cell? W3 ⟨gB, 1, none⟩ = some (.int .i64 s.rows) := blkCell B.out 1; have cB2 : World.cell? W3 ⟨gB, 2, none⟩ = some (.float .f32 s.sl) := blkCell B.out 2; have cB3 : World.cell? W3 ⟨gB, 3, none⟩ = some (.float .f32 s.le) := blkCell B.out 3; have cB4 : World.cell? W3 ⟨gB, 4, none⟩ = some (.float .f32 s.sa) := blkCell B.out 4; have cB5 : World.cell? W3 ⟨gB, 5, none⟩ = some (.slice A2 n2 c2) := blkCell B.out 5)) | ((with_reducible refine gateSt 42 rfl ?_); go_must (refine ev_st1 rfl rfl rfl (i := 1) (v := .int .i64 (y : Int)) rfl rfl B.out (by kernel_rfl) rfl (by simp) ?_; intro W4 hbB h; have h0 : World.grownBy W3 W4 (some gB) := (by refine World.grownBy.trans ?_ h; repeat (first | exact gr_refl _ _ | apply gr_drewN | apply gr_drew | apply gr_alloc)); clear cB0 cB1 cB2 cB3 cB4 cB5; have L_ := Az.mk (gr_new L.out h0 (by first | (simp; done) | (simp; omega) | omega)); clear L; have L := L_; clear L_; clear h0 h; simp only [List.setIfInBounds_toArray, List.set_cons_zero, List.set_cons_succ] at hbB; clear B; have B := Az.mk hbB; clear hbB; have cB0 : World.cell? W4 ⟨gB, 0, none⟩ = some (.int .i64 (0 : Int)) := blkCell B.out 0; have cB1 : World.cell? W4 ⟨gB, 1, none⟩ = some (.int .i64 (y : Int)) := blkCell B.out 1; have cB2 : World.cell? W4 ⟨gB, 2, none⟩ = some (.float .f32 s.sl) := blkCell B.out 2; have cB3 : World.cell? W4 ⟨gB, 3, none⟩ = some (.float .f32 s.le) := blkCell B.out 3; have cB4 : World.cell? W4 ⟨gB, 4, none⟩ = some (.float .f32 s.sa) := blkCell B.out 4; have cB5 : World.cell? W4 ⟨gB, 5, none⟩ = some (.slice A2 n2 c2) := blkCell B.out 5)))
    go_ret
    exact ⟨{ s with cells := 0, rows := y }, fun u hu => (by rw [HD.out] at hu; cases hu), rfl, by rw [HD.out]; rfl, B.out, L.out⟩
  · have hnop := True.intro
    clear hnop
    go_wp2_with (first | ((with_reducible refine gateSt 40 rfl ?_); go_must (refine ev_st1 rfl rfl rfl (i := 0) (v := .int .i64 (x : Int)) rfl rfl B.out (by kernel_rfl) rfl (by simp) ?_; intro W5 hbB h; have h0 : World.grownBy w2 W5 (some gB) := (by refine World.grownBy.trans ?_ h; repeat (first | exact gr_refl _ _ | apply gr_drewN | apply gr_drew | apply gr_alloc)); clear cB0 cB1 cB2 cB3 cB4 cB5; have L_ := Az.mk (gr_new L.out h0 (by first | (simp; done) | (simp; omega) | omega)); clear L; have L := L_; clear L_; clear h0 h; simp only [List.setIfInBounds_toArray, List.set_cons_zero, List.set_cons_succ] at hbB; clear B; have B := Az.mk hbB; clear hbB; have cB0 : World.cell? W5 ⟨gB, 0, none⟩ = some (.int .i64 (x : Int)) := blkCell B.out 0; have cB1 : World.cell? W5 ⟨gB, 1, none⟩ = some (.int .i64 s.rows) := blkCell B.out 1; have cB2 : World.cell? W5 ⟨gB, 2, none⟩ = some (.float .f32 s.sl) := blkCell B.out 2; have cB3 : World.cell? W5 ⟨gB, 3, none⟩ = some (.float .f32 s.le) := blkCell B.out 3; have cB4 : World.cell? W5 ⟨gB, 4, none⟩ = some (.float .f32 s.sa) := blkCell B.out 4; have cB5 : World.cell? W5 ⟨gB, 5, none⟩ = some (.slice A2 n2 c2) := blkCell B.out 5)) | ((with_reducible refine gateSt 42 rfl ?_); go_must (refine ev_st1 rfl rfl rfl (i := 1) (v := .int .i64 (0 : Int)) rfl rfl B.out (by kernel_rfl) rfl (by simp) ?_; intro W6 hbB h; have h0 : World.grownBy W5 W6 (some gB) := (by refine World.grownBy.trans ?_ h; repeat (first | exact gr_refl _ _ | apply gr_drewN | apply gr_drew | apply gr_alloc)); clear cB0 cB1 cB2 cB3 cB4 cB5; have L_ := Az.mk (gr_new L.out h0 (by first | (simp; done) | (simp; omega) | omega)); clear L; have L := L_; clear L_; clear h0 h; simp only [List.setIfInBounds_toArray, List.set_cons_zero, List.set_cons_succ] at hbB; clear B; have B := Az.mk hbB; clear hbB; have cB0 : World.cell? W6 ⟨gB, 0, none⟩ = some (.int .i64 (x : Int)) := blkCell B.out 0; have cB1 : World.cell? W6 ⟨gB, 1, none⟩ = some (.int .i64 (0 : Int)) := blkCell B.out 1; have cB2 : World.cell? W6 ⟨gB, 2, none⟩ = some (.float .f32 s.sl) := blkCell B.out 2; have cB3 : World.cell? W6 ⟨gB, 3, none⟩ = some (.float .f32 s.le) := blkCell B.out 3; have cB4 : World.cell? W6 ⟨gB, 4, none⟩ = some (.float .f32 s.sa) := blkCell B.out 4; have cB5 : World.cell? W6 ⟨gB, 5, none⟩ = some (.slice A2 n2 c2) := blkCell B.out 5)))
    go_ret
    exact ⟨{ s with cells := x, rows := 0 }, fun u hu => (by rw [HD.out] at hu; cases hu), rfl, by rw [HD.out]; rfl, B.out, L.out⟩
  · have hnop := True.intro
    clear hnop
    go_wp2_with (first | ((with_reducible refine gateSt 40 rfl ?_); go_must (refine ev_st1 rfl rfl rfl (i := 0) (v := .int .i64 (x : Int)) rfl rfl B.out (by kernel_rfl) rfl (by simp) ?_; intro W7 hbB h; have h0 : World.grownBy w2 W7 (some gB) := (by refine World.grownBy.trans ?_ h; repeat (first | exact gr_refl _ _ | apply gr_drewN | apply gr_drew | apply gr_alloc)); clear cB0 cB1 cB2 cB3 cB4 cB5; have L_ := Az.mk (gr_new L.out h0 (by first | (simp; done) | (simp; omega) | omega)); clear L; have L := L_; clear L_; clear h0 h; simp only [List.setIfInBounds_toArray, List.set_cons_zero, List.set_cons_succ] at hbB; clear B; have B := Az.mk hbB; clear hbB; have cB0 : World.cell? W7 ⟨gB, 0, none⟩ = some (.int .i64 (x : Int)) := blkCell B.out 0; have cB1 : World.cell? W7 ⟨gB, 1, none⟩ = some (.int .i64 s.rows) := blkCell B.out 1; have cB2 : World.cell? W7 ⟨gB, 2, none⟩ = some (.float .f32 s.sl) := blkCell B.out 2; have cB3 : World.cell? W7 ⟨gB, 3, none⟩ = some (.float .f32 s.le) := blkCell B.out 3; have cB4 : World.cell? W7 ⟨gB, 4, none⟩ = some (.float .f32 s.sa) := blkCell B.out 4; have cB5 : World.cell? W7 ⟨gB, 5, none⟩ = some (.slice A2 n2 c2) := blkCell B.out 5)) | ((with_reducible refine gateSt 42 rfl ?_); go_must (refine ev_st1 rfl rfl rfl (i := 1) (v := .int .i64 (y : Int)) rfl rfl B.out (by kernel_rfl) rfl (by simp) ?_; intro W8 hbB h; have h0 : World.grownBy W7 W8 (some gB) := (by refine World.grownBy.trans ?_ h; repeat (first | exact gr_refl _ _ | apply gr_drewN | apply gr_drew | apply gr_alloc)); clear cB0 cB1 cB2 cB3 cB4 cB5; have L_ := Az.mk (gr_new L.out h0 (by first | (simp; done) | (simp; omega) | omega)); clear L; have L := L_; clear L_; clear h0 h; simp only [List.setIfInBounds_toArray, List.set_cons_zero, List.set_cons_succ] at hbB; clear B; have B := Az.mk hbB; clear hbB; have cB0 : World.cell? W8 ⟨gB, 0, none⟩ = some (.int .i64 (x : Int)) := blkCell B.out 0; have cB1 : World.cell? W8 ⟨gB, 1, none⟩ = some (.int .i64 (y : Int)) := blkCell B.out 1; have cB2 : World.cell? W8 ⟨gB, 2, none⟩ = some (.float .f32 s.sl) := blkCell B.out 2; have cB3 : World.cell? W8 ⟨gB, 3, none⟩ = some (.float .f32 s.le) := blkCell B.out 3; have cB4 : World.cell? W8 ⟨gB, 4, none⟩ = some (.float .f32 s.sa) := blkCell B.out 4; have cB5 : World.cell? W8 ⟨gB, 5, none⟩ = some (.slice A2 n2 c2) := blkCell B.out 5)))
    go_ret
    exact ⟨{ s with cells := x, rows := y }, fun u hu => (by rw [HD.out] at hu; exact (Option.some.inj hu)), rfl, by rw [HD.out]; rfl, B.out, L.out⟩
set_option maxRecDepth 8000 in
set_option maxHeartbeats 4000000 in
theorem tuned_two (s : SetV) (A2 : Option Addr) (n2 c2 : Nat) (gB : Nat) (h8 : 8 ≤ gB) (b off c : Nat) (f0 f1 : Tx) (hl1 : f1.length ≤ 600) (w : World) (hE : Env w) (hbg : b ≠ gB) (hd0 : w.cell? ⟨b, off, none⟩ = some (.string (tx f0))) (hd1 : w.cell? ⟨b, off + 1, none⟩ = some (.string (tx f1))) (hb : w.heap[gB]? = some (.cells (s.cs (.slice A2 n2 c2)) 28 (0, 0))) :
    Calls Tryd.prog 59 #[.pointer (some ⟨gB, 0, none⟩), .slice (some ⟨b, off, none⟩) 2 c] w (RetTuned s (.slice A2 n2 c2) gB [f0, f1] w) := by
  have L := Az.mk (gr_refl w (some gB))
  have HE := Az.mk hE
  have B := Az.mk hb
  have hgB := blkLt hb
  clear hE hb
  unfold SetV.cs at B
  have cB0 : World.cell? w ⟨gB, 0, none⟩ = some (.int .i64 s.cells) := blkCell B.out 0
  have cB1 : World.cell? w ⟨gB, 1, none⟩ = some (.int .i64 s.rows) := blkCell B.out 1
  have cB2 : World.cell? w ⟨gB, 2, none⟩ = some (.float .f32 s.sl) := blkCell B.out 2
  have cB3 : World.cell? w ⟨gB, 3, none⟩ = some (.float .f32 s.le) := blkCell B.out 3
  have cB4 : World.cell? w ⟨gB, 4, none⟩ = some (.float .f32 s.sa) := blkCell B.out 4
  have cB5 : World.cell? w ⟨gB, 5, none⟩ = some (.slice A2 n2 c2) := blkCell B.out 5
  have HNE : Az (some b ≠ some gB) := ⟨by simp [hbg]⟩
  have HD0 := Az.mk hd0
  have HD1 := Az.mk hd1
  have HD : Az (doneM s [f0, f1] = (parseM f1).bind (partM s f0)) := ⟨rfl⟩
  clear hbg hd0 hd1
  have d0 := cellGr L.out HD0.out HNE.out
  have d1 := cellGr L.out HD1.out HNE.out
  go_enter Tryd.func59, Tryd.ntmps59
  go_wp2_with fail
  refine (ParseFixed_c f1 (by omega) _ (HE.out.cur L.out h8)).mono ?_
  rintro e w1 ⟨rfl, h⟩
  have h0 : World.grownBy w w1 _ := (by refine World.grownBy.trans ?_ h; repeat (first | exact gr_refl _ _ | apply gr_drewN | apply gr_drew | apply gr_alloc))
  clear cB0 cB1 cB2 cB3 cB4 cB5 d0 d1
  have L_ := Az.mk (gr_new L.out h0 (by first | (simp; done) | (simp; omega) | omega))
  have B_ := Az.mk (blkGr B.out h0 (by first | (simp; done) | (simp; omega) | omega))
  clear L B
  have L := L_; clear L_
  have B := B_; clear B_
  clear h0 h
  have d0 := cellGr L.out HD0.out HNE.out
  have d1 := cellGr L.out HD1.out HNE.out
  have cB0 : World.cell? w1 ⟨gB, 0, none⟩ = some (.int .i64 s.cells) := blkCell B.out 0
  have cB1 : World.cell? w1 ⟨gB, 1, none⟩ = some (.int .i64 s.rows) := blkCell B.out 1
  have cB2 : World.cell? w1 ⟨gB, 2, none⟩ = some (.float .f32 s.sl) := blkCell B.out 2
  have cB3 : World.cell? w1 ⟨gB, 3, none⟩ = some (.float .f32 s.le) := blkCell B.out 3
  have cB4 : World.cell? w1 ⟨gB, 4, none⟩ = some (.float .f32 s.sa) := blkCell B.out 4
  have cB5 : World.cell? w1 ⟨gB, 5, none⟩ = some (.slice A2 n2 c2) := blkCell B.out 5
  obtain ⟨o1, ho1⟩ : ∃ o, parseM f1 = o := ⟨_, rfl⟩
  have hin : -1000000000 ≤ o1.getD 0 ∧ o1.getD 0 ≤ 1000000000 := by
    rw [← ho1]
    cases hp : parseM f1 with
    | none => exact ⟨by decide, by decide⟩
    | some n => exact (parseM_some.1 hp).1
  rw [ho1]
  rw [ho1] at HD
  clear ho1
  obtain ⟨n, hn⟩ : ∃ n, o1.getD 0 = n := ⟨_, rfl⟩
  obtain ⟨k, hk⟩ : ∃ k, o1.isSome = k := ⟨_, rfl⟩
  rw [hn] at hin
  obtain ⟨hin1, hin2⟩ := hin
  rw [hn, hk]
  have HO : Az (o1 = if k then some n else none) := ⟨by subst hn; subst hk; cases o1 <;> rfl⟩
  clear hn hk
  go_wp2_with fail
  refine (FromFixed_c n hin1 hin2 _).mono ?_
  rintro e w2 ⟨d, hfd, rfl, h⟩
  have h0 : World.grownBy w1 w2 _ := (by refine World.grownBy.trans ?_ h; repeat (first | exact gr_refl _ _ | apply gr_drewN | apply gr_drew | apply gr_alloc))
  clear cB0 cB1 cB2 cB3 cB4 cB5 d0 d1
  have L_ := Az.mk (gr_new L.out h0 (by first | (simp; done) | (simp; omega) | omega))
  have B_ := Az.mk (blkGr B.out h0 (by first | (simp; done) | (simp; omega) | omega))
  clear L B
  have L := L_; clear L_
  have B := B_; clear B_
  clear h0 h
  have d0 := cellGr L.out HD0.out HNE.out
  have d1 := cellGr L.out HD1.out HNE.out
  have cB0 : World.cell? w2 ⟨gB, 0, none⟩ = some (.int .i64 s.cells) := blkCell B.out 0
  have cB1 : World.cell? w2 ⟨gB, 1, none⟩ = some (.int .i64 s.rows) := blkCell B.out 1
  have cB2 : World.cell? w2 ⟨gB, 2, none⟩ = some (.float .f32 s.sl) := blkCell B.out 2
  have cB3 : World.cell? w2 ⟨gB, 3, none⟩ = some (.float .f32 s.le) := blkCell B.out 3
  have cB4 : World.cell? w2 ⟨gB, 4, none⟩ = some (.float .f32 s.sa) := blkCell B.out 4
  have cB5 : World.cell? w2 ⟨gB, 5, none⟩ = some (.slice A2 n2 c2) := blkCell B.out 5
  have HFD := Az.mk hfd
  clear hfd
  obtain ⟨d', hd', hsd, hsn⟩ := fix_some n hin1 hin2
  have hdd : d' = d := by rw [HFD.out] at hd'; exact (Option.some.inj hd').symm
  subst hdd
  have HSD := Az.mk hsd
  clear hd' hsd hsn
  by_cases h0 : f0 = wSlice
  · have e0 : (f0 == [115, 108, 105, 99, 101]) = true := by simpa using h0
    have HP : Az (partM s f0 n = some { s with sl := fixS n }) := ⟨by unfold partM; rw [if_pos h0]⟩
    clear h0
    clear d0 d1
    have d0 := cellGr L.out HD0.out HNE.out
    go_wp2_with (first | ((with_reducible refine gateN 59 rfl ?_); go_must (refine ev_cv 59 rfl rfl rfl rfl (by rw [Tryd.underlying63]; rfl) Tryd.underlying22 ?_; intro b59 W1 hb59 hc59 h; have HF59 := Az.mk hb59; have HG59 := Az.mk hc59; clear hb59 hc59; have h0 : World.grownBy w2 W1 none := (by refine World.grownBy.trans ?_ h; repeat (first | exact gr_refl _ _ | apply gr_drewN | apply gr_drew | apply gr_alloc)); clear cB0 cB1 cB2 cB3 cB4 cB5 d0; have L_ := Az.mk (gr_new L.out h0 (by first | (simp; done) | (simp; omega) | omega)); have B_ := Az.mk (blkGr B.out h0 (by first | (simp; done) | (simp; omega) | omega)); clear L B; have L := L_; clear L_; have B := B_; clear B_; clear h0 h; have d0 := cellGr L.out HD0.out HNE.out; have cB0 : World.cell? W1 ⟨gB, 0, none⟩ = some (.int .i64 s.cells) := blkCell B.out 0; have cB1 : World.cell? W1 ⟨gB, 1, none⟩ = some (.int .i64 s.rows) := blkCell B.out 1; have cB2 : World.cell? W1 ⟨gB, 2, none⟩ = some (.float .f32 s.sl) := blkCell B.out 2; have cB3 : World.cell? W1 ⟨gB, 3, none⟩ = some (.float .f32 s.le) := blkCell B.out 3; have cB4 : World.cell? W1 ⟨gB, 4, none⟩ = some (.float .f32 s.sa) := blkCell B.out 4; have cB5 : World.cell? W1 ⟨gB, 5, none⟩ = some (.slice A2 n2 c2) := blkCell B.out 5)) | ((with_reducible refine gateSt 68 rfl ?_); go_must (refine ev_st1 rfl rfl rfl (i := 2) (v := .float .f32 b59) rfl rfl B.out (by kernel_rfl) rfl (by simp) ?_; intro W2 hbB h; have h0 : World.grownBy W1 W2 (some gB) := (by refine World.grownBy.trans ?_ h; repeat (first | exact gr_refl _ _ | apply gr_drewN | apply gr_drew | apply gr_alloc)); clear cB0 cB1 cB2 cB3 cB4 cB5 d0; have L_ := Az.mk (gr_new L.out h0 (by first | (simp; done) | (simp; omega) | omega)); clear L; have L := L_; clear L_; clear h0 h; simp only [List.setIfInBounds_toArray, List.set_cons_zero, List.set_cons_succ] at hbB; clear B; have B := Az.mk hbB; clear hbB; have d0 := cellGr L.out HD0.out HNE.out; have cB0 : World.cell? W2 ⟨gB, 0, none⟩ = some (.int .i64 s.cells) := blkCell B.out 0; have cB1 : World.cell? W2 ⟨gB, 1, none⟩ = some (.int .i64 s.rows) := blkCell B.out 1; have cB2 : World.cell? W2 ⟨gB, 2, none⟩ = some (.float .f32 b59) := blkCell B.out 2; have cB3 : World.cell? W2 ⟨gB, 3, none⟩ = some (.float .f32 s.le) := blkCell B.out 3; have cB4 : World.cell? W2 ⟨gB, 4, none⟩ = some (.float .f32 s.sa) := blkCell B.out 4; have cB5 : World.cell? W2 ⟨gB, 5, none⟩ = some (.slice A2 n2 c2) := blkCell B.out 5)))
    go_ret
    have hcv := HF59.out _ HSD.out
    refine ⟨{ s with sl := b59 }, fun u hu => ?_, rfl, ?_, B.out, L.out⟩
    · rw [HD.out, HO.out] at hu
      cases k with
      | false => cases hu
      | true => rw [hcv]; exact Option.some.inj (HP.out.symm.trans hu)
    · rw [HD.out, HO.out]
      cases k with
      | false => rfl
      | true => rw [show (if true = true then some n else none).bind (partM s f0) = partM s f0 n from rfl, HP.out]; rfl
  have e0 : (f0 == [115, 108, 105, 99, 101]) = false := by simpa using h0
  by_cases h1 : f0 = wKiller
  · have e1 : (f0 == [107, 105, 108, 108, 101, 114]) = true := by simpa using h1
    have HP : Az (partM s f0 n = some { s with le := fixS n }) := ⟨by unfold partM; rw [if_neg h0]; rw [if_pos h1]⟩
    clear h1 h0
    clear d0
    have d0 := cellGr L.out HD0.out HNE.out
    go_wp2_with (first | ((with_reducible refine gateN 59 rfl ?_); go_must (refine ev_cv 59 rfl rfl rfl rfl (by rw [Tryd.underlying63]; rfl) Tryd.underlying22 ?_; intro b59 W3 hb59 hc59 h; have HF59 := Az.mk hb59; have HG59 := Az.mk hc59; clear hb59 hc59; have h0 : World.grownBy w2 W3 none := (by refine World.grownBy.trans ?_ h; repeat (first | exact gr_refl _ _ | apply gr_drewN | apply gr_drew | apply gr_alloc)); clear cB0 cB1 cB2 cB3 cB4 cB5 d0; have L_ := Az.mk (gr_new L.out h0 (by first | (simp; done) | (simp; omega) | omega)); have B_ := Az.mk (blkGr B.out h0 (by first | (simp; done) | (simp; omega) | omega)); clear L B; have L := L_; clear L_; have B := B_; clear B_; clear h0 h; have d0 := cellGr L.out HD0.out HNE.out; have cB0 : World.cell? W3 ⟨gB, 0, none⟩ = some (.int .i64 s.cells) := blkCell B.out 0; have cB1 : World.cell? W3 ⟨gB, 1, none⟩ = some (.int .i64 s.rows) := blkCell B.out 1; have cB2 : World.cell? W3 ⟨gB, 2, none⟩ = some (.float .f32 s.sl) := blkCell B.out 2; have cB3 : World.cell? W3 ⟨gB, 3, none⟩ = some (.float .f32 s.le) := blkCell B.out 3; have cB4 : World.cell? W3 ⟨gB, 4, none⟩ = some (.float .f32 s.sa) := blkCell B.out 4; have cB5 : World.cell? W3 ⟨gB, 5, none⟩ = some (.slice A2 n2 c2) := blkCell B.out 5)) | ((with_reducible refine gateSt 74 rfl ?_); go_must (refine ev_st1 rfl rfl rfl (i := 3) (v := .float .f32 b59) rfl rfl B.out (by kernel_rfl) rfl (by simp) ?_; intro W4 hbB h; have h0 : World.grownBy W3 W4 (some gB) := (by refine World.grownBy.trans ?_ h; repeat (first | exact gr_refl _ _ | apply gr_drewN | apply gr_drew | apply gr_alloc)); clear cB0 cB1 cB2 cB3 cB4 cB5 d0; have L_ := Az.mk (gr_new L.out h0 (by first | (simp; done) | (simp; omega) | omega)); clear L; have L := L_; clear L_; clear h0 h; simp only [List.setIfInBounds_toArray, List.set_cons_zero, List.set_cons_succ] at hbB; clear B; have B := Az.mk hbB; clear hbB; have d0 := cellGr L.out HD0.out HNE.out; have cB0 : World.cell? W4 ⟨gB, 0, none⟩ = some (.int .i64 s.cells) := blkCell B.out 0; have cB1 : World.cell? W4 ⟨gB, 1, none⟩ = some (.int .i64 s.rows) := blkCell B.out 1; have cB2 : World.cell? W4 ⟨gB, 2, none⟩ = some (.float .f32 s.sl) := blkCell B.out 2; have cB3 : World.cell? W4 ⟨gB, 3, none⟩ = some (.float .f32 b59) := blkCell B.out 3; have cB4 : World.cell? W4 ⟨gB, 4, none⟩ = some (.float .f32 s.sa) := blkCell B.out 4; have cB5 : World.cell? W4 ⟨gB, 5, none⟩ = some (.slice A2 n2 c2) := blkCell B.out 5)))
    go_ret
    have hcv := HF59.out _ HSD.out
    refine ⟨{ s with le := b59 }, fun u hu => ?_, rfl, ?_, B.out, L.out⟩
    · rw [HD.out, HO.out] at hu
      cases k with
      | false => cases hu
      | true => rw [hcv]; exact Option.some.inj (HP.out.symm.trans hu)
    · rw [HD.out, HO.out]
      cases k with
      | false => rfl
      | true => rw [show (if true = true then some n else none).bind (partM s f0) = partM s f0 n from rfl, HP.out]; rfl
  have e1 : (f0 == [107, 105, 108, 108, 101, 114]) = false := by simpa using h1
  by_cases h2 : f0 = wSat
  · have e2 : (f0 == [115, 97, 116, 117, 114, 97, 116, 105, 111, 110]) = true := by simpa using h2
    have HP : Az (partM s f0 n = some { s with sa := fixS n }) := ⟨by unfold partM; rw [if_neg h0, if_neg h1]; rw [if_pos h2]⟩
    clear h2 h0 h1
    clear d0
    have d0 := cellGr L.out HD0.out HNE.out
    go_wp2_with (first | ((with_reducible refine gateN 59 rfl ?_); go_must (refine ev_cv 59 rfl rfl rfl rfl (by rw [Tryd.underlying63]; rfl) Tryd.underlying22 ?_; intro b59 W5 hb59 hc59 h; have HF59 := Az.mk hb59; have HG59 := Az.mk hc59; clear hb59 hc59; have h0 : World.grownBy w2 W5 none := (by refine World.grownBy.trans ?_ h; repeat (first | exact gr_refl _ _ | apply gr_drewN | apply gr_drew | apply gr_alloc)); clear cB0 cB1 cB2 cB3 cB4 cB5 d0; have L_ := Az.mk (gr_new L.out h0 (by first | (simp; done) | (simp; omega) | omega)); have B_ := Az.mk (blkGr B.out h0 (by first | (simp; done) | (simp; omega) | omega)); clear L B; have L := L_; clear L_; have B := B_; clear B_; clear h0 h; have d0 := cellGr L.out HD0.out HNE.out; have cB0 : World.cell? W5 ⟨gB, 0, none⟩ = some (.int .i64 s.cells) := blkCell B.out 0; have cB1 : World.cell? W5 ⟨gB, 1, none⟩ = some (.int .i64 s.rows) := blkCell B.out 1; have cB2 : World.cell? W5 ⟨gB, 2, none⟩ = some (.float .f32 s.sl) := blkCell B.out 2; have cB3 : World.cell? W5 ⟨gB, 3, none⟩ = some (.float .f32 s.le) := blkCell B.out 3; have cB4 : World.cell? W5 ⟨gB, 4, none⟩ = some (.float .f32 s.sa) := blkCell B.out 4; have cB5 : World.cell? W5 ⟨gB, 5, none⟩ = some (.slice A2 n2 c2) := blkCell B.out 5)) | ((with_reducible refine gateSt 80 rfl ?_); go_must (refine ev_st1 rfl rfl rfl (i := 4) (v := .float .f32 b59) rfl rfl B.out (by kernel_rfl) rfl (by simp) ?_; intro W6 hbB h; have h0 : World.grownBy W5 W6 (some gB) := (by refine World.grownBy.trans ?_ h; repeat (first | exact gr_refl _ _ | apply gr_drewN | apply gr_drew | apply gr_alloc)); clear cB0 cB1 cB2 cB3 cB4 cB5 d0; have L_ := Az.mk (gr_new L.out h0 (by first | (simp; done) | (simp; omega) | omega)); clear L; have L := L_; clear L_; clear h0 h; simp only [List.setIfInBounds_toArray, List.set_cons_zero, List.set_cons_succ] at hbB; clear B; have B := Az.mk hbB; clear hbB; have d0 := cellGr L.out HD0.out HNE.out; have cB0 : World.cell? W6 ⟨gB, 0, none⟩ = some (.int .i64 s.cells) := blkCell B.out 0; have cB1 : World.cell? W6 ⟨gB, 1, none⟩ = some (.int .i64 s.rows) := blkCell B.out 1; have cB2 : World.cell? W6 ⟨gB, 2, none⟩ = some (.float .f32 s.sl) := blkCell B.out 2; have cB3 : World.cell? W6 ⟨gB, 3, none⟩ = some (.float .f32 s.le) := blkCell B.out 3; have cB4 : World.cell? W6 ⟨gB, 4, none⟩ = some (.float .f32 b59) := blkCell B.out 4; have cB5 : World.cell? W6 ⟨gB, 5, none⟩ = some (.slice A2 n2 c2) := blkCell B.out 5)))
    go_ret
    have hcv := HF59.out _ HSD.out
    refine ⟨{ s with sa := b59 }, fun u hu => ?_, rfl, ?_, B.out, L.out⟩
    · rw [HD.out, HO.out] at hu
      cases k with
      | false => cases hu
      | true => rw [hcv]; exact Option.some.inj (HP.out.symm.trans hu)
    · rw [HD.out, HO.out]
      cases k with
      | false => rfl
      | true => rw [show (if true = true then some n else none).bind (partM s f0) = partM s f0 n from rfl, HP.out]; rfl
  have e2 : (f0 == [115, 97, 116, 117, 114, 97, 116, 105, 111, 110]) = false := by simpa using h2
  have HP : Az (partM s f0 n = none) := ⟨by unfold partM; rw [if_neg h0, if_neg h1, if_neg h2]⟩
  clear h0 h1 h2
  clear d0
  have d0 := cellGr L.out HD0.out HNE.out
  go_wp2_with (first | ((with_reducible refine gateN 59 rfl ?_); go_must (refine ev_cv 59 rfl rfl rfl rfl (by rw [Tryd.underlying63]; rfl) Tryd.underlying22 ?_; intro b59 W7 hb59 hc59 h; have HF59 := Az.mk hb59; have HG59 := Az.mk hc59; clear hb59 hc59; have h0 : World.grownBy w2 W7 none := (by refine World.grownBy.trans ?_ h; repeat (first | exact gr_refl _ _ | apply gr_drewN | apply gr_drew | apply gr_alloc)); clear cB0 cB1 cB2 cB3 cB4 cB5 d0; have L_ := Az.mk (gr_new L.out h0 (by first | (simp; done) | (simp; omega) | omega)); have B_ := Az.mk (blkGr B.out h0 (by first | (simp; done) | (simp; omega) | omega)); clear L B; have L := L_; clear L_; have B := B_; clear B_; clear h0 h; have d0 := cellGr L.out HD0.out HNE.out; have cB0 : World.cell? W7 ⟨gB, 0, none⟩ = some (.int .i64 s.cells) := blkCell B.out 0; have cB1 : World.cell? W7 ⟨gB, 1, none⟩ = some (.int .i64 s.rows) := blkCell B.out 1; have cB2 : World.cell? W7 ⟨gB, 2, none⟩ = some (.float .f32 s.sl) := blkCell B.out 2; have cB3 : World.cell? W7 ⟨gB, 3, none⟩ = some (.float .f32 s.le) := blkCell B.out 3; have cB4 : World.cell? W7 ⟨gB, 4, none⟩ = some (.float .f32 s.sa) := blkCell B.out 4; have cB5 : World.cell? W7 ⟨gB, 5, none⟩ = some (.slice A2 n2 c2) := blkCell B.out 5)))
  go_ret
  have hno : doneM s [f0, f1] = none := by rw [HD.out, HO.out]; cases k; rfl; exact HP.out
  exact ⟨s, fun u hu => (by rw [hno] at hu; cases hu), rfl, by rw [hno]; rfl, B.out, L.out⟩
end Go.Proofs.YtfjafeepmpnegaaDoor
