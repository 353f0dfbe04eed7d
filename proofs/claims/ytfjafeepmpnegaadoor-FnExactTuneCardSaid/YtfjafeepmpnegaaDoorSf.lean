/- Contracts of impl.FromFixed, SetOk, NewSet, copySet, and the library's Clone of texts. No condition. -/
import Derived.Test.YtfjafeepmpnegaaDoorSe
import Derived.Test.YtfjafeepmpnegaaDoorFn
namespace Go.Proofs.YtfjafeepmpnegaaDoor
open Go.RowKit
set_option linter.unusedVariables false
set_option linter.unusedSimpArgs false

theorem FromFixed_c (n : Int) (h1 : -1000000000 ≤ n) (h2 : n ≤ 1000000000) (w : World) : Calls Tryd.prog 86 #[.int .i64 n] w (fun e w' => ∃ d, fixD n = some d ∧ e = .returned (.float .f64 d) ∧ w.grownBy w' none) := by
  have L := Az.mk (gr_refl w none)
  go_enter Tryd.func86, Tryd.ntmps86
  go_wp2_with fail
  refine (fixedOk_c _ _).mono ?_
  rintro e w1 ⟨rfl, h⟩
  have h0 : World.grownBy w w1 _ := (by refine World.grownBy.trans ?_ h; repeat (first | exact gr_refl _ _ | apply gr_drewN | apply gr_drew | apply gr_alloc))
  have L_ := Az.mk (gr_new L.out h0 (by first | (simp; done) | (simp; omega) | omega))
  clear L
  have L := L_; clear L_
  clear h0 h
  have e1 : (decide (-1000000000 ≤ n) && decide (n ≤ 1000000000)) = true := by simp; omega
  rw [e1]
  clear e1
  go_wp2_with (first | ((with_reducible refine gateN 8 rfl ?_); go_must (refine ev_fl 8 rfl rfl rfl rfl rfl rfl ?_; intro b8 W1 hb8 h; have HF8 := Az.mk hb8; clear hb8; have h0 : World.grownBy w1 W1 none := (by refine World.grownBy.trans ?_ h; repeat (first | exact gr_refl _ _ | apply gr_drewN | apply gr_drew | apply gr_alloc)); have L_ := Az.mk (gr_new L.out h0 (by first | (simp; done) | (simp; omega) | omega)); clear L; have L := L_; clear L_; clear h0 h)))
  go_ret
  obtain ⟨d, hd, _⟩ := fix_some n h1 h2
  have hf := HF8.out
  rw [← floatBits_fop] at hf
  have hd' : floatBits .quo .f64 (floatOfInt .f64 n) 4652007308841189376 = some d := hd
  rw [hd'] at hf
  exact ⟨d, hd, by rw [← fN_eq hf]; rfl, L.out⟩
/-- A set: its numbers (of singles the bits) and its log. -/
structure SetV where
  cells : Int
  rows : Int
  sl : Nat
  le : Nat
  sa : Nat
  log : List Tx
def SetV.cs (s : SetV) (v : Value) : Array Value := #[.int .i64 s.cells, .int .i64 s.rows, .float .f32 s.sl, .float .f32 s.le, .float .f32 s.sa, v]
def setOkM (s : SetV) : Bool :=
  (decide (1 ≤ s.cells) && decide (s.cells ≤ 64)) && ((decide (4 ≤ s.rows) && decide (s.rows ≤ 64)) && ((s.rows.tmod 4 == 0) && (fle (amountN (fN .f32 s.sl)) (fc 1149239296) && (fge (fN .f32 s.le) (fc 0) && (fle (fN .f32 s.le) (fc 1098907648) && (fge (fN .f32 s.sa) (fc 0) && (fle (fN .f32 s.sa) (fc 1098907648) && decide (s.log.length ≤ 100))))))))
set_option maxRecDepth 8000 in
set_option maxHeartbeats 4000000 in
theorem SetOk_c (s : SetV) (A : Option Addr) (n c : Nat) (hn : s.log.length = n) (hm : n ≤ 9223372036854775807) (w : World) : Calls Tryd.prog 18 #[.agg (s.cs (.slice A n c))] w (RetBo w (setOkM s)) := by
  have L := Az.mk (gr_refl w none)
  have HN := Az.mk hn
  clear hn
  unfold SetV.cs
  go_enter Tryd.func18, Tryd.ntmps18
  go_wp2_with (first | ((with_reducible refine gateN 1 rfl ?_); go_must (refine ev_al 1 rfl rfl #[.int .i64 s.cells, .int .i64 s.rows, .float .f32 s.sl, .float .f32 s.le, .float .f32 s.sa, .slice A n c] 28 ?hr ?_; (case hr => first | (go_simp; done) | (go_simp; rfl)); intro gB heB W1 hbB h; have hgB : w.heap.size ≤ gB := Nat.le_trans L.out.size heB; clear heB; have h0 : World.grownBy w W1 none := (by refine World.grownBy.trans ?_ h; repeat (first | exact gr_refl _ _ | apply gr_drewN | apply gr_drew | apply gr_alloc)); have L_ := Az.mk (gr_new L.out h0 (by first | (simp; done) | (simp; omega) | omega)); clear L; have L := L_; clear L_; clear h0 h; have B := Az.mk hbB; clear hbB; have cB0 : World.cell? W1 ⟨gB, 0, none⟩ = some (.int .i64 s.cells) := blkCell B.out 0; have cB1 : World.cell? W1 ⟨gB, 1, none⟩ = some (.int .i64 s.rows) := blkCell B.out 1; have cB2 : World.cell? W1 ⟨gB, 2, none⟩ = some (.float .f32 s.sl) := blkCell B.out 2; have cB3 : World.cell? W1 ⟨gB, 3, none⟩ = some (.float .f32 s.le) := blkCell B.out 3; have cB4 : World.cell? W1 ⟨gB, 4, none⟩ = some (.float .f32 s.sa) := blkCell B.out 4; have cB5 : World.cell? W1 ⟨gB, 5, none⟩ = some (.slice A n c) := blkCell B.out 5)))
  refine (within_c s.cells 1 64 _).mono ?_
  rintro e w1 ⟨rfl, h⟩
  have h0 : World.grownBy W1 w1 _ := (by refine World.grownBy.trans ?_ h; repeat (first | exact gr_refl _ _ | apply gr_drewN | apply gr_drew | apply gr_alloc))
  clear cB0 cB1 cB2 cB3 cB4 cB5
  have L_ := Az.mk (gr_new L.out h0 (by first | (simp; done) | (simp; omega) | omega))
  have B_ := Az.mk (blkGr B.out h0 (by first | (simp; done) | (simp; omega) | omega))
  clear L B
  have L := L_; clear L_
  have B := B_; clear B_
  clear h0 h
  have cB0 : World.cell? w1 ⟨gB, 0, none⟩ = some (.int .i64 s.cells) := blkCell B.out 0
  have cB1 : World.cell? w1 ⟨gB, 1, none⟩ = some (.int .i64 s.rows) := blkCell B.out 1
  have cB2 : World.cell? w1 ⟨gB, 2, none⟩ = some (.float .f32 s.sl) := blkCell B.out 2
  have cB3 : World.cell? w1 ⟨gB, 3, none⟩ = some (.float .f32 s.le) := blkCell B.out 3
  have cB4 : World.cell? w1 ⟨gB, 4, none⟩ = some (.float .f32 s.sa) := blkCell B.out 4
  have cB5 : World.cell? w1 ⟨gB, 5, none⟩ = some (.slice A n c) := blkCell B.out 5
  obtain ⟨b1, hb1⟩ : ∃ b : Bool, (decide ((1 : Int) ≤ s.cells) && decide (s.cells ≤ (64 : Int))) = b := ⟨_, rfl⟩
  rw [hb1]
  have HB1 := Az.mk hb1
  clear hb1
  cases b1 with
  | false =>
    go_wp2_with fail
    go_ret
    exact ⟨by simp [setOkM, HB1.out], L.out⟩
  | true =>
  go_wp2_with fail
  refine (within_c s.rows 4 64 _).mono ?_
  rintro e w2 ⟨rfl, h⟩
  have h0 : World.grownBy w1 w2 _ := (by refine World.grownBy.trans ?_ h; repeat (first | exact gr_refl _ _ | apply gr_drewN | apply gr_drew | apply gr_alloc))
  clear cB0 cB1 cB2 cB3 cB4 cB5
  have L_ := Az.mk (gr_new L.out h0 (by first | (simp; done) | (simp; omega) | omega))
  have B_ := Az.mk (blkGr B.out h0 (by first | (simp; done) | (simp; omega) | omega))
  clear L B
  have L := L_; clear L_
  have B := B_; clear B_
  clear h0 h
  have cB0 : World.cell? w2 ⟨gB, 0, none⟩ = some (.int .i64 s.cells) := blkCell B.out 0
  have cB1 : World.cell? w2 ⟨gB, 1, none⟩ = some (.int .i64 s.rows) := blkCell B.out 1
  have cB2 : World.cell? w2 ⟨gB, 2, none⟩ = some (.float .f32 s.sl) := blkCell B.out 2
  have cB3 : World.cell? w2 ⟨gB, 3, none⟩ = some (.float .f32 s.le) := blkCell B.out 3
  have cB4 : World.cell? w2 ⟨gB, 4, none⟩ = some (.float .f32 s.sa) := blkCell B.out 4
  have cB5 : World.cell? w2 ⟨gB, 5, none⟩ = some (.slice A n c) := blkCell B.out 5
  obtain ⟨b2, hb2⟩ : ∃ b : Bool, (decide ((4 : Int) ≤ s.rows) && decide (s.rows ≤ (64 : Int))) = b := ⟨_, rfl⟩
  rw [hb2]
  have HB2 := Az.mk hb2
  clear hb2
  cases b2 with
  | false =>
    go_wp2_with fail
    go_ret
    exact ⟨by simp [setOkM, HB1.out, HB2.out], L.out⟩
  | true =>
  have hr : 4 ≤ s.rows ∧ s.rows ≤ 64 := by have := HB2.out; simpa using this
  obtain ⟨hr1, hr2⟩ := hr
  have htm : s.rows.tmod 4 = s.rows % 4 := Int.tmod_eq_emod_of_nonneg (by omega)
  obtain ⟨b3, hb3⟩ : ∃ b : Bool, (s.rows.tmod 4 == 0) = b := ⟨_, rfl⟩
  have t3 : (s.rows % 4 == 0) = b3 := by rw [← htm]; exact hb3
  have HB3 := Az.mk hb3
  clear hb3 htm
  cases b3 with
  | false =>
    go_wp2_with fail
    go_ret
    exact ⟨by simp [setOkM, HB1.out, HB2.out, HB3.out], L.out⟩
  | true =>
  go_wp2_with fail
  refine (amount_c s.sl _).mono ?_
  rintro e w3 ⟨b, hb, rfl, h⟩
  have h0 : World.grownBy w2 w3 _ := (by refine World.grownBy.trans ?_ h; repeat (first | exact gr_refl _ _ | apply gr_drewN | apply gr_drew | apply gr_alloc))
  clear cB0 cB1 cB2 cB3 cB4 cB5
  have L_ := Az.mk (gr_new L.out h0 (by first | (simp; done) | (simp; omega) | omega))
  have B_ := Az.mk (blkGr B.out h0 (by first | (simp; done) | (simp; omega) | omega))
  clear L B
  have L := L_; clear L_
  have B := B_; clear B_
  clear h0 h
  have cB0 : World.cell? w3 ⟨gB, 0, none⟩ = some (.int .i64 s.cells) := blkCell B.out 0
  have cB1 : World.cell? w3 ⟨gB, 1, none⟩ = some (.int .i64 s.rows) := blkCell B.out 1
  have cB2 : World.cell? w3 ⟨gB, 2, none⟩ = some (.float .f32 s.sl) := blkCell B.out 2
  have cB3 : World.cell? w3 ⟨gB, 3, none⟩ = some (.float .f32 s.le) := blkCell B.out 3
  have cB4 : World.cell? w3 ⟨gB, 4, none⟩ = some (.float .f32 s.sa) := blkCell B.out 4
  have cB5 : World.cell? w3 ⟨gB, 5, none⟩ = some (.slice A n c) := blkCell B.out 5
  have HA := Az.mk hb
  clear hb
  obtain ⟨b4, hb4⟩ : ∃ b : Bool, fle (amountN (fN .f32 s.sl)) (fc 1149239296) = b := ⟨_, rfl⟩
  have t4 : (FloatKind.f32.format.order b 1149239296 == some .lt || FloatKind.f32.format.order b 1149239296 == some .eq) = b4 := by rw [o_le, HA.out]; exact hb4
  have HB4 := Az.mk hb4
  clear hb4
  cases b4 with
  | false =>
    go_wp2_with fail
    go_ret
    exact ⟨by simp [setOkM, HB1.out, HB2.out, HB3.out, HB4.out], L.out⟩
  | true =>
  obtain ⟨b5, hb5⟩ : ∃ b : Bool, (fge (fN .f32 s.le) (fc 0)) = b := ⟨_, rfl⟩
  have t5 : (FloatKind.f32.format.order s.le 0 == some .gt || FloatKind.f32.format.order s.le 0 == some .eq) = b5 := by rw [o_ge]; exact hb5
  have HB5 := Az.mk hb5
  clear hb5
  cases b5 with
  | false =>
    go_wp2_with fail
    go_ret
    exact ⟨by simp [setOkM, HB1.out, HB2.out, HB3.out, HB4.out, HB5.out], L.out⟩
  | true =>
  obtain ⟨b6, hb6⟩ : ∃ b : Bool, (fle (fN .f32 s.le) (fc 1098907648)) = b := ⟨_, rfl⟩
  have t6 : (FloatKind.f32.format.order s.le 1098907648 == some .lt || FloatKind.f32.format.order s.le 1098907648 == some .eq) = b6 := by rw [o_le]; exact hb6
  have HB6 := Az.mk hb6
  clear hb6
  cases b6 with
  | false =>
    go_wp2_with fail
    go_ret
    exact ⟨by simp [setOkM, HB1.out, HB2.out, HB3.out, HB4.out, HB5.out, HB6.out], L.out⟩
  | true =>
  obtain ⟨b7, hb7⟩ : ∃ b : Bool, (fge (fN .f32 s.sa) (fc 0)) = b := ⟨_, rfl⟩
  have t7 : (FloatKind.f32.format.order s.sa 0 == some .gt || FloatKind.f32.format.order s.sa 0 == some .eq) = b7 := by rw [o_ge]; exact hb7
  have HB7 := Az.mk hb7
  clear hb7
  cases b7 with
  | false =>
    go_wp2_with fail
    go_ret
    exact ⟨by simp [setOkM, HB1.out, HB2.out, HB3.out, HB4.out, HB5.out, HB6.out, HB7.out], L.out⟩
  | true =>
  obtain ⟨b8, hb8⟩ : ∃ b : Bool, (fle (fN .f32 s.sa) (fc 1098907648)) = b := ⟨_, rfl⟩
  have t8 : (FloatKind.f32.format.order s.sa 1098907648 == some .lt || FloatKind.f32.format.order s.sa 1098907648 == some .eq) = b8 := by rw [o_le]; exact hb8
  have HB8 := Az.mk hb8
  clear hb8
  cases b8 with
  | false =>
    go_wp2_with fail
    go_ret
    exact ⟨by simp [setOkM, HB1.out, HB2.out, HB3.out, HB4.out, HB5.out, HB6.out, HB7.out, HB8.out], L.out⟩
  | true =>
  go_wp2_with fail
  go_ret
  refine ⟨?_, L.out⟩
  have := HN.out
  simp only [setOkM, HB1.out, HB2.out, HB3.out, HB4.out, HB5.out, HB6.out, HB7.out, HB8.out, Bool.true_and, this]
  simp
  omega
/-- A slice of texts. -/
def Sl (w : World) (A : Option Addr) (n c : Nat) (fs : List Tx) : Prop := Rd w A n 1 (stV fs) ∧ n ≤ c ∧ ∀ a, A = some a → ∃ b off, a = ⟨b, off, none⟩
theorem Sl.up {w w1 : World} {A : Option Addr} {n c : Nat} {fs : List Tx} (h : Sl w A n c fs) (hg : w.grownBy w1 none) : Sl w1 A n c fs := ⟨h.1.up hg, h.2⟩
theorem Sl.len {w : World} {A : Option Addr} {n c : Nat} {fs : List Tx} (h : Sl w A n c fs) : fs.length = n := by have := h.1.1; rw [stV_len] at this; omega
theorem own_sl {w : World} {base : Nat} {e : TypeId} {v : Value} {m : Nat} {fs : List Tx} (h : w.ownsRow base e 1 v m (stV fs)) : ∃ A c, v = .slice A m c ∧ Sl w A m c fs := by
  obtain ⟨A, c, rfl, h1, h2, _⟩ := own_rd h
  refine ⟨A, c, rfl, h2, h1, fun a ha => ?_⟩
  subst ha
  rcases h.2 with ⟨h3, _⟩ | ⟨g, cap, cur, h3, _⟩
  · cases h3
  · injection h3 with h3; injection h3 with h3; exact ⟨g, 0, h3⟩
def RetOwn (w : World) (fs : List Tx) (e : Ending) (w' : World) : Prop := ∃ v, e = .returned v ∧ w'.ownsRow w.heap.size 9 1 v fs.length (stV fs) ∧ w.grownBy w' none
set_option maxHeartbeats 1000000 in
theorem Clone_c (A : Option Addr) (n c : Nat) (fs : List Tx) (hs : n ≤ 8796093022207) (w : World) (hrd : Sl w A n c fs) : Calls Tryd.prog 79 #[.slice A n c] w (RetOwn w fs) := by
  have L := Az.mk (gr_refl w none)
  have HR := Az.mk hrd
  have HN := Az.mk hrd.len
  clear hrd
  have q22 : ∀ (w : World) (a : Option Addr) (n c n' c' : Nat), (binOp .eql 23 (.slice a n c) (.slice none n' c')).run Tryd.prog w = .ok (.bool a.isNone) w := fun w a n c n' c' => Lib.run_eql_slice_nil w _ _ a n c n' c' Tryd.underlying23
  cases A with
  | none =>
    have hn0 : n = 0 := by
      cases n with
      | zero => rfl
      | succ n => obtain ⟨b, off, e, _⟩ := HR.out.1.2.2 (by omega); cases e
    have hf : fs = [] := by have := HN.out; rw [hn0] at this; exact List.length_eq_zero_iff.1 this
    have HF := Az.mk hf
    clear hf
    go_enter Tryd.func79, Tryd.ntmps79
    go_wp2_with fail
    go_ret
    exact ⟨_, rfl, by rw [HF.out]; exact own_nil _ _ _ _, L.out⟩
  | some a =>
    obtain ⟨b, off, rfl⟩ := HR.out.2.2 a rfl
    go_enter Tryd.func79, Tryd.ntmps79
    go_wp2_with (first | ((with_reducible refine gateN 5 rfl ?_); go_must (refine ev_bs 5 rfl rfl #[] 9 0 ?hr ?_; (case hr => first | (go_simp; done) | (go_simp; rfl)); intro gR heR W1 hbR h; have hgR : w.heap.size ≤ gR := Nat.le_trans L.out.size heR; clear heR; have h0 : World.grownBy w W1 none := (by refine World.grownBy.trans ?_ h; repeat (first | exact gr_refl _ _ | apply gr_drewN | apply gr_drew | apply gr_alloc)); have L_ := Az.mk (gr_new L.out h0 (by first | (simp; done) | (simp; omega) | omega)); clear L; have L := L_; clear L_; clear h0 h; have R := Az.mk (own_empty (size := 1) hbR hgR); clear hbR)) | ((with_reducible refine gateN 7 rfl ?_); go_must (refine ev_aps 7 rfl rfl rfl Tryd.underlying23 (z := .string ByteArray.empty) (size := 1) (bytes := 16) (by kernel_rfl) rfl (by decide) rfl R.out rfl (HR.out.1.up L.out) (stV_one _) ?hbase ?hl ?hl2 ?_; (case hbase => have := L.out.size; omega); (case hl => omega); (case hl2 => omega); intro vR W2 hR h; have h0 : World.grownBy W1 W2 _ := (by refine World.grownBy.trans ?_ h; repeat (first | exact gr_refl _ _ | apply gr_drewN | apply gr_drew | apply gr_alloc)); have L_ := Az.mk (gr_new L.out h0 (fun j hj => .inl (own_base R.out j hj))); clear L; have L := L_; clear L_; clear h0 h; clear R; have R := Az.mk hR; clear hR)))
    go_ret
    exact ⟨_, rfl, by rw [HN.out]; have := R.out; rw [Nat.zero_add] at this; exact this, L.out⟩
def RetSet (w : World) (s : SetV) (e : Ending) (w' : World) : Prop := ∃ v, e = .returned (.agg (s.cs v)) ∧ w'.ownsRow w.heap.size 9 1 v s.log.length (stV s.log) ∧ w.grownBy w' none
set_option maxHeartbeats 2000000 in
theorem copySet_c (s : SetV) (A : Option Addr) (n c : Nat) (hs : n ≤ 8796093022207) (w : World) (hrd : Sl w A n c s.log) : Calls Tryd.prog 52 #[.agg (s.cs (.slice A n c))] w (RetSet w s) := by
  have L := Az.mk (gr_refl w none)
  have HR := Az.mk hrd
  clear hrd
  unfold SetV.cs
  go_enter Tryd.func52, Tryd.ntmps52
  go_wp2_with (first | ((with_reducible refine gateN 1 rfl ?_); go_must (refine ev_al 1 rfl rfl #[.int .i64 s.cells, .int .i64 s.rows, .float .f32 s.sl, .float .f32 s.le, .float .f32 s.sa, .slice A n c] 28 ?hr ?_; (case hr => first | (go_simp; done) | (go_simp; rfl)); intro gB heB W1 hbB h; have hgB : w.heap.size ≤ gB := Nat.le_trans L.out.size heB; clear heB; have h0 : World.grownBy w W1 none := (by refine World.grownBy.trans ?_ h; repeat (first | exact gr_refl _ _ | apply gr_drewN | apply gr_drew | apply gr_alloc)); have L_ := Az.mk (gr_new L.out h0 (by first | (simp; done) | (simp; omega) | omega)); clear L; have L := L_; clear L_; clear h0 h; have B := Az.mk hbB; clear hbB; have cB0 : World.cell? W1 ⟨gB, 0, none⟩ = some (.int .i64 s.cells) := blkCell B.out 0; have cB1 : World.cell? W1 ⟨gB, 1, none⟩ = some (.int .i64 s.rows) := blkCell B.out 1; have cB2 : World.cell? W1 ⟨gB, 2, none⟩ = some (.float .f32 s.sl) := blkCell B.out 2; have cB3 : World.cell? W1 ⟨gB, 3, none⟩ = some (.float .f32 s.le) := blkCell B.out 3; have cB4 : World.cell? W1 ⟨gB, 4, none⟩ = some (.float .f32 s.sa) := blkCell B.out 4; have cB5 : World.cell? W1 ⟨gB, 5, none⟩ = some (.slice A n c) := blkCell B.out 5)) | ((with_reducible refine gateN 2 rfl ?_); go_must (refine ev_al 2 rfl rfl #[.int .i64 0, .int .i64 0, .float .f32 0, .float .f32 0, .float .f32 0, .slice none 0 0] 28 ?hr ?_; (case hr => first | (go_simp; done) | (go_simp; rfl)); intro gZ heZ W2 hbZ h; have hgZ : w.heap.size ≤ gZ := Nat.le_trans L.out.size heZ; have hgZB : gB < gZ := Nat.lt_of_lt_of_le (blkLt B.out) heZ; clear heZ; have h0 : World.grownBy W1 W2 none := (by refine World.grownBy.trans ?_ h; repeat (first | exact gr_refl _ _ | apply gr_drewN | apply gr_drew | apply gr_alloc)); clear cB0 cB1 cB2 cB3 cB4 cB5; have L_ := Az.mk (gr_new L.out h0 (by first | (simp; done) | (simp; omega) | omega)); have B_ := Az.mk (blkGr B.out h0 (by first | (simp; done) | (simp; omega) | omega)); clear L B; have L := L_; clear L_; have B := B_; clear B_; clear h0 h; have Z := Az.mk hbZ; clear hbZ; have cB0 : World.cell? W2 ⟨gB, 0, none⟩ = some (.int .i64 s.cells) := blkCell B.out 0; have cB1 : World.cell? W2 ⟨gB, 1, none⟩ = some (.int .i64 s.rows) := blkCell B.out 1; have cB2 : World.cell? W2 ⟨gB, 2, none⟩ = some (.float .f32 s.sl) := blkCell B.out 2; have cB3 : World.cell? W2 ⟨gB, 3, none⟩ = some (.float .f32 s.le) := blkCell B.out 3; have cB4 : World.cell? W2 ⟨gB, 4, none⟩ = some (.float .f32 s.sa) := blkCell B.out 4; have cB5 : World.cell? W2 ⟨gB, 5, none⟩ = some (.slice A n c) := blkCell B.out 5; have cZ0 : World.cell? W2 ⟨gZ, 0, none⟩ = some (.int .i64 0) := blkCell Z.out 0; have cZ1 : World.cell? W2 ⟨gZ, 1, none⟩ = some (.int .i64 0) := blkCell Z.out 1; have cZ2 : World.cell? W2 ⟨gZ, 2, none⟩ = some (.float .f32 0) := blkCell Z.out 2; have cZ3 : World.cell? W2 ⟨gZ, 3, none⟩ = some (.float .f32 0) := blkCell Z.out 3; have cZ4 : World.cell? W2 ⟨gZ, 4, none⟩ = some (.float .f32 0) := blkCell Z.out 4; have cZ5 : World.cell? W2 ⟨gZ, 5, none⟩ = some (.slice none 0 0) := blkCell Z.out 5)))
  have s9 := L.out.size
  refine (Clone_c A n c s.log hs _ (HR.out.up L.out)).mono ?_
  rintro e w1 ⟨v, rfl, hR, h⟩
  have h0 : World.grownBy W2 w1 _ := (by refine World.grownBy.trans ?_ h; repeat (first | exact gr_refl _ _ | apply gr_drewN | apply gr_drew | apply gr_alloc))
  clear cB0 cB1 cB2 cB3 cB4 cB5 cZ0 cZ1 cZ2 cZ3 cZ4 cZ5
  have L_ := Az.mk (gr_new L.out h0 (by first | (simp; done) | (simp; omega) | omega))
  have B_ := Az.mk (blkGr B.out h0 (by first | (simp; done) | (simp; omega) | omega))
  have Z_ := Az.mk (blkGr Z.out h0 (by first | (simp; done) | (simp; omega) | omega))
  clear L B Z
  have L := L_; clear L_
  have B := B_; clear B_
  have Z := Z_; clear Z_
  clear h0 h
  have R := Az.mk hR; clear hR
  have cB0 : World.cell? w1 ⟨gB, 0, none⟩ = some (.int .i64 s.cells) := blkCell B.out 0
  have cB1 : World.cell? w1 ⟨gB, 1, none⟩ = some (.int .i64 s.rows) := blkCell B.out 1
  have cB2 : World.cell? w1 ⟨gB, 2, none⟩ = some (.float .f32 s.sl) := blkCell B.out 2
  have cB3 : World.cell? w1 ⟨gB, 3, none⟩ = some (.float .f32 s.le) := blkCell B.out 3
  have cB4 : World.cell? w1 ⟨gB, 4, none⟩ = some (.float .f32 s.sa) := blkCell B.out 4
  have cB5 : World.cell? w1 ⟨gB, 5, none⟩ = some (.slice A n c) := blkCell B.out 5
  have cZ0 : World.cell? w1 ⟨gZ, 0, none⟩ = some (.int .i64 0) := blkCell Z.out 0
  have cZ1 : World.cell? w1 ⟨gZ, 1, none⟩ = some (.int .i64 0) := blkCell Z.out 1
  have cZ2 : World.cell? w1 ⟨gZ, 2, none⟩ = some (.float .f32 0) := blkCell Z.out 2
  have cZ3 : World.cell? w1 ⟨gZ, 3, none⟩ = some (.float .f32 0) := blkCell Z.out 3
  have cZ4 : World.cell? w1 ⟨gZ, 4, none⟩ = some (.float .f32 0) := blkCell Z.out 4
  have cZ5 : World.cell? w1 ⟨gZ, 5, none⟩ = some (.slice none 0 0) := blkCell Z.out 5
  obtain ⟨A2, c2, rfl, _⟩ := own_sl R.out
  go_wp2_with (first | ((with_reducible refine gateSt 6 rfl ?_); go_must (refine ev_st1 rfl rfl rfl (i := 5) (v := .slice A2 s.log.length c2) rfl rfl B.out (by kernel_rfl) rfl (by simp) ?_; intro W3 hbB h; have h0 : World.grownBy w1 W3 (some gB) := (by refine World.grownBy.trans ?_ h; repeat (first | exact gr_refl _ _ | apply gr_drewN | apply gr_drew | apply gr_alloc)); clear cB0 cB1 cB2 cB3 cB4 cB5 cZ0 cZ1 cZ2 cZ3 cZ4 cZ5; have L_ := Az.mk (gr_new L.out h0 (by first | (simp; done) | (simp; omega) | omega)); have Z_ := Az.mk (blkGr Z.out h0 (by first | (simp; done) | (simp; omega) | omega)); have R_ := Az.mk (own_gr R.out h0 (by first | exact own_none _ | exact .inr hlBR.out | exact .inr (own_blk R.out B.out (by decide)) | exact .inr (own_blk R.out Z.out (by decide)))); clear L Z R; have L := L_; clear L_; have Z := Z_; clear Z_; have R := R_; clear R_; clear h0 h; simp only [List.setIfInBounds_toArray, List.set_cons_zero, List.set_cons_succ] at hbB; clear B; have B := Az.mk hbB; clear hbB; have cB0 : World.cell? W3 ⟨gB, 0, none⟩ = some (.int .i64 s.cells) := blkCell B.out 0; have cB1 : World.cell? W3 ⟨gB, 1, none⟩ = some (.int .i64 s.rows) := blkCell B.out 1; have cB2 : World.cell? W3 ⟨gB, 2, none⟩ = some (.float .f32 s.sl) := blkCell B.out 2; have cB3 : World.cell? W3 ⟨gB, 3, none⟩ = some (.float .f32 s.le) := blkCell B.out 3; have cB4 : World.cell? W3 ⟨gB, 4, none⟩ = some (.float .f32 s.sa) := blkCell B.out 4; have cB5 : World.cell? W3 ⟨gB, 5, none⟩ = some (.slice A2 s.log.length c2) := blkCell B.out 5; have cZ0 : World.cell? W3 ⟨gZ, 0, none⟩ = some (.int .i64 0) := blkCell Z.out 0; have cZ1 : World.cell? W3 ⟨gZ, 1, none⟩ = some (.int .i64 0) := blkCell Z.out 1; have cZ2 : World.cell? W3 ⟨gZ, 2, none⟩ = some (.float .f32 0) := blkCell Z.out 2; have cZ3 : World.cell? W3 ⟨gZ, 3, none⟩ = some (.float .f32 0) := blkCell Z.out 3; have cZ4 : World.cell? W3 ⟨gZ, 4, none⟩ = some (.float .f32 0) := blkCell Z.out 4; have cZ5 : World.cell? W3 ⟨gZ, 5, none⟩ = some (.slice none 0 0) := blkCell Z.out 5)) | ((with_reducible refine gateN 7 rfl ?_); go_must (refine ev_ld 7 rfl rfl rfl (cs := #[.int .i64 s.cells, .int .i64 s.rows, .float .f32 s.sl, .float .f32 s.le, .float .f32 s.sa, .slice A2 s.log.length c2]) rfl B.out Tryd.underlying28 rfl (by kernel_rfl) ?_)) | ((with_reducible refine gateSt 2 rfl ?_); go_must (refine ev_st rfl rfl rfl (cs := #[.int .i64 s.cells, .int .i64 s.rows, .float .f32 s.sl, .float .f32 s.le, .float .f32 s.sa, .slice A2 s.log.length c2]) rfl rfl Z.out (by kernel_rfl) rfl (by simp [Value.oneCell']) ?_; intro W4 hbZ h; have h0 : World.grownBy W3 W4 (some gZ) := (by refine World.grownBy.trans ?_ h; repeat (first | exact gr_refl _ _ | apply gr_drewN | apply gr_drew | apply gr_alloc)); clear cB0 cB1 cB2 cB3 cB4 cB5 cZ0 cZ1 cZ2 cZ3 cZ4 cZ5; have L_ := Az.mk (gr_new L.out h0 (by first | (simp; done) | (simp; omega) | omega)); have B_ := Az.mk (blkGr B.out h0 (by first | (simp; done) | (simp; omega) | omega)); have R_ := Az.mk (own_gr R.out h0 (by first | exact own_none _ | exact .inr hlZR.out | exact .inr (own_blk R.out B.out (by decide)) | exact .inr (own_blk R.out Z.out (by decide)))); clear L B R; have L := L_; clear L_; have B := B_; clear B_; have R := R_; clear R_; clear h0 h; clear Z; have Z := Az.mk hbZ; clear hbZ; have cB0 : World.cell? W4 ⟨gB, 0, none⟩ = some (.int .i64 s.cells) := blkCell B.out 0; have cB1 : World.cell? W4 ⟨gB, 1, none⟩ = some (.int .i64 s.rows) := blkCell B.out 1; have cB2 : World.cell? W4 ⟨gB, 2, none⟩ = some (.float .f32 s.sl) := blkCell B.out 2; have cB3 : World.cell? W4 ⟨gB, 3, none⟩ = some (.float .f32 s.le) := blkCell B.out 3; have cB4 : World.cell? W4 ⟨gB, 4, none⟩ = some (.float .f32 s.sa) := blkCell B.out 4; have cB5 : World.cell? W4 ⟨gB, 5, none⟩ = some (.slice A2 s.log.length c2) := blkCell B.out 5; have cZ0 : World.cell? W4 ⟨gZ, 0, none⟩ = some (.int .i64 s.cells) := blkCell Z.out 0; have cZ1 : World.cell? W4 ⟨gZ, 1, none⟩ = some (.int .i64 s.rows) := blkCell Z.out 1; have cZ2 : World.cell? W4 ⟨gZ, 2, none⟩ = some (.float .f32 s.sl) := blkCell Z.out 2; have cZ3 : World.cell? W4 ⟨gZ, 3, none⟩ = some (.float .f32 s.le) := blkCell Z.out 3; have cZ4 : World.cell? W4 ⟨gZ, 4, none⟩ = some (.float .f32 s.sa) := blkCell Z.out 4; have cZ5 : World.cell? W4 ⟨gZ, 5, none⟩ = some (.slice A2 s.log.length c2) := blkCell Z.out 5)))
  refine bodyPost_ret (results_c rfl _ _ gZ 28 (s.cs (.slice A2 s.log.length c2)) _ rfl Z.out Tryd.underlying28 rfl (by kernel_rfl)) rfl ⟨_, rfl, own_weak R.out s9, L.out⟩
end Go.Proofs.YtfjafeepmpnegaaDoor
