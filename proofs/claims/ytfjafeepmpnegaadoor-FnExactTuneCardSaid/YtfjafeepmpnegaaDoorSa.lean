/- Words about texts, and about the library's variables; contracts of impl.fixedOk, FormatInt. Conditions: the library's table and variable are there. -/
import Derived.Test.YtfjafeepmpnegaaDoorS2
import Derived.Test.YtfjafeepmpnegaaDoorAm
import Derived.Test.YtfjafeepmpnegaaDoorKo
import Derived.Test.YtfjafeepmpnegaaDoorSh
namespace Go.Proofs.YtfjafeepmpnegaaDoor
open Go.RowKit
set_option linter.unusedVariables false
set_option linter.unusedSimpArgs false

/-- A text of these bytes. -/
def tx (l : Tx) : ByteArray := ⟨l.toArray⟩
theorem tx_list (l : Tx) : (tx l).data.toList = l := rfl
theorem tx_of (s : ByteArray) : tx s.data.toList = s := by cases s; rfl
@[go_sem] theorem tx_size (l : Tx) : (tx l).size = l.length := by simp [tx, ByteArray.size]
theorem tx_app (a b : Tx) : tx a ++ tx b = tx (a ++ b) := by
  have h : (tx a ++ tx b).data.toList = a ++ b := by rw [ByteArray.data_append, Array.toList_append]; rfl
  rw [← tx_of (tx a ++ tx b), h]
theorem tx_inj {a b : Tx} : tx a = tx b ↔ a = b := by
  constructor
  · intro h; have := congrArg (fun s => s.data.toList) h; exact this
  · intro h; rw [h]
@[go_sem] theorem tx_app_go (a b : Tx) : tx a ++ tx b = tx (a ++ b) := tx_app a b
@[go_sem] theorem tx_app_cl (c : UInt8) (b : Tx) : ({ data := #[c] } : ByteArray) ++ tx b = tx (c :: b) := tx_app [c] b
@[go_sem] theorem tx_app_cr (a : Tx) (c : UInt8) : tx a ++ ({ data := #[c] } : ByteArray) = tx (a ++ [c]) := tx_app a [c]
@[go_sem] theorem tx_app_nl (b : Tx) : ({ data := #[] } : ByteArray) ++ tx b = tx b := tx_app [] b
@[go_sem] theorem tx_toList (l : Tx) : (tx l).toList = l := by rw [ByteArray.toList_eq]; rfl
/-- What the library reads of its own variables. -/
def Env (w : World) : Prop := Lib.TabIs Tryd.prog w "internal/strconv.uint64pow10" .u64 Lib.pow10Tab ∧ (∃ m, w.cell? ⟨1, 0, none⟩ = some (.int .i64 m)) ∧ 8 ≤ w.heap.size
theorem pow10G : Tryd.prog.globalNamed "internal/strconv.uint64pow10" = some 2 := by kernel_rfl
theorem Env.below {B : Nat} {w w1 : World} (h : Env w) (hb : Below B w w1) (hB : 8 ≤ B) : Env w1 := by
  obtain ⟨h1, ⟨m, h2⟩, h3⟩ := h
  refine ⟨?_, ⟨m, ?_⟩, Nat.le_trans h3 hb.size⟩
  · unfold Lib.TabIs World.var? at *
    rw [pow10G] at *
    simp only [Option.bind_some] at *
    rw [hb.block 2 (by omega)]; exact h1
  · rw [hb.cell (p := ⟨1, 0, none⟩) (by show 1 < B; omega)]; exact h2
theorem Env.gr {w w1 : World} (h : Env w) (hg : w.grownBy w1 none) : Env w1 := h.below (gr_below hg) h.2.2
theorem Env.cur {w w1 : World} {g : Nat} (h : Env w) (hg : w.grownBy w1 (some g)) (h8 : 8 ≤ g) : Env w1 :=
  h.below (B := 8) ⟨hg.os, hg.tape, hg.output, hg.size, fun i hi => hg.block i (Nat.lt_of_lt_of_le hi h.2.2) (fun e => by injection e with e; omega)⟩ (Nat.le_refl _)
theorem below_regrown' (w : World) (k : Nat) (os : Array Obj) : Below w.heap.size w (Go.Sort.grow (w.drewN k) os) := by
  refine ⟨rfl, rfl, rfl, by show w.heap.size ≤ (w.heap ++ os).size; rw [Array.size_append]; omega, fun j hj => ?_⟩
  show (w.heap ++ os)[j]? = w.heap[j]?
  exact Array.getElem?_append_left hj
def RetSt (w : World) (l : Tx) (e : Ending) (w' : World) : Prop := e = .returned (.string (tx l)) ∧ w.grownBy w' none
theorem fixedOk_c (n : Int) (w : World) : Calls Tryd.prog 73 #[.int .i64 n] w (RetBo w (decide (-1000000000 ≤ n) && decide (n ≤ 1000000000))) := by
  have L := Az.mk (gr_refl w none)
  go_enter Tryd.func73, Tryd.ntmps73
  go_wp2_with fail
  refine (within_c _ _ _ _).mono ?_
  rintro e w1 ⟨rfl, h⟩
  have h0 : World.grownBy w w1 _ := (by refine World.grownBy.trans ?_ h; repeat (first | exact gr_refl _ _ | apply gr_drewN | apply gr_drew | apply gr_alloc))
  have L_ := Az.mk (gr_new L.out h0 (by first | (simp; done) | (simp; omega) | omega))
  clear L
  have L := L_; clear L_
  clear h0 h
  go_wp2_with fail
  go_ret
  exact ⟨rfl, L.out⟩
theorem FormatInt_c (n : Int) (h0 : -9223372036854775808 ≤ n) (h1 : n ≤ 9223372036854775807) (w : World) (hE : Env w) : Calls Tryd.prog 43 #[.int .i64 n] w (RetSt w (Lib.itoa n)) := by
  have L := Az.mk (gr_refl w none)
  have HE := Az.mk hE
  clear hE
  go_enter Tryd.func43, Tryd.ntmps43
  go_wp2_with fail
  refine (Tryd.strconv_Itoa n h0 h1 _ HE.out.1).mono ?_
  rintro e w1 ⟨rfl, k, os, hw⟩
  have h : w.grownBy w1 none := by rw [hw]; exact gr_ofBelow (below_regrown' _ _ _) _
  have L := Az.mk h
  clear h hw
  go_wp2_with fail
  go_ret
  exact ⟨rfl, L.out⟩
end Go.Proofs.YtfjafeepmpnegaaDoor
