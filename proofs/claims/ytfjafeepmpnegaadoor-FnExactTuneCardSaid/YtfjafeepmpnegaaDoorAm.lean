/- Contracts of impl.amount, within. No condition. -/
import Derived.Test.YtfjafeepmpnegaaDoorProg
import Derived.Test.YtfjafeepmpnegaaDoorM1
import Derived.Test.YtfjafeepmpnegaaDoorRg
namespace Go.Proofs.YtfjafeepmpnegaaDoor
open Go.RowKit
set_option linter.unusedVariables false
set_option linter.unusedSimpArgs false

def RetFl (w : World) (p : F32) (e : Ending) (w' : World) : Prop := ∃ b, fN .f32 b = p ∧ e = .returned (.float .f32 b) ∧ w.grownBy w' none
def RetCx (w : World) (p q : F32) (e : Ending) (w' : World) : Prop := ∃ a b, fN .f32 a = p ∧ fN .f32 b = q ∧ e = .returned (.complex .f32 a b) ∧ w.grownBy w' none
def RetBo (w : World) (p : Bool) (e : Ending) (w' : World) : Prop := e = .returned (.bool p) ∧ w.grownBy w' none

theorem amount_c (x : Nat) (w : World) : Calls Tryd.prog 54 #[.float .f32 x] w (RetFl w (amountN (fN .f32 x))) := by
  have L := Az.mk (gr_refl w none)
  cases h : flt (fN .f32 x) (fc 0) with
  | true =>
    have h1 : (FloatKind.f32.format.order x 0 == some .lt) = true := by rw [o_lt]; exact h
    have H := Az.mk h
    clear h
    go_enter Tryd.func54, Tryd.ntmps54
    go_wp2
    go_ret
    exact ⟨_, by unfold amountN; rw [H.out, if_pos rfl, fN_neg]; rfl, rfl, L.out⟩
  | false =>
    have h1 : (FloatKind.f32.format.order x 0 == some .lt) = false := by rw [o_lt]; exact h
    have H := Az.mk h
    clear h
    go_enter Tryd.func54, Tryd.ntmps54
    go_wp2
    go_ret
    exact ⟨_, by unfold amountN; rw [H.out]; rfl, rfl, L.out⟩
theorem within_c (n lo hi : Int) (w : World) : Calls Tryd.prog 53 #[.int .i64 n, .int .i64 lo, .int .i64 hi] w (RetBo w (decide (lo ≤ n) && decide (n ≤ hi))) := by
  have L := Az.mk (gr_refl w none)
  by_cases h1 : lo ≤ n
  · by_cases h2 : n ≤ hi
    · go_enter Tryd.func53, Tryd.ntmps53
      go_wp2
      go_ret
      exact ⟨by simp [h1, h2], L.out⟩
    · go_enter Tryd.func53, Tryd.ntmps53
      go_wp2
      go_ret
      exact ⟨by simp [h1, h2], L.out⟩
  · have h3 : n < lo := by omega
    have h4 : decide (lo ≤ n) = false := by simp; omega
    go_enter Tryd.func53, Tryd.ntmps53
    go_wp2
    go_ret
    exact ⟨by simp [h1], L.out⟩
end Go.Proofs.YtfjafeepmpnegaaDoor
