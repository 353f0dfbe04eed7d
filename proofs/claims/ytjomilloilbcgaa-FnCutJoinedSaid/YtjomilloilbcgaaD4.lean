/- Draws of cells and channels: contracts of spec.l02Cell, l05Plain, l05Any, DrawTimes, DrawPlainChannel. No condition. -/
import Derived.Test.YtjomilloilbcgaaD3
import Derived.Test.YtjomilloilbcgaaKc
namespace Go.Proofs.Ytjomilloilbcgaa
open Go.RowKit
set_option linter.unusedVariables false
set_option linter.unusedSimpArgs false

/-- What a draw of a cell leaves. -/
def RetCell (w0 w : World) (g : Nat) (e : Ending) (w' : World) : Prop := ∃ y u v : Nat, e = .returned (.agg #[.float .f32 y, .complex .f32 u v]) ∧ Cur w0 w' g ∧ w.grownBy w' (some g)
set_option maxHeartbeats 1000000 in
theorem l02Cell_c (w0 w : World) (g : Nat) (hc : Cur w0 w g) : Calls Try.prog 48 #[.pointer (some ⟨g, 0, none⟩)] w (RetCell w0 w g) := by
  have HC := Az.mk hc
  have hlt := hc.lt
  clear hc
  go_enter Try.func48, Try.ntmps48
  go_wp2_with fail
  refine (l02Level_c w0 _ g (HC.out.alloc _)).mono ?_
  rintro e w1 ⟨r1, rfl, h2, h3⟩
  have B1 := Az.mk (blkGr (blkNew w _) h3 (by simp; omega))
  have K1 := Az.mk h2
  have L1 := Az.mk h3
  clear h2 h3
  go_wp2_with fail
  refine (l02Level_c w0 _ g K1.out).mono ?_
  rintro e w2 ⟨r2, rfl, h2, h3⟩
  have B2 := Az.mk (blkGr B1.out h3 (by simp; omega))
  have K2 := Az.mk h2
  have L2 := Az.mk h3
  clear h2 h3
  go_wp2_with fail
  refine (l02Level_c w0 _ g K2.out).mono ?_
  rintro e w3 ⟨r3, rfl, h2, h3⟩
  have hb := blkGr B2.out h3 (by simp; omega)
  have K3 := Az.mk h2
  have L3 := Az.mk h3
  clear h2 h3
  have c0 := blkCell hb 0
  have c1 := blkCell hb 1
  have f0 := blkFree hb 0
  have f1 := blkFree hb 1
  simp at c0 c1
  have B3 := Az.mk hb
  clear hb
  go_wp2
  refine bodyPost_ret (results_c rfl _ _ w.heap.size 49 #[.float .f32 r1, .complex .f32 r2 r3] _ rfl (blkSet (blkSet B3.out 0 _) 1 _) Try.underlying49 rfl (by kernel_rfl)) rfl ⟨r1, r2, r3, rfl, ?_, ?_⟩
  · exact (K3.out.far (p := ⟨w.heap.size, 0, none⟩) (by simp; omega) (by have := K3.out.below.size; have := HC.out.below.size; exact this) _).far (p := ⟨w.heap.size, 1, none⟩) (by simp; omega) (by have := HC.out.below.size; exact this) _
  · exact gr_setNew (gr_setNew (((((gr_alloc (gr_refl _ _) _).trans L1.out).trans L2.out).trans L3.out)) (p := ⟨w.heap.size, 0, none⟩) (Nat.le_refl _) _) (p := ⟨w.heap.size, 1, none⟩) (Nat.le_refl _) _
end Go.Proofs.Ytjomilloilbcgaa
