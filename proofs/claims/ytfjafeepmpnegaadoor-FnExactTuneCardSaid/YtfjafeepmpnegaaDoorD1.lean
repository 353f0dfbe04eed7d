/- Draws of numbers: contracts of spec.l01New, l01PickInt, l01Once. No condition. -/
import Derived.Test.YtfjafeepmpnegaaDoorCu
import Derived.Deep.LoopGhost
namespace Go.Proofs.YtfjafeepmpnegaaDoor
open Go.RowKit
set_option linter.unusedVariables false
set_option linter.unusedSimpArgs false

def RetCur (w0 w : World) (e : Ending) (w' : World) : Prop := ∃ g, e = .returned (.pointer (some ⟨g, 0, none⟩)) ∧ Cur w0 w' g ∧ w.heap.size ≤ g ∧ w.grownBy w' none

set_option maxHeartbeats 1000000 in
theorem l01New_c (w0 w : World) (A : Option Addr) (n c : Nat) (hrd : BytesRd w0 A n) (hnc : n ≤ c) (hB : Below w0.heap.size w0 w) :
    Calls Tryd.prog 48 #[.slice A n c] w (RetCur w0 w) := by
  have hn : n ≤ 9223372036854775807 := hrd.1
  have HR := Az.mk hrd
  have HB := Az.mk hB
  clear hrd hB
  go_enter Tryd.func48, Tryd.ntmps48
  go_wp2
  go_loop [3, 4] (fun u v => ∃ h i : Int, u = .int .i64 h ∧ v = .int .i64 i ∧ 0 ≤ i ∧ i ≤ n) (fun _ v => n - (intOf v).toNat)
  case atStart => exact ⟨_, 0, rfl, rfl, by omega, by omega⟩
  case round =>
    obtain ⟨h, i, rfl, rfl, hi0, hin⟩ := hrel
    by_cases hlt : i < n
    · by_cases h4 : i < 4000
      · obtain ⟨ad, rfl, hcell⟩ := HR.out.2 (by omega)
        obtain ⟨x, hx0, hx1, hx⟩ := hcell i.toNat (by omega)
        have hx' := HB.out.cell (p := ad.add i.toNat) (World.block_lt_of_cell? w0 _ hx)
        rw [hx] at hx'
        clear hcell hx
        go_wp2
        go_round
        case rel => exact ⟨_, i + 1, rfl, rfl, by omega, by omega⟩
        case measure => simp [intOf]; omega
      · go_wp2
        go_ret
        refine ⟨w.heap.size, rfl, ⟨HB.out.size, HB.out.alloc HB.out.size _, A, n, c, 0, h, HR.out, hnc, by omega, by omega, blkNew w _⟩, Nat.le_refl _, gr_alloc (gr_refl _ _) _⟩
    · have h4 : decide (i < 4000) = decide (i < 4000) := rfl
      go_wp2
      go_ret
      refine ⟨w.heap.size, rfl, ⟨HB.out.size, HB.out.alloc HB.out.size _, A, n, c, 0, h, HR.out, hnc, by omega, by omega, blkNew w _⟩, Nat.le_refl _, gr_alloc (gr_refl _ _) _⟩

/-- What a draw of a bool leaves. -/
def RetB (w0 w : World) (g : Nat) (e : Ending) (w' : World) : Prop := ∃ b : Bool, e = .returned (.bool b) ∧ Cur w0 w' g ∧ w.grownBy w' (some g)
theorem l01Once_c (w0 w : World) (g : Nat) (n : Int) (hn : 0 < n) (hm : n ≤ 4611686018427387904) (hc : Cur w0 w g) : Calls Tryd.prog 100 #[.pointer (some ⟨g, 0, none⟩), .int .i64 n] w (RetB w0 w g) := by
  have HC := Az.mk hc
  clear hc
  go_enter Tryd.func100, Tryd.ntmps100
  go_wp2_with fail
  refine (l01Below_c w0 _ g n hn hm HC.out).mono ?_
  rintro e w1 ⟨r, h0, h1, rfl, h2, h3⟩
  have H2 := Az.mk h2
  have H3 := Az.mk h3
  clear h2 h3
  go_wp2
  go_ret
  exact ⟨_, rfl, H2.out, H3.out⟩
end Go.Proofs.YtfjafeepmpnegaaDoor
