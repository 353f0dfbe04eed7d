/- The cursor of drawn bytes: what its functions do to memory, weakly told (the number that is drawn lies in its range). No condition. -/
import Derived.Test.YtfjafeepmpnegaaDoorProg
import Derived.Test.YtfjafeepmpnegaaDoorKb
import Derived.BigQuiet
import Derived.Deep.QuietTactic
namespace Go.Proofs.YtfjafeepmpnegaaDoor
open Go.RowKit
set_option linter.unusedVariables false
set_option linter.unusedSimpArgs false

/-- The bytes that a slice leads to. -/
def BytesRd (w : World) (A : Option Addr) (n : Nat) : Prop :=
  n ≤ 9223372036854775807 ∧ (0 < n → ∃ ad, A = some ad ∧ ∀ j, j < n → ∃ x : Int, 0 ≤ x ∧ x ≤ 255 ∧ w.cell? (ad.add j) = some (.int .u8 x))
/-- A cursor at block g, whose bytes came in by w0. -/
def Cur (w0 w : World) (g : Nat) : Prop :=
  w0.heap.size ≤ g ∧ Below w0.heap.size w0 w ∧ ∃ A n c, ∃ i h : Int, BytesRd w0 A n ∧ n ≤ c ∧ 0 ≤ i ∧ i ≤ n ∧ w.heap[g]? = some (.cells #[.slice A n c, .int .i64 i, .int .i64 h] 93 (0, 0))
theorem Cur.lt {w0 w : World} {g : Nat} (h : Cur w0 w g) : g < w.heap.size := by
  obtain ⟨_, _, A, n, c, i, h, _, _, _, _, hb⟩ := h
  exact blkLt hb
theorem Cur.ge {w0 w : World} {g : Nat} (h : Cur w0 w g) : w0.heap.size ≤ g := h.1
theorem Cur.size {w0 w : World} {g : Nat} (h : Cur w0 w g) : w0.heap.size < w.heap.size := Nat.lt_of_le_of_lt h.ge h.lt
theorem Cur.below {w0 w : World} {g : Nat} (h : Cur w0 w g) : Below w0.heap.size w0 w := h.2.1
theorem Cur.gr {w0 w w1 : World} {g : Nat} {row : Option Nat} (h : Cur w0 w g) (k : w.grownBy w1 row) (hne : some g ≠ row) (hr : ∀ j, row = some j → w0.heap.size ≤ j) : Cur w0 w1 g := by
  obtain ⟨hg, hB, A, n, c, i, q, hrd, hnc, hi0, hin, hb⟩ := h
  exact ⟨hg, below_gr hB k hB.size hr, A, n, c, i, q, hrd, hnc, hi0, hin, blkGr hb k hne⟩
theorem Cur.drewN {w0 w : World} {g : Nat} (h : Cur w0 w g) (n : Nat) : Cur w0 (w.drewN n) g := h.gr (gr_drewN (gr_refl _ none) n) (by simp) (by simp)
theorem Cur.drew {w0 w : World} {g : Nat} (h : Cur w0 w g) : Cur w0 w.drew g := h.gr (gr_drew (gr_refl _ none)) (by simp) (by simp)
theorem Cur.alloc {w0 w : World} {g : Nat} (h : Cur w0 w g) (o : Obj) : Cur w0 (w.alloc o) g := h.gr (gr_alloc (gr_refl _ none) o) (by simp) (by simp)
theorem Cur.far {w0 w : World} {g : Nat} (h : Cur w0 w g) {p : Addr} (hp : g ≠ p.block) (hw : w0.heap.size ≤ p.block) (u : Value) : Cur w0 (w.setCell p u) g := by
  obtain ⟨hg, hB, A, n, c, i, q, hrd, hnc, hi0, hin, hb⟩ := h
  exact ⟨hg, hB.setCell hw u, A, n, c, i, q, hrd, hnc, hi0, hin, blkFar hb hp u⟩
/-- What a draw of a whole number leaves. -/
def RetN (w0 w : World) (g : Nat) (lo hi : Int) (e : Ending) (w' : World) : Prop := ∃ r : Int, lo ≤ r ∧ r ≤ hi ∧ e = .returned (.int .i64 r) ∧ Cur w0 w' g ∧ w.grownBy w' (some g)

theorem l01Byte_c (w0 w : World) (g : Nat) (hc : Cur w0 w g) : Calls Tryd.prog 77 #[.pointer (some ⟨g, 0, none⟩)] w (RetN w0 w g 0 255) := by
  obtain ⟨hg, hB, A, n, c, i, h, hrd, hnc, hi0, hin, hb⟩ := hc
  have c0 := blkCell hb 0
  have c1 := blkCell hb 1
  have c2 := blkCell hb 2
  have f1 := blkFree hb 1
  have f2 := blkFree hb 2
  simp at c0 c1 c2
  have hn : n ≤ 9223372036854775807 := hrd.1
  have hb2 := fun u => blkSet hb 2 u
  simp at hb2
  have hb3 := fun u v => blkSet (hb2 u) 1 v
  simp at hb3
  have HB := Az.mk hB
  have HR := Az.mk hrd
  have HG := Az.mk hg
  have H2 := Az.mk hb2
  have H3 := Az.mk hb3
  clear hB hrd hb hb2 hb3
  by_cases hlt : i < n
  · obtain ⟨ad, rfl, hcell⟩ := HR.out.2 (by omega)
    obtain ⟨x, hx0, hx1, hx⟩ := hcell i.toNat (by omega)
    clear hcell
    have hx' := HB.out.cell (p := ad.add i.toNat) (World.block_lt_of_cell? w0 _ hx)
    rw [hx] at hx'
    have hx2 : ∀ u, (w.setCell ⟨g, 2, none⟩ u).cell? (ad.add i.toNat) = some (.int .u8 x) := fun u => cellFar hx' (by have := World.block_lt_of_cell? w0 _ hx; show _ ≠ g; omega) u
    clear hx hx' hg
    go_enter Tryd.func77, Tryd.ntmps77
    go_wp2
    go_quiet (fail)
    go_wp2
    go_quiet (fail)
    go_wp2
    go_quiet (fail)
    go_wp2
    go_ret
    refine ⟨_, (and255 _).1, (and255 _).2, rfl, ⟨HG.out, ?_, some ad, n, c, i + 1, wrap64 (wrap64 (h * 6364136223846793005) + 1442695040888963407), HR.out, hnc, by omega, by omega, ?_⟩, ?_⟩
    · repeat (first | exact HB.out | apply bl_drewN | refine bl_set ?_ (show w0.heap.size ≤ g from HG.out) _)
    · rw [setDraw]; exact H3.out _ _
    · repeat (first | exact gr_refl _ _ | apply gr_set | apply gr_drewN)
  · go_enter Tryd.func77, Tryd.ntmps77
    go_wp2
    go_quiet (fail)
    go_wp2
    go_quiet (fail)
    go_wp2
    go_ret
    refine ⟨_, (and255 _).1, (and255 _).2, rfl, ⟨HG.out, ?_, A, n, c, i, wrap64 (wrap64 (h * 6364136223846793005) + 1442695040888963407), HR.out, hnc, by omega, by omega, ?_⟩, ?_⟩
    · repeat (first | exact HB.out | apply bl_drewN | refine bl_set ?_ (show w0.heap.size ≤ g from HG.out) _)
    · exact H2.out _
    · repeat (first | exact gr_refl _ _ | apply gr_set | apply gr_drewN)

theorem RetN.mono {w0 w : World} {g : Nat} {lo hi lo' hi' : Int} {e : Ending} {w' : World} (h : RetN w0 w g lo hi e w') (h1 : lo' ≤ lo) (h2 : hi ≤ hi') : RetN w0 w g lo' hi' e w' := by
  obtain ⟨r, a, b, c⟩ := h
  exact ⟨r, by omega, by omega, c⟩

theorem l01Below_c (w0 w : World) (g : Nat) (n : Int) (hn : 0 < n) (hm : n ≤ 4611686018427387904) (hc : Cur w0 w g) : Calls Tryd.prog 50 #[.pointer (some ⟨g, 0, none⟩), .int .i64 n] w (RetN w0 w g 0 (n - 1)) := by
  have HC := Az.mk hc
  clear hc
  by_cases h256 : n ≤ 256
  · go_enter Tryd.func50, Tryd.ntmps50
    go_wp2_with fail
    refine (l01Byte_c w0 _ g HC.out).mono ?_
    rintro e w1 ⟨r, h0, h1, rfl, h2, h3⟩
    have H2 := Az.mk h2
    have H3 := Az.mk h3
    clear h2 h3
    go_wp2
    go_ret
    exact ⟨_, Int.emod_nonneg _ (by omega), Int.le_sub_one_of_lt (Int.emod_lt_of_pos _ hn), rfl, H2.out, H3.out⟩
  · go_enter Tryd.func50, Tryd.ntmps50
    go_wp2_with fail
    refine (l01Byte_c w0 _ g HC.out).mono ?_
    rintro e w1 ⟨r1, h01, h11, rfl, h2, h3⟩
    have K1 := Az.mk h2
    have L1 := Az.mk h3
    clear h2 h3
    go_wp2_with fail
    refine (l01Byte_c w0 _ g K1.out).mono ?_
    rintro e w2 ⟨r2, h02, h12, rfl, h2, h3⟩
    have K2 := Az.mk h2
    have L2 := Az.mk h3
    clear h2 h3
    go_wp2_with fail
    refine (l01Byte_c w0 _ g K2.out).mono ?_
    rintro e w3 ⟨r3, h03, h13, rfl, h2, h3⟩
    have K3 := Az.mk h2
    have L3 := Az.mk h3
    clear h2 h3
    go_wp2_with fail
    refine (l01Byte_c w0 _ g K3.out).mono ?_
    rintro e w4 ⟨r4, h04, h14, rfl, h2, h3⟩
    have K4 := Az.mk h2
    have L4 := Az.mk h3
    clear h2 h3
    go_wp2
    go_ret
    exact ⟨_, Int.emod_nonneg _ (by omega), Int.le_sub_one_of_lt (Int.emod_lt_of_pos _ hn), rfl, K4.out, ((L1.out.trans L2.out).trans L3.out).trans L4.out⟩
end Go.Proofs.YtfjafeepmpnegaaDoor
