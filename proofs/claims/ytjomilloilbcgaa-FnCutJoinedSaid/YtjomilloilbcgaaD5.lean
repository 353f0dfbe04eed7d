/- Draws of channels: contracts of spec.l05Plain, l05Any. No condition. -/
import Derived.Test.YtjomilloilbcgaaD4
namespace Go.Proofs.Ytjomilloilbcgaa
open Go.RowKit
set_option linter.unusedVariables false
set_option linter.unusedSimpArgs false

/-- A channel of small dyadic numbers. -/
def PlainCh (A O x y : Nat) : Prop := ∃ a o p q : Int, a ∈ [(1 : Int), 2, 4, 8] ∧ -32 ≤ o ∧ o ≤ 32 ∧ -8 ≤ p ∧ p ≤ 8 ∧ -8 ≤ q ∧ q ≤ 8 ∧ Q (fN .f32 A) (a * 1024) ∧ Q (fN .f32 O) (o * 512) ∧ Q (fN .f32 x) (p * 1024) ∧ Q (fN .f32 y) (q * 1024)
def RetPlain (w0 w : World) (g : Nat) (e : Ending) (w' : World) : Prop := ∃ A O x y : Nat, PlainCh A O x y ∧ e = .returned (.agg #[.float .f32 A, .float .f32 O, .complex .f32 x y]) ∧ Cur w0 w' g ∧ w.grownBy w' (some g)
theorem quart {n : Int} {b : Nat} (h1 : -16 ≤ n) (h2 : n ≤ 16) (h : fN .f32 b = fop .quo .f32 (fN .f32 (floatOfInt .f32 n)) (fN .f32 1082130432)) : Q (fN .f32 b) (n * 1024) := by
  rw [h]; exact Q_div (Q_ofInt n (by omega) (by omega)) (Q_mk 1082130432 false 8388608 128 (16384) (by decide +kernel) (by decide +kernel)) (by decide) (by omega) (by omega) (by omega)
theorem eighth {n : Int} {b : Nat} (h1 : -64 ≤ n) (h2 : n ≤ 64) (h : fN .f32 b = fop .quo .f32 (fN .f32 (floatOfInt .f32 n)) (fN .f32 1090519040)) : Q (fN .f32 b) (n * 512) := by
  rw [h]; exact Q_div (Q_ofInt n (by omega) (by omega)) (Q_mk 1090519040 false 8388608 129 (32768) (by decide +kernel) (by decide +kernel)) (by decide) (by omega) (by omega) (by omega)
theorem pick4 {j : Nat} (hj : j < 4) (w : World) : (w.alloc (.cells #[.int .i64 1, .int .i64 2, .int .i64 4, .int .i64 8] 3)).cell? ((⟨w.heap.size, 0, none⟩ : Addr).add j) = some (.int .i64 ([(1 : Int), 2, 4, 8].getD j 0)) := by
  rw [addAt, Nat.zero_add, blkCell (blkNew w _) j]
  match j, hj with
  | 0, _ => rfl
  | 1, _ => rfl
  | 2, _ => rfl
  | 3, _ => rfl

set_option maxHeartbeats 2000000 in
theorem l05Plain_c (w0 w : World) (g : Nat) (hc : Cur w0 w g) : Calls Try.prog 52 #[.pointer (some ⟨g, 0, none⟩)] w (RetPlain w0 w g) := by
  have HC := Az.mk hc
  have hlt := hc.lt
  have L0 := Az.mk (gr_refl w (some g))
  have hsz := hc.below.size
  have HS := Az.mk hsz
  clear hc hsz
  go_enter Try.func52, Try.ntmps52
  go_wp2_with fail
  refine (l01PickInt_c w0 _ g ⟨w.heap.size + 1, 0, none⟩ 4 4 [1, 2, 4, 8] rfl (by omega) (by omega) (fun j hj => ?_) (by simp; omega) ((HC.out.alloc _).alloc _)).mono ?_
  · have := pick4 hj (w.alloc (.cells #[.float .f32 0, .float .f32 0, .complex .f32 0 0] 28))
    simpa using this
  rintro e w1 ⟨a, ha, rfl, h2, h3⟩
  have B := Az.mk (blkGr (blkAlloc (blkNew w _) _) h3 (by simp; omega))
  have K1 := Az.mk h2
  have L1 := Az.mk ((gr_alloc (gr_alloc (gr_refl w (some g)) _) _).trans h3)
  have HA := Az.mk ha
  clear h2 h3 ha
  go_wp2_with (first | ((with_reducible refine gateN 9 rfl ?_); refine wp_fl 9 rfl rfl rfl rfl rfl rfl ?_; intro b9 n9 hb9; have HF9 := Az.mk hb9; clear hb9))
  refine (l01Below_c w0 _ g _ (by omega) (by omega) (K1.out.drewN _)).mono ?_
  rintro e w2 ⟨p, h02, h12, rfl, h2, h3⟩
  have B_ := Az.mk (show w2.heap[_]? = _ from (by first | exact blkGr B.out h3 (by first | (simp; omega) | simp) | exact blkGrD B.out h3 (by first | (simp; omega) | simp) | exact blkGrA B.out h3 (by first | (simp; omega) | simp))); clear B; have B := B_; clear B_
  have K2 := Az.mk h2
  have L2 := Az.mk (show World.grownBy w w2 (some g) from by (first | exact L1.out.trans h3 | exact (gr_drewN L1.out _).trans h3 | exact (gr_alloc L1.out _).trans h3 | exact (gr_drewN (gr_alloc L1.out _) _).trans h3 | exact (gr_alloc (gr_drewN L1.out _) _).trans h3))
  clear h2 h3
  go_wp2_with (first | ((with_reducible refine gateN 14 rfl ?_); refine wp_fl 14 rfl rfl rfl rfl rfl rfl ?_; intro b14 n14 hb14; have HF14 := Az.mk hb14; clear hb14))
  refine (l01Below_c w0 _ g _ (by omega) (by omega) (K2.out.drewN _)).mono ?_
  rintro e w3 ⟨o, h03, h13, rfl, h2, h3⟩
  have B_ := Az.mk (show w3.heap[_]? = _ from (by first | exact blkGr B.out h3 (by first | (simp; omega) | simp) | exact blkGrD B.out h3 (by first | (simp; omega) | simp) | exact blkGrA B.out h3 (by first | (simp; omega) | simp))); clear B; have B := B_; clear B_
  have K3 := Az.mk h2
  have L3 := Az.mk (show World.grownBy w w3 (some g) from by (first | exact L2.out.trans h3 | exact (gr_drewN L2.out _).trans h3 | exact (gr_alloc L2.out _).trans h3 | exact (gr_drewN (gr_alloc L2.out _) _).trans h3 | exact (gr_alloc (gr_drewN L2.out _) _).trans h3))
  clear h2 h3
  go_wp2_with (first | ((with_reducible refine gateN 20 rfl ?_); refine wp_fl 20 rfl rfl rfl rfl rfl rfl ?_; intro b20 n20 hb20; have HF20 := Az.mk hb20; clear hb20))
  refine (l01Below_c w0 _ g _ (by omega) (by omega) (K3.out.drewN _)).mono ?_
  rintro e w4 ⟨q, h04, h14, rfl, h2, h3⟩
  have B_ := Az.mk (show w4.heap[_]? = _ from (by first | exact blkGr B.out h3 (by first | (simp; omega) | simp) | exact blkGrD B.out h3 (by first | (simp; omega) | simp) | exact blkGrA B.out h3 (by first | (simp; omega) | simp))); clear B; have B := B_; clear B_
  have K4 := Az.mk h2
  have L4 := Az.mk (show World.grownBy w w4 (some g) from by (first | exact L3.out.trans h3 | exact (gr_drewN L3.out _).trans h3 | exact (gr_alloc L3.out _).trans h3 | exact (gr_drewN (gr_alloc L3.out _) _).trans h3 | exact (gr_alloc (gr_drewN L3.out _) _).trans h3))
  clear h2 h3
  have hb := B.out
  have c0 := blkCell hb 0
  have c1 := blkCell hb 1
  have c2 := blkCell hb 2
  have f0 := blkFree hb 0
  have f1 := blkFree hb 1
  have f2 := blkFree hb 2
  simp at c0 c1 c2
  clear hb
  go_wp2_with (first | ((with_reducible refine gateN 26 rfl ?_); refine wp_fl 26 rfl rfl rfl rfl rfl rfl ?_; intro b26 n26 hb26; have HF26 := Az.mk hb26; clear hb26))
  refine bodyPost_ret (results_c rfl _ _ w.heap.size 28 #[.float .f32 b9, .float .f32 b20, .complex .f32 b14 b26] _ rfl (blkSet (blkSet (blkSet (w := w4.drewN _) B.out 0 _) 1 _) 2 _) Try.underlying28 rfl (by kernel_rfl)) rfl ⟨b9, b20, b14, b26, ⟨a, o - 32, p - 8, q - 8, HA.out, by omega, by omega, by omega, by omega, by omega, by omega, ?_, ?_, ?_, ?_⟩, rfl, ?_, ?_⟩
  · have h4 : a = 1 ∨ a = 2 ∨ a = 4 ∨ a = 8 := by simpa using HA.out
    exact quart (by omega) (by omega) HF9.out
  · exact eighth (by omega) (by omega) HF20.out
  · exact quart (by omega) (by omega) HF14.out
  · exact quart (by omega) (by omega) HF26.out
  · exact (((K4.out.drewN _).far (p := ⟨w.heap.size, 0, none⟩) (by simp; omega) HS.out _).far (p := ⟨w.heap.size, 1, none⟩) (by simp; omega) HS.out _).far (p := ⟨w.heap.size, 2, none⟩) (by simp; omega) HS.out _
  · exact gr_setNew (gr_setNew (gr_setNew (gr_drewN L4.out _) (p := ⟨w.heap.size, 0, none⟩) (Nat.le_refl _) _) (p := ⟨w.heap.size, 1, none⟩) (Nat.le_refl _) _) (p := ⟨w.heap.size, 2, none⟩) (Nat.le_refl _) _
end Go.Proofs.Ytjomilloilbcgaa
