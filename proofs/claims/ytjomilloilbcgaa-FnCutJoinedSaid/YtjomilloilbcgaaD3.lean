/- Draws of channels and cells: contracts of spec.l02Level, l02Cell, l01Real, l05Plain, l05Any. No condition. -/
import Derived.Test.YtjomilloilbcgaaD2
import Derived.Test.YtjomilloilbcgaaFq
namespace Go.Proofs.Ytjomilloilbcgaa
open Go.RowKit
set_option linter.unusedVariables false
set_option linter.unusedSimpArgs false

set_option maxHeartbeats 1000000 in
theorem l01Real_c (w0 w : World) (g : Nat) (n : Int) (hn : 0 < n) (hm : n ≤ 1000) (hc : Cur w0 w g) : Calls Try.prog 72 #[.pointer (some ⟨g, 0, none⟩), .int .i64 n] w (RetF .f64 w0 w g) := by
  have HC := Az.mk hc
  clear hc
  go_enter Try.func72, Try.ntmps72
  go_wp2_with fail
  refine (l01Once_c w0 _ g 40 (by omega) (by omega) HC.out).mono ?_
  rintro e w1 ⟨r1, rfl, h2, h3⟩
  have K1 := Az.mk h2
  have L1 := Az.mk h3
  clear h2 h3
  cases r1 with
  | true =>
    go_wp2_with fail
    refine (l01Odd_c w0 _ g K1.out).mono ?_
    rintro e w2 ⟨r2, rfl, h2, h3⟩
    have K2 := Az.mk h2
    have L2 := Az.mk h3
    clear h2 h3
    go_wp2
    go_ret
    exact ⟨_, rfl, K2.out, L1.out.trans L2.out⟩
  | false =>
    go_wp2_with fail
    refine (l01Below_c w0 _ g _ (by omega) (by omega) K1.out).mono ?_
    rintro e w2 ⟨r2, h02, h12, rfl, h2, h3⟩
    have K2 := Az.mk h2
    have L2 := Az.mk h3
    clear h2 h3
    go_wp2_with (first | ((with_reducible refine gateN 16 rfl ?_); refine wp_fl 16 rfl rfl rfl rfl rfl rfl ?_; intro b16 n16 hb16; have HF16 := Az.mk hb16; clear hb16))
    refine (l01Once_c w0 _ g 2 (by omega) (by omega) (K2.out.drewN _)).mono ?_
    rintro e w3 ⟨r3, rfl, h2, h3⟩
    have K3 := Az.mk h2
    have L3 := Az.mk h3
    clear h2 h3
    cases r3 with
    | true =>
      go_wp2_with fail
      refine (l01Below_c w0 _ g _ (by omega) (by omega) K3.out).mono ?_
      rintro e w4 ⟨r4, h04, h14, rfl, h2, h3⟩
      have K4 := Az.mk h2
      have L4 := Az.mk h3
      clear h2 h3
      go_wp2_with (first | ((with_reducible refine gateN 25 rfl ?_); refine wp_fl 25 rfl rfl rfl rfl rfl rfl ?_; intro b25 n25 hb25; have HF25 := Az.mk hb25; clear hb25))
      refine (l01Once_c w0 _ g 2 (by omega) (by omega) (K4.out.drewN _)).mono ?_
      rintro e w5 ⟨r5, rfl, h2, h3⟩
      have K5 := Az.mk h2
      have L5 := Az.mk h3
      clear h2 h3
      cases r5 <;> go_wp2 <;> go_ret <;> exact ⟨_, rfl, K5.out, L1.out.trans ((gr_drewN L2.out _).trans (L3.out.trans ((gr_drewN L4.out _).trans L5.out)))⟩
    | false =>
      go_wp2_with fail
      refine (l01Once_c w0 _ g 2 (by omega) (by omega) K3.out).mono ?_
      rintro e w5 ⟨r5, rfl, h2, h3⟩
      have K5 := Az.mk h2
      have L5 := Az.mk h3
      clear h2 h3
      cases r5 <;> go_wp2 <;> go_ret <;> exact ⟨_, rfl, K5.out, L1.out.trans ((gr_drewN L2.out _).trans (L3.out.trans L5.out))⟩

set_option maxHeartbeats 1000000 in
theorem l02Level_c (w0 w : World) (g : Nat) (hc : Cur w0 w g) : Calls Try.prog 86 #[.pointer (some ⟨g, 0, none⟩)] w (RetF .f32 w0 w g) := by
  have HC := Az.mk hc
  clear hc
  go_enter Try.func86, Try.ntmps86
  go_wp2_with fail
  refine (l01Once_c w0 _ g 60 (by omega) (by omega) HC.out).mono ?_
  rintro e w1 ⟨r1, rfl, h2, h3⟩
  have K1 := Az.mk h2
  have L1 := Az.mk h3
  clear h2 h3
  cases r1 with
  | true =>
    go_wp2_with fail
    refine (l01Odd_c w0 _ g K1.out).mono ?_
    rintro e w2 ⟨r2, rfl, h2, h3⟩
    have K2 := Az.mk h2
    have L2 := Az.mk h3
    clear h2 h3
    go_wp2_with (first | ((with_reducible refine gateN 7 rfl ?_); refine wp_cv 7 rfl rfl rfl rfl (by rw [Try.underlying104]; rfl) Try.underlying25 ?_; intro b7 n7 hb7 hc7; have HF7 := Az.mk hb7; have HG7 := Az.mk hc7; clear hb7 hc7))
    go_ret
    exact ⟨_, rfl, K2.out.drewN _, gr_drewN (L1.out.trans L2.out) _⟩
  | false =>
    go_wp2_with fail
    refine (l01Once_c w0 _ g 40 (by omega) (by omega) K1.out).mono ?_
    rintro e w2 ⟨r2, rfl, h2, h3⟩
    have K2 := Az.mk h2
    have L2 := Az.mk h3
    clear h2 h3
    cases r2 with
    | true =>
      go_wp2_with fail
      refine (l01PickInt_c w0 _ g ⟨w2.heap.size, 0, none⟩ 3 3 [256, -256, 257] rfl (by omega) (by omega) ?_ ?_ ?_).mono ?_
      · intro j hj
        have hb := blkNew w2 (.cells #[.int .i64 256, .int .i64 (-256), .int .i64 257] 3)
        rw [addAt, Nat.zero_add, blkCell hb j]
        match j, hj with
        | 0, _ => rfl
        | 1, _ => rfl
        | 2, _ => rfl
      · have := K2.out.lt; simp; omega
      · exact K2.out.alloc _
      · rintro e w3 ⟨r3, hr, rfl, h2, h3⟩
        have K3 := Az.mk h2
        have L3 := Az.mk h3
        clear h2 h3
        go_wp2
        go_ret
        exact ⟨_, rfl, K3.out, L1.out.trans (L2.out.trans ((gr_alloc (gr_refl _ _) _).trans L3.out))⟩
    | false =>
      go_wp2_with fail
      refine (l01Below_c w0 _ g _ (by omega) (by omega) K2.out).mono ?_
      rintro e w3 ⟨r3, h03, h13, rfl, h2, h3⟩
      have K3 := Az.mk h2
      have L3 := Az.mk h3
      clear h2 h3
      go_wp2_with (first | ((with_reducible refine gateN 18 rfl ?_); refine wp_fl 18 rfl rfl rfl rfl rfl rfl ?_; intro b18 n18 hb18; have HF18 := Az.mk hb18; clear hb18))
      go_ret
      exact ⟨_, rfl, K3.out.drewN _, gr_drewN (L1.out.trans (L2.out.trans L3.out)) _⟩
end Go.Proofs.Ytjomilloilbcgaa
