/- Quotients, order, sign; singles that are whole numbers of 1/4096: their arithmetic is exact up to 2^24. No condition. -/
import Derived.Test.YtfjafeepmpnegaaDoorFf
namespace Go.Proofs.YtfjafeepmpnegaaDoor
open Ieee
set_option linter.unusedVariables false
set_option linter.unusedSimpArgs false

theorem div_val {f : Format} (B : Nat) (hB : (B + 1) * f.binade ≤ f.infRung) {x y : Nat} {X Y Z : Int} {u : Nat} (hu : f.leastPlace = -(u : Int)) (hx : Val f x X) (hy : Val f y Y) (hY : Y ≠ 0) (hZY : Z * Y = X * 2 ^ u) (hZ : Rep f B Z.natAbs) : ∃ r, f.div x y = some r ∧ Val f r Z := by
  have hp : (0 : Int) < 2 ^ u := Int.pow_pos (by omega)
  have hsq : Z * (Y * Y) = X * Y * 2 ^ u := by rw [← Int.mul_assoc, hZY, Int.mul_assoc, Int.mul_assoc, Int.mul_comm (2 ^ u)]
  have hYY : 0 < Y * Y := by
    rcases Int.lt_or_gt_of_ne hY with h | h
    · exact Int.mul_pos_of_neg_of_neg h h
    · exact Int.mul_pos h h
  obtain ⟨s, m, i, h1, rfl⟩ := hx
  obtain ⟨t, n, j, h2, rfl⟩ := hy
  have hn : n ≠ 0 := by
    rintro rfl
    apply hY
    rw [signed_eq]; simp
  have hab : Z.natAbs * (n * 2 ^ j) = m * 2 ^ i * 2 ^ u := by
    have := congrArg Int.natAbs hZY
    rw [Int.natAbs_mul, Int.natAbs_mul, Int.natAbs_pow, signed_natAbs, signed_natAbs] at this
    exact this
  unfold Format.div
  rw [h1, h2]
  simp only [Datum.quotient, if_neg hn, Option.map_some]
  refine ⟨_, rfl, ?_⟩
  generalize hmo : f.fractionBits + 2 + n.log2 - m.log2 = more
  have hdvd : ∃ D, m <<< more = D * n ∧ D * 2 ^ (i + u) = Z.natAbs * 2 ^ (j + more) := by
    have hnp : 0 < n := by omega
    have hfin : ∀ D, m * 2 ^ more = D * n → D * 2 ^ (i + u) = Z.natAbs * 2 ^ (j + more) := by
      intro D hD
      apply Nat.eq_of_mul_eq_mul_right hnp
      calc D * 2 ^ (i + u) * n = (D * n) * 2 ^ (i + u) := by rw [Nat.mul_right_comm]
        _ = m * 2 ^ more * 2 ^ (i + u) := by rw [hD]
        _ = (m * 2 ^ i * 2 ^ u) * 2 ^ more := by rw [Nat.pow_add, Nat.mul_right_comm, ← Nat.mul_assoc]
        _ = (Z.natAbs * (n * 2 ^ j)) * 2 ^ more := by rw [hab]
        _ = Z.natAbs * 2 ^ (j + more) * n := by rw [Nat.pow_add, Nat.mul_comm n, Nat.mul_assoc, Nat.mul_assoc, Nat.mul_assoc, Nat.mul_assoc, Nat.mul_comm n]
    obtain ⟨K, T, hK, hK1, hK2⟩ := hZ
    have heq : m * 2 ^ (i + u) = K * n * 2 ^ (T + j) := by
      rw [Nat.pow_add 2 i u, ← Nat.mul_assoc, ← hab, hK, Nat.pow_add 2 T j, Nat.mul_mul_mul_comm]
    by_cases hc : i + u ≤ T + j
    · have hm : m = K * n * 2 ^ (T + j - (i + u)) := by
        have e : T + j = (T + j - (i + u)) + (i + u) := by omega
        rw [e, Nat.pow_add 2 _ (i + u), ← Nat.mul_assoc] at heq
        exact Nat.eq_of_mul_eq_mul_right (pow_pos2 _) heq
      refine ⟨K * 2 ^ (T + j - (i + u)) * 2 ^ more, ?_, ?_⟩
      · rw [Nat.shiftLeft_eq, hm]
        rw [Nat.mul_right_comm K n, Nat.mul_right_comm _ n]
      · refine hfin _ ?_
        rw [hm]; rw [Nat.mul_right_comm K n, Nat.mul_right_comm _ n]
    · obtain ⟨c, hcc⟩ : ∃ c, i + u = (T + j) + c := ⟨i + u - (T + j), by omega⟩
      have hm : m * 2 ^ c = K * n := by
        rw [hcc, Nat.add_comm (T + j), Nat.pow_add, ← Nat.mul_assoc] at heq
        exact Nat.eq_of_mul_eq_mul_right (pow_pos2 _) heq
      by_cases hm0 : m = 0
      · subst hm0
        have hK0 : K * n = 0 := by rw [← hm]; simp
        refine ⟨0, by simp, ?_⟩
        exact hfin 0 (by simp)
      have hcm : c ≤ more := by
        have a1 : 2 ^ m.log2 ≤ m := Nat.log2_self_le hm0
        have a2 : n < 2 ^ (n.log2 + 1) := Nat.lt_log2_self
        have a3 : 2 ^ (m.log2 + c) < 2 ^ (f.fractionBits + 1 + (n.log2 + 1)) := by
          rw [Nat.pow_add, Nat.pow_add 2 (f.fractionBits + 1)]
          refine Nat.lt_of_le_of_lt (Nat.mul_le_mul_right _ a1) ?_
          rw [hm]
          have hb : f.binade = 2 ^ f.fractionBits := rfl
          have a4 : K < 2 ^ (f.fractionBits + 1) := by rw [Nat.pow_succ]; omega
          exact Nat.mul_lt_mul'' a4 a2
        have := (Nat.pow_lt_pow_iff_right (a := 2) (by omega)).1 a3
        omega
      obtain ⟨d, hd⟩ : ∃ d, more = c + d := ⟨more - c, by omega⟩
      refine ⟨K * 2 ^ d, ?_, ?_⟩
      · rw [Nat.shiftLeft_eq, hd, Nat.pow_add, ← Nat.mul_assoc, hm, Nat.mul_right_comm]
      · refine hfin _ ?_
        rw [hd, Nat.pow_add, ← Nat.mul_assoc, hm, Nat.mul_right_comm]
  obtain ⟨D, hD1, hD2⟩ := hdvd
  rw [hD1, Nat.mul_div_cancel _ (by omega), Nat.mul_mod_left]
  have h3 := write_val B hB (s ^^ t) (2 * D) (f.leastPlace + (i : Nat) - (f.leastPlace + (j : Nat)) - (more : Nat) - 1) Z.natAbs hZ (-((u + j + more + 1 : Nat) : Int)) (by omega) (by omega) (by
    have a1 : (f.leastPlace + (i : Int) - (f.leastPlace + (j : Int)) - (more : Int) - 1 - -((u + j + more + 1 : Nat) : Int)).toNat = i + u := by omega
    have a2 : (f.leastPlace - -((u + j + more + 1 : Nat) : Int)).toNat = j + more + 1 := by omega
    rw [a1, a2, Nat.mul_assoc, hD2, Nat.pow_succ, Nat.mul_comm 2, Nat.mul_assoc])
  have e6 : (if (s ^^ t) = true then -(Z.natAbs : Int) else Z.natAbs) = Z := by
    rw [signed_mul s t] at hsq
    have hpos : (0 : Int) ≤ ((m * n * 2 ^ (i + j) : Nat) : Int) := Int.natCast_nonneg _
    generalize ((m * n * 2 ^ (i + j) : Nat) : Int) = W at hsq hpos
    cases hst : (s ^^ t)
    · rw [hst] at hsq
      have : 0 ≤ Z := by
        apply Classical.byContradiction
        intro hneg
        have a1 := Int.mul_neg_of_neg_of_pos (show Z < 0 by omega) hYY
        have a2 : 0 ≤ W * 2 ^ u := Int.mul_nonneg hpos (by omega)
        simp at hsq
        omega
      simp; omega
    · rw [hst] at hsq
      have : Z ≤ 0 := by
        apply Classical.byContradiction
        intro hneg
        have a1 := Int.mul_pos (show 0 < Z by omega) hYY
        have a2 : 0 ≤ W * 2 ^ u := Int.mul_nonneg hpos (by omega)
        simp [Int.neg_mul] at hsq
        omega
      simp; omega
  rw [e6] at h3
  simpa using h3

theorem cmpInt (a b : Int) : compare a b = if a < b then .lt else if a = b then .eq else .gt := rfl
theorem cmp_scale (a b : Int) (k : Nat) : compare (a * 2 ^ k) (b * 2 ^ k) = compare a b := by
  have hp : (0 : Int) < 2 ^ k := Int.pow_pos (by omega)
  rw [cmpInt, cmpInt]
  by_cases h1 : a < b
  · rw [if_pos h1, if_pos (Int.mul_lt_mul_of_pos_right h1 hp)]
  · rw [if_neg h1, if_neg (by have := Int.mul_le_mul_of_nonneg_right (show b ≤ a by omega) (Int.le_of_lt hp); omega)]
    by_cases h2 : a = b
    · subst h2; rw [if_pos rfl, if_pos rfl]
    · rw [if_neg h2, if_neg]
      intro h3
      exact h2 (Int.eq_of_mul_eq_mul_right (by omega) h3)
theorem order_val {f : Format} {x y : Nat} {X Y : Int} (hx : Val f x X) (hy : Val f y Y) : f.order x y = some (compare X Y) := by
  obtain ⟨s, m, i, h1, rfl⟩ := hx
  obtain ⟨t, n, j, h2, rfl⟩ := hy
  unfold Format.order
  rw [h1, h2]
  simp only [Datum.order]
  obtain ⟨k, hk⟩ : ∃ k : Nat, k = min i j := ⟨_, rfl⟩
  have e1 : min (f.leastPlace + (i : Nat)) (f.leastPlace + (j : Nat)) = f.leastPlace + (k : Nat) := by omega
  rw [e1]
  have e2 : (f.leastPlace + (i : Int) - (f.leastPlace + (k : Int))).toNat = i - k := by omega
  have e3 : (f.leastPlace + (j : Int) - (f.leastPlace + (k : Int))).toNat = j - k := by omega
  rw [e2, e3]
  have e4 : signed s m i = signed s m (i - k) * 2 ^ k := by rw [← signed_add]; congr 1; omega
  have e5 : signed t n j = signed t n (j - k) * 2 ^ k := by rw [← signed_add]; congr 1; omega
  rw [e4, e5, cmp_scale]

/-! ### the sign turned -/
theorem read_neg (f : Format) (b : Nat) : f.read (b ^^^ 2 ^ (f.exponentBits + f.fractionBits)) = (f.read b).opposite := by
  have hm : (b ^^^ f.signWeight) % f.signWeight = b % f.signWeight := by
    unfold Format.signWeight
    rw [Nat.xor_mod_two_pow]
    simp
  have hd : ((b ^^^ f.signWeight) / f.signWeight % 2 == 1) = !(b / f.signWeight % 2 == 1) := by
    unfold Format.signWeight
    generalize f.exponentBits + f.fractionBits = p
    rw [← Nat.shiftRight_eq_div_pow, ← Nat.shiftRight_eq_div_pow, Nat.shiftRight_xor_distrib]
    have h1 : 2 ^ p >>> p = 1 := by rw [Nat.shiftRight_eq_div_pow]; exact Nat.div_self (pow_pos2 _)
    rw [h1]
    generalize b >>> p = c
    have h2 := Nat.xor_mod_two_pow (a := c) (b := 1) (n := 1)
    simp only [Nat.pow_one] at h2
    rw [h2]
    rcases Nat.mod_two_eq_zero_or_one c with h | h <;> rw [h] <;> decide
  have hx : b ^^^ 2 ^ (f.exponentBits + f.fractionBits) = b ^^^ f.signWeight := rfl
  rw [hx]
  unfold Format.read
  simp only [hm, hd]
  split
  · rfl
  · split
    · rfl
    · split <;> rfl
theorem fN_neg (k : FloatKind) (b : Nat) : fN k (Op.negFloat k b) = (fN k b).map (Op.negFloat k) := by
  unfold fN
  have h : (k.decode (Op.negFloat k b)).isNaN = (k.decode b).isNaN := by
    show (k.format.read _).isNaN = (k.format.read b).isNaN
    unfold Op.negFloat
    rw [read_neg, opposite_nan]
  rw [h]
  split <;> rfl
theorem neg_val (k : FloatKind) {b : Nat} {Z : Int} (h : Val k.format b Z) : Val k.format (Op.negFloat k b) (-Z) := by
  obtain ⟨s, m, e, h1, h2⟩ := h
  refine ⟨!s, m, e, ?_, ?_⟩
  · unfold Op.negFloat; rw [read_neg, h1]; rfl
  · rw [signed_not, h2]

/-! ### singles in units of 1/4096 -/
theorem single_room : (254 + 1) * single.binade ≤ single.infRung := by decide
theorem single_least : single.leastPlace = -((149 : Nat) : Int) := by decide
/-- 'x' is the single k/4096. -/
def Q (x : Option Nat) (k : Int) : Prop := ∃ b, x = some b ∧ Val single b (k * 2 ^ 137)
theorem rep_q {k : Int} (h : -16777216 < k) (h' : k < 16777216) : Rep single 254 (k * 2 ^ 137).natAbs := by
  refine ⟨k.natAbs, 137, by rw [Int.natAbs_mul, Int.natAbs_pow]; rfl, ?_, ?_⟩
  · have : single.binade = 8388608 := by decide
    omega
  · have h1 : k.natAbs < 2 ^ 24 := by omega
    have h2 : k.natAbs * 2 ^ 137 < 2 ^ 24 * 2 ^ 137 := Nat.mul_lt_mul_of_pos_right h1 (pow_pos2 _)
    exact Nat.lt_of_lt_of_le h2 (Nat.le_trans (Nat.le_of_eq (Nat.pow_add 2 24 137).symm) (Nat.pow_le_pow_right (by decide) (by decide)))
theorem fop_some (op : BinOp) (k : FloatKind) (a b : Nat) : fop op k (some a) (some b) = floatBits op k a b := rfl
theorem Q_mk (b : Nat) (s : Bool) (m e : Nat) (k : Int) (h : single.read b = .number s m (single.leastPlace + (e : Nat))) (hk : signed s m e = k * 2 ^ 137) : Q (fN .f32 b) k := by
  refine ⟨b, ?_, s, m, e, h, hk⟩
  have h2 : (FloatKind.f32.decode b).isNaN = false := by show (single.read b).isNaN = false; rw [h]; rfl
  unfold fN
  rw [h2]; rfl
theorem Q_add {x y : Option Nat} {k l : Int} (hx : Q x k) (hy : Q y l) (h1 : -16777216 < k + l) (h2 : k + l < 16777216) : Q (fop .add .f32 x y) (k + l) := by
  obtain ⟨a, rfl, ha⟩ := hx
  obtain ⟨b, rfl, hb⟩ := hy
  have e : k * 2 ^ 137 + l * 2 ^ 137 = (k + l) * 2 ^ 137 := by rw [Int.add_mul]
  obtain ⟨r, h3, h4⟩ := sum_val 254 single_room ha hb (by rw [e]; exact rep_q h1 h2)
  exact ⟨r, h3, e ▸ h4⟩
theorem Q_sub {x y : Option Nat} {k l : Int} (hx : Q x k) (hy : Q y l) (h1 : -16777216 < k - l) (h2 : k - l < 16777216) : Q (fop .sub .f32 x y) (k - l) := by
  obtain ⟨a, rfl, ha⟩ := hx
  obtain ⟨b, rfl, hb⟩ := hy
  have e : k * 2 ^ 137 - l * 2 ^ 137 = (k - l) * 2 ^ 137 := by rw [Int.sub_mul]
  obtain ⟨r, h3, h4⟩ := sub_val 254 single_room ha hb (by rw [e]; exact rep_q h1 h2)
  exact ⟨r, h3, e ▸ h4⟩
theorem pow_split (a b : Nat) : (2 : Int) ^ (a + b) = 2 ^ a * 2 ^ b := Int.pow_add 2 a b
theorem Q_mul {x y : Option Nat} {k l z : Int} (hx : Q x k) (hy : Q y l) (hz : k * l = z * 4096) (h1 : -16777216 < z) (h2 : z < 16777216) : Q (fop .mul .f32 x y) z := by
  obtain ⟨a, rfl, ha⟩ := hx
  obtain ⟨b, rfl, hb⟩ := hy
  have e : k * 2 ^ 137 * (l * 2 ^ 137) = z * 2 ^ 137 * 2 ^ 149 := by
    have e1 : k * 2 ^ 137 * (l * 2 ^ 137) = k * l * (2 ^ 137 * 2 ^ 137) := by
      generalize (2 : Int) ^ 137 = p
      rw [Int.mul_assoc, Int.mul_assoc, Int.mul_left_comm p l]
    have e2 : (4096 : Int) = 2 ^ 12 := by decide
    rw [e1, hz, Int.mul_assoc, Int.mul_assoc, e2, ← pow_split, ← pow_split, ← pow_split]
  obtain ⟨r, h3, h4⟩ := mul_val 254 single_room single_least ha hb e (rep_q h1 h2)
  exact ⟨r, h3, h4⟩
theorem Q_div {x y : Option Nat} {k l z : Int} (hx : Q x k) (hy : Q y l) (hl : l ≠ 0) (hz : z * l = k * 4096) (h1 : -16777216 < z) (h2 : z < 16777216) : Q (fop .quo .f32 x y) z := by
  obtain ⟨a, rfl, ha⟩ := hx
  obtain ⟨b, rfl, hb⟩ := hy
  have e : z * 2 ^ 137 * (l * 2 ^ 137) = k * 2 ^ 137 * 2 ^ 149 := by
    have e1 : z * 2 ^ 137 * (l * 2 ^ 137) = z * l * (2 ^ 137 * 2 ^ 137) := by
      generalize (2 : Int) ^ 137 = p
      rw [Int.mul_assoc, Int.mul_assoc, Int.mul_left_comm p l]
    have e2 : (4096 : Int) = 2 ^ 12 := by decide
    rw [e1, hz, Int.mul_assoc, Int.mul_assoc, e2, ← pow_split, ← pow_split, ← pow_split]
  have hl' : l * 2 ^ 137 ≠ 0 := by
    intro h
    rcases Int.mul_eq_zero.1 h with h | h
    · exact hl h
    · exact absurd h (Int.ne_of_gt (Int.pow_pos (by omega)))
  obtain ⟨r, h3, h4⟩ := div_val 254 single_room single_least ha hb hl' e (rep_q h1 h2)
  exact ⟨r, h3, h4⟩
theorem Q_ord {x y : Option Nat} {k l : Int} (hx : Q x k) (hy : Q y l) : ford .f32 x y = some (compare k l) := by
  obtain ⟨a, rfl, ha⟩ := hx
  obtain ⟨b, rfl, hb⟩ := hy
  show single.order a b = _
  rw [order_val ha hb, cmp_scale]
theorem Q_neg {x : Option Nat} {k : Int} (hx : Q x k) : Q (x.map (Op.negFloat .f32)) (-k) := by
  obtain ⟨a, rfl, ha⟩ := hx
  refine ⟨_, rfl, ?_⟩
  rw [Int.neg_mul]
  exact neg_val .f32 ha
theorem Q_ofInt (n : Int) (h1 : -4096 < n) (h2 : n < 4096) : Q (fN .f32 (floatOfInt .f32 n)) (n * 4096) := by
  have h3 := write_val 254 single_room (decide (n < 0)) n.natAbs 0 (n * 4096 * 2 ^ 137).natAbs (rep_q (by omega) (by omega)) (-((149 : Nat) : Int)) (by omega) (by rw [single_least]; omega) (by
    rw [single_least]
    have a1 : (0 - -((149 : Nat) : Int)).toNat = 149 := by omega
    have a2 : (-((149 : Nat) : Int) - -((149 : Nat) : Int)).toNat = 0 := by omega
    rw [a1, a2, Int.natAbs_mul, Int.natAbs_mul, Int.natAbs_pow, Nat.pow_zero, Nat.mul_one, Nat.mul_assoc]; rfl)
  have e : (if decide (n < 0) = true then -((n * 4096 * 2 ^ 137).natAbs : Int) else (n * 4096 * 2 ^ 137).natAbs) = n * 4096 * 2 ^ 137 := by
    have hp : (0 : Int) < 2 ^ 137 := Int.pow_pos (by omega)
    by_cases hn : n < 0
    · have : n * 4096 * 2 ^ 137 < 0 := Int.mul_neg_of_neg_of_pos (by omega) hp
      rw [if_pos (decide_eq_true hn)]; omega
    · have : 0 ≤ n * 4096 * 2 ^ 137 := Int.mul_nonneg (by omega) (by omega)
      rw [if_neg (by simpa using hn)]; omega
  rw [e] at h3
  refine ⟨floatOfInt .f32 n, ?_, h3⟩
  have h4 : (FloatKind.f32.decode (floatOfInt .f32 n)).isNaN = false := h3.nan
  unfold fN
  rw [h4]; rfl
end Go.Proofs.YtfjafeepmpnegaaDoor
