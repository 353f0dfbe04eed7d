/- Floats: a single widened; a float and itself; a zero's reciprocal. No condition. -/
import Derived.Test.YtfjafeepmpnegaaDoorM1
namespace Go.Proofs.YtfjafeepmpnegaaDoor
open Go.RowKit Ieee
set_option linter.unusedVariables false
set_option linter.unusedSimpArgs false

theorem double_room : (2045 + 1) * double.binade ≤ double.infRung := by decide
theorem double_least : double.leastPlace = -((1074 : Nat) : Int) := by decide
/-- How great a single's parts are. -/
theorem single_parts {b : Nat} {s : Bool} {m : Nat} {e : Int} (h : single.read b = .number s m e) : m < 16777216 ∧ ∃ E : Nat, e = -149 + (E : Int) ∧ E ≤ 253 := by
  have hl : single.leastPlace = -149 := by decide
  have hb : single.binade = 8388608 := by decide
  have hi : single.infRung = 2139095040 := by decide
  unfold Format.read at h
  simp only [hl, hb, hi] at h
  generalize b % single.signWeight = r at h
  split at h
  · injection h with h1 h2 h3
    exact ⟨by omega, 0, by omega, by omega⟩
  · split at h
    · injection h with h1 h2 h3
      have : r / 8388608 ≤ 254 := by omega
      exact ⟨by omega, r / 8388608 - 1, by omega, by omega⟩
    · split at h <;> cases h
theorem read_nan {f : FloatKind} {b : Nat} (h : fN f b ≠ none) : (f.format.read b).isNaN = false := by
  unfold fN at h
  cases hh : (f.format.read b).isNaN with
  | false => rfl
  | true => exact absurd (if_pos (show (f.decode b).isNaN = true from hh)) h
theorem fN_some {f : FloatKind} {b : Nat} (h : (f.format.read b).isNaN = false) : fN f b = some b := by
  unfold fN
  rw [if_neg]
  show ¬ (f.format.read b).isNaN = true
  rw [h]; exact Bool.false_ne_true
/-- Every single but a NaN has one double. -/
theorem widen_some {b : Nat} (h : fN .f32 b ≠ none) : ∃ y, floatToFloatBits .f32 b .f64 = some y ∧ fN .f64 y = some y := by
  have hn := read_nan h
  unfold floatToFloatBits
  rw [if_neg (by decide)]
  show ∃ y, (match single.read b with | .nan _ _ => none | .infinity s => some (FloatKind.f64.encode (.infinity s)) | .number s m e => if (FloatKind.f64.decode (FloatKind.f64.encode (.number s m e))).isInfinity then none else some (FloatKind.f64.encode (.number s m e))) = some y ∧ _
  have hn' : (single.read b).isNaN = false := hn
  cases hr : single.read b with
  | nan s t => rw [hr] at hn'; cases hn'
  | infinity s => exact ⟨_, rfl, fN_some (write_infinity_nan double s)⟩
  | number s m e =>
    obtain ⟨hm, E, rfl, hE⟩ := single_parts hr
    have hv : Val double (double.write (.number s m (-149 + (E : Int)))) (if s then -((m * 2 ^ (E + 925) : Nat) : Int) else ((m * 2 ^ (E + 925) : Nat) : Int)) := by
      refine write_val 2045 double_room s m _ (m * 2 ^ (E + 925)) ⟨m, E + 925, rfl, ?_, ?_⟩ (-1074) (by omega) (by decide) ?_
      · have : double.binade = 4503599627370496 := by decide
        omega
      · have h1 : m * 2 ^ (E + 925) < 2 ^ 24 * 2 ^ (E + 925) := Nat.mul_lt_mul_of_pos_right (by omega) (pow_pos2 _)
        rw [← Nat.pow_add] at h1
        exact Nat.lt_of_lt_of_le h1 (Nat.pow_le_pow_right (by decide) (by have : double.fractionBits = 52 := rfl; omega))
      · have e1 : (-149 + (E : Int) - -1074).toNat = E + 925 := by omega
        have e2 : (double.leastPlace - -1074).toNat = 0 := by decide
        rw [e1, e2, Nat.pow_zero, Nat.mul_one]
    have hi : (FloatKind.f64.decode (FloatKind.f64.encode (.number s m (-149 + (E : Int))))).isInfinity = false := by
      obtain ⟨s', m', e', h1, _⟩ := hv
      show (double.read (double.write _)).isInfinity = false
      rw [h1]; rfl
    refine ⟨_, by simp only [hi]; rfl, fN_some hv.nan⟩
theorem fN_eq {k : FloatKind} {b y : Nat} (h : fN k b = some y) : b = y := by
  unfold fN at h
  split at h
  · cases h
  · injection h
theorem order_self {k : FloatKind} {b : Nat} (h : fN k b ≠ none) : k.format.order b b = some .eq := by
  have hn := read_nan h
  unfold Format.order
  cases hr : k.format.read b with
  | nan s t => rw [hr] at hn; cases hn
  | infinity s => cases s <;> rfl
  | number s m e => simp only [Datum.order, cmpInt]; simp
theorem order_none_l {k : FloatKind} {a b : Nat} (h : fN k a = none) : k.format.order a b = none := by
  rw [order_ford, h]; rfl
/-- 1 divided by a zero. -/
theorem quo_zero {b : Nat} (h : FloatKind.f64.format.order b 0 = some .eq) : ∃ y, floatBits .quo .f64 4607182418800017408 b = some y := by
  have h0 : double.read 0 = .number false 0 (-1074) := by decide +kernel
  have h1 : double.read 4607182418800017408 = .number false 4503599627370496 (-52) := by decide +kernel
  have hb : double.order b 0 = some .eq := h
  unfold Format.order at hb
  rw [h0] at hb
  unfold floatBits
  show ∃ y, double.div 4607182418800017408 b = some y
  unfold Format.div
  rw [h1]
  cases hr : double.read b with
  | nan s t => rw [hr] at hb; cases hb
  | infinity s => rw [hr] at hb; cases s <;> simp [Datum.order] at hb
  | number s m e =>
    rw [hr] at hb
    have hm : m = 0 := by
      simp only [Datum.order, Option.some.injEq] at hb
      rw [cmpInt] at hb
      have e2 : signed false 0 (-1074 - min e (-1074)).toNat = 0 := by simp [signed]
      rw [e2] at hb
      have e3 : signed s m (e - min e (-1074)).toNat = 0 := by
        by_cases h1 : signed s m (e - min e (-1074)).toNat < 0
        · rw [if_pos h1] at hb; cases hb
        · rw [if_neg h1] at hb
          by_cases h2 : signed s m (e - min e (-1074)).toNat = 0
          · exact h2
          · rw [if_neg h2] at hb; cases hb
      have e4 := signed_natAbs s m (e - min e (-1074)).toNat
      rw [e3] at e4
      have := pow_pos2 (e - min e (-1074)).toNat
      rcases Nat.mul_eq_zero.1 e4.symm with h | h
      · exact h
      · omega
    subst hm
    exact ⟨_, by simp only [Datum.quotient]; rfl⟩
end Go.Proofs.YtfjafeepmpnegaaDoor
