/- Floats: a single between -1024 and 1024 is one whose amount is at most 1024. No condition. -/
import Derived.Test.YtfjafeepmpnegaaDoorFw
namespace Go.Proofs.YtfjafeepmpnegaaDoor
open Go.RowKit Ieee
set_option linter.unusedVariables false
set_option linter.unusedSimpArgs false

def inN (x : F32) : Bool := fge x (fc 3296722944) && fle x (fc 1149239296)
theorem in_amount (b : Nat) : inN (fN .f32 b) = fle (amountN (fN .f32 b)) (fc 1149239296) := by
  by_cases hn : fN .f32 b = none
  · rw [hn]; rfl
  have hs : fN .f32 b = some b := fN_some (read_nan hn)
  have c0 : single.read 0 = .number false 0 (-149) := by decide +kernel
  have c1 : single.read 1149239296 = .number false 8388608 (-13) := by decide +kernel
  have c2 : single.read 3296722944 = .number true 8388608 (-13) := by decide +kernel
  have e0 : fc 0 = some 0 := by decide +kernel
  have e1 : fc 1149239296 = some 1149239296 := by decide +kernel
  have e2 : fc 3296722944 = some 3296722944 := by decide +kernel
  have ho : ∀ x y, ford .f32 (some x) (some y) = (single.read x).order (single.read y) := fun x y => rfl
  unfold inN amountN flt fle fge
  rw [hs, e0, e1, e2, ho, ho, ho, c0, c1, c2]
  have hneg : fneg (some b) = some (Op.negFloat .f32 b) := rfl
  have hrn : single.read (Op.negFloat .f32 b) = (single.read b).opposite := read_neg single b
  cases hr : single.read b with
  | nan s t => have := read_nan hn; rw [show (FloatKind.f32.format.read b) = single.read b from rfl, hr] at this; cases this
  | infinity s =>
    cases s
    · have : (Datum.order (.infinity false) (.number false 0 (-149)) == some Ordering.lt) = false := by decide
      rw [this]
      simp only [Bool.false_eq_true, if_false]
      rw [ho, c1, hr]; decide
    · have : (Datum.order (.infinity true) (.number false 0 (-149)) == some Ordering.lt) = true := by decide
      rw [this]
      simp only [if_true]
      rw [hneg, ho, c1, hrn, hr]; decide
  | number s m e =>
    have ord : ∀ s m (e : Int) t n (j : Int), Datum.order (.number s m e) (.number t n j) = some (compare (signed s m (e - min e j).toNat) (signed t n (j - min e j).toNat)) := fun _ _ _ _ _ _ => rfl
    by_cases hneg2 : s = true ∧ m ≠ 0
    · obtain ⟨rfl, hm⟩ := hneg2
      have h0 : (Datum.order (.number true m e) (.number false 0 (-149)) == some Ordering.lt) = true := by
        rw [ord, cmpInt, signed_eq, signed_eq]
        have : 0 < m * 2 ^ (e - min e (-149)).toNat := Nat.mul_pos (by omega) (pow_pos2 _)
        rw [if_pos (by simp only [if_true, Bool.false_eq_true, if_false, Nat.zero_mul]; omega)]; rfl
      rw [h0]
      simp only [if_true]
      rw [hneg, ho, c1, hrn, hr]
      simp only [Datum.opposite, Bool.not_true]
      rw [ord, ord, ord, cmpInt, cmpInt, cmpInt, signed_eq, signed_eq, signed_eq, signed_eq]
      generalize m * 2 ^ (e - min e (-13)).toNat = P
      have hQ : 0 < 8388608 * 2 ^ (-13 - min e (-13)).toNat := Nat.mul_pos (by decide) (pow_pos2 _)
      generalize 8388608 * 2 ^ (-13 - min e (-13)).toNat = R at hQ
      simp only [if_true, Bool.false_eq_true, if_false, Int.one_mul, Int.neg_mul]
      by_cases h1 : P < R
      · rw [if_neg (by omega), if_neg (by omega), if_pos (by omega), if_pos (by omega)]; rfl
      · by_cases h2 : P = R
        · subst h2
          rw [if_neg (by omega), if_pos rfl, if_pos (by omega), if_neg (by omega), if_pos rfl]; rfl
        · rw [if_pos (by omega), if_pos (by omega), if_neg (by omega), if_neg (by omega)]; rfl
    · have hv : ∀ u, 0 ≤ signed s m u := by
        intro u
        rw [signed_eq]
        cases s
        · simp only [Bool.false_eq_true, if_false, Int.one_mul]; exact Int.natCast_nonneg _
        · have : m = 0 := by simpa using hneg2
          subst this; simp
      have h0 : (Datum.order (.number s m e) (.number false 0 (-149)) == some Ordering.lt) = false := by
        have z : signed false 0 (-149 - min e (-149)).toNat = 0 := by simp [signed]
        rw [ord, cmpInt, z]
        have := hv (e - min e (-149)).toNat
        rw [if_neg (by omega)]
        by_cases h1 : signed s m (e - min e (-149)).toNat = 0
        · rw [if_pos h1]; rfl
        · rw [if_neg h1]; rfl
      rw [h0]
      simp only [Bool.false_eq_true, if_false]
      have z : signed true 8388608 (-13 - min e (-13)).toNat < 0 := by
        rw [signed_eq]
        have hQ : 0 < 8388608 * 2 ^ (-13 - min e (-13)).toNat := Nat.mul_pos (by decide) (pow_pos2 _)
        simp only [if_true]; omega
      have := hv (e - min e (-13)).toNat
      rw [ho, c1, hr, ord s m e true, cmpInt, if_neg (by omega), if_neg (by omega)]
      rfl
end Go.Proofs.YtfjafeepmpnegaaDoor
