/- Floats: a whole number divided by 1000, and the quotient as a single: neither is infinite. No condition. -/
import Derived.Test.YtfjafeepmpnegaaDoorFw
namespace Go.Proofs.YtfjafeepmpnegaaDoor
open Go.RowKit Ieee
set_option linter.unusedVariables false
set_option linter.unusedSimpArgs false

theorem cut_le (w : Toward) (s : Bool) (n drop : Nat) : w.cut s n drop ≤ n / 2 ^ drop + 1 := by
  unfold Toward.cut
  have hb : ∀ b : Bool, b.toNat ≤ 1 := fun b => by cases b <;> simp
  have hg : n / (1 <<< min drop (n.log2 + 2)) ≤ n / 2 ^ drop := by
    rw [Nat.shiftLeft_eq, Nat.one_mul]
    by_cases h : drop ≤ n.log2 + 2
    · rw [Nat.min_eq_left h]; exact Nat.le_refl _
    · rw [Nat.min_eq_right (by omega), Nat.div_eq_of_lt]
      · exact Nat.zero_le _
      · exact Nat.lt_of_lt_of_le (Nat.lt_log2_self (n := n)) (Nat.pow_le_pow_right (by decide) (by omega))
  exact Nat.add_le_add hg (hb _)
/-- What is kept of a number has one digit more than the fraction field, or is the next power. -/
theorem kept_le (f : Format) (s : Bool) (m : Nat) (hm : m ≠ 0) (e last : Int) (hl : e + m.log2 - f.fractionBits ≤ last) : Toward.even.cut s (m <<< (e - last).toNat) (last - e).toNat ≤ 2 * f.binade := by
  have hlt : m < 2 ^ (m.log2 + 1) := Nat.lt_log2_self
  have hb : 2 * f.binade = 2 ^ (f.fractionBits + 1) := by rw [Nat.pow_succ, Nat.mul_comm]; rfl
  rw [hb]
  by_cases h : last ≤ e
  · have h0 : (last - e).toNat = 0 := by omega
    have := cut_exact .even s (m <<< (e - last).toNat) 0
    rw [Nat.pow_zero, Nat.mul_one] at this
    rw [h0, this, Nat.shiftLeft_eq]
    have h1 : m * 2 ^ (e - last).toNat < 2 ^ (m.log2 + 1) * 2 ^ (e - last).toNat := Nat.mul_lt_mul_of_pos_right hlt (pow_pos2 _)
    rw [← Nat.pow_add] at h1
    exact Nat.le_of_lt (Nat.lt_of_lt_of_le h1 (Nat.pow_le_pow_right (by decide) (by omega)))
  · have h0 : (e - last).toNat = 0 := by omega
    rw [h0, Nat.shiftLeft_zero]
    refine Nat.le_trans (cut_le _ _ _ _) ?_
    have h1 : m / 2 ^ (last - e).toNat < 2 ^ (f.fractionBits + 1) := by
      rw [Nat.div_lt_iff_lt_mul (pow_pos2 _), ← Nat.pow_add]
      exact Nat.lt_of_lt_of_le hlt (Nat.pow_le_pow_right (by decide) (by omega))
    omega
/-- A number that is not too great is written as a number. -/
theorem write_small (f : Format) (s : Bool) (m : Nat) (e : Int) (K : Nat) (hK : m ≠ 0 → e + m.log2 - f.fractionBits ≤ f.leastPlace + K) (h : (K + 3) * f.binade ≤ f.infRung) :
    ∃ J T : Nat, f.read (f.write (.number s m e)) = .number s J (f.leastPlace + (T : Nat)) ∧ J < 2 * f.binade ∧ T ≤ K + 2 := by
  have hl := f.infRung_lt
  have hb : 0 < f.binade := pow_pos2 _
  have key : ∀ R, R < f.infRung → R ≤ (K + 2) * f.binade → ∃ J T : Nat, f.read (f.word s R) = .number s J (f.leastPlace + (T : Nat)) ∧ J < 2 * f.binade ∧ T ≤ K + 2 := by
    intro R hR hRK
    have hm : f.word s R % f.signWeight = R := by
      unfold Format.word
      cases s
      · simp; exact Nat.mod_eq_of_lt (by omega)
      · simp; exact Nat.mod_eq_of_lt (by omega)
    have hs : (f.word s R / f.signWeight % 2 == 1) = s := by
      have hp : 0 < f.signWeight := by omega
      unfold Format.word
      cases s
      · simp; rw [Nat.div_eq_of_lt (by omega)]
      · simp only [if_true]
        rw [Nat.add_div_left _ hp, Nat.div_eq_of_lt (by omega)]; rfl
    unfold Format.read
    simp only [hm, hs]
    by_cases h1 : R < f.binade
    · rw [if_pos h1]; exact ⟨R, 0, by simp, by omega, by omega⟩
    · rw [if_neg h1, if_pos hR]
      have h2 : R / f.binade ≤ K + 2 := Nat.div_le_of_le_mul (by rw [Nat.mul_comm]; exact hRK)
      have h3 : R % f.binade < f.binade := Nat.mod_lt _ hb
      exact ⟨_, R / f.binade - 1, rfl, by omega, by omega⟩
  have hK3 : (K + 2) * f.binade < f.infRung := Nat.lt_of_lt_of_le (Nat.mul_lt_mul_of_pos_right (by omega) hb) h
  unfold Format.write Format.nearest
  simp only []
  by_cases hm : m = 0
  · rw [if_pos hm]; exact key 0 (by omega) (Nat.zero_le _)
  · rw [if_neg hm]
    have hk := kept_le f s m hm e (max (e + m.log2 - f.fractionBits) f.leastPlace) (Int.le_max_left _ _)
    generalize Toward.even.cut s (m <<< (e - max (e + m.log2 - f.fractionBits) f.leastPlace).toNat) (max (e + m.log2 - f.fractionBits) f.leastPlace - e).toNat = kept at hk
    have hT : (max (e + m.log2 - f.fractionBits) f.leastPlace - f.leastPlace).toNat ≤ K := by have := hK hm; omega
    generalize (max (e + m.log2 - f.fractionBits) f.leastPlace - f.leastPlace).toNat = T0 at hT
    have hR : T0 * f.binade + kept ≤ (K + 2) * f.binade := by
      have := Nat.mul_le_mul_right f.binade hT
      rw [Nat.add_mul]; omega
    rw [Nat.min_eq_left (by omega)]
    exact key _ (by omega) hR
/-- A double that is not too great is a single. -/
theorem narrow_some {b : Nat} {s : Bool} {J T : Nat} (h : double.read b = .number s J (double.leastPlace + (T : Nat))) (hJ : J < 2 * double.binade) (hT : T ≤ 1148) : ∃ y, floatToFloatBits .f64 b .f32 = some y ∧ fN .f32 y = some y := by
  have hl : double.leastPlace = -1074 := by decide
  have hl2 : single.leastPlace = -149 := by decide
  have hb : 2 * double.binade = 2 ^ 53 := by decide
  obtain ⟨J', T', h1, _, _⟩ := write_small single s J (-1074 + (T : Int)) 252 (fun hJ0 => by
    have : J.log2 < 53 := by
      rw [hb] at hJ
      exact (Nat.log2_lt hJ0).2 hJ
    rw [hl2]
    have : single.fractionBits = 23 := rfl
    omega) (by decide)
  unfold floatToFloatBits
  rw [if_neg (by decide)]
  show ∃ y, (match double.read b with | .nan _ _ => none | .infinity s => some (FloatKind.f32.encode (.infinity s)) | .number s m e => if (FloatKind.f32.decode (FloatKind.f32.encode (.number s m e))).isInfinity then none else some (FloatKind.f32.encode (.number s m e))) = some y ∧ _
  rw [h, hl]
  have hi : (FloatKind.f32.decode (FloatKind.f32.encode (.number s J (-1074 + (T : Int))))).isInfinity = false := by
    show (single.read (single.write _)).isInfinity = false
    rw [h1]; rfl
  exact ⟨_, by simp only [hi]; rfl, fN_some (by show (single.read (single.write _)).isNaN = false; rw [h1]; rfl)⟩
theorem lt30 (a K : Nat) (h : a < 2 ^ 30) : a * 2 ^ K < 2 ^ 30 * 2 ^ K := Nat.mul_lt_mul_of_pos_right h (pow_pos2 _)
theorem lt30r (a K r : Nat) (h : a < 2 ^ 30) (hk : 30 + K ≤ r) : a * 2 ^ K < 2 ^ r := by
  have h3 := lt30 a K h
  rw [← Nat.pow_add] at h3
  exact Nat.lt_of_lt_of_le h3 (Nat.pow_le_pow_right (by decide) hk)
theorem lt30e (a K r e : Nat) (h : a < 2 ^ 30) (hk : 30 + K ≤ r) (he : 2 ^ e ≤ a * 2 ^ K) : e < r :=
  (Nat.pow_lt_pow_iff_right (by decide : 1 < 2)).1 (Nat.lt_of_le_of_lt he (lt30r a K r h hk))
/-- The number of thousandths n, as a double, and as a single. -/
def fixD (n : Int) : Option Nat := floatBits .quo .f64 (floatOfInt .f64 n) 4652007308841189376
def fixS (n : Int) : Nat := ((fixD n).bind fun d => floatToFloatBits .f64 d .f32).getD 0
theorem fix_some (n : Int) (h1 : -1000000000 ≤ n) (h2 : n ≤ 1000000000) : ∃ d, fixD n = some d ∧ floatToFloatBits .f64 d .f32 = some (fixS n) ∧ fN .f32 (fixS n) = some (fixS n) := by
  have hc : double.read 4652007308841189376 = .number false 8796093022208000 (-43) := by decide +kernel
  have hl : double.leastPlace = -1074 := by decide
  -- n as a double
  obtain ⟨M, E, hx, hM⟩ : ∃ M E : Nat, double.read (floatOfInt .f64 n) = .number (n < 0) M (-1074 + (E : Int)) ∧ M * 2 ^ E = n.natAbs * 2 ^ 1074 := by
    have hrep : Rep double 2045 (n.natAbs * 2 ^ 1074) := by
      refine ⟨n.natAbs, 1074, rfl, ?_, ?_⟩
      · have : double.binade = 4503599627370496 := by decide
        omega
      · exact lt30r n.natAbs 1074 _ (by omega) (by have : double.fractionBits = 52 := rfl; omega)
    obtain ⟨M, E, h3, h4⟩ := write_exact double 2045 double_room (decide (n < 0)) n.natAbs 0 (n.natAbs * 2 ^ 1074) hrep (-1074) (by omega) (by decide) (by
      have e1 : ((0 : Int) - -1074).toNat = 1074 := by decide
      have e2 : (double.leastPlace - -1074).toNat = 0 := by decide
      rw [e1, e2, Nat.pow_zero, Nat.mul_one])
    refine ⟨M, E, ?_, h4⟩
    rw [← hl]
    show double.read (FloatKind.nearest .f64 n) = _
    rw [← h3]
    rfl
  have hE : M ≠ 0 → M.log2 + E ≤ 1103 := by
    intro hM0
    have h3 : 2 ^ (M.log2 + E) ≤ M * 2 ^ E := by rw [Nat.pow_add]; exact Nat.mul_le_mul_right _ (Nat.log2_self_le hM0)
    rw [hM] at h3
    have := lt30e n.natAbs 1074 1104 _ (by omega) (by omega) h3
    omega
  -- the quotient
  obtain ⟨q, hq⟩ : ∃ q, 54 + Nat.log2 8796093022208000 - M.log2 = q := ⟨_, rfl⟩
  obtain ⟨Q, hQ⟩ : ∃ Q, 2 * (M <<< q / 8796093022208000) + (M <<< q % 8796093022208000 != 0).toNat = Q := ⟨_, rfl⟩
  have hquo : (double.read (floatOfInt .f64 n)).quotient (double.fractionBits + 2) (double.read 4652007308841189376) = some (.number (n < 0) Q ((-1074 + (E : Int)) - (-43) - q - 1)) := by
    rw [hx, hc]
    simp only [Datum.quotient]
    rw [if_neg (by decide)]
    have e : double.fractionBits + 2 = 54 := rfl
    rw [e, hq, hQ, Bool.xor_false]
  have hQl : Q ≠ 0 → Q.log2 ≤ M.log2 + q + 2 := by
    intro hQ0
    have h3 : M <<< q < 2 ^ (M.log2 + 1 + q) := by
      rw [Nat.shiftLeft_eq, Nat.pow_add]; exact Nat.mul_lt_mul_of_pos_right Nat.lt_log2_self (pow_pos2 _)
    have h4 : (M <<< q % 8796093022208000 != 0).toNat ≤ 1 := by cases (M <<< q % 8796093022208000 != 0) <;> simp
    have h5 : M <<< q / 8796093022208000 ≤ M <<< q := Nat.div_le_self _ _
    have h6 : Q < 2 ^ (M.log2 + q + 3) := by
      have e1 : 2 ^ (M.log2 + q + 3) = 4 * 2 ^ (M.log2 + 1 + q) := by rw [show M.log2 + q + 3 = 2 + (M.log2 + 1 + q) by omega, Nat.pow_add]
      rw [e1]; omega
    have := (Nat.log2_lt hQ0).2 h6
    omega
  have hM0 : Q ≠ 0 → M ≠ 0 := by
    rintro hQ0 rfl
    rw [Nat.zero_shiftLeft] at hQ
    exact hQ0 (by rw [← hQ]; rfl)
  obtain ⟨J, T, h3, h4, h5⟩ := write_small double (n < 0) Q ((-1074 + (E : Int)) - (-43) - q - 1) 1146 (fun hQ0 => by
    have h6 := hQl hQ0
    have h7 := hE (hM0 hQ0)
    have : double.fractionBits = 52 := rfl
    rw [hl]; omega) (by decide)
  have hD : fixD n = some (double.write (.number (n < 0) Q ((-1074 + (E : Int)) - (-43) - q - 1))) := by
    unfold fixD floatBits
    show double.div _ _ = _
    unfold Format.div
    rw [hquo]; rfl
  obtain ⟨y, h6, h7⟩ := narrow_some h3 h4 (by omega)
  have hS : fixS n = y := by unfold fixS; rw [hD]; show (floatToFloatBits _ _ _).getD 0 = y; rw [h6]; rfl
  exact ⟨_, hD, by rw [hS]; exact h6, by rw [hS]; exact h7⟩
end Go.Proofs.YtfjafeepmpnegaaDoor
