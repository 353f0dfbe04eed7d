/- Exactness of floating-point operations: where the exact result is a number of the format, the operation gives it. No condition. -/
import Derived.Test.YtfjafeepmpnegaaDoorFa
namespace Go.Proofs.YtfjafeepmpnegaaDoor
open Ieee
set_option linter.unusedVariables false
set_option linter.unusedSimpArgs false

theorem pow_pos2 (n : Nat) : 0 < 2 ^ n := Nat.two_pow_pos n

/-- A cut that drops nothing but zeros. -/
theorem cut_exact (w : Toward) (s : Bool) (q drop : Nat) : w.cut s (q * 2 ^ drop) drop = q := by
  unfold Toward.cut
  by_cases hq : q = 0
  · subst hq
    cases w <;> simp
  · have hd : drop ≤ (q * 2 ^ drop).log2 := by
      rw [Nat.le_log2 (by have := pow_pos2 drop; exact Nat.ne_of_gt (Nat.mul_pos (by omega) this))]
      exact Nat.le_mul_of_pos_left _ (by omega)
    have hm : min drop ((q * 2 ^ drop).log2 + 2) = drop := by omega
    simp only [hm, Nat.shiftLeft_eq, Nat.one_mul]
    rw [Nat.mul_div_cancel _ (pow_pos2 _), Nat.mul_mod_left]
    have hp := pow_pos2 drop
    have h0 : (2 ^ drop == 2 * 0) = false := by rw [beq_eq_false_iff_ne]; omega
    have h1 : decide (2 ^ drop < 2 * 0) = false := by simp
    cases w <;> simp [h0]

/-- The rung of a number, read. -/
theorem read_rung (f : Format) (s : Bool) (T J : Nat) (h0 : T = 0 ∨ f.binade ≤ J) (h1 : J < 2 * f.binade) (h2 : T * f.binade + J < f.infRung) :
    ∃ m e, f.read (f.word s (T * f.binade + J)) = .number s m (f.leastPlace + (e : Nat)) ∧ m * 2 ^ e = J * 2 ^ T := by
  have hl := f.infRung_lt
  have hb : 0 < f.binade := pow_pos2 _
  generalize hr : T * f.binade + J = r at *
  have hm : f.word s r % f.signWeight = r := by
    unfold Format.word
    cases s
    · simp; exact Nat.mod_eq_of_lt (by omega)
    · simp; exact Nat.mod_eq_of_lt (by omega)
  have hs : (f.word s r / f.signWeight % 2 == 1) = s := by
    have hp : 0 < f.signWeight := by omega
    unfold Format.word
    cases s
    · simp; rw [Nat.div_eq_of_lt (by omega)]
    · simp only [if_true]
      rw [Nat.add_div_left _ hp, Nat.div_eq_of_lt (by omega)]; rfl
  unfold Format.read
  simp only [hm, hs]
  by_cases hlt : r < f.binade
  · rw [if_pos hlt]
    have hT : T = 0 := by
      rcases h0 with h | h
      · exact h
      · omega
    subst hT
    refine ⟨r, 0, by simp, ?_⟩
    have : J = r := by omega
    rw [this]
  · rw [if_neg hlt, if_pos h2]
    have hJ : f.binade ≤ J := by
      rcases h0 with h | h
      · subst h; omega
      · exact h
    obtain ⟨j, rfl⟩ : ∃ j, J = f.binade + j := ⟨J - f.binade, by omega⟩
    have e1 : r = j + f.binade * (T + 1) := by rw [← hr, Nat.mul_add, Nat.mul_comm T]; omega
    have hd : r / f.binade = T + 1 := by
      rw [e1, Nat.add_mul_div_left _ _ hb, Nat.div_eq_of_lt (by omega), Nat.zero_add]
    have hmo : r % f.binade = j := by
      rw [e1, Nat.add_mul_mod_self_left, Nat.mod_eq_of_lt (by omega)]
    rw [hd, hmo]
    exact ⟨f.binade + j, T, by simp, rfl⟩

/-- What a finite datum stands for, in units of the format's least place; every datum that is read has a place at or above it. -/
def dval (f : Format) : Datum → Option Int
  | .number s m e => some (signed s m (e - f.leastPlace).toNat)
  | _ => none
/-- A whole number of the format's least places that the format has. -/
def Rep (f : Format) (B : Nat) (Z : Nat) : Prop := ∃ K t, Z = K * 2 ^ t ∧ K < 2 * f.binade ∧ K * 2 ^ t < 2 ^ (f.fractionBits + B)

/-- A number that the format has is written as it is. -/
theorem write_exact (f : Format) (B : Nat) (hB : (B + 1) * f.binade ≤ f.infRung) (s : Bool) (m : Nat) (e : Int) (Z : Nat) (hZ : Rep f B Z) (base : Int) (hb1 : base ≤ e) (hb2 : base ≤ f.leastPlace)
    (hv : m * 2 ^ (e - base).toNat = Z * 2 ^ (f.leastPlace - base).toNat) :
    ∃ M E, f.read (f.write (.number s m e)) = .number s M (f.leastPlace + (E : Nat)) ∧ M * 2 ^ E = Z := by
  obtain ⟨K, t, rfl, hK, hKB⟩ := hZ
  have hbin : f.binade = 2 ^ f.fractionBits := rfl
  have hbp : 0 < f.binade := pow_pos2 _
  unfold Format.write Format.nearest
  simp only []
  by_cases hm : m = 0
  · rw [if_pos hm]
    subst hm
    have hK0 : K * 2 ^ t = 0 := by
      have h1 := pow_pos2 (f.leastPlace - base).toNat
      rw [Nat.zero_mul] at hv
      rcases Nat.mul_eq_zero.1 hv.symm with h | h
      · exact h
      · omega
    have h2 : 0 * f.binade + 0 < f.infRung := by
      have := Nat.mul_le_mul_right f.binade (show 1 ≤ B + 1 by omega)
      omega
    obtain ⟨M, E, h3, h4⟩ := read_rung f s 0 0 (.inl rfl) (by omega) h2
    rw [Nat.zero_mul, Nat.zero_add] at h3
    exact ⟨M, E, h3, by rw [hK0, h4, Nat.zero_mul]⟩
  · rw [if_neg hm]
    -- the leading digit
    have hlo : 2 ^ m.log2 ≤ m := Nat.log2_self_le hm
    have hhi : m < 2 ^ (m.log2 + 1) := Nat.lt_log2_self
    generalize hL : m.log2 = L at *
    generalize hla : max (e + L - f.fractionBits) f.leastPlace = last
    obtain ⟨p, hp⟩ : ∃ p : Nat, e - base = p := ⟨(e - base).toNat, by omega⟩
    obtain ⟨q, hq⟩ : ∃ q : Nat, f.leastPlace - base = q := ⟨(f.leastPlace - base).toNat, by omega⟩
    have hv' : m * 2 ^ p = K * 2 ^ t * 2 ^ q := by simpa [hp, hq] using hv
    -- last is at most lp + t
    have hlast : last ≤ f.leastPlace + t := by
      have h1 : 2 ^ (L + p) < 2 ^ (f.fractionBits + 1 + (t + q)) := by
        have a1 : 2 ^ (L + p) ≤ m * 2 ^ p := by rw [Nat.pow_add]; exact Nat.mul_le_mul_right _ hlo
        have a2 : K * 2 ^ t * 2 ^ q < 2 ^ (f.fractionBits + 1) * 2 ^ (t + q) := by
          rw [Nat.mul_assoc, ← Nat.pow_add]
          refine Nat.mul_lt_mul_of_pos_right ?_ (pow_pos2 _)
          rw [Nat.pow_succ]; rw [hbin] at hK; omega
        rw [Nat.pow_add 2 (f.fractionBits + 1)]
        omega
      have h2 := (Nat.pow_lt_pow_iff_right (a := 2) (by omega)).1 h1
      omega
    obtain ⟨T, hT⟩ : ∃ T : Nat, last - f.leastPlace = T := ⟨(last - f.leastPlace).toNat, by omega⟩
    have hTt : T ≤ t := by omega
    -- what is kept
    obtain ⟨J, hJ⟩ : ∃ J, J = K * 2 ^ (t - T) := ⟨_, rfl⟩
    have hJT : J * 2 ^ T = K * 2 ^ t := by
      rw [hJ, Nat.mul_assoc, ← Nat.pow_add]; congr 2; omega
    have hvJ : m * 2 ^ p = J * 2 ^ (T + q) := by rw [hv', ← hJT, Nat.mul_assoc, ← Nat.pow_add]
    have hkept : Toward.even.cut s (m <<< (e - last).toNat) (last - e).toNat = J := by
      by_cases he : last ≤ e
      · have e1 : (last - e).toNat = 0 := by omega
        have e2 : (e - last).toNat + (T + q) = p := by omega
        have e3 : m * 2 ^ (e - last).toNat = J := by
          have := hvJ
          rw [← e2, Nat.pow_add, ← Nat.mul_assoc] at this
          exact Nat.eq_of_mul_eq_mul_right (pow_pos2 _) this
        rw [e1, Nat.shiftLeft_eq, e3]
        have := cut_exact .even s J 0
        simpa using this
      · have e1 : (e - last).toNat = 0 := by omega
        have e2 : p + (last - e).toNat = T + q := by omega
        have e3 : m = J * 2 ^ (last - e).toNat := by
          have := hvJ
          rw [← e2, Nat.add_comm p, Nat.pow_add, ← Nat.mul_assoc] at this
          exact Nat.eq_of_mul_eq_mul_right (pow_pos2 _) this
        rw [e1, Nat.shiftLeft_eq, Nat.pow_zero, Nat.mul_one]
        conv => lhs; rw [e3]
        exact cut_exact .even s J _
    rw [hkept]
    have hJhi : J < 2 * f.binade := by
      have h1 : J * 2 ^ (T + q) < 2 ^ (f.fractionBits + 1) * 2 ^ (T + q) := by
        rw [← hvJ, ← Nat.pow_add]
        have a1 : m * 2 ^ p < 2 ^ (L + 1) * 2 ^ p := Nat.mul_lt_mul_of_pos_right hhi (pow_pos2 _)
        rw [← Nat.pow_add] at a1
        refine Nat.lt_of_lt_of_le a1 (Nat.pow_le_pow_right (by omega) ?_)
        omega
      have := Nat.lt_of_mul_lt_mul_right h1
      rw [Nat.pow_succ] at this
      rw [hbin]; omega
    have hJlo : T = 0 ∨ f.binade ≤ J := by
      by_cases hT0 : T = 0
      · exact .inl hT0
      · right
        have h1 : f.binade * 2 ^ (T + q) ≤ J * 2 ^ (T + q) := by
          rw [← hvJ, hbin, ← Nat.pow_add]
          refine Nat.le_trans ?_ (Nat.mul_le_mul_right _ hlo)
          rw [← Nat.pow_add]
          exact Nat.pow_le_pow_right (by omega) (by omega)
        exact Nat.le_of_mul_le_mul_right h1 (pow_pos2 _)
    have hTn : (last - f.leastPlace).toNat = T := by omega
    rw [hTn]
    have hlt : T * f.binade + J < f.infRung := by
      rcases hJlo with h | h
      · subst h
        by_cases hB0 : B = 0
        · subst hB0
          have : J * 2 ^ 0 < 2 ^ (f.fractionBits + 0) := by rw [hJT]; exact hKB
          simp at this
          rw [← hbin] at this
          omega
        · have := Nat.mul_le_mul_right f.binade (show 2 ≤ B + 1 by omega)
          omega
      · have h3 : f.binade * 2 ^ T < 2 ^ (f.fractionBits + B) := by
          refine Nat.lt_of_le_of_lt (Nat.mul_le_mul_right _ h) ?_
          rw [hJT]; exact hKB
        rw [hbin, ← Nat.pow_add] at h3
        have h4 := (Nat.pow_lt_pow_iff_right (a := 2) (by omega)).1 h3
        have h5 : (T + 2) * f.binade ≤ (B + 1) * f.binade := Nat.mul_le_mul_right _ (by omega)
        rw [Nat.add_mul] at h5
        omega
    rw [Nat.min_eq_left (by omega)]
    obtain ⟨M, E, h6, h7⟩ := read_rung f s T J hJlo hJhi hlt
    exact ⟨M, E, h6, h7.trans hJT⟩
end Go.Proofs.YtfjafeepmpnegaaDoor
