/- The plain law of lines with pulses: only a pulse is low. No condition. -/
import Derived.Test.YtjomilloilbcgaaCf
import Derived.Test.YtjomilloilbcgaaM4
import Derived.Test.YtjomilloilbcgaaDa
namespace Go.Proofs.Ytjomilloilbcgaa
open Go.RowKit
set_option linter.unusedVariables false
set_option linter.unusedSimpArgs false

/-- -40 -/
abbrev low40 : F32 := fc 3256877056
theorem Q_m40 : Q low40 (-163840) := (Q_mk 3256877056 true 10485760 131 (-163840) (by decide +kernel) (by decide +kernel))
theorem Q_m64 : Q (fc 3263168512) (-262144) := (Q_mk 3263168512 true 8388608 132 (-262144) (by decide +kernel) (by decide +kernel))
/-- A cell of a line that is cut: brightness 16 to 60, colours of at most 2. -/
def CutCell (c : Nat × Nat × Nat) : Prop := ∃ k p q : Int, 256 ≤ k ∧ k ≤ 960 ∧ -32 ≤ p ∧ p ≤ 32 ∧ -32 ≤ q ∧ q ≤ 32 ∧ Q (fN .f32 c.1) (k * 256) ∧ Q (fN .f32 c.2.1) (p * 256) ∧ Q (fN .f32 c.2.2) (q * 256)
def clampC (c : Nat × Nat × Nat) : Nat × Nat × Nat := if flt (fN .f32 c.1) (fc 1098907648) = true then (1098907648, c.2) else c
theorem clamp_cut {c : Nat × Nat × Nat} (h : LinkCell c) : CutCell (clampC c) := by
  obtain ⟨k, p, q, h1, h2, h3, h4, h5, h6, hk, hp, hq⟩ := h
  unfold clampC
  by_cases hl : flt (fN .f32 c.1) (fc 1098907648) = true
  · rw [if_pos hl]
    exact ⟨256, p, q, by omega, by omega, h3, h4, h5, h6, Q_16, hp, hq⟩
  · rw [if_neg hl]
    rw [Q_lt hk Q_16] at hl
    simp at hl
    exact ⟨k, p, q, by omega, h2, h3, h4, h5, h6, hk, hp, hq⟩
theorem CutCell.plain {c : Nat × Nat × Nat} (h : CutCell c) : PlainCell c := by
  obtain ⟨k, p, q, h1, h2, h3, h4, h5, h6, hk, hp, hq⟩ := h
  exact ⟨k, p, q, by omega, by omega, by omega, by omega, by omega, by omega, hk, hp, hq⟩
theorem high_add {y s : F32} {k l : Int} (hy : Q y (k * 256)) (hs : Q s (l * 256)) (h1 : 256 ≤ k) (h2 : k ≤ 960) (h3 : -32 ≤ l) (h4 : l ≤ 32) : fle (fadd y s) low40 = false := by
  have := Q_add hy hs (by omega) (by omega)
  unfold fadd
  rw [Q_le this Q_m40]; simp; omega
theorem conj_q {q : Int} {v : F32} (odd : Bool) (h : Q v (q * 256)) (h1 : -32 ≤ q) (h2 : q ≤ 32) : ∃ q', -32 ≤ q' ∧ q' ≤ 32 ∧ Q (conjN odd v) (q' * 256) := by
  cases odd with
  | false => exact ⟨q, h1, h2, h⟩
  | true => exact ⟨-q, by omega, by omega, by have := Q_neg h; rw [← Int.neg_mul] at this; exact this⟩
theorem cell_high {c : Nat × Nat × Nat} (odd : Bool) (h : CutCell c) : ∀ x ∈ cellS odd c, fle x low40 = false := by
  obtain ⟨k, p, q, h1, h2, h3, h4, h5, h6, hk, hp, hq⟩ := h
  obtain ⟨q', hq1, hq2, hq'⟩ := conj_q odd hq h5 h6
  have hnp : Q (fneg (fN .f32 c.2.1)) (-p * 256) := by have := Q_neg hp; rw [← Int.neg_mul] at this; exact this
  have hnq : Q (fneg (conjN odd (fN .f32 c.2.2))) (-q' * 256) := by have := Q_neg hq'; rw [← Int.neg_mul] at this; exact this
  intro x hx
  simp only [cellS, List.mem_cons, List.not_mem_nil, or_false] at hx
  rcases hx with rfl | rfl | rfl | rfl <;> unfold sampN carN
  · exact high_add hk hp h1 h2 h3 h4
  · exact high_add hk hnq h1 h2 (by omega) (by omega)
  · exact high_add hk hnp h1 h2 (by omega) (by omega)
  · exact high_add hk hq' h1 h2 hq1 hq2
theorem burst_high (odd : Bool) : ∀ x ∈ encN odd (List.replicate 4 burstCell), fle x low40 = false := by
  have h : (encN odd (List.replicate 4 burstCell)).all (fun x => !fle x low40) = true := by cases odd <;> decide +kernel
  intro x hx
  have := List.all_eq_true.1 h x hx
  simpa using this
theorem lineN_len (odd : Bool) (cs : Row) : (lineN odd cs).length = 24 + 4 * cs.length := by
  simp only [lineN, List.length_append, List.length_replicate, encN_len]
theorem low_line (odd : Bool) {cs : Row} (hc : ∀ c ∈ cs, CutCell c) (t : Nat) (ht : t < 24 + 4 * cs.length) : lowAt low40 (lineN odd cs) t = decide (t < 8) := by
  unfold lowAt
  have hl : t < (lineN odd cs).length := by rw [lineN_len]; exact ht
  rw [List.getD_eq_getElem?_getD, List.getElem?_eq_getElem hl, Option.getD_some]
  by_cases h8 : t < 8
  · have e : (lineN odd cs)[t] = fc 3263168512 := by
      have h1 : t < (List.replicate 8 (fc 3263168512)).length := by simp; exact h8
      simp only [lineN, List.append_assoc]
      rw [List.getElem_append_left h1, List.getElem_replicate]
    rw [e, Q_le Q_m64 Q_m40]; simp [h8]
  · have hm : (lineN odd cs)[t] ∈ encN odd (List.replicate 4 burstCell) ++ encN odd cs := by
      have h1 : (List.replicate 8 (fc 3263168512)).length ≤ t := by simp; omega
      simp only [lineN, List.append_assoc]
      rw [List.getElem_append_right h1]
      exact List.getElem_mem _
    have : fle (lineN odd cs)[t] low40 = false := by
      rcases List.mem_append.1 hm with h | h
      · exact burst_high odd _ h
      · unfold encN at h
        obtain ⟨c, hcm, hx⟩ := List.mem_flatMap.1 h
        exact cell_high odd (hc c hcm) _ hx
    rw [this]; simp; omega
/-- The stream up to line r: only pulses are low. -/
def LowS (n r : Nat) (bs : List Nat) : Prop := bs.length = r * n ∧ ∀ i, i < r * n → lowAt low40 (bs.map (fN .f32)) i = decide (i % n < 8)
theorem LowS.zero (n : Nat) : LowS n 0 [] := ⟨by simp, fun i hi => by omega⟩
theorem LowS.snoc {n r : Nat} {bs ls : List Nat} (h : LowS n r bs) (odd : Bool) {cs : Row} (hc : ∀ c ∈ cs, CutCell c) (hn : n = 24 + 4 * cs.length) (hl : ls.map (fN .f32) = lineN odd cs) : LowS n (r + 1) (bs ++ ls) := by
  have hll : ls.length = n := by have := congrArg List.length hl; rw [List.length_map, lineN_len] at this; omega
  refine ⟨by rw [List.length_append, h.1, hll, Nat.add_mul, Nat.one_mul], fun i hi => ?_⟩
  by_cases h1 : i < r * n
  · rw [← h.2 i h1]
    unfold lowAt
    rw [List.map_append, List.getD_eq_getElem?_getD, List.getElem?_append_left (by rw [List.length_map, h.1]; exact h1), ← List.getD_eq_getElem?_getD]
  · rw [Nat.add_mul, Nat.one_mul] at hi
    obtain ⟨t, rfl⟩ : ∃ t, i = r * n + t := ⟨i - r * n, by omega⟩
    have ht : t < n := by omega
    have e1 : (r * n + t) % n = t := by rw [Nat.mul_comm, Nat.mul_add_mod, Nat.mod_eq_of_lt ht]
    rw [e1, ← low_line odd hc t (by omega)]
    unfold lowAt
    rw [List.map_append, List.getD_eq_getElem?_getD, List.getElem?_append_right (by rw [List.length_map, h.1]; omega), List.length_map, h.1, Nat.add_sub_cancel_left, hl, ← List.getD_eq_getElem?_getD]
theorem LowS.mask {n h : Nat} {bs : List Nat} (hs : LowS n h bs) (i : Nat) (hi : i < h * n) : lowAt low40 (bs.map (fN .f32)) i = maskE n h i := by
  rw [hs.2 i hi]
  unfold maskE
  have : i / n < h := Nat.div_lt_of_lt_mul (by rw [Nat.mul_comm]; exact hi)
  have : decide (i / n = h) = false := by simp; omega
  rw [this]; simp
theorem zero_high : fle (fN .f32 0) low40 = false := by rw [show fN .f32 0 = fc 0 from rfl, Q_le Q_0 Q_m40]; decide
theorem LowS.erased {n h k : Nat} {bs : List Nat} (hs : LowS n h bs) (hn : 28 ≤ n) (hk : k < h) (i : Nat) (hi : i < h * n) : lowAt low40 ((eraseN bs (k * n) 8).map (fN .f32)) i = maskE n k i := by
  have hkn : k * n + 8 ≤ bs.length := by
    rw [hs.1]
    have : (k + 1) * n ≤ h * n := Nat.mul_le_mul_right n hk
    rw [Nat.add_mul, Nat.one_mul] at this; omega
  have hd : n * (i / n) + i % n = i := Nat.div_add_mod i n
  have hmn : i % n < n := Nat.mod_lt _ (by omega)
  have hg := eraseN_get bs (k * n) 8 i hkn
  have e0 := hs.2 i hi
  unfold lowAt at e0 ⊢
  unfold maskE
  rw [List.getD_eq_getElem?_getD, List.getElem?_map] at e0 ⊢
  rw [hg]
  by_cases h1 : k * n ≤ i ∧ i < k * n + 8
  · rw [if_pos h1]
    have hik : i / n = k := Nat.div_eq_of_lt_le (by omega) (by rw [Nat.add_mul, Nat.one_mul]; omega)
    simp only [Option.map_some, Option.getD_some, zero_high, hik, decide_true, Bool.not_true, Bool.and_false]
  · rw [if_neg h1, e0]
    by_cases h2 : i / n = k
    · rw [h2, Nat.mul_comm] at hd
      have : ¬ i % n < 8 := by omega
      simp [this]
    · simp [h2]
/-- The first i cells are clamped. -/
def clampK (cs : Row) (i : Nat) : Row := (cs.take i).map clampC ++ cs.drop i
theorem clampK_zero (cs : Row) : clampK cs 0 = cs := by simp [clampK]
theorem clampK_all (cs : Row) : clampK cs cs.length = cs.map clampC := by simp [clampK]
theorem clampK_len (cs : Row) (i : Nat) (hi : i ≤ cs.length) : (clampK cs i).length = cs.length := by simp [clampK]; omega
theorem clampK_at (cs : Row) (i : Nat) (hi : i < cs.length) : (clampK cs i)[i]? = some cs[i] := by
  unfold clampK
  rw [List.getElem?_append_right (by simp; omega)]
  simp [Nat.min_eq_left (Nat.le_of_lt hi), hi]
theorem clampK_succ (cs : Row) (i : Nat) (hi : i < cs.length) : clampK cs (i + 1) = (clampK cs i).set i (clampC cs[i]) := by
  have h1 : ((cs.take i).map clampC).length = i := by simp; omega
  unfold clampK
  rw [List.set_append_right _ _ (by omega), h1, Nat.sub_self, List.take_succ_eq_append_getElem hi, List.map_append, List.drop_eq_getElem_cons hi, List.append_assoc]
  rfl
theorem clampK_keep (cs : Row) (i : Nat) (hi : i < cs.length) (h : flt (fN .f32 cs[i].1) (fc 1098907648) = false) : clampK cs (i + 1) = clampK cs i := by
  rw [clampK_succ cs i hi, clampC, if_neg (by rw [h]; exact Bool.false_ne_true)]
  have := clampK_at cs i hi
  apply List.ext_getElem?
  intro j
  rw [List.getElem?_set]
  by_cases hj : i = j
  · subst hj
    rw [if_pos rfl, if_pos (List.getElem?_eq_some_iff.1 this).1, this]
  · rw [if_neg hj]
end Go.Proofs.Ytjomilloilbcgaa
