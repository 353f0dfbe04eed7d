/- The plain law of laws.FnCutJoined: pulses that stand at every n-th place are found, whichever one of them is erased. No condition. -/
import Derived.Test.YtjomilloilbcgaaCd
namespace Go.Proofs.Ytjomilloilbcgaa
open Go.RowKit
set_option linter.unusedVariables false
set_option linter.unusedSimpArgs false

/-- The runs of pulses ahead of line j; pulse e is erased. -/
def runsE (n e : Nat) : Nat → List (Nat × Nat)
  | 0 => []
  | j + 1 => if j = e then runsE n e j else runsE n e j ++ [(j * n, 8)]
def maskE (n e i : Nat) : Bool := decide (i % n < 8) && !decide (i / n = e)
theorem mask_at {n : Nat} (e j t : Nat) (ht : t < n) : maskE n e (j * n + t) = (decide (t < 8) && !decide (j = e)) := by
  unfold maskE
  rw [Nat.mul_comm, Nat.mul_add_mod, Nat.mod_eq_of_lt ht, Nat.mul_add_div (by omega), Nat.div_eq_of_lt ht, Nat.add_zero]
theorem lt_line {n h j t : Nat} (hj : j < h) (ht : t < n) : j * n + t < h * n := by
  have : (j + 1) * n ≤ h * n := Nat.mul_le_mul_right n hj
  rw [Nat.add_mul, Nat.one_mul] at this; omega
section
variable {sl : F32} {fs : List F32} {n h e : Nat} (hn : 28 ≤ n) (hlen : fs.length = h * n) (hm : ∀ i, i < h * n → lowAt sl fs i = maskE n e i)
include hn hlen hm
theorem lows_pulse (j : Nat) (hj : j < h) (h0 : lowsUp sl fs (j * n) = (runsE n e j, 0)) (t : Nat) (ht : t ≤ 8) : lowsUp sl fs (j * n + t) = (runsE n e j, if j = e then 0 else t) := by
  induction t with
  | zero => rw [Nat.add_zero, h0]; simp
  | succ t ih =>
    have h1 := ih (by omega)
    have h2 : j * n + t < h * n := lt_line hj (by omega)
    have h3 := hm _ h2
    rw [mask_at e j t (by omega)] at h3
    by_cases he : j = e
    · rw [if_pos he] at h1 ⊢
      rw [← Nat.add_assoc]
      refine lows_none h1 ?_ (by omega)
      rw [h3]; simp [he]
    · rw [if_neg he] at h1 ⊢
      rw [← Nat.add_assoc]
      refine lows_low h1 (by omega) ?_
      rw [h3]; simp [he]; omega
theorem lows_rest (j : Nat) (hj : j < h) (h0 : lowsUp sl fs (j * n) = (runsE n e j, 0)) (t : Nat) (ht : 9 ≤ t) (htn : t ≤ n) : lowsUp sl fs (j * n + t) = (runsE n e (j + 1), 0) := by
  induction t with
  | zero => omega
  | succ t ih =>
    have h2 : j * n + t < h * n := lt_line hj (by omega)
    have h3 := hm _ h2
    rw [mask_at e j t (by omega)] at h3
    rw [← Nat.add_assoc]
    by_cases h8 : t = 8
    · subst h8
      have h1 := lows_pulse hn hlen hm j hj h0 8 (by omega)
      have hno : ¬ (j * n + 8 < fs.length ∧ lowAt sl fs (j * n + 8) = true) := by rw [h3]; simp
      by_cases he : j = e
      · rw [if_pos he] at h1
        rw [runsE, if_pos he]
        exact lows_none h1 hno (by omega)
      · rw [if_neg he] at h1
        rw [runsE, if_neg he]
        have := lows_run h1 hno (by omega)
        rw [Nat.add_sub_cancel] at this
        exact this
    · have h1 := ih (by omega) (by omega)
      refine lows_none h1 ?_ (by omega)
      rw [h3]; simp; omega
theorem lows_line (j : Nat) (hj : j ≤ h) : lowsUp sl fs (j * n) = (runsE n e j, 0) := by
  induction j with
  | zero => simp [lowsUp, runsE]
  | succ j ih =>
    have := lows_rest hn hlen hm j hj (ih (by omega)) n (by omega) (Nat.le_refl _)
    rw [Nat.add_mul, Nat.one_mul]; exact this
theorem lows_all : lowsN sl fs = runsE n e h := by
  have h1 := lows_line hn hlen hm h (Nat.le_refl _)
  unfold lowsN
  rw [hlen, lows_none h1 (by rw [hlen]; simp) (by omega)]
end
theorem near_line {n i j : Nat} (hn : 28 ≤ n) : nearI ((j * n : Nat) : Int) ((i * n : Nat) : Int) = decide (i = j) := by
  unfold nearI
  rw [← Bool.decide_and]
  apply decide_eq_decide.2
  constructor
  · intro ⟨h1, h2⟩
    rcases Nat.lt_trichotomy i j with h | h | h
    · have : (i + 1) * n ≤ j * n := Nat.mul_le_mul_right n h
      rw [Nat.add_mul, Nat.one_mul] at this; omega
    · exact h
    · have : (j + 1) * n ≤ i * n := Nat.mul_le_mul_right n h
      rw [Nat.add_mul, Nat.one_mul] at this; omega
  · rintro rfl; omega
theorem find_runs {n : Nat} (hn : 28 ≤ n) (e h j : Nat) : findM (runsE n e h) ((j * n : Nat) : Int) = if j < h ∧ j ≠ e then some (j * n, 8) else none := by
  unfold findM
  induction h with
  | zero => simp [runsE]
  | succ h ih =>
    rw [runsE]
    by_cases he : h = e
    · rw [if_pos he, ih]
      by_cases hj : j < h ∧ j ≠ e
      · rw [if_pos hj, if_pos ⟨by omega, hj.2⟩]
      · rw [if_neg hj, if_neg (fun hh => hj ⟨by omega, hh.2⟩)]
    · rw [if_neg he, List.find?_append, ih]
      by_cases hj : j < h ∧ j ≠ e
      · rw [if_pos hj, if_pos ⟨by omega, hj.2⟩]; rfl
      · rw [if_neg hj]
        simp only [Option.none_or, List.find?_cons, List.find?_nil, near_line hn]
        by_cases h1 : h = j
        · subst h1
          rw [if_pos ⟨by omega, he⟩]; simp
        · rw [if_neg (by omega)]; simp [h1]
def startsE (n j : Nat) : List Int := (List.range (j + 1)).map fun k => ((k * n : Nat) : Int)
theorem startsE_len (n j : Nat) : (startsE n j).length = j + 1 := by simp [startsE]
theorem startsE_succ (n j : Nat) : startsE n (j + 1) = startsE n j ++ [(((j + 1) * n : Nat) : Int)] := by
  unfold startsE
  rw [List.range_succ, List.map_append]; rfl
theorem startsE_last (n j : Nat) : lastI (startsE n j) = ((j * n : Nat) : Int) := by
  unfold lastI
  rw [startsE_len]
  simp [startsE]
theorem startsE_get {n j k : Nat} (hk : k ≤ j) : (startsE n j)[k]? = some ((k * n : Nat) : Int) := by
  unfold startsE; rw [List.getElem?_map, List.getElem?_range (by omega)]; rfl
theorem starts_run {n : Nat} (hn : 28 ≤ n) (e h : Nat) (d : Nat) : ∀ (j m f : Nat), j < h → h - 1 - j = d → (m = 0 ∨ (m = 1 ∧ j = e)) → d < f → startsM (runsE n e h) ((h * n : Nat) : Int) n 1 f (startsE n j) m = startsE n (h - 1) := by
  induction d with
  | zero =>
    intro j m f hj hd hm hf
    obtain ⟨f, rfl⟩ : ∃ k, f = k + 1 := ⟨f - 1, by omega⟩
    obtain rfl : h = j + 1 := by omega
    rw [startsM, startsE_last, if_pos (by rw [Nat.add_mul, Nat.one_mul]; omega)]; rfl
  | succ d ih =>
    intro j m f hj hd hm hf
    obtain ⟨f, rfl⟩ : ∃ k, f = k + 1 := ⟨f - 1, by omega⟩
    have h2 : (j + 2) * n ≤ h * n := Nat.mul_le_mul_right n (by omega)
    rw [Nat.add_mul] at h2
    have e1 : ((j * n : Nat) : Int) + n = (((j + 1) * n : Nat) : Int) := by rw [Nat.add_mul, Nat.one_mul]; omega
    rw [startsM, startsE_last, if_neg (by omega), e1, find_runs hn]
    by_cases he : j + 1 = e
    · rw [if_neg (by omega)]
      simp only []
      have hm0 : m = 0 := by omega
      subst hm0
      rw [if_neg (by omega), ← startsE_succ]
      exact ih (j + 1) 1 f (by omega) (by omega) (.inr ⟨rfl, he⟩) (by omega)
    · rw [if_pos ⟨by omega, he⟩]
      simp only []
      rw [← startsE_succ]
      exact ih (j + 1) 0 f (by omega) (by omega) (.inl rfl) (by omega)
theorem runs_head {n : Nat} (e h : Nat) (hh : 2 ≤ h) : ∃ rs, runsE n e h = (if e = 0 then n else 0, 8) :: rs := by
  induction h with
  | zero => omega
  | succ h ih =>
    by_cases h1 : h = 1
    · subst h1
      by_cases h2 : e = 0
      · subst h2; exact ⟨[], by simp [runsE]⟩
      · by_cases h3 : e = 1
        · subst h3; exact ⟨[], by simp [runsE]⟩
        · refine ⟨[(n, 8)], ?_⟩
          rw [if_neg h2]
          simp only [runsE]
          rw [if_neg (fun x => h3 x.symm), if_neg (fun x => h2 x.symm)]
          simp
    · obtain ⟨rs, hr⟩ := ih (by omega)
      rw [runsE]
      by_cases h2 : h = e
      · rw [if_pos h2]; exact ⟨rs, hr⟩
      · rw [if_neg h2, hr]; exact ⟨rs ++ [(h * n, 8)], by simp⟩
end Go.Proofs.Ytjomilloilbcgaa
