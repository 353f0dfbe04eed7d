/- Sums, products, quotients of floats whose exact result the format has; singles in units of 1/4096. No condition. -/
import Derived.Test.YtfjafeepmpnegaaDoorFe
namespace Go.Proofs.YtfjafeepmpnegaaDoor
open Ieee
set_option linter.unusedVariables false
set_option linter.unusedSimpArgs false

theorem signed_natAbs (s : Bool) (m u : Nat) : (signed s m u).natAbs = m * 2 ^ u := by
  unfold signed; cases s <;> simp [Nat.shiftLeft_eq, Int.natAbs_mul, Int.natAbs_pow]
theorem signed_eq (s : Bool) (m u : Nat) : signed s m u = (if s then -1 else 1) * ((m * 2 ^ u : Nat) : Int) := by
  unfold signed; cases s <;> simp [Nat.shiftLeft_eq]
theorem signed_add (s : Bool) (m u v : Nat) : signed s m (u + v) = signed s m u * 2 ^ v := by
  rw [signed_eq, signed_eq, Nat.pow_add, ← Nat.mul_assoc]
  rw [Int.natCast_mul, Int.mul_assoc]
  simp

/-- Every finite datum that is read: its place is at or above the least one. -/
theorem read_place {f : Format} {b : Nat} {s : Bool} {m : Nat} {e : Int} (h : f.read b = .number s m e) : f.leastPlace ≤ e := by
  unfold Format.read at h
  simp only [] at h
  split at h
  · injection h with _ _ h; omega
  · split at h
    · injection h with _ _ h; omega
    · split at h <;> cases h
/-- The bits stand for Z of the format's least places. -/
def Val (f : Format) (b : Nat) (Z : Int) : Prop := ∃ s m e, f.read b = .number s m (f.leastPlace + (e : Nat)) ∧ signed s m e = Z
theorem Val.uniq {f : Format} {b : Nat} {Z Z' : Int} (h : Val f b Z) (h' : Val f b Z') : Z = Z' := by
  obtain ⟨s, m, e, h1, h2⟩ := h
  obtain ⟨s', m', e', h1', h2'⟩ := h'
  rw [h1] at h1'
  injection h1' with a b c
  subst a; subst b
  have : e = e' := by omega
  subst this
  omega
theorem Val.nan {f : Format} {b : Nat} {Z : Int} (h : Val f b Z) : (f.read b).isNaN = false := by
  obtain ⟨s, m, e, h1, h2⟩ := h
  rw [h1]; rfl

theorem write_val {f : Format} (B : Nat) (hB : (B + 1) * f.binade ≤ f.infRung) (s : Bool) (m : Nat) (e : Int) (Z : Nat) (hZ : Rep f B Z) (base : Int) (hb1 : base ≤ e) (hb2 : base ≤ f.leastPlace)
    (hv : m * 2 ^ (e - base).toNat = Z * 2 ^ (f.leastPlace - base).toNat) : Val f (f.write (.number s m e)) (if s then -(Z : Int) else Z) := by
  obtain ⟨M, E, h1, h2⟩ := write_exact f B hB s m e Z hZ base hb1 hb2 hv
  refine ⟨s, M, E, h1, ?_⟩
  rw [signed_eq, h2]
  cases s <;> simp

theorem sum_val {f : Format} (B : Nat) (hB : (B + 1) * f.binade ≤ f.infRung) {x y : Nat} {X Y : Int} (hx : Val f x X) (hy : Val f y Y) (hZ : Rep f B (X + Y).natAbs) : ∃ r, f.add x y = some r ∧ Val f r (X + Y) := by
  obtain ⟨s, m, i, h1, rfl⟩ := hx
  obtain ⟨t, n, j, h2, rfl⟩ := hy
  unfold Format.add
  rw [h1, h2]
  simp only [Datum.sum, Option.map_some]
  refine ⟨_, rfl, ?_⟩
  obtain ⟨k, hk⟩ : ∃ k : Nat, k = min i j := ⟨_, rfl⟩
  have e1 : min (f.leastPlace + (i : Nat)) (f.leastPlace + (j : Nat)) = f.leastPlace + (k : Nat) := by omega
  rw [e1]
  have e2 : (f.leastPlace + (i : Int) - (f.leastPlace + (k : Int))).toNat = i - k := by omega
  have e3 : (f.leastPlace + (j : Int) - (f.leastPlace + (k : Int))).toNat = j - k := by omega
  rw [e2, e3]
  have e4 : signed s m i = signed s m (i - k) * 2 ^ k := by rw [← signed_add]; congr 1; omega
  have e5 : signed t n j = signed t n (j - k) * 2 ^ k := by rw [← signed_add]; congr 1; omega
  rw [e4, e5, ← Int.add_mul] at hZ ⊢
  generalize signed s m (i - k) + signed t n (j - k) = tot at hZ ⊢
  have h3 := write_val B hB (if tot = 0 then s && t else decide (tot < 0)) tot.natAbs (f.leastPlace + (k : Nat)) (tot * 2 ^ k).natAbs hZ f.leastPlace (by omega) (by omega) (by
    have : (f.leastPlace + (k : Int) - f.leastPlace).toNat = k := by omega
    rw [this, Int.sub_self, Int.natAbs_mul]
    simp [Int.natAbs_pow])
  have e6 : (if (if tot = 0 then s && t else decide (tot < 0)) = true then -((tot * 2 ^ k).natAbs : Int) else (tot * 2 ^ k).natAbs) = tot * 2 ^ k := by
    have hp : (0 : Int) < 2 ^ k := Int.pow_pos (by omega)
    by_cases h0 : tot = 0
    · subst h0; simp
    · rw [if_neg h0]
      by_cases hn : tot < 0
      · have : tot * 2 ^ k < 0 := Int.mul_neg_of_neg_of_pos hn hp
        simp only [hn, decide_true, if_true]; omega
      · have : 0 ≤ tot * 2 ^ k := Int.mul_nonneg (by omega) (by omega)
        simp only [hn, decide_false, Bool.false_eq_true, if_false]; omega
  rw [e6] at h3
  exact h3

theorem Val.opposite {f : Format} {d : Datum} {s : Bool} {m : Nat} {e : Int} (h : d = .number s m e) : d.opposite = .number (!s) m e := by subst h; rfl
theorem signed_not (s : Bool) (m u : Nat) : signed (!s) m u = - signed s m u := by
  rw [signed_eq, signed_eq]; cases s <;> simp

theorem sub_val {f : Format} (B : Nat) (hB : (B + 1) * f.binade ≤ f.infRung) {x y : Nat} {X Y : Int} (hx : Val f x X) (hy : Val f y Y) (hZ : Rep f B (X - Y).natAbs) : ∃ r, f.sub x y = some r ∧ Val f r (X - Y) := by
  obtain ⟨t, n, j, h2, rfl⟩ := hy
  obtain ⟨s, m, i, h1, rfl⟩ := hx
  unfold Format.sub
  rw [h1, h2]
  simp only [Datum.opposite, Datum.sum, Option.map_some]
  refine ⟨_, rfl, ?_⟩
  obtain ⟨k, hk⟩ : ∃ k : Nat, k = min i j := ⟨_, rfl⟩
  have e1 : min (f.leastPlace + (i : Nat)) (f.leastPlace + (j : Nat)) = f.leastPlace + (k : Nat) := by omega
  rw [e1]
  have e2 : (f.leastPlace + (i : Int) - (f.leastPlace + (k : Int))).toNat = i - k := by omega
  have e3 : (f.leastPlace + (j : Int) - (f.leastPlace + (k : Int))).toNat = j - k := by omega
  rw [e2, e3]
  have e4 : signed s m i = signed s m (i - k) * 2 ^ k := by rw [← signed_add]; congr 1; omega
  have e5 : - signed t n j = signed (!t) n (j - k) * 2 ^ k := by rw [← signed_add, signed_not]; congr 2; omega
  rw [Int.sub_eq_add_neg, e4, e5, ← Int.add_mul] at hZ ⊢
  generalize signed s m (i - k) + signed (!t) n (j - k) = tot at hZ ⊢
  have h3 := write_val B hB (if tot = 0 then s && !t else decide (tot < 0)) tot.natAbs (f.leastPlace + (k : Nat)) (tot * 2 ^ k).natAbs hZ f.leastPlace (by omega) (by omega) (by
    have : (f.leastPlace + (k : Int) - f.leastPlace).toNat = k := by omega
    rw [this, Int.sub_self, Int.natAbs_mul]
    simp [Int.natAbs_pow])
  have e6 : (if (if tot = 0 then s && !t else decide (tot < 0)) = true then -((tot * 2 ^ k).natAbs : Int) else (tot * 2 ^ k).natAbs) = tot * 2 ^ k := by
    have hp : (0 : Int) < 2 ^ k := Int.pow_pos (by omega)
    by_cases h0 : tot = 0
    · subst h0; simp
    · rw [if_neg h0]
      by_cases hn : tot < 0
      · have : tot * 2 ^ k < 0 := Int.mul_neg_of_neg_of_pos hn hp
        simp only [hn, decide_true, if_true]; omega
      · have : 0 ≤ tot * 2 ^ k := Int.mul_nonneg (by omega) (by omega)
        simp only [hn, decide_false, Bool.false_eq_true, if_false]; omega
  rw [e6] at h3
  exact h3

theorem signed_mul (s t : Bool) (m n i j : Nat) : signed s m i * signed t n j = (if s ^^ t then -1 else 1) * ((m * n * 2 ^ (i + j) : Nat) : Int) := by
  rw [signed_eq, signed_eq, Nat.pow_add]
  have : ((m * n * (2 ^ i * 2 ^ j) : Nat) : Int) = ((m * 2 ^ i : Nat) : Int) * ((n * 2 ^ j : Nat) : Int) := by
    rw [← Int.natCast_mul]
    congr 1
    rw [Nat.mul_mul_mul_comm]
  rw [this]
  generalize ((m * 2 ^ i : Nat) : Int) = a
  generalize ((n * 2 ^ j : Nat) : Int) = b
  cases s <;> cases t <;> simp [Int.neg_mul, Int.mul_neg]

theorem mul_val {f : Format} (B : Nat) (hB : (B + 1) * f.binade ≤ f.infRung) {x y : Nat} {X Y Z : Int} {u : Nat} (hu : f.leastPlace = -(u : Int)) (hx : Val f x X) (hy : Val f y Y) (hXY : X * Y = Z * 2 ^ u) (hZ : Rep f B Z.natAbs) : ∃ r, f.mul x y = some r ∧ Val f r Z := by
  obtain ⟨s, m, i, h1, rfl⟩ := hx
  obtain ⟨t, n, j, h2, rfl⟩ := hy
  unfold Format.mul
  rw [h1, h2]
  simp only [Datum.product, Option.map_some]
  refine ⟨_, rfl, ?_⟩
  rw [signed_mul] at hXY
  have hab : m * n * 2 ^ (i + j) = Z.natAbs * 2 ^ u := by
    have := congrArg Int.natAbs hXY
    rw [Int.natAbs_mul, Int.natAbs_mul Z, Int.natAbs_pow, Int.natAbs_natCast] at this
    have e1 : (if (s ^^ t) = true then (-1 : Int) else 1).natAbs = 1 := by cases s <;> cases t <;> rfl
    rw [e1, Nat.one_mul] at this
    exact this
  have h3 := write_val B hB (s ^^ t) (m * n) (f.leastPlace + (i : Nat) + (f.leastPlace + (j : Nat))) Z.natAbs hZ (f.leastPlace + f.leastPlace) (by omega) (by omega) (by
    have a1 : (f.leastPlace + (i : Int) + (f.leastPlace + (j : Int)) - (f.leastPlace + f.leastPlace)).toNat = i + j := by omega
    have a2 : (f.leastPlace - (f.leastPlace + f.leastPlace)).toNat = u := by omega
    rw [a1, a2]; exact hab)
  have hp : (0 : Int) < 2 ^ u := Int.pow_pos (by omega)
  have e6 : Val f (f.write (.number (s ^^ t) (m * n) (f.leastPlace + (i : Nat) + (f.leastPlace + (j : Nat))))) (if (s ^^ t) = true then -(Z.natAbs : Int) else Z.natAbs) := h3
  by_cases hz : Z = 0
  · subst hz
    have : (if (s ^^ t) = true then -((0 : Int).natAbs : Int) else ((0 : Int).natAbs : Int)) = 0 := by simp
    rw [this] at e6; exact e6
  · have : (if (s ^^ t) = true then -(Z.natAbs : Int) else Z.natAbs) = Z := by
      have hpos : (0 : Int) ≤ ((m * n * 2 ^ (i + j) : Nat) : Int) := Int.natCast_nonneg _
      cases hst : (s ^^ t)
      · rw [hst] at hXY
        have : 0 ≤ Z := by
          apply Classical.byContradiction
          intro hneg
          have : Z * 2 ^ u < 0 := Int.mul_neg_of_neg_of_pos (by omega) hp
          simp at hXY hpos
          omega
        simp; omega
      · rw [hst] at hXY
        have : Z ≤ 0 := by
          apply Classical.byContradiction
          intro hneg
          have : 0 < Z * 2 ^ u := Int.mul_pos (by omega) hp
          simp only [if_true] at hXY
          omega
        simp; omega
    rw [this] at e6; exact e6
end Go.Proofs.YtfjafeepmpnegaaDoor
