/- Numerals and numbers in thousandths, in plain lists of bytes. No condition. -/
import Derived.Test.YtfjafeepmpnegaaDoorS1
import Derived.Lib.ItoaMem
namespace Go.Proofs.YtfjafeepmpnegaaDoor
open Go.Lib
set_option linter.unusedVariables false
set_option linter.unusedSimpArgs false

def val (l : Tx) : Nat := l.foldl (fun a c => a * 10 + (c.toNat - 48)) 0
theorem val_snoc (l : Tx) (c : UInt8) : val (l ++ [c]) = val l * 10 + (c.toNat - 48) := by simp [val]
def Digs (l : Tx) : Prop := ∀ c ∈ l, 48 ≤ c.toNat ∧ c.toNat ≤ 57
theorem dig_nat {d : Nat} (h : d < 10) : (UInt8.ofNat (48 + d)).toNat = 48 + d := by
  rw [UInt8.toNat_ofNat']; exact Nat.mod_eq_of_lt (by omega)
theorem decDigits_small {u : Nat} (h : u < 10) : decDigits u = [UInt8.ofNat (48 + u)] := by rw [decDigits, dif_pos h]
theorem decDigits_big {u : Nat} (h : ¬ u < 10) : decDigits u = decDigits (u / 10) ++ [UInt8.ofNat (48 + u % 10)] := by rw [decDigits, dif_neg h]
theorem decDigits_digs (u : Nat) : Digs (decDigits u) := by
  induction u using Nat.strongRecOn with
  | _ u ih =>
    by_cases h : u < 10
    · rw [decDigits_small h]; intro c hc; rw [List.mem_singleton.1 hc, dig_nat h]; omega
    · rw [decDigits_big h]; intro c hc
      rcases List.mem_append.1 hc with h1 | h1
      · exact ih (u / 10) (by omega) c h1
      · rw [List.mem_singleton.1 h1, dig_nat (by omega)]; omega
theorem val_decDigits (u : Nat) : val (decDigits u) = u := by
  induction u using Nat.strongRecOn with
  | _ u ih =>
    by_cases h : u < 10
    · rw [decDigits_small h]; simp only [val, List.foldl_cons, List.foldl_nil, dig_nat h]; omega
    · rw [decDigits_big h, val_snoc, ih (u / 10) (by omega), dig_nat (by omega)]; omega
theorem decDigits_ne (u : Nat) : decDigits u ≠ [] := by
  intro h; have := decDigits_length u; rw [h] at this; have := nDigits_pos u; simp at *; omega
theorem decDigits_inj {u v : Nat} (h : decDigits u = decDigits v) : u = v := by rw [← val_decDigits u, h, val_decDigits]
theorem nDigits_le {u k : Nat} (hk : 1 ≤ k) (h : u < 10 ^ k) : nDigits u ≤ k := by
  induction k generalizing u with
  | zero => omega
  | succ k ih =>
    by_cases h1 : u < 10
    · rw [nDigits_small h1]; omega
    · rw [nDigits_big h1]
      by_cases h2 : k = 0
      · subst h2; simp at h; omega
      · have := ih (u := u / 10) (by omega) (by rw [Nat.pow_succ] at h; omega)
        omega
/-- Three digits. -/
def pad3 (r : Nat) : Tx := [UInt8.ofNat (48 + r / 100), UInt8.ofNat (48 + r / 10 % 10), UInt8.ofNat (48 + r % 10)]
theorem pad3_digs {r : Nat} (h : r < 1000) : Digs (pad3 r) := by
  intro c hc
  simp only [pad3, List.mem_cons, List.not_mem_nil, or_false] at hc
  rcases hc with rfl | rfl | rfl <;> rw [dig_nat (by omega)] <;> omega
theorem pad3_of (r : Nat) (h : r < 1000) : pad3 r = List.replicate (3 - nDigits r) 48 ++ decDigits r := by
  by_cases h1 : r < 10
  · rw [decDigits_small h1, nDigits_small h1, pad3, Nat.div_eq_of_lt (by omega), Nat.div_eq_of_lt h1, Nat.mod_eq_of_lt h1]; rfl
  · by_cases h2 : r < 100
    · rw [decDigits_big h1, decDigits_small (by omega), nDigits_big h1, nDigits_small (by omega), pad3, Nat.div_eq_of_lt h2, Nat.mod_eq_of_lt (show r / 10 < 10 by omega)]; rfl
    · rw [decDigits_big h1, decDigits_big (by omega), decDigits_small (by omega), nDigits_big h1, nDigits_big (by omega), nDigits_small (by omega), pad3, Nat.div_div_eq_div_mul]; rfl
theorem pad3_tail (r : Nat) (h : r < 1000) : (decDigits (1000 + r)).drop 1 = pad3 r := by
  rw [decDigits_big (by omega), decDigits_big (by omega), decDigits_big (by omega), decDigits_small (by omega), pad3]
  have e1 : (1000 + r) / 10 / 10 % 10 = r / 100 := by omega
  have e2 : (1000 + r) / 10 % 10 = r / 10 % 10 := by omega
  have e3 : (1000 + r) % 10 = r % 10 := by omega
  rw [e1, e2, e3]; rfl
theorem val_app3 (l : Tx) (r : Nat) (h : r < 1000) : val (l ++ pad3 r) = val l * 1000 + r := by
  have e : l ++ pad3 r = ((l ++ [UInt8.ofNat (48 + r / 100)]) ++ [UInt8.ofNat (48 + r / 10 % 10)]) ++ [UInt8.ofNat (48 + r % 10)] := by simp [pad3]
  rw [e, val_snoc, val_snoc, val_snoc, dig_nat (by omega), dig_nat (by omega), dig_nat (by omega)]; omega
/-- The text of a number of thousandths without its sign. -/
def bodyT (u : Nat) : Tx := decDigits (u / 1000) ++ 46 :: pad3 (u % 1000)
def fixedT (n : Int) : Tx := if -1000000000 ≤ n ∧ n ≤ 1000000000 then (if n < 0 then 45 :: bodyT n.natAbs else bodyT n.natAbs) else []
theorem bodyT_len (u : Nat) : (bodyT u).length = nDigits (u / 1000) + 4 := by simp [bodyT, decDigits_length, pad3]
theorem bodyT_head (u : Nat) : (bodyT u)[0]? ≠ some 45 := by
  have h := decDigits_ne (u / 1000)
  cases hd : decDigits (u / 1000) with
  | nil => exact absurd hd h
  | cons c r =>
    have := decDigits_digs (u / 1000) c (by rw [hd]; exact List.mem_cons_self)
    simp only [bodyT, hd, List.cons_append, List.getElem?_cons_zero]
    intro e; injection e with e; rw [e] at this; exact absurd this (by decide)
def bodyVal (t : Tx) : Nat := val (t.take (t.length - 4) ++ t.drop (t.length - 3))
theorem bodyVal_bodyT (u : Nat) : bodyVal (bodyT u) = u := by
  have h1 : (bodyT u).take ((bodyT u).length - 4) = decDigits (u / 1000) := by
    rw [bodyT_len, Nat.add_sub_cancel, bodyT, ← decDigits_length]; simp
  have h2 : (bodyT u).drop ((bodyT u).length - 3) = pad3 (u % 1000) := by
    rw [bodyT_len, show nDigits (u / 1000) + 4 - 3 = nDigits (u / 1000) + 1 by omega, bodyT, ← decDigits_length, List.drop_append]; simp
  rw [bodyVal, h1, h2, val_app3 _ _ (by omega), val_decDigits]; omega
theorem fixedT_sign (n : Int) (h1 : -1000000000 ≤ n) (h2 : n ≤ 1000000000) : (n < 0 ∧ fixedT n = 45 :: bodyT n.natAbs) ∨ (0 ≤ n ∧ fixedT n = bodyT n.natAbs) := by
  unfold fixedT
  rw [if_pos ⟨h1, h2⟩]
  by_cases h : n < 0
  · exact .inl ⟨h, by rw [if_pos h]⟩
  · exact .inr ⟨by omega, by rw [if_neg h]⟩
theorem fixedT_ne (n : Int) (h1 : -1000000000 ≤ n) (h2 : n ≤ 1000000000) : fixedT n ≠ [] := by
  rcases fixedT_sign n h1 h2 with ⟨_, h⟩ | ⟨_, h⟩
  · rw [h]; simp
  · rw [h]; simp [bodyT]
def fixedVal (s : Tx) : Int := if s[0]? = some 45 then -(bodyVal (s.drop 1) : Int) else (bodyVal s : Int)
theorem fixedVal_fixedT (n : Int) (h1 : -1000000000 ≤ n) (h2 : n ≤ 1000000000) : fixedVal (fixedT n) = n := by
  unfold fixedVal
  rcases fixedT_sign n h1 h2 with ⟨hn, h⟩ | ⟨hn, h⟩
  · rw [h]; simp only [List.getElem?_cons_zero, if_true, List.drop_succ_cons, List.drop_zero, bodyVal_bodyT]; omega
  · rw [h, if_neg (bodyT_head _), bodyVal_bodyT]; omega
def inFixed (n : Int) : Prop := -1000000000 ≤ n ∧ n ≤ 1000000000
/-- The number of which this is the text. -/
def parseM (s : Tx) : Option Int := if fixedT (fixedVal s) = s ∧ s ≠ [] then some (fixedVal s) else none
theorem fixedT_in {n : Int} (h : fixedT n ≠ []) : inFixed n := by
  unfold fixedT at h
  by_cases hh : -1000000000 ≤ n ∧ n ≤ 1000000000
  · exact hh
  · rw [if_neg hh] at h; exact absurd rfl h
theorem parseM_some {s : Tx} {n : Int} : parseM s = some n ↔ inFixed n ∧ fixedT n = s := by
  unfold parseM
  constructor
  · intro h
    split at h
    · rename_i hh
      injection h with h; subst h
      exact ⟨fixedT_in (by rw [hh.1]; exact hh.2), hh.1⟩
    · cases h
  · rintro ⟨h1, rfl⟩
    rw [fixedVal_fixedT n h1.1 h1.2, if_pos ⟨rfl, fixedT_ne n h1.1 h1.2⟩]
theorem parseM_none {s : Tx} (h : ∀ n, inFixed n → fixedT n ≠ s) : parseM s = none := by
  cases hp : parseM s with
  | none => rfl
  | some n => exact absurd (parseM_some.1 hp).2 (h n (parseM_some.1 hp).1)
/-- What stands behind the sign. -/
def unsign (s : Tx) : Tx := if s[0]? = some 45 then s.drop 1 else s
theorem parseM_shape {s : Tx} {n : Int} (h : parseM s = some n) : ∃ u : Nat, unsign s = bodyT u ∧ u ≤ 1000000000 ∧ n = (if s[0]? = some 45 then -(u : Int) else (u : Int)) := by
  obtain ⟨⟨h1, h2⟩, rfl⟩ := parseM_some.1 h
  unfold unsign
  rcases fixedT_sign n h1 h2 with ⟨hn, h⟩ | ⟨hn, h⟩
  · refine ⟨n.natAbs, ?_, by omega, ?_⟩
    · rw [h]; simp
    · rw [h]; simp; omega
  · refine ⟨n.natAbs, ?_, by omega, ?_⟩
    · rw [h, if_neg (bodyT_head _)]
    · rw [h, if_neg (bodyT_head _)]; omega
theorem bodyT_len_le {u : Nat} (h : u ≤ 1000000000) : 5 ≤ (bodyT u).length ∧ (bodyT u).length ≤ 11 := by
  have h1 := nDigits_pos (u / 1000)
  have h2 := nDigits_le (u := u / 1000) (k := 7) (by omega) (by omega)
  rw [bodyT_len]; omega
theorem bodyT_dot (u : Nat) : (bodyT u)[(bodyT u).length - 4]? = some 46 := by
  rw [bodyT_len, Nat.add_sub_cancel, bodyT, ← decDigits_length]; simp
theorem bodyT_digit (u k : Nat) (hk : k < (bodyT u).length) (hn : k ≠ (bodyT u).length - 4) : ∃ c, (bodyT u)[k]? = some c ∧ 48 ≤ c.toNat ∧ c.toNat ≤ 57 := by
  rw [bodyT_len] at hk hn
  by_cases h : k < nDigits (u / 1000)
  · have h' : k < (decDigits (u / 1000)).length := by rw [decDigits_length]; exact h
    refine ⟨(decDigits (u / 1000))[k], ?_, decDigits_digs _ _ (List.getElem_mem h')⟩
    rw [bodyT, List.getElem?_append_left h', List.getElem?_eq_getElem h']
  · obtain ⟨j, rfl⟩ : ∃ j, k = nDigits (u / 1000) + 1 + j := ⟨k - (nDigits (u / 1000) + 1), by omega⟩
    have hj : j < (pad3 (u % 1000)).length := by simp [pad3]; omega
    refine ⟨(pad3 (u % 1000))[j], ?_, pad3_digs (by omega) _ (List.getElem_mem hj)⟩
    rw [bodyT, List.getElem?_append_right (by rw [decDigits_length]; omega), decDigits_length, show nDigits (u / 1000) + 1 + j - nDigits (u / 1000) = j + 1 by omega, List.getElem?_cons_succ, List.getElem?_eq_getElem hj]
/-- What the loop over a text has reckoned ahead of place k; place i is passed by. -/
def accV (t : Tx) (i : Nat) : Nat → Nat
  | 0 => 0
  | k + 1 => if k = i then accV t i k else accV t i k * 10 + ((t.getD k 0).toNat - 48)
theorem accV_before (t : Tx) (i k : Nat) (hk : k ≤ i) (hl : k ≤ t.length) : accV t i k = val (t.take k) := by
  induction k with
  | zero => simp [accV, val]
  | succ k ih =>
    rw [accV, if_neg (by omega), ih (by omega) (by omega), List.take_succ_eq_append_getElem (by omega), val_snoc]
    simp [List.getD_eq_getElem?_getD, List.getElem?_eq_getElem (show k < t.length by omega)]
theorem accV_behind (t : Tx) (i k : Nat) (hk : i + 1 + k ≤ t.length) : accV t i (i + 1 + k) = val (t.take i ++ (t.drop (i + 1)).take k) := by
  induction k with
  | zero => rw [Nat.add_zero, accV, if_pos rfl, accV_before t i i (Nat.le_refl _) (by omega)]; simp
  | succ k ih =>
    have h2 : k < (t.drop (i + 1)).length := by simp; omega
    rw [← Nat.add_assoc, accV, if_neg (by omega), ih (by omega), List.take_succ_eq_append_getElem h2, ← List.append_assoc, val_snoc]
    simp [List.getD_eq_getElem?_getD, List.getElem?_eq_getElem (show i + 1 + k < t.length by omega)]
theorem accV_all (t : Tx) (h : 4 ≤ t.length) : accV t (t.length - 4) t.length = bodyVal t := by
  have := accV_behind t (t.length - 4) 3 (by omega)
  rw [show t.length - 4 + 1 + 3 = t.length by omega] at this
  have e : (t.drop (t.length - 3)).take 3 = t.drop (t.length - 3) := List.take_of_length_le (by rw [List.length_drop]; omega)
  rw [this, bodyVal, show t.length - 4 + 1 = t.length - 3 by omega, e]
theorem accV_lt (t : Tx) (i k : Nat) (hd : ∀ j, j < k → j ≠ i → (t.getD j 0).toNat ≤ 57) : accV t i k < 10 ^ k := by
  induction k with
  | zero => simp [accV]
  | succ k ih =>
    have h1 := ih (fun j hj => hd j (by omega))
    rw [accV, Nat.pow_succ]
    split
    · omega
    · have := hd k (by omega) (by assumption); omega
/-- The whole number of which this is the numeral. -/
def uintM (s : Tx) : Option Nat := if val s ≤ 1000000000 ∧ decDigits (val s) = s then some (val s) else none
theorem uintM_some {s : Tx} {n : Nat} : uintM s = some n ↔ n ≤ 1000000000 ∧ decDigits n = s := by
  unfold uintM
  constructor
  · intro h
    split at h
    · rename_i hh; injection h with h; subst h; exact hh
    · cases h
  · rintro ⟨h1, rfl⟩
    rw [val_decDigits, if_pos ⟨h1, rfl⟩]
theorem uintM_none {s : Tx} (h : ∀ n, n ≤ 1000000000 → decDigits n ≠ s) : uintM s = none := by
  cases hp : uintM s with
  | none => rfl
  | some n => exact absurd (uintM_some.1 hp).2 (h n (uintM_some.1 hp).1)
theorem uintM_shape {s : Tx} {n : Nat} (h : uintM s = some n) : 1 ≤ s.length ∧ s.length ≤ 10 ∧ Digs s ∧ val s = n := by
  obtain ⟨h1, rfl⟩ := uintM_some.1 h
  have h2 := nDigits_pos n
  have h3 := nDigits_le (u := n) (k := 10) (by omega) (by omega)
  rw [decDigits_length]
  exact ⟨h2, h3, decDigits_digs n, val_decDigits n⟩
end Go.Proofs.YtfjafeepmpnegaaDoor
