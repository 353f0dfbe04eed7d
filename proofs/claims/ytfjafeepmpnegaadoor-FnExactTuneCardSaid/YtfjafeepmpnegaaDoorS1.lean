/- The fields of a line, in plain lists of bytes. No condition. -/
import Derived.Lib.Split
import Derived.Lib.Join
import Derived.Lib.ItoaNum
namespace Go.Proofs.YtfjafeepmpnegaaDoor
open Go.Lib
set_option linter.unusedVariables false
set_option linter.unusedSimpArgs false

abbrev Tx := List UInt8
def fldStep (s : List Tx × Tx) (c : UInt8) : List Tx × Tx := if c = 32 then (if s.2 = [] then s.1 else s.1 ++ [s.2], []) else (s.1, s.2 ++ [c])
def fldEnd (s : List Tx × Tx) : List Tx := if s.2 = [] then s.1 else s.1 ++ [s.2]
def fieldsL (l : Tx) : List Tx := fldEnd (l.foldl fldStep ([], []))
theorem fold_pre (l : Tx) (o : List Tx) (t : Tx) : l.foldl fldStep (o, t) = (o ++ (l.foldl fldStep ([], t)).1, (l.foldl fldStep ([], t)).2) := by
  induction l generalizing o t with
  | nil => simp
  | cons c l ih =>
    simp only [List.foldl_cons, fldStep]
    by_cases hc : c = 32
    · simp only [if_pos hc]
      by_cases ht : t = []
      · simp only [if_pos ht]; rw [ih o []]
      · simp only [if_neg ht]; rw [ih (o ++ [t]) [], ih ([] ++ [t]) []]; simp
    · simp only [if_neg hc]; rw [ih o _]
theorem fold_tok (a : Tx) (ha : ∀ c ∈ a, c ≠ 32) (o : List Tx) (t : Tx) : a.foldl fldStep (o, t) = (o, t ++ a) := by
  induction a generalizing t with
  | nil => simp
  | cons c a ih =>
    simp only [List.foldl_cons, fldStep, if_neg (ha c List.mem_cons_self)]
    rw [ih (fun x hx => ha x (List.mem_cons_of_mem _ hx))]; simp
theorem fieldsL_tok (a : Tx) (ha : ∀ c ∈ a, c ≠ 32) : fieldsL a = if a = [] then [] else [a] := by
  unfold fieldsL
  rw [fold_tok a ha]; simp [fldEnd]
theorem fieldsL_cut (a b : Tx) (ha : ∀ c ∈ a, c ≠ 32) : fieldsL (a ++ 32 :: b) = (if a = [] then [] else [a]) ++ fieldsL b := by
  unfold fieldsL
  rw [List.foldl_append, fold_tok a ha, List.foldl_cons]
  simp only [fldStep, if_true, List.nil_append]
  rw [fold_pre]
  simp only [fldEnd]
  by_cases h : (List.foldl fldStep ([], []) b).2 = []
  · simp [h]
  · simp [h]
theorem index_cut {l : Tx} {i : Nat} (h : index l [32] = i) : ∃ a b, l = a ++ 32 :: b ∧ a.length = i ∧ (∀ c ∈ a, c ≠ 32) := by
  rcases index_spec l [32] with ⟨h1, _⟩ | ⟨j, h1, h2, h3, h4⟩
  · omega
  · obtain rfl : i = j := by omega
    have hh := occAt_head (s := l) (sub := [32]) (i := i) rfl h3
    obtain ⟨hi, he⟩ := List.getElem?_eq_some_iff.1 hh
    refine ⟨l.take i, l.drop (i + 1), ?_, by simp; omega, fun c hc => ?_⟩
    · rw [← he, ← List.drop_eq_getElem_cons hi, List.take_append_drop]
    · obtain ⟨j, hj, rfl⟩ := List.getElem_of_mem hc
      have hj' : j < i := by simp at hj; omega
      intro hcon
      have := h4 j hj'
      rw [occAt_iff_take l [32] j (by simp; omega)] at this
      rw [List.getElem_take] at hcon
      rw [List.drop_eq_getElem_cons (by omega)] at this
      simp [hcon] at this
theorem index_miss {l : Tx} (h : index l [32] = -1) : ∀ c ∈ l, c ≠ 32 := by
  intro c hc hcon
  obtain ⟨j, hj, rfl⟩ := List.getElem_of_mem hc
  rcases index_spec l [32] with ⟨_, h1⟩ | ⟨j', h1, _⟩
  · have := h1 j (by omega)
    rw [occAt_iff_take l [32] j (by simp; omega), List.drop_eq_getElem_cons (by omega)] at this
    simp [hcon] at this
  · omega
theorem split_fields (k : Nat) : ∀ l : Tx, l.length < k → (splitK [32] 0 (count l [32]) l).filter (fun t => !t.isEmpty) = fieldsL l := by
  induction k with
  | zero => intro l h; omega
  | succ k ih =>
    intro l hl
    rcases index_spec l [32] with ⟨h1, _⟩ | ⟨i, h1, _⟩
    · have ht := index_miss h1
      rw [count_miss h1, splitK, fieldsL_tok l ht]
      cases l <;> simp
    · obtain ⟨a, b, rfl, ha, hn⟩ := index_cut h1
      subst ha
      rw [count_hit (by simp) h1, Nat.add_comm, splitK, if_neg (by rw [h1]; simp only [beq_iff_eq]; omega), h1]
      have e1 : List.drop (a.length + [(32 : UInt8)].length) (a ++ 32 :: b) = b := by
        rw [List.drop_append]; simp
      have e2 : List.drop (((a.length : Nat) : Int).toNat + [(32 : UInt8)].length) (a ++ 32 :: b) = b := by rw [Int.toNat_natCast]; exact e1
      have e3 : List.take (((a.length : Nat) : Int).toNat + 0) (a ++ 32 :: b) = a := by rw [Int.toNat_natCast, Nat.add_zero]; simp
      rw [e1, e2, e3, fieldsL_cut a b hn, List.filter_cons, ih b (by simp at hl; omega)]
      cases a <;> simp
def GoodF (f : List Tx) : Prop := ∀ t ∈ f, t ≠ [] ∧ ∀ c ∈ t, c ≠ 32
theorem fold_good (l : Tx) (s : List Tx × Tx) (h1 : GoodF s.1) (h2 : ∀ c ∈ s.2, c ≠ 32) : GoodF (l.foldl fldStep s).1 ∧ (∀ c ∈ (l.foldl fldStep s).2, c ≠ 32) := by
  induction l generalizing s with
  | nil => exact ⟨h1, h2⟩
  | cons c l ih =>
    rw [List.foldl_cons]
    refine ih _ ?_ ?_
    · unfold fldStep
      split
      · simp only []
        split
        · exact h1
        · intro t ht
          rcases List.mem_append.1 ht with h | h
          · exact h1 t h
          · rw [List.mem_singleton.1 h]; exact ⟨by assumption, h2⟩
      · exact h1
    · unfold fldStep
      split
      · simp
      · intro x hx
        rcases List.mem_append.1 hx with h | h
        · exact h2 x h
        · rw [List.mem_singleton.1 h]; assumption
theorem fieldsL_good (l : Tx) : GoodF (fieldsL l) := by
  have h := fold_good l ([], []) (fun t ht => by simp at ht) (fun c hc => by simp at hc)
  unfold fieldsL fldEnd
  split
  · exact h.1
  · intro t ht
    rcases List.mem_append.1 ht with h' | h'
    · exact h.1 t h'
    · rw [List.mem_singleton.1 h']; exact ⟨by assumption, h.2⟩
def fsum (f : List Tx) : Nat := (f.map fun t => t.length + 1).sum
theorem fsum_snoc (f : List Tx) (t : Tx) : fsum (f ++ [t]) = fsum f + (t.length + 1) := by simp [fsum]
theorem fold_sum (l : Tx) (s : List Tx × Tx) : fsum (l.foldl fldStep s).1 + (l.foldl fldStep s).2.length ≤ fsum s.1 + s.2.length + l.length := by
  induction l generalizing s with
  | nil => simp
  | cons c l ih =>
    rw [List.foldl_cons]
    refine Nat.le_trans (ih _) ?_
    unfold fldStep
    split
    · simp only []
      split
      · simp; omega
      · rw [fsum_snoc]; simp; omega
    · simp; omega
theorem fieldsL_sum (l : Tx) : fsum (fieldsL l) ≤ l.length + 1 := by
  have h := fold_sum l ([], [])
  simp only [fsum, List.map_nil, List.sum_nil, List.length_nil, Nat.zero_add] at h
  unfold fieldsL fldEnd
  split
  · unfold fsum; omega
  · rw [fsum_snoc]; unfold fsum; omega
theorem fold_mem (l : Tx) (p : UInt8 → Prop) (hp : ∀ c ∈ l, p c) (s : List Tx × Tx) (h1 : ∀ t ∈ s.1, ∀ c ∈ t, p c) (h2 : ∀ c ∈ s.2, p c) : (∀ t ∈ (l.foldl fldStep s).1, ∀ c ∈ t, p c) ∧ (∀ c ∈ (l.foldl fldStep s).2, p c) := by
  induction l generalizing s with
  | nil => exact ⟨h1, h2⟩
  | cons c l ih =>
    rw [List.foldl_cons]
    refine ih (fun x hx => hp x (List.mem_cons_of_mem _ hx)) _ ?_ ?_
    · unfold fldStep
      split
      · simp only []
        split
        · exact h1
        · intro t ht
          rcases List.mem_append.1 ht with h | h
          · exact h1 t h
          · rw [List.mem_singleton.1 h]; exact h2
      · exact h1
    · unfold fldStep
      split
      · simp
      · intro x hx
        rcases List.mem_append.1 hx with h | h
        · exact h2 x h
        · rw [List.mem_singleton.1 h]; exact hp c List.mem_cons_self
theorem fieldsL_mem (l : Tx) (p : UInt8 → Prop) (hp : ∀ c ∈ l, p c) : ∀ t ∈ fieldsL l, ∀ c ∈ t, p c := by
  have h := fold_mem l p hp ([], []) (fun t ht => by simp at ht) (fun c hc => by simp at hc)
  unfold fieldsL fldEnd
  split
  · exact h.1
  · intro t ht
    rcases List.mem_append.1 ht with h' | h'
    · exact h.1 t h'
    · rw [List.mem_singleton.1 h']; exact h.2
theorem join_nil (sep : Tx) : join [] sep = [] := rfl
theorem join_cons2 (a b : Tx) (r : List Tx) (sep : Tx) : join (a :: b :: r) sep = a ++ sep ++ join (b :: r) sep := by simp [join, List.intercalate]
theorem join_single (a : Tx) (sep : Tx) : join [a] sep = a := by simp [join, List.intercalate]
theorem fieldsL_join (f : List Tx) (hf : GoodF f) : fieldsL (join f [32]) = f := by
  induction f with
  | nil => rfl
  | cons a f ih =>
    have ha := hf a List.mem_cons_self
    cases f with
    | nil => rw [join_single, fieldsL_tok a ha.2, if_neg ha.1]
    | cons b r =>
      rw [join_cons2, List.append_assoc, List.singleton_append, fieldsL_cut a _ ha.2, if_neg ha.1, ih (fun t ht => hf t (List.mem_cons_of_mem _ ht))]; rfl
theorem join_len (f : List Tx) : (join f [32]).length + 1 ≤ max 1 (fsum f) := by
  induction f with
  | nil => simp [join_nil, fsum]
  | cons a f ih =>
    cases f with
    | nil => rw [join_single]; simp [fsum]
    | cons b r =>
      rw [join_cons2]
      have e : fsum (a :: b :: r) = (a.length + 1) + fsum (b :: r) := by simp [fsum]
      have e2 : 1 ≤ fsum (b :: r) := by simp [fsum]; omega
      simp only [List.length_append, List.length_singleton]
      omega
theorem join_mem (f : List Tx) (p : UInt8 → Prop) (h32 : p 32) (hp : ∀ t ∈ f, ∀ c ∈ t, p c) : ∀ c ∈ join f [32], p c := by
  induction f with
  | nil => intro c hc; simp [join_nil] at hc
  | cons a f ih =>
    cases f with
    | nil => rw [join_single]; exact hp a List.mem_cons_self
    | cons b r =>
      rw [join_cons2]
      intro c hc
      rcases List.mem_append.1 hc with h | h
      · rcases List.mem_append.1 h with h | h
        · exact hp a List.mem_cons_self c h
        · rw [List.mem_singleton.1 h]; exact h32
      · exact ih (fun t ht => hp t (List.mem_cons_of_mem _ ht)) c h
/-- A line whose bytes can be printed. -/
def PrintB (l : Tx) : Bool := l.all fun c => decide (32 ≤ c.toNat) && decide (c.toNat ≤ 126)
def fieldsM (l : Tx) : Option (List Tx) := if l.length ≤ 600 ∧ PrintB l = true ∧ (fieldsL l).length ≤ 24 then some (fieldsL l) else none
theorem fieldsM_some {l : Tx} {f : List Tx} (h : fieldsM l = some f) : f = fieldsL l ∧ l.length ≤ 600 ∧ PrintB l = true ∧ f.length ≤ 24 := by
  unfold fieldsM at h
  split at h
  · injection h with h; subst h; simp_all
  · cases h
theorem PrintB_iff (l : Tx) : PrintB l = true ↔ ∀ c ∈ l, 32 ≤ c.toNat ∧ c.toNat ≤ 126 := by
  unfold PrintB
  rw [List.all_eq_true]
  constructor
  · intro h c hc; have := h c hc; simp at this; exact this
  · intro h c hc; simp; exact h c hc
theorem fieldsM_join {l : Tx} {f : List Tx} (h : fieldsM l = some f) : fieldsM (join f [32]) = some f := by
  obtain ⟨h1, h2, h3, h4⟩ := fieldsM_some h
  have hj : fieldsL (join f [32]) = f := fieldsL_join f (by rw [h1]; exact fieldsL_good l)
  unfold fieldsM
  rw [hj, if_pos]
  refine ⟨?_, ?_, h4⟩
  · have := join_len f
    have h5 : fsum f ≤ l.length + 1 := by rw [h1]; exact fieldsL_sum l
    omega
  · rw [PrintB_iff] at h3 ⊢
    exact join_mem f _ (by decide) (by rw [h1]; exact fieldsL_mem l _ h3)
end Go.Proofs.YtfjafeepmpnegaaDoor
