/- A statement whose order is left open: its operations read, reckon with floats (whose NaN bits are open), call, or make new blocks; one walk in the text's order serves every order, where what each operation yields is told by a relation. No condition. -/
import Derived.Test.YtfjafeepmpnegaaDoorKc
import Derived.StillTail
namespace Go.Proofs.YtfjafeepmpnegaaDoor
open Go.RowKit
set_option linter.unusedVariables false
set_option linter.unusedSimpArgs false

/-- Draws and new blocks alone. -/
abbrev Up (w w' : World) : Prop := w.grownBy w' none
theorem up_refl (w : World) : Up w w := gr_refl w none
theorem up_trans {a b c : World} (h : Up a b) (k : Up b c) : Up a c := h.trans k

section
variable {P : Program} {ops : Array Oper} {md : Region.Mode} {Con : FuncId → Array Value → Value → World → Prop} {w : World}

/-- What an operation has yielded, from world w1. -/
def wentTo (Con : FuncId → Array Value → Value → World → Prop) (w1 : World) (v : Value) (w2 : World) : Result Next → Prop
  | .ok (.value u) w' => v = u ∧ w2 = w'
  | .ok .skip w' => v = undef ∧ w2 = w'
  | .ok (.enter f args) _ => Con f args v w2
  | _ => False
/-- The operation goes well from world w1. -/
def goesWell (P : Program) (Con : FuncId → Array Value → Value → World → Prop) (w1 : World) : Result Next → Prop
  | .ok (.value _) w' => Up w1 w'
  | .ok .skip w' => Up w1 w'
  | .ok (.enter f args) w' => w' = w1 ∧ Calls P f args w1 fun e w2 => ∃ v, e = .returned v ∧ Up w1 w2 ∧ Con f args v w2
  | _ => False
def Safe (P : Program) (Con : FuncId → Array Value → Value → World → Prop) (w : World) (o : Oper) (a : Act) : Prop := ∀ w1, Up w w1 → goesWell P Con w1 ((execOp a.eval o).run P w1)
/-- v may be what the operation has yielded, seen from a later world w'. -/
def Poss (P : Program) (Con : FuncId → Array Value → Value → World → Prop) (w : World) (o : Oper) (a : Act) (v : Value) (w' : World) : Prop :=
  ∃ w1 w2, Up w w1 ∧ wentTo Con w1 v w2 ((execOp a.eval o).run P w1) ∧ Up w1 w2 ∧ Up w2 w'
theorem Poss.mono {o : Oper} {a : Act} {v : Value} {w' w'' : World} (h : Poss P Con w o a v w') (k : Up w' w'') : Poss P Con w o a v w'' := by
  obtain ⟨w1, w2, h1, h2, h3, h4⟩ := h
  exact ⟨w1, w2, h1, h2, h3, up_trans h4 k⟩
def rOp (P : Program) (ops : Array Oper) (Con : FuncId → Array Value → Value → World → Prop) (w : World) (i : Nat) (K : Act → (World → Prop) → Prop) (a : Act) (F : World → Prop) : Prop :=
  match ops[i]? with
  | none => K a F
  | some o => if Region.wanted o (yielded ops a.tmps) then Safe P Con w o a ∧ ∀ v, (∃ w', Poss P Con w o a v w') → K (a.put o.dst v) (fun w' => F w' ∧ Poss P Con w o a v w') else K (a.put o.dst undef) F
theorem rOp_mono {i : Nat} {a : Act} {F : World → Prop} {K K' : Act → (World → Prop) → Prop} (h : ∀ a F, K a F → K' a F) (hh : rOp P ops Con w i K a F) : rOp P ops Con w i K' a F := by
  unfold rOp at *
  split
  · exact h _ _ (by simpa [*] using hh)
  · rename_i o ho
    simp only [ho] at hh
    split
    · rename_i hw; simp only [hw, if_true] at hh; exact ⟨hh.1, fun v hv => h _ _ (hh.2 v hv)⟩
    · rename_i hw; simp only [hw] at hh; exact h _ _ hh
def anyR (P : Program) (md : Region.Mode) (ops : Array Oper) (Con : FuncId → Array Value → Value → World → Prop) (w : World) (n : Nat) (L : Array Bool → Act → (World → Prop) → Prop) : Nat → Array Bool → Act → (World → Prop) → Prop
  | 0, listed, a, F => L listed a F
  | f + 1, listed, a, F => Region.ready md ops listed ≠ [] ∧ ∀ i ∈ Region.ready md ops listed, i < n ∧ rOp P ops Con w i (anyR P md ops Con w n L f (listed.setIfInBounds i true)) a F

def Mono (F : World → Prop) : Prop := ∀ w w', Up w w' → F w → F w'
/-- It serves every order. -/
theorem anyR_sound {n g : Nat} {L : Array Bool → Act → (World → Prop) → Prop} {Q : Exit → Act → World → Prop} (hL : ∀ listed a F w1, Up w w1 → F w1 → L listed a F → wpAny P md ops Q g listed a w1) :
    ∀ (f : Nat) (listed : Array Bool) (a : Act) (F : World → Prop) (w1 : World), Up w w1 → Mono F → F w1 → anyR P md ops Con w n L f listed a F → wpAny P md ops Q (f + g) listed a w1
  | 0, listed, a, F, w1, hu, _, hF, h => by rw [Nat.zero_add]; exact hL _ _ _ _ hu hF h
  | f + 1, listed, a, F, w1, hu, hM, hF, h => by
    rw [show f + 1 + g = (f + g) + 1 by omega]
    refine ⟨fun h0 => absurd h0 h.1, fun i hi => ?_⟩
    have hr := (h.2 i hi).2
    unfold rOp at hr
    unfold wpOp
    split
    · rename_i ho; simp only [ho] at hr; exact anyR_sound hL f _ _ _ _ hu hM hF hr
    · rename_i o ho
      simp only [ho] at hr
      split
      · rename_i hw
        simp only [hw, if_true] at hr
        left
        obtain ⟨hs, hk⟩ := hr
        have hs1 := hs w1 hu
        have next : ∀ v w2, Up w1 w2 → wentTo Con w1 v w2 ((execOp a.eval o).run P w1) → wpAny P md ops Q (f + g) (listed.setIfInBounds i true) (a.put o.dst v) w2 := fun v w2 h12 hwent => by
          have hp : Poss P Con w o a v w2 := ⟨w1, w2, hu, hwent, h12, up_refl _⟩
          exact anyR_sound hL f _ _ _ w2 (up_trans hu h12) (fun x y hxy hx => ⟨hM x y hxy hx.1, hx.2.mono hxy⟩) ⟨hM _ _ h12 hF, hp⟩ (hk v ⟨w2, hp⟩)
        unfold Oper.wp
        generalize (execOp a.eval o).run P w1 = r at hs1 next
        cases r with
        | ok nx w' =>
          cases nx <;> simp only [goesWell] at hs1 <;> simp only [Oper.upon]
          case value u => exact next u w' hs1 ⟨rfl, rfl⟩
          case skip => exact next undef w' hs1 ⟨rfl, rfl⟩
          case enter fn args =>
            obtain ⟨rfl, hc⟩ := hs1
            exact hc.mono fun e w2 ⟨v, he, h12, hcon⟩ => by subst he; exact next v w2 h12 hcon
        | halt x w' => simp only [goesWell] at hs1
      · rename_i hw; simp only [hw] at hr; exact anyR_sound hL f _ _ _ _ hu hM hF hr

/-- In state 'a' operation 'o' is fine, and whatever it yields leads on. -/
def LeadsOn (P : Program) (ops : Array Oper) (Con : FuncId → Array Value → Value → World → Prop) (w : World) (o : Oper) (a : Act) (F : World → Prop) (K : Act → (World → Prop) → Prop) : Prop :=
  if Region.wanted o (yielded ops a.tmps) then Safe P Con w o a ∧ ∀ v, (∃ w', Poss P Con w o a v w') → K (a.put o.dst v) (fun w' => F w' ∧ Poss P Con w o a v w') else K (a.put o.dst undef) F

theorem Safe.some {o : Oper} {a : Act} (h : Safe P Con w o a) : ∃ v w', Poss P Con w o a v w' := by
  have h1 := h w (up_refl w)
  generalize hr : (execOp a.eval o).run P w = r at h1
  cases r with
  | ok nx w' =>
    cases nx <;> simp only [goesWell] at h1
    case value u => exact ⟨u, w', w, w', up_refl w, by rw [hr]; exact ⟨rfl, rfl⟩, h1, up_refl _⟩
    case skip => exact ⟨undef, w', w, w', up_refl w, by rw [hr]; exact ⟨rfl, rfl⟩, h1, up_refl _⟩
    case enter fn args =>
      obtain ⟨rfl, hc⟩ := h1
      obtain ⟨e, w2, fr, ⟨v, _, h12, hcon⟩, _⟩ := hc []
      exact ⟨v, w2, w', w2, up_refl w', by rw [hr]; exact hcon, h12, up_refl _⟩
  | halt x w' => simp only [goesWell] at h1
theorem Safe.same {o : Oper} {a a' : Act} (he : execOp a'.eval o = execOp a.eval o) : Safe P Con w o a' ↔ Safe P Con w o a := by unfold Safe; rw [he]
theorem Poss.same {o : Oper} {a a' : Act} (he : execOp a'.eval o = execOp a.eval o) : Poss P Con w o a' = Poss P Con w o a := by unfold Poss; rw [he]
theorem andSwap (F A B : World → Prop) : (fun w' => (F w' ∧ A w') ∧ B w') = (fun w' => (F w' ∧ B w') ∧ A w') := by
  funext w'; exact propext ⟨fun h => ⟨⟨h.1.1, h.2⟩, h.1.2⟩, fun h => ⟨⟨h.1.1, h.2⟩, h.1.2⟩⟩

theorem anyR_first {n i : Nat} {oi : Oper} {L : Array Bool → Act → (World → Prop) → Prop} (hi : ops[i]? = some oi) (hsel : ∀ (j : Nat) (o : Oper) cs b, ops[j]? = some o → o.op ≠ .select cs b) (hin : i < n)
    (hwait : ∀ listed, HeadInv md ops n listed → ∀ k, k < n → listed.getD k true = false → ∀ t, n ≤ t → t ∉ Region.ready md ops listed)
    (hdone : ∀ listed a F, L listed a F → ∀ j ∈ Region.ready md ops listed, n ≤ j) :
    ∀ (f : Nat) (listed : Array Bool) (a : Act) (F : World → Prop), HeadInv md ops n listed →
      (∀ j oj, ops[j]? = some oj → j ≠ i → listed.getD j true = false → (∀ e ∈ oj.after, Region.binds md e = true → e.on ≠ i) → oi.apart ops oj = true) →
      i ∈ Region.ready md ops listed →
      LeadsOn P ops Con w oi a F (anyR P md ops Con w n L f (listed.setIfInBounds i true)) → anyR P md ops Con w n L (f + 1) listed a F := by
  intro f
  induction f with
  | zero =>
    intro listed a F inv _ hr H
    have hun := (mem_ready.1 hr).1
    refine ⟨fun h => (by rw [h] at hr; cases hr), fun j hj => ?_⟩
    have hjn : j < n := by
      rcases Nat.lt_or_ge j n with h | h
      · exact h
      · exact absurd hj (hwait _ inv i hin hun j h)
    refine ⟨hjn, ?_⟩
    by_cases hji : j = i
    · subst hji; unfold rOp; simp only [hi]; exact H
    · exfalso
      have hjr := ready_mono hj hji
      unfold LeadsOn at H
      split at H
      · obtain ⟨v, hv⟩ := H.1.some
        have := hdone _ _ _ (H.2 v hv) j hjr
        omega
      · have := hdone _ _ _ H j hjr
        omega
  | succ f ih =>
    intro listed a F inv hfree hr H
    have hun := (mem_ready.1 hr).1
    refine ⟨fun h => (by rw [h] at hr; cases hr), fun j hj => ?_⟩
    have hjn : j < n := by
      rcases Nat.lt_or_ge j n with h | h
      · exact h
      · exact absurd hj (hwait _ inv i hin hun j h)
    refine ⟨hjn, ?_⟩
    by_cases hji : j = i
    · subst hji; unfold rOp; simp only [hi]; exact H
    · have hjr := ready_mono hj hji
      obtain ⟨hjun, oj, hoj, hall⟩ := mem_ready.1 hj
      have hnot : ∀ e ∈ oj.after, Region.binds md e = true → e.on ≠ i := fun e he hb heq => by
        have h1 := hall e he hb
        rw [heq, getD_both hun] at h1
        cases h1
      have hap := hfree j oj hoj hji hjun hnot
      obtain ⟨p1, p2, p3⟩ := Oper.apart_spec hap
      have hfree' : ∀ k ok, ops[k]? = some ok → k ≠ i → (listed.setIfInBounds j true).getD k true = false →
          (∀ e ∈ ok.after, Region.binds md e = true → e.on ≠ i) → oi.apart ops ok = true := fun k ok hk hki hun hno => by
        refine hfree k ok hk hki ?_ hno
        by_cases hjk : j = k
        · subst hjk; exact hjun
        · rw [getD_set_ne true hjk] at hun; exact hun
      have ej : ∀ v, execOp (a.put oi.dst v).eval oj = execOp a.eval oj := fun v => execOp_put oj (fun cs b => hsel j oj cs b hoj) a oi.dst v p1
      have ei : ∀ u, execOp (a.put oj.dst u).eval oi = execOp a.eval oi := fun u => execOp_put oi (fun cs b => hsel i oi cs b hi) a oj.dst u p3
      have wj : ∀ v, Region.wanted oj (yielded ops (a.put oi.dst v).tmps) = Region.wanted oj (yielded ops a.tmps) := fun v => wanted_put oj a oi.dst v p1
      have wi : ∀ u, Region.wanted oi (yielded ops (a.put oj.dst u).tmps) = Region.wanted oi (yielded ops a.tmps) := fun u => wanted_put oi a oj.dst u p3
      -- what stands behind both
      have hcomm : ∀ v u, (a.put oi.dst v).put oj.dst u = (a.put oj.dst u).put oi.dst v := fun v u => Act.put_comm a v u p2
      have hset : (listed.setIfInBounds i true).setIfInBounds j true = (listed.setIfInBounds j true).setIfInBounds i true := by rw [Array.setIfInBounds_comm _ _ (Ne.symm hji)]
      -- j's own turn in the state behind i
      have turn : ∀ v F1, anyR P md ops Con w n L (f + 1) (listed.setIfInBounds i true) (a.put oi.dst v) F1 →
          LeadsOn P ops Con w oj (a.put oi.dst v) F1 (anyR P md ops Con w n L f ((listed.setIfInBounds i true).setIfInBounds j true)) := fun v F1 h => by
        have h1 := (h.2 j hjr).2
        unfold rOp at h1
        simp only [hoj] at h1
        exact h1
      have goal : ∀ u F1, LeadsOn P ops Con w oi (a.put oj.dst u) F1 (anyR P md ops Con w n L f ((listed.setIfInBounds j true).setIfInBounds i true)) →
          anyR P md ops Con w n L (f + 1) (listed.setIfInBounds j true) (a.put oj.dst u) F1 := fun u F1 h =>
        ih (listed.setIfInBounds j true) (a.put oj.dst u) F1 (inv.set hj hjn) hfree' (ready_mono hr (Ne.symm hji)) h
      unfold rOp
      simp only [hoj]
      unfold LeadsOn at H
      by_cases hwi : Region.wanted oi (yielded ops a.tmps) = true
      · rw [if_pos hwi] at H
        by_cases hwj : Region.wanted oj (yielded ops a.tmps) = true
        · rw [if_pos hwj]
          obtain ⟨v0, hv0⟩ := H.1.some
          have t0 := turn v0 _ (H.2 v0 hv0)
          unfold LeadsOn at t0
          rw [if_pos (by rw [wj]; exact hwj)] at t0
          refine ⟨(Safe.same (ej v0)).1 t0.1, fun u hu => goal u _ ?_⟩
          unfold LeadsOn
          rw [if_pos (by rw [wi]; exact hwi)]
          refine ⟨(Safe.same (ei u)).2 H.1, fun v hv => ?_⟩
          rw [Poss.same (ei u)] at hv ⊢
          have t1 := turn v _ (H.2 v hv)
          unfold LeadsOn at t1
          rw [if_pos (by rw [wj]; exact hwj)] at t1
          have t2 := t1.2 u (by rw [Poss.same (ej v)]; exact hu)
          rw [Poss.same (ej v), andSwap, hcomm, hset] at t2
          exact t2
        · rw [if_neg hwj]
          refine goal undef _ ?_
          unfold LeadsOn
          rw [if_pos (by rw [wi]; exact hwi)]
          refine ⟨(Safe.same (ei undef)).2 H.1, fun v hv => ?_⟩
          rw [Poss.same (ei undef)] at hv ⊢
          have t1 := turn v _ (H.2 v hv)
          unfold LeadsOn at t1
          rw [if_neg (by rw [wj]; exact hwj), hcomm, hset] at t1
          exact t1
      · rw [if_neg hwi] at H
        have t1 := turn undef _ H
        unfold LeadsOn at t1
        by_cases hwj : Region.wanted oj (yielded ops a.tmps) = true
        · rw [if_pos hwj]
          rw [if_pos (by rw [wj]; exact hwj)] at t1
          refine ⟨(Safe.same (ej undef)).1 t1.1, fun u hu => goal u _ ?_⟩
          unfold LeadsOn
          rw [if_neg (by rw [wi]; exact hwi)]
          have t2 := t1.2 u (by rw [Poss.same (ej undef)]; exact hu)
          rw [Poss.same (ej undef), hcomm, hset] at t2
          exact t2
        · rw [if_neg hwj]
          refine goal undef _ ?_
          unfold LeadsOn
          rw [if_neg (by rw [wi]; exact hwi)]
          rw [if_neg (by rw [wj]; exact hwj), hcomm, hset] at t1
          exact t1

/-- The walk in the text's order. -/
def wpLex (P : Program) (ops : Array Oper) (Con : FuncId → Array Value → Value → World → Prop) (w : World) (R : Act → World → Prop) : List Oper → Act → (World → Prop) → Prop
  | [], a, F => ∀ w', Up w w' → F w' → R a w'
  | o :: rest, a, F => LeadsOn P ops Con w o a F (wpLex P ops Con w R rest)
theorem wpLex_mono {R : Act → World → Prop} : ∀ (l : List Oper) (a : Act) (F F' : World → Prop), (∀ w', F' w' → F w') → wpLex P ops Con w R l a F → wpLex P ops Con w R l a F'
  | [], _, _, _, hF, h => fun w' hu hf => h w' hu (hF w' hf)
  | o :: rest, a, F, F', hF, h => by
    unfold wpLex LeadsOn at h ⊢
    split
    · rename_i hw
      rw [if_pos hw] at h
      exact ⟨h.1, fun v hv => wpLex_mono rest _ _ _ (fun w' hf => ⟨hF w' hf.1, hf.2⟩) (h.2 v hv)⟩
    · rename_i hw
      rw [if_neg hw] at h
      exact wpLex_mono rest _ _ _ hF h
theorem anyR_lex {n g : Nat} {R : Act → World → Prop} (hsel : Region.noSelect ops = true)
    (hwait : ∀ listed, HeadInv md ops n listed → ∀ k, k < n → listed.getD k true = false → ∀ t, n ≤ t → t ∉ Region.ready md ops listed) :
    ∀ (l : List Oper) (k : Nat) (listed : Array Bool) (a : Act) (F : World → Prop), (∀ j, j < l.length → l[j]? = ops[k + j]?) → k + l.length = n → HeadInv md ops n listed →
    Region.lexHead md ops g l.length k listed = true → wpLex P ops Con w R l a F →
    anyR P md ops Con w n (fun listed' a' F' => Region.seqB md ops g n listed' = true ∧ ∀ w', Up w w' → F' w' → R a' w') l.length listed a F
  | [], k, listed, a, F, _, hk, _, hB, h => by
    have : k = n := by simpa using hk
    subst this
    exact ⟨by simpa [Region.lexHead] using hB, h⟩
  | o :: l, k, listed, a, F, hl, hk, inv, hB, h => by
    have h0 : ops[k]? = some o := by simpa using (hl 0 (by simp)).symm
    simp only [List.length_cons, Region.lexHead, Bool.and_eq_true] at hB
    obtain ⟨⟨hr, hf⟩, hB'⟩ := hB
    have hkn : k < n := by simp only [List.length_cons] at hk; omega
    have hr' : k ∈ Region.ready md ops listed := by simpa using hr
    refine anyR_first h0 (Region.noSelect_spec hsel) hkn hwait (fun listed' a' F' hL => seqB_ready hL.1) l.length listed a F inv (Region.free_spec h0 hf) hr' ?_
    have step : ∀ a' F', wpLex P ops Con w R l a' F' → anyR P md ops Con w n (fun listed' a' F' => Region.seqB md ops g n listed' = true ∧ ∀ w', Up w w' → F' w' → R a' w') l.length (listed.setIfInBounds k true) a' F' := fun a' F' h' =>
      anyR_lex hsel hwait l (k + 1) _ a' F' (fun j hj => by have := hl (j + 1) (by simp; omega); simpa [Nat.add_assoc, Nat.add_comm 1 j] using this) (by simp only [List.length_cons] at hk; omega) (inv.set hr' hkn) hB' h'
    unfold wpLex LeadsOn at h
    unfold LeadsOn
    split
    · rename_i hw
      rw [if_pos hw] at h
      exact ⟨h.1, fun v hv => step _ _ (h.2 v hv)⟩
    · rename_i hw
      rw [if_neg hw] at h
      exact step _ _ h

/-- **Some operations in whatever order, then a tail in a forced order.** -/
theorem wp_region_rel {id : Nat} {Q : Exit → Act → World → Prop} {a : Act} {l : List Oper} (n : Nat) (Con : FuncId → Array Value → Value → World → Prop) (hm : P.follows .mixedOrders = true) (hB : Region.lexTailB .any l.toArray n = true)
    (h : wpLex P l.toArray Con w (fun a' w' => wpList P l.toArray Q (l.drop n) a' w') (l.take n) a (fun _ => True)) : (Code.region id l.toArray true).wp P Q a w := by
  simp only [Region.lexTailB, Bool.and_eq_true, decide_eq_true_eq] at hB
  obtain ⟨⟨⟨⟨hsel, hn⟩, hs⟩, hc⟩, hlex⟩ := hB
  have hn' : n < l.length := by simpa using hn
  have htl : (l.take n).length = n := by simp; omega
  have hdl : (l.drop n).length = l.toArray.size - n := by simp
  have inv0 : HeadInv .any l.toArray n (Array.replicate l.toArray.size false) :=
    ⟨by simp, fun j oj _ hl => (by rw [getD_replicate_false] at hl; cases hl), fun t _ ht => getD_in (by simpa using ht) (getD_replicate_false _ _)⟩
  have H := anyR_lex (md := .any) (g := l.toArray.size - n) hsel (fun listed inv k hk hun t ht => tail_waits hs hc hn inv _ k rfl hk hun t ht) (l.take n) 0 _ a (fun _ => True) (fun j hj => by
    have hj' : j < n := by rw [htl] at hj; exact hj
    simp [hj']) (by simpa using htl) inv0 (by rw [htl]; exact hlex) h
  refine wp_region_any hm ?_
  have := anyR_sound (Q := Q) (g := l.toArray.size - n) (fun listed a' F w1 hu hF hL => by
    have := wpAny_of_seq (md := .any) (Q' := Q) (l.drop n) n listed a' w1 (fun j => by simp [List.getElem?_drop]) (by rw [hdl]; exact hL.1) (hL.2 w1 hu hF)
    rwa [hdl] at this) _ _ _ _ w.drew (gr_drew (gr_refl w none)) (fun _ _ _ _ => trivial) trivial H
  rw [htl, show n + (l.toArray.size - n) = l.toArray.size by omega] at this
  exact this

theorem lexHead_of_from : ∀ (f k : Nat) (listed : Array Bool), Region.lexFrom md ops f k listed = true → Region.lexHead md ops 0 f k listed = true
  | 0, _, _, h => by simpa [Region.lexFrom, Region.lexHead, Region.seqB] using h
  | f + 1, k, listed, h => by
    simp only [Region.lexFrom, Bool.and_eq_true] at h
    simp only [Region.lexHead, Bool.and_eq_true]
    exact ⟨h.1, lexHead_of_from f _ _ h.2⟩
/-- **All operations in whatever order.** -/
theorem wp_region_relF {id : Nat} {Q : Exit → Act → World → Prop} {a : Act} {l : List Oper} (Con : FuncId → Array Value → Value → World → Prop) (hm : P.follows .mixedOrders = true) (hB : Region.lexB .any l.toArray = true)
    (h : wpLex P l.toArray Con w (fun a' w' => Q .normal a' w') l a (fun _ => True)) : (Code.region id l.toArray true).wp P Q a w := by
  simp only [Region.lexB, Bool.and_eq_true] at hB
  obtain ⟨hsel, hlex⟩ := hB
  have hsz : l.toArray.size = l.length := by simp
  have inv0 : HeadInv .any l.toArray l.length (Array.replicate l.toArray.size false) :=
    ⟨by simp, fun j oj _ hl => (by rw [getD_replicate_false] at hl; cases hl), fun t h1 ht => by omega⟩
  have H := anyR_lex (md := .any) (g := 0) (R := fun a' w' => Q .normal a' w') hsel (fun listed inv k hk hun t ht hr => by
    obtain ⟨_, ot, hot, _⟩ := mem_ready.1 hr
    have := (Array.getElem?_eq_some_iff.1 hot).1
    omega) l 0 _ a (fun _ => True) (fun j hj => by simp) (by simp) inv0 (by rw [← hsz]; exact lexHead_of_from _ _ _ hlex) h
  refine wp_region_any hm ?_
  have := anyR_sound (Q := Q) (g := 0) (fun listed a' F w1 hu hF hL => ⟨by simpa [Region.seqB] using hL.1, hL.2 w1 hu hF⟩) _ _ _ _ w.drew (gr_drew (gr_refl w none)) (fun _ _ _ _ => trivial) trivial H
  rw [Nat.add_zero, ← hsz] at this
  exact this

/-! ### the steps of the walk in the text's order -/
variable {R : Act → World → Prop} {o : Oper} {rest : List Oper} {a : Act} {F : World → Prop}
theorem lex_nil (h : ∀ w', Up w w' → F w' → R a w') : wpLex P ops Con w R [] a F := h
theorem lex_skip (hw : Region.wanted o (yielded ops a.tmps) = false) (h : wpLex P ops Con w R rest (a.put o.dst undef) F) : wpLex P ops Con w R (o :: rest) a F := by
  show LeadsOn P ops Con w o a F _
  unfold LeadsOn
  rw [if_neg (by rw [hw]; exact Bool.false_ne_true)]
  exact h
/-- An operation that yields one value in every later world. -/
theorem lex_val (hw : Region.wanted o (yielded ops a.tmps) = true) (v : Value) (hrun : ∀ w1, Up w w1 → (execOp a.eval o).run P w1 = .ok (.value v) w1) (h : wpLex P ops Con w R rest (a.put o.dst v) F) : wpLex P ops Con w R (o :: rest) a F := by
  show LeadsOn P ops Con w o a F _
  unfold LeadsOn
  rw [if_pos hw]
  refine ⟨fun w1 hu => by rw [hrun w1 hu]; exact up_refl _, fun u hu => ?_⟩
  obtain ⟨w', w1, w2, h1, h2, _, _⟩ := hu
  rw [hrun w1 h1] at h2
  obtain ⟨rfl, _⟩ := h2
  exact wpLex_mono _ _ _ _ (fun _ hf => hf.1) h
theorem lex_val' (hw : Region.wanted o (yielded ops a.tmps) = true) (h : ∃ v, (∀ w1, Up w w1 → (execOp a.eval o).run P w1 = .ok (.value v) w1) ∧ wpLex P ops Con w R rest (a.put o.dst v) F) : wpLex P ops Con w R (o :: rest) a F := by
  obtain ⟨v, h1, h2⟩ := h
  exact lex_val hw v h1 h2
theorem lexK {l : List Oper} {a0 : Act} (h : ∀ K : Act → Prop, (∀ a, wpLex P ops Con w R l a F → K a) → K a0) : wpLex P ops Con w R l a0 F := h _ (fun _ h => h)
theorem gateLexN (N : Tmp) (_hN : o.dst = some N) (h : wpLex P ops Con w R (o :: rest) a F) : wpLex P ops Con w R (o :: rest) a F := h
/-- .. that yields one of some values, and draws. -/
theorem lex_rel (hw : Region.wanted o (yielded ops a.tmps) = true) (V : Value → Prop) (hrun : ∀ w1, Up w w1 → ∃ v w2, (execOp a.eval o).run P w1 = .ok (.value v) w2 ∧ Up w1 w2 ∧ V v) (h : ∀ v, V v → wpLex P ops Con w R rest (a.put o.dst v) F) : wpLex P ops Con w R (o :: rest) a F := by
  show LeadsOn P ops Con w o a F _
  unfold LeadsOn
  rw [if_pos hw]
  refine ⟨fun w1 hu => ?_, fun u hu => ?_⟩
  · obtain ⟨v, w2, h1, h2, _⟩ := hrun w1 hu
    rw [h1]; exact h2
  · obtain ⟨w', w1, w2, h1, h2, _, _⟩ := hu
    obtain ⟨v, w3, h4, _, h5⟩ := hrun w1 h1
    rw [h4] at h2
    obtain ⟨rfl, _⟩ := h2
    exact wpLex_mono _ _ _ _ (fun _ hf => hf.1) (h u h5)
theorem lex_fl (hw : Region.wanted o (yielded ops a.tmps) = true) {op : BinOp} {t t' : TypeId} {l r : Operand} (hop : o.op = .binOp op t l r t') {k : FloatKind} {x y : Nat} (ha : isAr op = true) (hl : a.eval l = .float k x) (hr : a.eval r = .float k y)
    (h : ∀ b, fN k b = fop op k (fN k x) (fN k y) → wpLex P ops Con w R rest (a.put o.dst (.float k b)) F) : wpLex P ops Con w R (o :: rest) a F := by
  refine lex_rel hw (fun v => ∃ b, v = .float k b ∧ fN k b = fop op k (fN k x) (fN k y)) (fun w1 _ => ?_) (fun v hv => by obtain ⟨b, rfl, hb⟩ := hv; exact h b hb)
  obtain ⟨b, n, hrun, hb⟩ := run_fl (P := P) w1 op ha t k x y
  have hq : (eqGuard op t l r (.float k x) (.float k y)).run P w1 = .ok () w1 := by
    cases op <;> first | rfl | (simp [isAr] at ha)
  exact ⟨.float k b, w1.drewN n, by unfold execOp; simp [hop, hl, hr, hrun, hq, Result.andThen], gr_drewN (gr_refl _ _) n, b, rfl, hb⟩
theorem lex_cv (hw : Region.wanted o (yielded ops a.tmps) = true) {st dt : TypeId} {l : Operand} (hop : o.op = .convert st dt l) {s k : FloatKind} {x : Nat}
    (hl : a.eval l = .float s x) (hs : (P.underlying st).isSome = true) (hdt : P.underlying dt = some (.float k))
    (h : ∀ b, (∀ y, floatToFloatBits s x k = some y → b = y) → (fN s x = none → fN k b = none) → wpLex P ops Con w R rest (a.put o.dst (.float k b)) F) : wpLex P ops Con w R (o :: rest) a F := by
  refine lex_rel hw (fun v => ∃ b, v = .float k b ∧ (∀ y, floatToFloatBits s x k = some y → b = y) ∧ (fN s x = none → fN k b = none)) (fun w1 _ => ?_) (fun v hv => by obtain ⟨b, rfl, hb, hc⟩ := hv; exact h b hb hc)
  obtain ⟨b, n, hrun, hb, hc⟩ := run_cv (P := P) w1 st dt s k x hs hdt
  exact ⟨.float k b, w1.drewN n, by unfold execOp; simp [hop, hl, hrun, Result.andThen], gr_drewN (gr_refl _ _) n, b, rfl, hb, hc⟩
theorem enters1 {f : FuncId} {fn : Func} (hf : P.funcs[f]? = some fn) (hname : (fn.name == "runtime.NumGoroutine") = false) (hb : fn.body.isSome = true) (args : Array Value) (w : World) : (callFunc f args).run P w = .ok (.enter f args) w := by
  have h1 : fn.name ≠ "runtime.NumGoroutine" := by simpa using hname
  obtain ⟨c, hc⟩ := Option.isSome_iff_exists.1 hb
  simp [callFunc, hf, h1, hc]
theorem lex_call (hw : Region.wanted o (yielded ops a.tmps) = true) {f : FuncId} {fn : Func} {as : Array Operand} {ts : Array TypeId} (hf : P.funcs[f]? = some fn) (hname : (fn.name == "runtime.NumGoroutine") = false) (hb : fn.body.isSome = true) (args : Array Value)
    (hop : o.op = .call { callee := .value (.func f), args := as, argTypes := ts }) (hargs : as.map a.eval = args)
    (hc : ∀ w1, Up w w1 → Calls P f args w1 fun e w2 => ∃ v, e = .returned v ∧ Up w1 w2 ∧ Con f args v w2)
    (h : ∀ v, (∃ w2, Con f args v w2) → wpLex P ops Con w R rest (a.put o.dst v) (fun w' => F w' ∧ ∃ w2, Up w2 w' ∧ Con f args v w2)) : wpLex P ops Con w R (o :: rest) a F := by
  have hrun : ∀ w1, (execOp a.eval o).run P w1 = .ok (.enter f args) w1 := fun w1 => by
    have he := enters1 hf hname hb args w1
    unfold execOp
    simp [hop, resolve, Deferred.ofValue, invoke, Act.eval, hargs, he]
  show LeadsOn P ops Con w o a F _
  unfold LeadsOn
  rw [if_pos hw]
  refine ⟨fun w1 hu => by rw [hrun w1]; exact ⟨rfl, hc w1 hu⟩, fun v hv => ?_⟩
  obtain ⟨w', w1, w2, h1, h2, _, _⟩ := hv
  rw [hrun w1] at h2
  refine wpLex_mono _ _ _ _ (fun w3 hf => ⟨hf.1, ?_⟩) (h v ⟨w2, h2⟩)
  obtain ⟨x1, x2, _, y2, _, y4⟩ := hf.2
  rw [hrun x1] at y2
  exact ⟨x2, y4, y2⟩
/-- A new block. -/
theorem lex_al (hw : Region.wanted o (yielded ops a.tmps) = true) (cs : Array Value) (t : TypeId) (hrun : ∀ w1, Up w w1 → (execOp a.eval o).run P w1 = .ok (.value (.pointer (some ⟨w1.heap.size, 0, none⟩))) (w1.alloc (.cells cs t (0, 0))))
    (h : ∀ g, w.heap.size ≤ g → wpLex P ops Con w R rest (a.put o.dst (.pointer (some ⟨g, 0, none⟩))) (fun w' => F w' ∧ w'.heap[g]? = some (.cells cs t (0, 0)))) : wpLex P ops Con w R (o :: rest) a F := by
  show LeadsOn P ops Con w o a F _
  unfold LeadsOn
  rw [if_pos hw]
  refine ⟨fun w1 hu => by rw [hrun w1 hu]; exact gr_alloc (gr_refl _ _) _, fun v hv => ?_⟩
  obtain ⟨w', w1, w2, h1, h2, _, _⟩ := hv
  rw [hrun w1 h1] at h2
  obtain ⟨rfl, _⟩ := h2
  refine wpLex_mono _ _ _ _ (fun w3 hf => ⟨hf.1, ?_⟩) (h w1.heap.size h1.size)
  obtain ⟨x1, x2, y1, y2, _, y4⟩ := hf.2
  rw [hrun x1 y1] at y2
  obtain ⟨e1, rfl⟩ := y2
  injection e1 with e1
  injection e1 with e1
  injection e1 with e1
  rw [e1]
  exact blkGr (blkNew x1 _) y4 (by simp)
end
end Go.Proofs.YtfjafeepmpnegaaDoor
