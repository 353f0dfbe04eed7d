/- Words about rows of one's own: what is read, stored, copied, appended. No condition. -/
import Derived.Test.YtfjafeepmpnegaaDoorKd
import Derived.OwnWalk
import Derived.Lib.SliceRun
import Derived.Laws.CopyRow
import Derived.Deep.RegionLaw
namespace Go.Proofs.YtfjafeepmpnegaaDoor
open Go.RowKit
set_option linter.unusedVariables false
set_option linter.unusedSimpArgs false

theorem own_rdS {w : World} {base : Nat} {e : TypeId} {size : Nat} {A : Option Addr} {n c m : Nat} {xs : List Value} (h : w.ownsRow base e size (.slice A n c) m xs) : Rd w A m size xs := by
  obtain ⟨A', c', e, _, hr, _⟩ := own_rd h
  injection e with e1 e2 e3
  rw [e1]; exact hr
theorem own_slice {w : World} {base : Nat} {e : TypeId} {size : Nat} {v : Value} {n : Nat} {xs : List Value} (h : w.ownsRow base e size v n xs) (hn : 0 < n) : ∃ g c, v = .slice (some ⟨g, 0, none⟩) n c ∧ n ≤ c ∧ base ≤ g ∧ g < w.heap.size := by
  have h0 := h
  rcases h.2 with ⟨rfl, rfl⟩ | ⟨g, cap, cur, rfl, hb, hh, h1, h2, h3, h4⟩
  · omega
  · exact ⟨g, cap, rfl, h1, hb, blkLt hh⟩
theorem own_cell {w : World} {base : Nat} {e : TypeId} {size : Nat} {g n c m : Nat} {xs : List Value} (h : w.ownsRow base e size (.slice (some ⟨g, 0, none⟩) n c) m xs) {j : Nat} {u : Value} (hu : xs[j]? = some u) : w.cell? ⟨g, j, none⟩ = some u := by
  have := h.cells (g := g) rfl j u hu
  rw [addPlain] at this; exact this
theorem own_put {w w1 : World} {base : Nat} {e : TypeId} {size : Nat} {g n c m : Nat} {xs : List Value} (h : w.ownsRow base e size (.slice (some ⟨g, 0, none⟩) n c) m xs) {i : Nat} {u : Value} (hi : i < m * size)
    (hw : ∀ cur : Array Value, w.heap[g]? = some (.cells cur e (0, 0)) → w1.heap[g]? = some (.cells (cur.setIfInBounds i u) e (0, 0))) : w1.ownsRow base e size (.slice (some ⟨g, 0, none⟩) n c) m (xs.set i u) := by
  refine ⟨by rw [List.length_set]; exact h.1, ?_⟩
  rcases h.2 with ⟨h1, h2⟩ | ⟨g', cap, cur, h0, hb, hh, h1, h2, h3, h4⟩
  · cases h1
  · injection h0 with e1 e2 e3
    injection e1 with e1
    injection e1 with e1 _ _
    subst e1; subst e2; subst e3
    refine .inr ⟨g, c, _, rfl, hb, hw cur hh, h1, h2, by simpa using h3, ?_⟩
    rw [Array.toList_setIfInBounds, List.take_set, h4]
theorem own_free {w : World} {base : Nat} {e : TypeId} {size : Nat} {g n c m : Nat} {xs : List Value} (h : w.ownsRow base e size (.slice (some ⟨g, 0, none⟩) n c) m xs) : ∃ cur : Array Value, w.heap[g]? = some (.cells cur e (0, 0)) ∧ m * size ≤ cur.size := by
  rcases h.2 with ⟨h1, h2⟩ | ⟨g', cap, cur, h0, hb, hh, h1, h2, h3, h4⟩
  · cases h1
  · injection h0 with e1 e2 e3
    injection e1 with e1
    injection e1 with e1 _ _
    subst e1; subst e2; subst e3
    exact ⟨cur, hh, by rw [h3]; exact Nat.mul_le_mul_right _ h1⟩

section
variable {P : Program} {ops : Array Oper} {rest : List Oper} {o : Oper} {a : Act} {Q : Exit → Act → World → Prop} {W : World}
/-- One cell of a row of one's own is stored. -/
theorem ev_so1 (hd : o.dst = none) (hg : o.guard = none) {ty : TypeId} {x y : Operand} (ho : o.op = .store ty x y) {base : Nat} {e : TypeId} {size : Nat} {g n c m i : Nat} {xs : List Value} {v : Value}
    (hx : a.eval x = .pointer (some ⟨g, i, none⟩)) (hy : a.eval y = v) (HO : W.ownsRow base e size (.slice (some ⟨g, 0, none⟩) n c) m xs) (hi : (P.info? ty).map (·.size) = some 1) (hv : v.oneCell' = true) (hlt : i < m * size)
    (h : ∀ w1, w1.ownsRow base e size (.slice (some ⟨g, 0, none⟩) n c) m (xs.set i v) → W.grownBy w1 (some g) → wpList P ops Q rest a w1) : wpList P ops Q (o :: rest) a W := by
  obtain ⟨cur, hh, hc⟩ := own_free HO
  refine ev_st1 hd hg ho hx hy hh hi hv (by omega) fun w1 hb hgr => h w1 (own_put HO hlt fun cur' hh' => ?_) hgr
  rw [hh'] at hh
  injection hh with hh
  injection hh with hh
  rw [hh]; exact hb
end
section
variable {P : Program} {ops : Array Oper} {rest : List Oper} {o : Oper} {a : Act} {Q : Exit → Act → World → Prop} {W : World}
/-- 'append(s, x..)' of what can be read. -/
theorem ev_aps (N : Tmp) (hd : o.dst = some N) (hg : o.guard = none) {s x : Operand} {t : TypeId} (ho : o.op = .call { callee := .builtin .append, args := #[s, x], argTypes := #[t, t] })
    {e : TypeId} {z : Value} {size bytes : Nat} (ht : P.underlying t = some (.slice e)) (hinfo : (P.info? e).map (fun i => (i.zero, i.size, i.bytes)) = some (some z, size, bytes)) (hz : z.cells.size = size) (hs0 : 0 < size)
    {base : Nat} {v : Value} {n : Nat} {xs : List Value} (hs : a.eval s = v) (HO : W.ownsRow base e size v n xs) {b off m c : Nat} {ys : List Value} (hx : a.eval x = .slice (some ⟨b, off, none⟩) m c) (hR : Rd W (some ⟨b, off, none⟩) m size ys)
    (h1 : ∀ u ∈ ys, u.oneCell' = true) (hbase : base ≤ W.heap.size) (hl : (n + m) * bytes ≤ 140737488355328) (hl2 : n + m ≤ 140737488355328)
    (h : ∀ v1 w1, w1.ownsRow base e size v1 (n + m) (xs ++ ys) → W.grownBy w1 v.ownBlock → wpList P ops Q rest (a.put (some N) v1) w1) : wpList P ops Q (o :: rest) a W := by
  obtain ⟨i0, hi, hzz⟩ := Option.map_eq_some_iff.1 hinfo
  simp only [Prod.mk.injEq] at hzz
  obtain ⟨hz0, hz1, hz2⟩ := hzz
  refine wpList_append_own W hg s x t ho base e i0 z size bytes ht hi hz0 hz1 hz2 hz hs0 v n xs hs HO ⟨b, off, none⟩ m c ys hx hR.len (fun j u hu => ?_) h1 (by simp only [maxLen]; omega) hl hbase ?_
  · have hm : 0 < m := by
      have hj := (List.getElem?_eq_some_iff.1 hu).1
      rw [hR.len] at hj
      cases m with
      | zero => simp at hj
      | succ m => omega
    obtain ⟨b', off', e, hc⟩ := hR.2.2 hm
    injection e with e
    injection e with e1 e2
    subst e1; subst e2
    rw [addAt]; exact hc j u hu
  · intro v1 w1 hown hgr _
    rw [hd]
    exact h v1 w1 hown hgr
theorem run_copyN (w : World) (dT sT ty elem : TypeId) (g o dLen dCap : Nat) (a : Addr) (sLen sCap size m : Nat) (cur : Array Value) (t : TypeId) (cs : List Value)
    (hu : P.underlying dT = some (.slice elem)) (hs : (P.info? elem).map (·.size) = some size)
    (hg : w.heap[g]? = some (.cells cur t (0, 0))) (hm : Nat.min sLen dLen = m) (hn : cs.length = m * size)
    (hsrc : ∀ j v, cs[j]? = some v → w.cell? (a.add j) = some v) (hfit : o + cs.length ≤ cur.size) (h1 : ∀ v ∈ cs, v.oneCell' = true) :
    (Builtin.copy_ #[dT, sT] ty #[.slice (some ⟨g, o, none⟩) dLen dCap, .slice (some a) sLen sCap]).run P w =
      .ok (goInt m) (w.setRow g (cur.toList.take o ++ cs ++ cur.toList.drop (o + cs.length)).toArray) := by
  have hl := run_loadCells_list (P := P) w a cs hsrc
  have hst := run_storeCells_at P g o t cs 0 cur w hg (by simpa using hfit) h1
  cases hq : P.info? elem with
  | none => simp [hq] at hs
  | some i =>
    have hi : i.size = size := by simpa [hq] using hs
    rw [hn] at hl
    simp [Builtin.copy_, run_underlying hu, Builtin.lenOf, Builtin.firstCells, sizeOf, typeInfo, hq, hi, hm, hl, hst]
/-- 'copy' into a row of one's own. -/
theorem wp_cp {K : Act → World → Prop} (N : Tmp) (hd : o.dst = some N) {d s : Operand} {dT sT : TypeId} (ho : o.op = .call { callee := .builtin .copy, args := #[d, s], argTypes := #[dT, sT] })
    {e : TypeId} {size : Nat} (hu : P.underlying dT = some (.slice e)) (hsz : (P.info? e).map (·.size) = some size)
    {g off dLen dCap b o2 sLen sCap : Nat} (hx : a.eval d = .slice (some ⟨g, off, none⟩) dLen dCap) (hy : a.eval s = .slice (some ⟨b, o2, none⟩) sLen sCap)
    {base n c k m : Nat} {xs cs : List Value} (HO : W.ownsRow base e size (.slice (some ⟨g, 0, none⟩) n c) k xs) (hm : Nat.min sLen dLen = m) (hn : cs.length = m * size)
    (hsrc : ∀ j v, cs[j]? = some v → W.cell? ⟨b, o2 + j, none⟩ = some v) (hfit : off + cs.length ≤ k * size) (h1 : ∀ v ∈ cs, v.oneCell' = true)
    (h : ∀ w1, w1.ownsRow base e size (.slice (some ⟨g, 0, none⟩) n c) k (xs.take off ++ cs ++ xs.drop (off + cs.length)) → W.grownBy w1 (some g) → K (a.put (some N) (.int .i64 m)) w1) : Oper.wp P o a W K Q := by
  rcases HO.2 with ⟨h1', h2'⟩ | ⟨g', cap, cur, h0, hb, hh, hk1, hk2, hk3, hk4⟩
  · cases h1'
  · injection h0 with e1 e2 e3
    injection e1 with e1
    injection e1 with e1 _ _
    subst e1; subst e2; subst e3
    have hkc : n * size ≤ cur.size := by rw [hk3]; exact Nat.mul_le_mul_right _ hk1
    have hrun := run_copyN (P := P) W dT sT o.type e g off dLen dCap ⟨b, o2, none⟩ sLen sCap size m cur e cs hu hsz hh hm hn (fun j v hv => by rw [addAt]; exact hsrc j v hv) (by omega) h1
    unfold Oper.wp
    simp only [execOp, ho, resolve, invoke, builtin, Sem.run_bind, Sem.run_pure, Result.andThen_ok, List.map_toArray, List.map_cons, List.map_nil, hx, hy, hrun]
    show K (a.put o.dst (goInt m)) _
    rw [hd]
    refine h _ ⟨?_, .inr ⟨g, c, _, rfl, hb, setRow_heap W g cur _ e _ hh, hk1, hk2, ?_, ?_⟩⟩ (gr_setRow W g _)
    · have := HO.1
      simp only [List.length_append, List.length_take, List.length_drop]; omega
    · rw [← hk3]; simp only [List.size_toArray, List.length_append, List.length_take, List.length_drop, Array.length_toList]; omega
    · have hxl := HO.1
      rw [← hk4]
      apply List.ext_getElem?
      intro j
      have hcl : cur.toList.length = cur.size := rfl
      simp only [List.getElem?_take, List.getElem?_append, List.length_append, List.length_take, List.getElem?_drop, hcl]
      repeat' split
      all_goals first | rfl | (exfalso; omega) | (congr 1; omega)
theorem ev_cp (N : Tmp) (hd : o.dst = some N) (hgd : o.guard = none) {d s : Operand} {dT sT : TypeId} (ho : o.op = .call { callee := .builtin .copy, args := #[d, s], argTypes := #[dT, sT] })
    {e : TypeId} {size : Nat} (hu : P.underlying dT = some (.slice e)) (hsz : (P.info? e).map (·.size) = some size)
    {g off dLen dCap b o2 sLen sCap : Nat} (hx : a.eval d = .slice (some ⟨g, off, none⟩) dLen dCap) (hy : a.eval s = .slice (some ⟨b, o2, none⟩) sLen sCap)
    {base n c k m : Nat} {xs cs : List Value} (HO : W.ownsRow base e size (.slice (some ⟨g, 0, none⟩) n c) k xs) (hm : Nat.min sLen dLen = m) (hn : cs.length = m * size)
    (hsrc : ∀ j v, cs[j]? = some v → W.cell? ⟨b, o2 + j, none⟩ = some v) (hfit : off + cs.length ≤ k * size) (h1 : ∀ v ∈ cs, v.oneCell' = true)
    (h : ∀ w1, w1.ownsRow base e size (.slice (some ⟨g, 0, none⟩) n c) k (xs.take off ++ cs ++ xs.drop (off + cs.length)) → W.grownBy w1 (some g) → wpList P ops Q rest (a.put (some N) (.int .i64 m)) w1) : wpList P ops Q (o :: rest) a W :=
  wpList_plain hgd fun K hK => wp_cp N hd ho hu hsz hx hy HO hm hn hsrc hfit h1 fun w1 h2 h3 => hK _ _ (h w1 h2 h3)
theorem step_cp {K : Act → World → Prop} {E : Prop} (N : Tmp) (hd : o.dst = some N) (hgd : o.guard = none) {d s : Operand} {dT sT : TypeId} (ho : o.op = .call { callee := .builtin .copy, args := #[d, s], argTypes := #[dT, sT] })
    {e : TypeId} {size : Nat} (hu : P.underlying dT = some (.slice e)) (hsz : (P.info? e).map (·.size) = some size)
    {g off dLen dCap b o2 sLen sCap : Nat} (hx : a.eval d = .slice (some ⟨g, off, none⟩) dLen dCap) (hy : a.eval s = .slice (some ⟨b, o2, none⟩) sLen sCap)
    {base n c k m : Nat} {xs cs : List Value} (HO : W.ownsRow base e size (.slice (some ⟨g, 0, none⟩) n c) k xs) (hm : Nat.min sLen dLen = m) (hn : cs.length = m * size)
    (hsrc : ∀ j v, cs[j]? = some v → W.cell? ⟨b, o2 + j, none⟩ = some v) (hfit : off + cs.length ≤ k * size) (h1 : ∀ v ∈ cs, v.oneCell' = true)
    (h : ∀ w1, w1.ownsRow base e size (.slice (some ⟨g, 0, none⟩) n c) k (xs.take off ++ cs ++ xs.drop (off + cs.length)) → W.grownBy w1 (some g) → K (a.put (some N) (.int .i64 m)) w1) : if Region.wanted o (yielded ops a.tmps) = true then Oper.wp P o a W K Q else E := by
  rw [if_pos (by simp [Region.wanted, hgd])]
  exact wp_cp N hd ho hu hsz hx hy HO hm hn hsrc hfit h1 h
/-- 'make([]T, n)'. -/
theorem ev_mk (N : Tmp) (hd : o.dst = some N) (hg : o.guard = none) {l c : Operand} {t : TypeId} (hop : o.op = Op.makeSlice t l c) {n : Nat} {e : TypeId} {z : Value} {size bytes : Nat} (ht : P.underlying t = some (.slice e))
    (hinfo : (P.info? e).map (fun i => (i.zero, i.size, i.bytes)) = some (some z, size, bytes)) {kl kc : IntKind} {L C : Int} (hl : a.eval l = .int kl L) (hc : a.eval c = .int kc C) (hL : L = (n : Int)) (hC : C = (n : Int)) {base : Nat} (b2 : bytes * n ≤ 281474976710656) (b3 : n ≤ maxLen) (b4 : base ≤ W.heap.size)
    (h : ∀ g w1, w1.ownsRow base e size (.slice (some ⟨g, 0, none⟩) n n) n (madeCells z.cells (n * size)).toList → W.grownBy w1 none → wpList P ops Q rest (a.put (some N) (.slice (some ⟨g, 0, none⟩) n n)) w1) : wpList P ops Q (o :: rest) a W := by
  obtain ⟨i, hi, hz0, hz1, hz2⟩ := info_parts hinfo
  refine wpList_make_full W hg l c t hop base e i z size ht hi hz0 hz1 kl kc L C n hl hc hL hC (by rw [hz2]; exact b2) b3 b4 fun w' h1 h2 => ?_
  rw [hd]
  exact h _ _ h1 h2
end
theorem own_empty {w : World} {g : Nat} {e : TypeId} {size base : Nat} (hb : w.heap[g]? = some (.cells #[] e (0, 0))) (hbase : base ≤ g) : w.ownsRow base e size (.slice (some ⟨g, 0, none⟩) 0 0) 0 [] := own_of_blk (m := 0) hb base hbase (by simp) (by decide)
end Go.Proofs.YtfjafeepmpnegaaDoor
