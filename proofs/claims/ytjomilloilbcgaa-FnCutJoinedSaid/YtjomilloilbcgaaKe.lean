/- Words about rows of one's own that are written, and lists of such rows (pictures). No condition. -/
import Derived.Test.YtjomilloilbcgaaD7
namespace Go.Proofs.Ytjomilloilbcgaa
open Go.RowKit
set_option linter.unusedVariables false
set_option linter.unusedSimpArgs false

theorem own_rdS {w : World} {base : Nat} {e : TypeId} {size : Nat} {A : Option Addr} {n c m : Nat} {xs : List Value} (h : w.ownsRow base e size (.slice A n c) m xs) : Rd w A m size xs := by
  obtain ⟨A', c', e, _, hr, _⟩ := own_rd h
  injection e with e1 e2 e3
  rw [e1]; exact hr
theorem own_slice {w : World} {base : Nat} {e : TypeId} {size : Nat} {v : Value} {n : Nat} {xs : List Value} (h : w.ownsRow base e size v n xs) (hn : 0 < n) : ∃ g c, v = .slice (some ⟨g, 0, none⟩) n c ∧ n ≤ c ∧ base ≤ g ∧ g < w.heap.size := by
  have h0 := h
  rcases h.2 with ⟨rfl, rfl⟩ | ⟨g, cap, cur, rfl, hb, hh, h1, h2, h3, h4⟩
  · omega
  · exact ⟨g, cap, rfl, h1, hb, blkLt hh⟩
theorem own_cell {w : World} {base : Nat} {e : TypeId} {size : Nat} {g n c m : Nat} {xs : List Value} (h : w.ownsRow base e size (.slice (some ⟨g, 0, none⟩) n c) m xs) {j : Nat} {u : Value} (hu : xs[j]? = some u) : w.cell? ⟨g, j, none⟩ = some u := by
  have := h.cells (g := g) rfl j u hu
  rw [addPlain] at this; exact this
theorem own_put {w w1 : World} {base : Nat} {e : TypeId} {size : Nat} {g n c m : Nat} {xs : List Value} (h : w.ownsRow base e size (.slice (some ⟨g, 0, none⟩) n c) m xs) {i : Nat} {u : Value} (hi : i < m * size)
    (hw : ∀ cur : Array Value, w.heap[g]? = some (.cells cur e (0, 0)) → w1.heap[g]? = some (.cells (cur.setIfInBounds i u) e (0, 0))) : w1.ownsRow base e size (.slice (some ⟨g, 0, none⟩) n c) m (xs.set i u) := by
  refine ⟨by rw [List.length_set]; exact h.1, ?_⟩
  rcases h.2 with ⟨h1, h2⟩ | ⟨g', cap, cur, h0, hb, hh, h1, h2, h3, h4⟩
  · cases h1
  · injection h0 with e1 e2 e3
    injection e1 with e1
    injection e1 with e1 _ _
    subst e1; subst e2; subst e3
    refine .inr ⟨g, c, _, rfl, hb, hw cur hh, h1, h2, by simpa using h3, ?_⟩
    rw [Array.toList_setIfInBounds, List.take_set, h4]
theorem own_free {w : World} {base : Nat} {e : TypeId} {size : Nat} {g n c m : Nat} {xs : List Value} (h : w.ownsRow base e size (.slice (some ⟨g, 0, none⟩) n c) m xs) : ∃ cur : Array Value, w.heap[g]? = some (.cells cur e (0, 0)) ∧ m * size ≤ cur.size := by
  rcases h.2 with ⟨h1, h2⟩ | ⟨g', cap, cur, h0, hb, hh, h1, h2, h3, h4⟩
  · cases h1
  · injection h0 with e1 e2 e3
    injection e1 with e1
    injection e1 with e1 _ _
    subst e1; subst e2; subst e3
    exact ⟨cur, hh, by rw [h3]; exact Nat.mul_le_mul_right _ h1⟩

section
variable {P : Program} {ops : Array Oper} {rest : List Oper} {o : Oper} {a : Act} {Q : Exit → Act → World → Prop} {W : World}
/-- One cell of a row of one's own is stored. -/
theorem ev_so1 (hd : o.dst = none) (hg : o.guard = none) {ty : TypeId} {x y : Operand} (ho : o.op = .store ty x y) {base : Nat} {e : TypeId} {size : Nat} {g n c m i : Nat} {xs : List Value} {v : Value}
    (hx : a.eval x = .pointer (some ⟨g, i, none⟩)) (hy : a.eval y = v) (HO : W.ownsRow base e size (.slice (some ⟨g, 0, none⟩) n c) m xs) (hi : (P.info? ty).map (·.size) = some 1) (hv : v.oneCell' = true) (hlt : i < m * size)
    (h : ∀ w1, w1.ownsRow base e size (.slice (some ⟨g, 0, none⟩) n c) m (xs.set i v) → W.grownBy w1 (some g) → wpList P ops Q rest a w1) : wpList P ops Q (o :: rest) a W := by
  obtain ⟨cur, hh, hc⟩ := own_free HO
  refine ev_st1 hd hg ho hx hy hh hi hv (by omega) fun w1 hb hgr => h w1 (own_put HO hlt fun cur' hh' => ?_) hgr
  rw [hh'] at hh
  injection hh with hh
  injection hh with hh
  rw [hh]; exact hb
theorem run_st2 (ty : TypeId) (g i : Nat) (y u v : Nat) (t : TypeId) (cs : Array Value) (hb : W.heap[g]? = some (.cells cs t (0, 0))) (hi : (P.info? ty).map (·.size) = some 2) (hlt : i + 1 < cs.size) :
    (storeVar ty ⟨g, i, none⟩ (.agg #[.float .f32 y, .complex .f32 u v])).run P W = .ok () ((W.setCell ⟨g, i, none⟩ (.float .f32 y)).setCell ⟨g, i + 1, none⟩ (.complex .f32 u v)) := by
  cases hq : P.info? ty with
  | none => simp [hq] at hi
  | some inf =>
    have hs : inf.size = 2 := by simpa [hq] using hi
    have hc : W.cell? ⟨g, i, none⟩ = some cs[i] := by rw [blkCell hb i]; exact Array.getElem?_eq_getElem (by omega)
    have hf := blkFree hb i
    have hst : (store (⟨g, i, none⟩ : Addr) (.float .f32 y)).run P W = .ok () (W.setCell ⟨g, i, none⟩ (.float .f32 y)) := by
      rw [run_store P W _ _ _ rfl, hc, hf]; rfl
    have hb2 := blkSet hb i (.float .f32 y)
    have hc2 : (W.setCell ⟨g, i, none⟩ (.float .f32 y)).cell? ⟨g, i + 1, none⟩ = some cs[i + 1] := by
      rw [blkCell hb2 (i + 1), Array.getElem?_setIfInBounds_ne (by omega)]; exact Array.getElem?_eq_getElem hlt
    have hf2 := blkFree hb2 (i + 1)
    have hst2 : (store (⟨g, i + 1, none⟩ : Addr) (.complex .f32 u v)).run P (W.setCell ⟨g, i, none⟩ (.float .f32 y)) = .ok () ((W.setCell ⟨g, i, none⟩ (.float .f32 y)).setCell ⟨g, i + 1, none⟩ (.complex .f32 u v)) := by
      rw [run_store P _ _ _ _ rfl, hc2, hf2]; rfl
    have ha : (⟨g, i, none⟩ : Addr).add 0 = ⟨g, i, none⟩ := by rw [addAt, Nat.add_zero]
    have ha1 : (⟨g, i, none⟩ : Addr).add 1 = ⟨g, i + 1, none⟩ := by rw [addAt]
    have hcells : (Value.agg #[.float .f32 y, .complex .f32 u v]).cells = #[.float .f32 y, .complex .f32 u v] := rfl
    simp [storeVar, sizeOf, typeInfo, hq, hcells, hs, storeCells, ha, ha1, hst, hst2]
/-- A cell (brightness and colour) of a row of one's own is stored. -/
theorem ev_so2 (hd : o.dst = none) (hg : o.guard = none) {ty : TypeId} {x y : Operand} (ho : o.op = .store ty x y) {base : Nat} {e : TypeId} {size : Nat} {g n c m i : Nat} {xs : List Value} {b u v : Nat}
    (hx : a.eval x = .pointer (some ⟨g, i, none⟩)) (hy : a.eval y = .agg #[.float .f32 b, .complex .f32 u v]) (HO : W.ownsRow base e size (.slice (some ⟨g, 0, none⟩) n c) m xs) (hi : (P.info? ty).map (·.size) = some 2) (hlt : i + 1 < m * size)
    (h : ∀ w1, w1.ownsRow base e size (.slice (some ⟨g, 0, none⟩) n c) m ((xs.set i (.float .f32 b)).set (i + 1) (.complex .f32 u v)) → W.grownBy w1 (some g) → wpList P ops Q rest a w1) : wpList P ops Q (o :: rest) a W := by
  obtain ⟨cur, hh, hc⟩ := own_free HO
  refine wpList_plain hg fun K hK => ?_
  have hr := run_st2 (P := P) ty g i b u v e cur hh hi (by omega)
  unfold Oper.wp execOp
  simp only [ho, hx, hy, Instr.storeAt, Instr.sureAddr, Sem.run_bind, Sem.run_pure, Result.andThen_ok, hr]
  show K (a.put o.dst undef) _
  rw [hd]
  have h1 : (W.setCell ⟨g, i, none⟩ (.float .f32 b)).ownsRow base e size (.slice (some ⟨g, 0, none⟩) n c) m (xs.set i (.float .f32 b)) := own_put HO (by omega) fun cur' hh' => blkSet hh' i _
  exact hK _ _ (h _ (own_put h1 (by omega) fun cur' hh' => blkSet hh' (i + 1) _) (gr_set (gr_set (gr_refl _ _) i _) (i + 1) _))
end

theorem cellsV_set (cs : List (Nat × Nat × Nat)) (k : Nat) (y u v : Nat) : ((cellsV cs).set (2 * k) (.float .f32 y)).set (2 * k + 1) (.complex .f32 u v) = cellsV (cs.set k (y, u, v)) := by
  induction cs generalizing k with
  | nil => rfl
  | cons c cs ih =>
    cases k with
    | zero => simp [cellsV]
    | succ k =>
      have := ih k
      simp only [cellsV, List.flatMap_cons, List.set_cons_succ] at *
      rw [show 2 * (k + 1) = 2 * k + 1 + 1 by omega, show 2 * k + 1 + 1 + 1 = (2 * k + 1) + 1 + 1 by omega]
      simpa using this
theorem cellsV_set1 (cs : List (Nat × Nat × Nat)) (k : Nat) (hk : k < cs.length) (u v : Nat) : (cellsV cs).set (2 * k + 1) (.complex .f32 u v) = cellsV (cs.set k (cs[k].1, u, v)) := by
  induction cs generalizing k with
  | nil => simp at hk
  | cons c cs ih =>
    cases k with
    | zero => simp [cellsV]
    | succ k =>
      have := ih k (by simpa using hk)
      simp only [cellsV, List.flatMap_cons, List.set_cons_succ, List.getElem_cons_succ] at *
      rw [show 2 * (k + 1) + 1 = (2 * k + 1) + 1 + 1 by omega]
      simpa using this
theorem cellsV_set0 (cs : List (Nat × Nat × Nat)) (k : Nat) (hk : k < cs.length) (y : Nat) : (cellsV cs).set (2 * k) (.float .f32 y) = cellsV (cs.set k (y, cs[k].2)) := by
  induction cs generalizing k with
  | nil => simp at hk
  | cons c cs ih =>
    cases k with
    | zero => simp [cellsV]
    | succ k =>
      have := ih k (by simpa using hk)
      simp only [cellsV, List.flatMap_cons, List.set_cons_succ, List.getElem_cons_succ] at *
      rw [show 2 * (k + 1) = (2 * k) + 1 + 1 by omega]
      simpa using this

/-- The rows of a picture: each a row of one's own, all apart. -/
def PicR (w : World) (base : Nat) (vs : List Value) (wd : Nat) (rows : List (List (Nat × Nat × Nat))) : Prop :=
  vs.length = rows.length ∧ (∀ r (h : r < rows.length) (h' : r < vs.length), rows[r].length = wd ∧ w.ownsRow base 49 2 vs[r] wd (cellsV rows[r])) ∧
  (∀ r s (hr : r < vs.length) (hs : s < vs.length), r ≠ s → vs[r].ownBlock = none ∨ vs[r].ownBlock ≠ vs[s].ownBlock)
theorem PicR.nil (w : World) (base wd : Nat) : PicR w base [] wd [] := ⟨rfl, fun r h => by simp at h, fun r s h => by simp at h⟩
theorem PicR_gr {w w1 : World} {base wd : Nat} {vs : List Value} {rows : List (List (Nat × Nat × Nat))} {row : Option Nat} (h : PicR w base vs wd rows) (hg : w.grownBy w1 row) (hs : ∀ r (hr : r < vs.length), vs[r].ownBlock = none ∨ vs[r].ownBlock ≠ row) : PicR w1 base vs wd rows :=
  ⟨h.1, fun r hr hr' => ⟨(h.2.1 r hr hr').1, own_gr (h.2.1 r hr hr').2 hg (hs r hr')⟩, h.2.2⟩
theorem PicR.row {w : World} {base wd : Nat} {vs : List Value} {rows : List (List (Nat × Nat × Nat))} (h : PicR w base vs wd rows) (r : Nat) (hr : r < rows.length) : ∃ hr' : r < vs.length, rows[r].length = wd ∧ w.ownsRow base 49 2 vs[r] wd (cellsV rows[r]) :=
  ⟨by rw [h.1]; exact hr, h.2.1 r hr _⟩
theorem PicR_blk {w : World} {base wd : Nat} {vs : List Value} {rows : List (List (Nat × Nat × Nat))} (h : PicR w base vs wd rows) {g : Nat} {cs : Array Value} {t : TypeId} (hb : w.heap[g]? = some (.cells cs t (0, 0))) (ht : 49 ≠ t) (r : Nat) (hr : r < vs.length) : vs[r].ownBlock = none ∨ vs[r].ownBlock ≠ some g :=
  .inr (own_blk (h.2.1 r (by rw [← h.1]; exact hr) hr).2 hb ht)
theorem PicR_cur {w0 w : World} {base wd : Nat} {vs : List Value} {rows : List (List (Nat × Nat × Nat))} (h : PicR w base vs wd rows) {g : Nat} (hk : Cur w0 w g) (r : Nat) (hr : r < vs.length) : vs[r].ownBlock = none ∨ vs[r].ownBlock ≠ some g :=
  .inr (own_cur (h.2.1 r (by rw [← h.1]; exact hr) hr).2 hk (by decide))
theorem PicR_own {w : World} {base wd : Nat} {vs : List Value} {rows : List (List (Nat × Nat × Nat))} (h : PicR w base vs wd rows) {b' : Nat} {e' : TypeId} {size' : Nat} {v' : Value} {n' : Nat} {xs' : List Value} (h' : w.ownsRow b' e' size' v' n' xs') (hne : 49 ≠ e') (r : Nat) (hr : r < vs.length) : vs[r].ownBlock = none ∨ vs[r].ownBlock ≠ v'.ownBlock :=
  own_own (h.2.1 r (by rw [← h.1]; exact hr) hr).2 h' hne
/-- .. whose blocks lie below a bound. -/
def PicLow (vs : List Value) (B : Nat) : Prop := ∀ r (hr : r < vs.length) k, vs[r].ownBlock = some k → k < B
theorem PicR.low {w : World} {base wd : Nat} {vs : List Value} {rows : List (List (Nat × Nat × Nat))} (h : PicR w base vs wd rows) : PicLow vs w.heap.size :=
  fun r hr k hk => ((h.2.1 r (by rw [← h.1]; exact hr) hr).2.lt k hk).2
theorem PicR_low {w : World} {vs : List Value} {B : Nat} (h : PicLow vs B) {e' : TypeId} {size' : Nat} {v' : Value} {n' : Nat} {xs' : List Value} (h' : w.ownsRow B e' size' v' n' xs') (r : Nat) (hr : r < vs.length) : vs[r].ownBlock = none ∨ vs[r].ownBlock ≠ v'.ownBlock := by
  cases hq : vs[r].ownBlock with
  | none => exact .inl rfl
  | some k =>
    refine .inr fun e => ?_
    have h1 := h r hr k hq
    have h2 := own_base h' k e.symm
    omega
theorem PicR.snoc {w : World} {base wd B : Nat} {vs : List Value} {rows : List (List (Nat × Nat × Nat))} (h : PicR w base vs wd rows) (hl : PicLow vs B) {v : Value} {cs : List (Nat × Nat × Nat)} (hv : w.ownsRow B 49 2 v wd (cellsV cs)) (hc : cs.length = wd) (hb : base ≤ B) : PicR w base (vs ++ [v]) wd (rows ++ [cs]) := by
  refine ⟨by simp [h.1], fun r hr hr' => ?_, fun r s hr hs hne => ?_⟩
  · by_cases h1 : r < rows.length
    · have h2 : r < vs.length := by rw [h.1]; exact h1
      rw [List.getElem_append_left h1, List.getElem_append_left h2]
      exact h.2.1 r h1 h2
    · have h2 : r = rows.length := by simp at hr; omega
      subst h2
      rw [List.getElem_append_right (by omega), List.getElem_append_right (by rw [h.1]; omega)]
      simp only [h.1, Nat.sub_self, List.getElem_singleton]
      exact ⟨hc, own_weak hv hb⟩
  · have hv0 := PicR_low hl hv
    simp at hr hs
    by_cases h1 : r < vs.length
    · by_cases h2 : s < vs.length
      · rw [List.getElem_append_left h1, List.getElem_append_left h2]; exact h.2.2 r s h1 h2 hne
      · rw [List.getElem_append_left h1, List.getElem_append_right (by omega)]
        simp only [show s - vs.length = 0 by omega, List.getElem_singleton]
        exact hv0 r h1
    · by_cases h2 : s < vs.length
      · rw [List.getElem_append_right (by omega), List.getElem_append_left h2]
        simp only [show r - vs.length = 0 by omega, List.getElem_singleton]
        rcases hv0 s h2 with h3 | h3
        · cases hq : v.ownBlock with
          | none => exact .inl rfl
          | some k => exact .inr (fun e => by rw [h3] at e; cases e)
        · exact .inr fun e => h3 e.symm
      · omega
theorem PicR.set {w w1 : World} {base wd : Nat} {vs : List Value} {rows : List (List (Nat × Nat × Nat))} (h : PicR w base vs wd rows) (r : Nat) (hr : r < vs.length) {g : Nat} (hg : w.grownBy w1 (some g)) (hgr : vs[r].ownBlock = some g) {cs : List (Nat × Nat × Nat)} (hc : cs.length = wd)
    (hv : w1.ownsRow base 49 2 vs[r] wd (cellsV cs)) : PicR w1 base vs wd (rows.set r cs) := by
  refine ⟨by rw [List.length_set]; exact h.1, fun s hs hs' => ?_, h.2.2⟩
  rw [List.length_set] at hs
  by_cases h1 : r = s
  · subst h1
    rw [List.getElem_set_self]; exact ⟨hc, hv⟩
  · rw [List.getElem_set_ne h1]
    refine ⟨(h.2.1 s hs hs').1, own_gr (h.2.1 s hs hs').2 hg ?_⟩
    rw [← hgr]
    exact h.2.2 s r hs' hr (fun e => h1 e.symm)
theorem PicR_lows {w : World} {base wd : Nat} {vs : List Value} {rows : List (List (Nat × Nat × Nat))} (h : PicR w base vs wd rows) {g : Nat} (hg : w.heap.size ≤ g) (r : Nat) (hr : r < vs.length) : vs[r].ownBlock = none ∨ vs[r].ownBlock ≠ some g :=
  .inr (own_lows (h.2.1 r (by rw [← h.1]; exact hr) hr).2 hg)
theorem PicR.val {w : World} {base wd : Nat} {vs : List Value} {rows : List (List (Nat × Nat × Nat))} (h : PicR w base vs wd rows) (hw : 0 < wd) {r : Nat} (hr : r < rows.length) : ∃ g c, vs[r]? = some (.slice (some ⟨g, 0, none⟩) wd c) ∧ wd ≤ c := by
  obtain ⟨hr', _, h2⟩ := h.row r hr
  obtain ⟨g, c, e, hc, _⟩ := own_slice h2 hw
  exact ⟨g, c, by rw [List.getElem?_eq_getElem hr', e], hc⟩
theorem cellsV_get (cs : List (Nat × Nat × Nat)) (k : Nat) (hk : k < cs.length) : (cellsV cs)[k * 2]? = some (.float .f32 cs[k].1) ∧ (cellsV cs)[k * 2 + 1]? = some (.complex .f32 cs[k].2.1 cs[k].2.2) := by
  induction cs generalizing k with
  | nil => simp at hk
  | cons c cs ih =>
    cases k with
    | zero => simp [cellsV]
    | succ k =>
      have := ih k (by simpa using hk)
      simp only [cellsV, List.flatMap_cons, List.getElem_cons_succ] at *
      rw [show (k + 1) * 2 = (k * 2) + 1 + 1 from by omega, show k * 2 + 1 + 1 + 1 = k * 2 + 1 + 1 + 1 from rfl]
      simpa using this
theorem PicR.own {w : World} {base wd : Nat} {vs : List Value} {rows : List (List (Nat × Nat × Nat))} (h : PicR w base vs wd rows) {r : Nat} (hr : r < rows.length) {g n c : Nat} (hv : vs[r]? = some (.slice (some ⟨g, 0, none⟩) n c)) : rows[r].length = wd ∧ w.ownsRow base 49 2 (.slice (some ⟨g, 0, none⟩) n c) wd (cellsV rows[r]) := by
  obtain ⟨hr', h1, h2⟩ := h.row r hr
  rw [List.getElem?_eq_getElem hr'] at hv
  injection hv with hv
  rw [hv] at h2
  exact ⟨h1, h2⟩
theorem PicR.cell {w : World} {base wd : Nat} {vs : List Value} {rows : List (List (Nat × Nat × Nat))} (h : PicR w base vs wd rows) {r : Nat} (hr : r < rows.length) {g n c : Nat} (hv : vs[r]? = some (.slice (some ⟨g, 0, none⟩) n c)) {j : Nat} (hj : j < rows[r].length) :
    w.cell? ⟨g, j * 2, none⟩ = some (.float .f32 rows[r][j].1) ∧ w.cell? ⟨g, j * 2 + 1, none⟩ = some (.complex .f32 rows[r][j].2.1 rows[r][j].2.2) := by
  obtain ⟨_, h2⟩ := h.own hr hv
  exact ⟨own_cell h2 (cellsV_get _ j hj).1, own_cell h2 (cellsV_get _ j hj).2⟩
/-! ### rows by their numbers -/
abbrev Row := List (Nat × Nat × Nat)
def rowOf (rows : List Row) (r : Nat) : Row := rows.getD r []
def cellAt (rows : List Row) (r i : Nat) : Nat × Nat × Nat := (rowOf rows r).getD i (0, 0, 0)
def putCell (rows : List Row) (r i : Nat) (c : Nat × Nat × Nat) : List Row := rows.set r ((rowOf rows r).set i c)
theorem rowOf_get {rows : List Row} {r : Nat} (hr : r < rows.length) : rowOf rows r = rows[r] := by simp [rowOf, hr]
theorem cellAt_get {rows : List Row} {r i : Nat} (hi : i < (rowOf rows r).length) : cellAt rows r i = (rowOf rows r)[i] := by simp [cellAt, hi]
theorem putCell_len (rows : List Row) (r i : Nat) (c : Nat × Nat × Nat) : (putCell rows r i c).length = rows.length := by simp [putCell]
theorem rowOf_put {rows : List Row} {r : Nat} (hr : r < rows.length) (i : Nat) (c : Nat × Nat × Nat) (s : Nat) : rowOf (putCell rows r i c) s = if s = r then (rowOf rows r).set i c else rowOf rows s := by
  by_cases h : s = r
  · subst h; simp [rowOf, putCell, hr]
  · rw [if_neg h]; simp [rowOf, putCell, List.getElem?_set_ne (fun e => h e.symm)]
theorem cellAt_put {rows : List Row} {r i : Nat} (hr : r < rows.length) (hi : i < (rowOf rows r).length) (c : Nat × Nat × Nat) (s j : Nat) : cellAt (putCell rows r i c) s j = if s = r ∧ j = i then c else cellAt rows s j := by
  unfold cellAt
  rw [rowOf_put hr]
  by_cases h : s = r
  · subst h
    rw [if_pos rfl]
    by_cases h2 : j = i
    · subst h2; simp [hi]
    · rw [if_neg (by simp [h2])]; simp [List.getElem?_set_ne (fun e => h2 e.symm)]
  · rw [if_neg h, if_neg (by simp [h])]
theorem putCell_again {rows : List Row} {r : Nat} (hr : r < rows.length) (i : Nat) (c c' : Nat × Nat × Nat) : putCell (putCell rows r i c) r i c' = putCell rows r i c' := by
  unfold putCell
  have := rowOf_put hr i c r
  unfold putCell at this
  rw [this, if_pos rfl, List.set_set, List.set_set]
theorem PicR.ownR {w : World} {base wd : Nat} {vs : List Value} {rows : List Row} (h : PicR w base vs wd rows) {r : Nat} (hr : r < rows.length) {g n c : Nat} (hv : vs[r]? = some (.slice (some ⟨g, 0, none⟩) n c)) : (rowOf rows r).length = wd ∧ w.ownsRow base 49 2 (.slice (some ⟨g, 0, none⟩) n c) wd (cellsV (rowOf rows r)) := by
  rw [rowOf_get hr]; exact h.own hr hv
theorem PicR.put2 {w w1 : World} {base wd : Nat} {vs : List Value} {rows : List Row} (h : PicR w base vs wd rows) {r : Nat} (hr : r < rows.length) {g n c : Nat} (hv : vs[r]? = some (.slice (some ⟨g, 0, none⟩) n c)) (hg : w.grownBy w1 (some g)) {j y u v : Nat}
    (hY : w1.ownsRow base 49 2 (.slice (some ⟨g, 0, none⟩) n c) wd (((cellsV (rowOf rows r)).set (j * 2) (.float .f32 y)).set (j * 2 + 1) (.complex .f32 u v))) : PicR w1 base vs wd (putCell rows r j (y, u, v)) := by
  have hr' : r < vs.length := by rw [h.1]; exact hr
  have e : vs[r] = .slice (some ⟨g, 0, none⟩) n c := by rw [List.getElem?_eq_getElem hr'] at hv; injection hv
  refine h.set r hr' hg (by rw [e]; rfl) (by rw [List.length_set]; exact (h.ownR hr hv).1) ?_
  rw [e, ← cellsV_set, Nat.mul_comm 2 j]; exact hY
theorem PicR.put1 {w w1 : World} {base wd : Nat} {vs : List Value} {rows : List Row} (h : PicR w base vs wd rows) {r : Nat} (hr : r < rows.length) {g n c : Nat} (hv : vs[r]? = some (.slice (some ⟨g, 0, none⟩) n c)) (hg : w.grownBy w1 (some g)) {j u v : Nat} (hj : j < wd)
    (hY : w1.ownsRow base 49 2 (.slice (some ⟨g, 0, none⟩) n c) wd ((cellsV (rowOf rows r)).set (j * 2 + 1) (.complex .f32 u v))) : PicR w1 base vs wd (putCell rows r j ((cellAt rows r j).1, u, v)) := by
  have hr' : r < vs.length := by rw [h.1]; exact hr
  have e : vs[r] = .slice (some ⟨g, 0, none⟩) n c := by rw [List.getElem?_eq_getElem hr'] at hv; injection hv
  have hl := (h.ownR hr hv).1
  refine h.set r hr' hg (by rw [e]; rfl) (by rw [List.length_set]; exact hl) ?_
  rw [e, cellAt_get (by omega), ← cellsV_set1 _ _ (by omega), Nat.mul_comm 2 j]; exact hY
theorem PicR.cellA {w : World} {base wd : Nat} {vs : List Value} {rows : List Row} (h : PicR w base vs wd rows) {r : Nat} (hr : r < rows.length) {g n c : Nat} (hv : vs[r]? = some (.slice (some ⟨g, 0, none⟩) n c)) {j : Nat} (hj : j < wd) :
    w.cell? ⟨g, j * 2, none⟩ = some (.float .f32 (cellAt rows r j).1) ∧ w.cell? ⟨g, j * 2 + 1, none⟩ = some (.complex .f32 (cellAt rows r j).2.1 (cellAt rows r j).2.2) := by
  obtain ⟨h1, h2⟩ := h.ownR hr hv
  have hj' : j < (rowOf rows r).length := by omega
  rw [cellAt_get hj']
  exact ⟨own_cell h2 (cellsV_get _ j hj').1, own_cell h2 (cellsV_get _ j hj').2⟩
theorem PicR.weak {w : World} {base base' wd : Nat} {vs : List Value} {rows : List Row} (h : PicR w base vs wd rows) (hb : base' ≤ base) : PicR w base' vs wd rows :=
  ⟨h.1, fun r hr hr' => ⟨(h.2.1 r hr hr').1, own_weak (h.2.1 r hr hr').2 hb⟩, h.2.2⟩
end Go.Proofs.Ytjomilloilbcgaa
