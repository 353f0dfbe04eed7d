/- Words about results that lie in a block of the call's own. No condition. -/
import Derived.Test.YtfjafeepmpnegaaDoorKb
import Derived.Laws.Rows
import Derived.Laws.Tables
namespace Go.Proofs.YtfjafeepmpnegaaDoor
open Go.RowKit
set_option linter.unusedVariables false
set_option linter.unusedSimpArgs false

section
variable {P : Program}
def isRow : TypeDesc → Bool
  | .struct _ | .array _ _ => true
  | _ => false
theorem loadRow (w : World) (g : Nat) (t ty : TypeId) (cs : Array Value) (d : TypeDesc) (hg : w.heap[g]? = some (.cells cs t (0, 0))) (hu : P.underlying ty = some d) (hd : isRow d = true) (hi : (P.info? ty).map (·.size) = some cs.size) :
    (loadVar ty ⟨g, 0, none⟩).run P w = .ok (.agg cs) w :=
  run_loadVar_row w g t ty cs (0, 0) d hg hu (by cases d <;> simp_all [isRow]) hi
theorem results_c {fn : Func} {p : Tmp} {ty : TypeId} (h : fn.results = #[.cell p ty]) (tmps : Array Value) (w : World) (g : Nat) (t : TypeId) (cs : Array Value) (d : TypeDesc)
    (hp : tmps.getD p undef = .pointer (some ⟨g, 0, none⟩)) (hg : w.heap[g]? = some (.cells cs t (0, 0))) (hu : P.underlying ty = some d) (hd : isRow d = true) (hi : (P.info? ty).map (·.size) = some cs.size) :
    (results fn tmps).run P w = .ok (.agg cs) w := by
  have hp' : tmps[p]?.getD undef = .pointer (some ⟨g, 0, none⟩) := by simpa using hp
  simp [results, h, hp', asAddr, loadRow w g t ty cs d hg hu hd hi]
theorem results_ct {fn : Func} {p u : Tmp} {ty : TypeId} (h : fn.results = #[.cell p ty, .tmp u]) (tmps : Array Value) (w : World) (g : Nat) (t : TypeId) (cs : Array Value) (d : TypeDesc)
    (hp : tmps.getD p undef = .pointer (some ⟨g, 0, none⟩)) (hg : w.heap[g]? = some (.cells cs t (0, 0))) (hu : P.underlying ty = some d) (hd : isRow d = true) (hi : (P.info? ty).map (·.size) = some cs.size) :
    (results fn tmps).run P w = .ok (.tuple #[.agg cs, tmps.getD u undef]) w := by
  have hp' : tmps[p]?.getD undef = .pointer (some ⟨g, 0, none⟩) := by simpa using hp
  simp [results, h, hp', asAddr, loadRow w g t ty cs d hg hu hd hi]
end

section
variable {P : Program} {ops : Array Oper} {rest : List Oper} {o : Oper} {a : Act} {Q : Exit → Act → World → Prop} {W : World}
theorem gateSt {t : TypeId} {v : Operand} (p : Tmp) (_ho : o.op = .store t (.tmp p) v) (h : wpList P ops Q (o :: rest) a W) : wpList P ops Q (o :: rest) a W := h
theorem gateCall {as : Array Operand} {ts : Array TypeId} (f : FuncId) (_ho : o.op = .call { callee := .value (.func f), args := as, argTypes := ts }) (h : wpList P ops Q (o :: rest) a W) : wpList P ops Q (o :: rest) a W := h
theorem ev_fl (N : Tmp) (hd : o.dst = some N) (hg : o.guard = none) {op : BinOp} {t t' : TypeId} {l r : Operand} (hop : o.op = .binOp op t l r t') {k : FloatKind} {x y : Nat}
    (ha : isAr op = true) (hl : a.eval l = .float k x) (hr : a.eval r = .float k y)
    (h : ∀ b w1, fN k b = fop op k (fN k x) (fN k y) → W.grownBy w1 none → wpList P ops Q rest (a.put (some N) (.float k b)) w1) : wpList P ops Q (o :: rest) a W :=
  wp_fl N hd hg hop ha hl hr fun b n hb => h b _ hb (gr_drewN (gr_refl _ _) n)
theorem ev_cv (N : Tmp) (hd : o.dst = some N) (hg : o.guard = none) {st dt : TypeId} {l : Operand} (hop : o.op = .convert st dt l) {s k : FloatKind} {x : Nat}
    (hl : a.eval l = .float s x) (hs : (P.underlying st).isSome = true) (hdt : P.underlying dt = some (.float k))
    (h : ∀ b w1, (∀ y, floatToFloatBits s x k = some y → b = y) → (fN s x = none → fN k b = none) → W.grownBy w1 none → wpList P ops Q rest (a.put (some N) (.float k b)) w1) : wpList P ops Q (o :: rest) a W :=
  wp_cv N hd hg hop hl hs hdt fun b n hb hc => h b _ hb hc (gr_drewN (gr_refl _ _) n)
theorem stripG (hw : Region.wanted o (yielded ops a.tmps) = true) (h : wpList P ops Q ({ o with guard := none } :: rest) a W) : wpList P ops Q (o :: rest) a W := by
  have h1 : Region.wanted { o with guard := none } (yielded ops a.tmps) = true := rfl
  unfold wpList at h ⊢
  rw [if_pos h1] at h
  rw [if_pos hw]
  exact h
/-- A new block: a variable's place. -/
theorem ev_al (N : Tmp) (hd : o.dst = some N) (hg : o.guard = none) (cs : Array Value) (t : TypeId)
    (hrun : (execOp a.eval o).run P W = .ok (.value (.pointer (some ⟨W.heap.size, 0, none⟩))) (W.alloc (.cells cs t (0, 0))))
    (h : ∀ g, W.heap.size ≤ g → ∀ w1, w1.heap[g]? = some (.cells cs t (0, 0)) → W.grownBy w1 none → wpList P ops Q rest (a.put (some N) (.pointer (some ⟨g, 0, none⟩))) w1) : wpList P ops Q (o :: rest) a W := by
  refine wp_ev hg hrun ?_
  rw [hd]
  exact h _ (Nat.le_refl _) _ (blkNew W _) (gr_alloc (gr_refl _ _) _)
/-- A literal slice. -/
theorem ev_bs (N : Tmp) (hd : o.dst = some N) (hg : o.guard = none) (cs : Array Value) (t : TypeId) (m : Nat)
    (hrun : (execOp a.eval o).run P W = .ok (.value (.slice (some ⟨W.heap.size, 0, none⟩) m m)) (W.alloc (.cells cs t (0, 0))))
    (h : ∀ g, W.heap.size ≤ g → ∀ w1, w1.heap[g]? = some (.cells cs t (0, 0)) → W.grownBy w1 none → wpList P ops Q rest (a.put (some N) (.slice (some ⟨g, 0, none⟩) m m)) w1) : wpList P ops Q (o :: rest) a W := by
  refine wp_ev hg hrun ?_
  rw [hd]
  exact h _ (Nat.le_refl _) _ (blkNew W _) (gr_alloc (gr_refl _ _) _)
theorem gr_setRow (w : World) (g : Nat) (cs : Array Value) : w.grownBy (w.setRow g cs) (some g) :=
  ⟨rfl, rfl, rfl, by simp [World.setRow], fun k _ hne => setRow_other w g k cs (fun e => hne (by rw [e]))⟩
/-- A whole struct is stored. -/
theorem ev_st (hd : o.dst = none) (hg : o.guard = none) {ty : TypeId} {x y : Operand} (ho : o.op = .store ty x y) {g : Nat} {cs old : Array Value} {t : TypeId} (hx : a.eval x = .pointer (some ⟨g, 0, none⟩)) (hy : a.eval y = .agg cs)
    (hb : W.heap[g]? = some (.cells old t (0, 0))) (hi : (P.info? ty).map (·.size) = some cs.size) (hold : old.size = cs.size) (h1 : cs.all (·.oneCell') = true)
    (h : ∀ w1, w1.heap[g]? = some (.cells cs t (0, 0)) → W.grownBy w1 (some g) → wpList P ops Q rest a w1) : wpList P ops Q (o :: rest) a W := by
  refine wpList_plain hg fun K hK => ?_
  refine wp_store_row ty x y ho g cs hx hy t old hb hi hold h1 ?_
  rw [hd]
  exact hK _ _ (h _ (setRow_heap W g old cs t (0, 0) hb) (gr_setRow W g cs))
theorem run_st1 (ty : TypeId) (g i : Nat) (v : Value) (t : TypeId) (cs : Array Value) (hb : W.heap[g]? = some (.cells cs t (0, 0))) (hi : (P.info? ty).map (·.size) = some 1) (hv : v.oneCell' = true) (hlt : i < cs.size) :
    (storeVar ty ⟨g, i, none⟩ v).run P W = .ok () (W.setCell ⟨g, i, none⟩ v) := by
  cases hq : P.info? ty with
  | none => simp [hq] at hi
  | some inf =>
    have hs : inf.size = 1 := by simpa [hq] using hi
    have hc : W.cell? ⟨g, i, none⟩ = some cs[i] := by rw [blkCell hb i]; exact Array.getElem?_eq_getElem hlt
    have hf := blkFree hb i
    have hcells : v.cells = #[v] := by cases v <;> first | rfl | (simp [Value.oneCell'] at hv)
    have hst : (store (⟨g, i, none⟩ : Addr) v).run P W = .ok () (W.setCell ⟨g, i, none⟩ v) := by
      rw [run_store P W _ v _ hv, hc, hf]; rfl
    have ha : (⟨g, i, none⟩ : Addr).add 0 = ⟨g, i, none⟩ := by rw [addAt, Nat.add_zero]
    simp [storeVar, sizeOf, typeInfo, hq, hcells, hs, storeCells, ha, hst]
/-- One cell of a block is stored. -/
theorem ev_st1 (hd : o.dst = none) (hg : o.guard = none) {ty : TypeId} {x y : Operand} (ho : o.op = .store ty x y) {g i : Nat} {v : Value} {cs : Array Value} {t : TypeId} (hx : a.eval x = .pointer (some ⟨g, i, none⟩)) (hy : a.eval y = v)
    (hb : W.heap[g]? = some (.cells cs t (0, 0))) (hi : (P.info? ty).map (·.size) = some 1) (hv : v.oneCell' = true) (hlt : i < cs.size)
    (h : ∀ w1, w1.heap[g]? = some (.cells (cs.setIfInBounds i v) t (0, 0)) → W.grownBy w1 (some g) → wpList P ops Q rest a w1) : wpList P ops Q (o :: rest) a W := by
  refine wpList_plain hg fun K hK => ?_
  have hr := run_st1 (P := P) ty g i v t cs hb hi hv hlt
  unfold Oper.wp execOp
  simp only [ho, hx, hy, Instr.storeAt, Instr.sureAddr, Sem.run_bind, Sem.run_pure, Result.andThen_ok, hr]
  show K (a.put o.dst undef) _
  rw [hd]
  exact hK _ _ (h _ (blkSet hb i v) (gr_set (gr_refl _ _) i v))
/-- A whole struct is read. -/
theorem ev_ld (N : Tmp) (hd : o.dst = some N) (hg : o.guard = none) {ty : TypeId} {x : Operand} (ho : o.op = .load ty x) {g : Nat} {cs : Array Value} {t : TypeId} {d : TypeDesc} (hx : a.eval x = .pointer (some ⟨g, 0, none⟩))
    (hb : W.heap[g]? = some (.cells cs t (0, 0))) (hu : P.underlying ty = some d) (hdd : isRow d = true) (hi : (P.info? ty).map (·.size) = some cs.size)
    (h : wpList P ops Q rest (a.put (some N) (.agg cs)) W) : wpList P ops Q (o :: rest) a W := by
  refine wp_ev hg (w1 := W) (v := .agg cs) ?_ (by rw [hd]; exact h)
  have hr := loadRow (P := P) W g t ty cs d hb hu hdd hi
  unfold execOp
  simp [ho, hx, Instr.loadAt, Instr.sureAddr, hr]
end
end Go.Proofs.YtfjafeepmpnegaaDoor
