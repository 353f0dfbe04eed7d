/- Words about floats whose NaN bits the language leaves open: a float is taken up to its NaN; each operation on floats has one answer then; the walk's law of it. No condition. -/
import Derived.WalkKit
import Derived.WalkLawsBesides
import Derived.WalkSpells
import Derived.Laws.FloatArith
import Derived.Laws.ComplexArith
import Derived.Deep.Draws
import Derived.Deep.LoopGhost
import Derived.KernelRfl
namespace Go.Proofs.YtfjafeepmpnegaaDoor
open Go.RowKit Ieee
set_option linter.unusedVariables false
set_option linter.unusedSimpArgs false

/-- A fact that the walk's simp does not look into. -/
structure Az (p : Prop) : Prop where mk :: (out : p)

/-! ### a float up to its NaN -/
/-- A float's bits; every NaN is 'none'. -/
def fN (k : FloatKind) (b : Nat) : Option Nat := if (k.decode b).isNaN then none else some b

theorem sum_nan_l {d e : Datum} (h : d.isNaN = true) : d.sum e = none := by cases d <;> cases e <;> simp_all [Datum.isNaN, Datum.sum]
theorem sum_nan_r {d e : Datum} (h : e.isNaN = true) : d.sum e = none := by cases d <;> cases e <;> simp_all [Datum.isNaN, Datum.sum]
theorem product_nan_l {d e : Datum} (h : d.isNaN = true) : d.product e = none := by cases d <;> cases e <;> simp_all [Datum.isNaN, Datum.product]
theorem product_nan_r {d e : Datum} (h : e.isNaN = true) : d.product e = none := by cases d <;> cases e <;> simp_all [Datum.isNaN, Datum.product]
theorem quotient_nan_l {d e : Datum} (q : Nat) (h : d.isNaN = true) : d.quotient q e = none := by cases d <;> cases e <;> simp_all [Datum.isNaN, Datum.quotient]
theorem quotient_nan_r {d e : Datum} (q : Nat) (h : e.isNaN = true) : d.quotient q e = none := by cases d <;> cases e <;> simp_all [Datum.isNaN, Datum.quotient]
theorem opposite_nan (d : Datum) : d.opposite.isNaN = d.isNaN := by cases d <;> rfl
theorem order_nan_l {d e : Datum} (h : d.isNaN = true) : d.order e = none := by cases d <;> cases e <;> simp_all [Datum.isNaN, Datum.order]
theorem order_nan_r {d e : Datum} (h : e.isNaN = true) : d.order e = none := by cases d <;> cases e <;> simp_all [Datum.isNaN, Datum.order]

/-- An operation on floats up to NaN. -/
def fop (op : BinOp) (k : FloatKind) (x y : Option Nat) : Option Nat := x.bind fun a => y.bind fun b => floatBits op k a b
/-- How two floats stand to each other. -/
def ford (k : FloatKind) (x y : Option Nat) : Option Ordering := x.bind fun a => y.bind fun b => k.format.order a b

theorem floatBits_nan_l (op : BinOp) (k : FloatKind) (x y : Nat) (h : (k.decode x).isNaN = true) : floatBits op k x y = none := by
  have h' : (k.format.read x).isNaN = true := h
  cases op <;> simp [floatBits, Format.add, Format.sub, Format.mul, Format.div, sum_nan_l h', product_nan_l h', quotient_nan_l _ h']
theorem floatBits_nan_r (op : BinOp) (k : FloatKind) (x y : Nat) (h : (k.decode y).isNaN = true) : floatBits op k x y = none := by
  have h' : (k.format.read y).isNaN = true := h
  have h2 : (k.format.read y).opposite.isNaN = true := by rw [opposite_nan]; exact h'
  cases op <;> simp [floatBits, Format.add, Format.sub, Format.mul, Format.div, sum_nan_r h', sum_nan_r h2, product_nan_r h', quotient_nan_r _ h']
theorem floatBits_fop (op : BinOp) (k : FloatKind) (x y : Nat) : floatBits op k x y = fop op k (fN k x) (fN k y) := by
  unfold fop fN
  by_cases hx : (k.decode x).isNaN = true
  · rw [if_pos hx, floatBits_nan_l op k x y hx]; rfl
  · by_cases hy : (k.decode y).isNaN = true
    · rw [if_pos hy, floatBits_nan_r op k x y hy]; cases (if (k.decode x).isNaN = true then none else some x) <;> rfl
    · rw [if_neg hx, if_neg hy]; rfl
theorem order_ford (k : FloatKind) (x y : Nat) : k.format.order x y = ford k (fN k x) (fN k y) := by
  unfold ford fN
  by_cases hx : (k.decode x).isNaN = true
  · have h' : (k.format.read x).isNaN = true := hx
    rw [if_pos hx]; simp [Format.order, order_nan_l h']
  · by_cases hy : (k.decode y).isNaN = true
    · have h' : (k.format.read y).isNaN = true := hy
      rw [if_pos hy, if_neg hx]; simp [Format.order, order_nan_r h']
    · rw [if_neg hx, if_neg hy]; rfl

/-! ### what is written is no NaN -/
theorem read_word_nan (f : Format) (s : Bool) {r : Nat} (h : r ≤ f.infRung) : (f.read (f.word s r)).isNaN = false := by
  have hl := f.infRung_lt
  have hm : f.word s r % f.signWeight = r := by
    unfold Format.word
    cases s
    · simp; exact Nat.mod_eq_of_lt (by omega)
    · simp; exact Nat.mod_eq_of_lt (by omega)
  unfold Format.read
  simp only [hm]
  split
  · rfl
  · split
    · rfl
    · rw [if_pos (by omega)]; rfl
theorem write_number_nan (f : Format) (s : Bool) (m : Nat) (e : Int) : (f.read (f.write (.number s m e))).isNaN = false := by
  unfold Format.write Format.nearest
  simp only []
  split
  · exact read_word_nan f s (Nat.zero_le _)
  · exact read_word_nan f s (Nat.min_le_right ..)
theorem write_infinity_nan (f : Format) (s : Bool) : (f.read (f.write (.infinity s))).isNaN = false := read_word_nan f s (Nat.le_refl _)
theorem write_nan (f : Format) {d : Datum} (h : d.isNaN = false) : (f.read (f.write d)).isNaN = false := by
  cases d with
  | number s m e => exact write_number_nan f s m e
  | infinity s => exact write_infinity_nan f s
  | nan s t => cases h
theorem sum_no_nan {d e r : Datum} (h : d.sum e = some r) : r.isNaN = false := by
  cases d <;> cases e <;> simp only [Datum.sum] at h <;> first | (cases h; done) | (cases h; rfl) | (split at h <;> first | (cases h; done) | (cases h; rfl))
theorem product_no_nan {d e r : Datum} (h : d.product e = some r) : r.isNaN = false := by
  cases d <;> cases e <;> simp only [Datum.product] at h <;> first | (cases h; done) | (cases h; rfl) | (split at h <;> first | (cases h; done) | (cases h; rfl))
theorem quotient_no_nan {q : Nat} {d e r : Datum} (h : d.quotient q e = some r) : r.isNaN = false := by
  cases d <;> cases e <;> simp only [Datum.quotient] at h <;> first | (cases h; done) | (cases h; rfl) | (split at h <;> first | (cases h; done) | (cases h; rfl) | (split at h <;> first | (cases h; done) | (cases h; rfl)))
theorem map_write_nan (f : Format) {d : Option Datum} {r : Nat} (hd : ∀ e, d = some e → e.isNaN = false) (h : d.map f.write = some r) : (f.read r).isNaN = false := by
  cases d with
  | none => cases h
  | some e => cases h; exact write_nan f (hd e rfl)
theorem floatBits_no_nan {op : BinOp} {k : FloatKind} {x y r : Nat} (h : floatBits op k x y = some r) : fN k r = some r := by
  have h' : (k.format.read r).isNaN = false := by
    unfold floatBits at h
    split at h
    · exact map_write_nan _ (fun e he => sum_no_nan he) h
    · exact map_write_nan _ (fun e he => sum_no_nan he) h
    · exact map_write_nan _ (fun e he => product_no_nan he) h
    · exact map_write_nan _ (fun e he => quotient_no_nan he) h
    · cases h
  unfold fN
  rw [if_neg]
  show ¬ (k.format.read r).isNaN = true
  rw [h']; exact Bool.false_ne_true

/-- The bits that the tape picks for a NaN are a NaN's. -/
theorem picked_nan32 (t : Nat) : ((Ieee.single).read (t % 2 * 2 ^ 31 + 0x7f800000 + 1 + t / 2 % (2 ^ 23 - 1))).isNaN = true := by
  have h1 : t % 2 < 2 := Nat.mod_lt _ (by decide)
  have h2 : t / 2 % (2 ^ 23 - 1) < 2 ^ 23 - 1 := Nat.mod_lt _ (by decide)
  generalize t % 2 = a at *
  generalize t / 2 % (2 ^ 23 - 1) = c at *
  have hs : Ieee.single.signWeight = 2147483648 := by decide
  have hb : Ieee.single.binade = 8388608 := by decide
  have hi : Ieee.single.infRung = 2139095040 := by decide
  unfold Format.read
  simp only [hs, hb, hi]
  have e : (a * 2 ^ 31 + 0x7f800000 + 1 + c) % 2147483648 = 2139095041 + c := by omega
  rw [e, if_neg (by omega), if_neg (by omega), if_neg (by omega)]
  rfl
theorem picked_nan64 (t : Nat) : ((Ieee.double).read (t % 2 * 2 ^ 63 + 0x7ff0000000000000 + 1 + t / 2 % (2 ^ 52 - 1))).isNaN = true := by
  have h1 : t % 2 < 2 := Nat.mod_lt _ (by decide)
  have h2 : t / 2 % (2 ^ 52 - 1) < 2 ^ 52 - 1 := Nat.mod_lt _ (by decide)
  generalize t % 2 = a at *
  generalize t / 2 % (2 ^ 52 - 1) = c at *
  have hs : Ieee.double.signWeight = 9223372036854775808 := by decide
  have hb : Ieee.double.binade = 4503599627370496 := by decide
  have hi : Ieee.double.infRung = 9218868437227405312 := by decide
  unfold Format.read
  simp only [hs, hb, hi]
  have e : (a * 2 ^ 63 + 0x7ff0000000000000 + 1 + c) % 9223372036854775808 = 9218868437227405313 + c := by omega
  rw [e, if_neg (by omega), if_neg (by omega), if_neg (by omega)]
  rfl
theorem picked_none (k : FloatKind) (x y t : Nat) : fN k ((Question.nanBits k x y).cut t) = none := by
  unfold fN
  rw [if_pos]
  cases k
  · exact picked_nan32 t
  · exact picked_nan64 t
theorem pickedc_none (k : FloatKind) (b t : Nat) : fN k ((Question.nanConv k b).cut t) = none := by
  unfold fN
  rw [if_pos]
  cases k
  · exact picked_nan32 t
  · exact picked_nan64 t

@[go_sem] theorem unary_neg_float (k : FloatKind) (b : Nat) : Op.unary .neg (.float k b) = pure (.float k (Op.negFloat k b)) := rfl
@[go_sem] theorem unary_neg_complex (k : FloatKind) (a b : Nat) : Op.unary .neg (.complex k a b) = pure (.complex k (Op.negFloat k a) (Op.negFloat k b)) := rfl

@[go_sem] theorem run_store_float {P : Program} (w : World) (a : Addr) (m : Mode) (k : FloatKind) (b : Nat) : (store a (.float k b) m).run P w = stored P w a (.float k b) m := run_store P w a _ m rfl
@[go_sem] theorem run_store_complex {P : Program} (w : World) (a : Addr) (m : Mode) (k : FloatKind) (b c : Nat) : (store a (.complex k b c) m).run P w = stored P w a (.complex k b c) m := run_store P w a _ m rfl

/-! ### the walk's law of an operation on floats -/
def isAr : BinOp → Bool
  | .add | .sub | .mul | .quo => true
  | _ => false
theorem run_fl {P : Program} (w : World) (op : BinOp) (hop : isAr op = true) (t : TypeId) (k : FloatKind) (x y : Nat) :
    ∃ b n, (binOp op t (.float k x) (.float k y)).run P w = .ok (.float k b) (w.drewN n) ∧ fN k b = fop op k (fN k x) (fN k y) := by
  rw [← floatBits_fop]
  cases h : floatBits op k x y with
  | some r => exact ⟨r, 0, by rw [run_float_arith w op t k x y r h, World.drewN_zero], floatBits_no_nan h⟩
  | none =>
    refine ⟨(Question.nanBits k x y).cut (w.tape w.drawn (.nanBits k x y)), 1, ?_, picked_none ..⟩
    unfold floatBits at h
    cases op <;> simp only [isAr, Bool.false_eq_true] at hop <;> simp only at h <;> simp [binOp, Op.floatArith, h, choose, Sem.run, Question.forced, World.drewN]

section
variable {P : Program} {ops : Array Oper} {rest : List Oper} {o : Oper} {a : Act} {Q : Exit → Act → World → Prop} {w : World}
theorem gateN (N : Tmp) (_hN : o.dst = some N) (h : wpList P ops Q (o :: rest) a w) : wpList P ops Q (o :: rest) a w := h
theorem wp_ev {w1 : World} {v : Value} (hg : o.guard = none) (hrun : (execOp a.eval o).run P w = .ok (.value v) w1) (h : wpList P ops Q rest (a.put o.dst v) w1) : wpList P ops Q (o :: rest) a w := by
  refine wpList_plain hg fun K hK => ?_
  unfold Oper.wp
  rw [hrun]
  exact hK _ _ h
/-- '+', '-', '*', '/' on floats. -/
theorem wp_fl (N : Tmp) (hd : o.dst = some N) (hg : o.guard = none) {op : BinOp} {t t' : TypeId} {l r : Operand} (hop : o.op = .binOp op t l r t') {k : FloatKind} {x y : Nat}
    (ha : isAr op = true) (hl : a.eval l = .float k x) (hr : a.eval r = .float k y)
    (h : ∀ b n, fN k b = fop op k (fN k x) (fN k y) → wpList P ops Q rest (a.put (some N) (.float k b)) (w.drewN n)) : wpList P ops Q (o :: rest) a w := by
  obtain ⟨b, n, hrun, hb⟩ := run_fl (P := P) w op ha t k x y
  refine wp_ev hg (w1 := w.drewN n) (v := .float k b) ?_ ?_
  · have hq : (eqGuard op t l r (.float k x) (.float k y)).run P w = .ok () w := by
      cases op <;> first | rfl | (simp [isAr] at ha)
    unfold execOp
    simp [hop, hl, hr, hrun, hq, Result.andThen]
  · rw [hd]; exact h b n hb
/-- The same where the world has been drawn already: one count. -/
theorem wp_flD {w0 : World} {m : Nat} (N : Tmp) (hd : o.dst = some N) (hg : o.guard = none) {op : BinOp} {t t' : TypeId} {l r : Operand} (hop : o.op = .binOp op t l r t') {k : FloatKind} {x y : Nat}
    (ha : isAr op = true) (hl : a.eval l = .float k x) (hr : a.eval r = .float k y)
    (h : ∀ b n, fN k b = fop op k (fN k x) (fN k y) → wpList P ops Q rest (a.put (some N) (.float k b)) (w0.drewN n)) : wpList P ops Q (o :: rest) a (w0.drewN m) :=
  wp_fl N hd hg hop ha hl hr fun b n hb => by rw [World.drewN_drewN]; exact h b (m + n) hb

theorem run_cv {P : Program} (w : World) (src dst : TypeId) (s k : FloatKind) (b : Nat) (hs : (P.underlying src).isSome = true) (hd : P.underlying dst = some (.float k)) :
    ∃ r n, (convert src dst (.float s b)).run P w = .ok (.float k r) (w.drewN n) ∧ (∀ x, floatToFloatBits s b k = some x → r = x) ∧ (fN s b = none → fN k r = none) := by
  obtain ⟨u, hs'⟩ := Option.isSome_iff_exists.1 hs
  cases h : floatToFloatBits s b k with
  | some x => exact ⟨x, 0, by rw [run_convert_float_float w src dst s k b x hs hd h, World.drewN_zero], fun y hy => by injection hy, fun hn => by
      unfold floatToFloatBits at h
      unfold fN at hn
      split at h
      · rename_i e; subst e; injection h with h; subst h; unfold fN; exact hn
      · split at h
        · cases h
        · rename_i hi; rw [hi] at hn; simp [Datum.isNaN] at hn
        · rename_i hi; rw [hi] at hn; simp [Datum.isNaN] at hn⟩
  | none =>
    unfold floatToFloatBits at h
    split at h
    · cases h
    · rename_i ne
      split at h
      · rename_i sg fr he
        refine ⟨(Question.nanConv k b).cut (w.tape w.drawn (.nanConv k b)), 1, ?_, fun x hx => (by cases hx), fun _ => pickedc_none ..⟩
        cases u <;> simp [convert, run_underlying hs', run_underlying hd, Conv.floatToFloat, ne, he, choose, Sem.run, Question.forced, World.drewN]
      · cases h
      · rename_i sg m ex he
        split at h
        · rename_i ho
          refine ⟨(Question.floatToFloat b).cut (w.tape w.drawn (.floatToFloat b)), 1, ?_, fun x hx => (by cases hx), fun hn => by unfold fN at hn; rw [he] at hn; simp [Datum.isNaN] at hn⟩
          cases u <;> simp [convert, run_underlying hs', run_underlying hd, Conv.floatToFloat, ne, he, ho, choose, Sem.run, Question.forced, World.drewN]
        · cases h
/-- A float turned to another width. -/
theorem wp_cv (N : Tmp) (hd : o.dst = some N) (hg : o.guard = none) {st dt : TypeId} {l : Operand} (hop : o.op = .convert st dt l) {s k : FloatKind} {x : Nat}
    (hl : a.eval l = .float s x) (hs : (P.underlying st).isSome = true) (hdt : P.underlying dt = some (.float k))
    (h : ∀ b n, (∀ y, floatToFloatBits s x k = some y → b = y) → (fN s x = none → fN k b = none) → wpList P ops Q rest (a.put (some N) (.float k b)) (w.drewN n)) : wpList P ops Q (o :: rest) a w := by
  obtain ⟨b, n, hrun, hb, hb2⟩ := run_cv (P := P) w st dt s k x hs hdt
  refine wp_ev hg (w1 := w.drewN n) (v := .float k b) ?_ ?_
  · unfold execOp
    simp [hop, hl, hrun, Result.andThen]
  · rw [hd]; exact h b n hb hb2
end
end Go.Proofs.YtfjafeepmpnegaaDoor
