/- The plain law behind FnChained: channels of small dyadic numbers reckon exactly. No condition. -/
import Derived.Test.YtjomilloilbcgaaC7
import Derived.Test.YtjomilloilbcgaaT1
namespace Go.Proofs.Ytjomilloilbcgaa
open Ieee
set_option linter.unusedVariables false
set_option linter.unusedSimpArgs false

theorem four_at {α : Type} (f : α → List F32) (hf : ∀ a, (f a).length = 4) : ∀ (l : List α) (i : Nat) (hi : i < l.length) (j : Nat), j < 4 → (l.flatMap f).getD (4 * i + j) none = (f l[i]).getD j none := by
  intro l
  induction l with
  | nil => intro i hi; simp at hi
  | cons a l ih =>
    intro i hi j hj
    cases i with
    | zero =>
      simp only [List.flatMap_cons, List.getElem_cons_zero, Nat.mul_zero, Nat.zero_add]
      rw [List.getD_eq_getElem?_getD, List.getElem?_append_left (by rw [hf]; exact hj), ← List.getD_eq_getElem?_getD]
    | succ i =>
      simp only [List.flatMap_cons, List.getElem_cons_succ]
      rw [List.getD_eq_getElem?_getD, List.getElem?_append_right (by rw [hf]; omega), hf, show 4 * (i + 1) + j - 4 = 4 * i + j by omega, ← List.getD_eq_getElem?_getD]
      exact ih i (by simpa using hi) j hj
theorem four_len {α : Type} (f : α → List F32) (hf : ∀ a, (f a).length = 4) (l : List α) : (l.flatMap f).length = 4 * l.length := by
  induction l with
  | nil => rfl
  | cons a l ih => rw [List.flatMap_cons, List.length_append, hf, ih, List.length_cons]; omega

/-- A list of m fours that tell exactly of brightnesses Y and colours U + iV, in units of 1/4096. -/
def Enc (fs : List F32) (m : Nat) (Y U V : Nat → Int) : Prop := fs.length = 4 * m ∧ ∀ i, i < m →
  Q (fs.getD (4 * i) none) (Y i + U i) ∧ Q (fs.getD (4 * i + 1) none) (Y i - V i) ∧ Q (fs.getD (4 * i + 2) none) (Y i - U i) ∧ Q (fs.getD (4 * i + 3) none) (Y i + V i)
theorem Q_fneg {x : F32} {k : Int} (h : Q x k) : Q (fneg x) (-k) := Q_neg h
theorem Q_conj (odd : Bool) {x : F32} {k : Int} (h : Q x k) : Q (conjN odd x) (if odd then -k else k) := by
  cases odd
  · exact h
  · exact Q_neg h
/-- Fours from a brightness and a colour. -/
theorem Q_four {y u v : F32} {Y U V : Int} (hy : Q y Y) (hu : Q u U) (hv : Q v V) (h1 : -16777216 < Y + U) (h2 : Y + U < 16777216) (h3 : -16777216 < Y - V) (h4 : Y - V < 16777216) (h5 : -16777216 < Y - U) (h6 : Y - U < 16777216) (h7 : -16777216 < Y + V) (h8 : Y + V < 16777216) :
    Q (fadd y (carN 0 u v)) (Y + U) ∧ Q (fadd y (carN 1 u v)) (Y - V) ∧ Q (fadd y (carN 2 u v)) (Y - U) ∧ Q (fadd y (carN 3 u v)) (Y + V) :=
  ⟨Q_add hy hu h1 h2, by have := Q_add hy (Q_fneg hv) (by omega) (by omega); rw [← Int.sub_eq_add_neg] at this; exact this,
   by have := Q_add hy (Q_fneg hu) (by omega) (by omega); rw [← Int.sub_eq_add_neg] at this; exact this, Q_add hy hv h7 h8⟩
theorem enc_of (odd : Bool) (cs : List (Nat × Nat × Nat)) (Y U V : Nat → Int) (B : Int) (hB : 2 * B < 16777216)
    (h : ∀ i (hi : i < cs.length), Q (fN .f32 cs[i].1) (Y i) ∧ Q (fN .f32 cs[i].2.1) (U i) ∧ Q (fN .f32 cs[i].2.2) (V i))
    (hb : ∀ i, i < cs.length → -B ≤ Y i ∧ Y i ≤ B ∧ -B ≤ U i ∧ U i ≤ B ∧ -B ≤ V i ∧ V i ≤ B) : Enc (encN odd cs) cs.length Y U (fun i => if odd then -V i else V i) := by
  refine ⟨encN_len odd cs, fun i hi => ?_⟩
  obtain ⟨hy, hu, hv⟩ := h i hi
  obtain ⟨b1, b2, b3, b4, b5, b6⟩ := hb i hi
  have hv' := Q_conj odd hv
  have c5 : -B ≤ (if odd then -V i else V i) ∧ (if odd then -V i else V i) ≤ B := by split <;> omega
  have q := Q_four hy hu hv' (by omega) (by omega) (by omega) (by omega) (by omega) (by omega) (by omega) (by omega)
  have e := four_at (cellS odd) (cellS_len odd) cs i hi
  have e0 := e 0 (by omega)
  have e1 := e 1 (by omega)
  have e2 := e 2 (by omega)
  have e3 := e 3 (by omega)
  rw [Nat.add_zero] at e0
  unfold encN
  rw [e0, e1, e2, e3]
  exact q
theorem Q_decode {s t u v : F32} {Y U V : Int} (hs : Q s (Y + U)) (ht : Q t (Y - V)) (hu : Q u (Y - U)) (hv : Q v (Y + V)) (B : Int) (hB : 4 * B < 16777216) (b1 : -B ≤ Y + U) (b2 : Y + U ≤ B) (b3 : -B ≤ Y - V) (b4 : Y - V ≤ B) (b5 : -B ≤ Y - U) (b6 : Y - U ≤ B) (b7 : -B ≤ Y + V) (b8 : Y + V ≤ B) :
    Q (decY s t u v) Y ∧ Q (decR s u) U ∧ Q (decI false t v) V := by
  refine ⟨?_, ?_, ?_⟩
  · have q1 := Q_add hs ht (by omega) (by omega)
    have q2 := Q_add q1 hu (by omega) (by omega)
    have q3 := Q_add q2 hv (by omega) (by omega)
    exact Q_div q3 Q_4 (by decide) (by omega) (by omega) (by omega)
  · exact Q_div (Q_sub hs hu (by omega) (by omega)) Q_2 (by decide) (by omega) (by omega) (by omega)
  · exact Q_div (Q_sub hv ht (by omega) (by omega)) Q_2 (by decide) (by omega) (by omega) (by omega)
/-- What four samples become. -/
theorem tx_cell {A O x y s t u v : F32} {a o p q Y U V Y' U' V' m1 m2 m3 m4 : Int} (hA : Q A a) (hO : Q O o) (hx : Q x p) (hy : Q y q) (hs : Q s (Y + U)) (ht : Q t (Y - V)) (hu : Q u (Y - U)) (hv : Q v (Y + V))
    (B : Int) (hB : 4 * B < 16777216) (b1 : -B ≤ Y + U) (b2 : Y + U ≤ B) (b3 : -B ≤ Y - V) (b4 : Y - V ≤ B) (b5 : -B ≤ Y - U) (b6 : Y - U ≤ B) (b7 : -B ≤ Y + V) (b8 : Y + V ≤ B)
    (e0 : a * Y = (Y' - o) * 4096) (e1 : U * p = m1 * 4096) (e2 : V * q = m2 * 4096) (e3 : U * q = m3 * 4096) (e4 : V * p = m4 * 4096) (eU : U' = m1 - m2) (eV : V' = m3 + m4)
    (C : Int) (hC : 2 * C < 16777216) (c1 : -C ≤ Y' - o) (c2 : Y' - o ≤ C) (c3 : -C ≤ Y') (c4 : Y' ≤ C) (c5 : -C ≤ m1) (c6 : m1 ≤ C) (c7 : -C ≤ m2) (c8 : m2 ≤ C) (c9 : -C ≤ m3) (c10 : m3 ≤ C) (c11 : -C ≤ m4) (c12 : m4 ≤ C) (c13 : -C ≤ U') (c14 : U' ≤ C) (c15 : -C ≤ V') (c16 : V' ≤ C) :
    Q ((txCell A O x y s t u v).getD 0 none) (Y' + U') ∧ Q ((txCell A O x y s t u v).getD 1 none) (Y' - V') ∧ Q ((txCell A O x y s t u v).getD 2 none) (Y' - U') ∧ Q ((txCell A O x y s t u v).getD 3 none) (Y' + V') := by
  obtain ⟨dY, dU, dV⟩ := Q_decode hs ht hu hv B hB b1 b2 b3 b4 b5 b6 b7 b8
  have y1 : Q (fmul A (decY s t u v)) (Y' - o) := Q_mul hA dY e0 (by omega) (by omega)
  have y2 : Q (fadd (fmul A (decY s t u v)) O) Y' := by
    have := Q_add y1 hO (by omega) (by omega)
    rw [show Y' - o + o = Y' by omega] at this; exact this
  have r1 : Q (timesRe (decR s u) (decI false t v) x y) U' := by
    rw [eU]; exact Q_sub (Q_mul dU hx e1 (by omega) (by omega)) (Q_mul dV hy e2 (by omega) (by omega)) (by omega) (by omega)
  have i1 : Q (timesIm (decR s u) (decI false t v) x y) V' := by
    rw [eV]; exact Q_add (Q_mul dU hy e3 (by omega) (by omega)) (Q_mul dV hx e4 (by omega) (by omega)) (by omega) (by omega)
  exact Q_four y2 r1 i1 (by omega) (by omega) (by omega) (by omega) (by omega) (by omega) (by omega) (by omega)
theorem enc_tx {fs : List F32} {m : Nat} {Y U V Y' U' V' m1 m2 m3 m4 : Nat → Int} {A O x y : F32} {a o p q : Int} (h : Enc fs m Y U V) (hA : Q A a) (hO : Q O o) (hx : Q x p) (hy : Q y q) (B : Int) (hB : 4 * B < 16777216)
    (hb : ∀ i, i < m → -B ≤ Y i + U i ∧ Y i + U i ≤ B ∧ -B ≤ Y i - V i ∧ Y i - V i ≤ B ∧ -B ≤ Y i - U i ∧ Y i - U i ≤ B ∧ -B ≤ Y i + V i ∧ Y i + V i ≤ B)
    (he : ∀ i, i < m → a * Y i = (Y' i - o) * 4096 ∧ U i * p = m1 i * 4096 ∧ V i * q = m2 i * 4096 ∧ U i * q = m3 i * 4096 ∧ V i * p = m4 i * 4096 ∧ U' i = m1 i - m2 i ∧ V' i = m3 i + m4 i)
    (C : Int) (hC : 2 * C < 16777216) (hc : ∀ i, i < m → -C ≤ Y' i - o ∧ Y' i - o ≤ C ∧ -C ≤ Y' i ∧ Y' i ≤ C ∧ -C ≤ m1 i ∧ m1 i ≤ C ∧ -C ≤ m2 i ∧ m2 i ≤ C ∧ -C ≤ m3 i ∧ m3 i ≤ C ∧ -C ≤ m4 i ∧ m4 i ≤ C ∧ -C ≤ U' i ∧ U' i ≤ C ∧ -C ≤ V' i ∧ V' i ≤ C) :
    Enc (trN A O x y fs) m Y' U' V' := by
  have hm : fs.length / 4 = m := by rw [h.1]; omega
  refine ⟨?_, fun i hi => ?_⟩
  · unfold trN trK
    rw [four_len _ (fun a => rfl), List.length_range, hm]
  · obtain ⟨hs, ht, hu, hv⟩ := h.2 i hi
    obtain ⟨b1, b2, b3, b4, b5, b6, b7, b8⟩ := hb i hi
    obtain ⟨e0, e1, e2, e3, e4, eU, eV⟩ := he i hi
    obtain ⟨c1, c2, c3, c4, c5, c6, c7, c8, c9, c10, c11, c12, c13, c14, c15, c16⟩ := hc i hi
    have q := tx_cell hA hO hx hy hs ht hu hv B hB b1 b2 b3 b4 b5 b6 b7 b8 e0 e1 e2 e3 e4 eU eV C hC c1 c2 c3 c4 c5 c6 c7 c8 c9 c10 c11 c12 c13 c14 c15 c16
    have e := four_at (fun i => txCell A O x y (fs.getD (4 * i) none) (fs.getD (4 * i + 1) none) (fs.getD (4 * i + 2) none) (fs.getD (4 * i + 3) none)) (fun a => rfl) (List.range m) i (by rw [List.length_range]; exact hi)
    have f0 := e 0 (by omega)
    have f1 := e 1 (by omega)
    have f2 := e 2 (by omega)
    have f3 := e 3 (by omega)
    rw [Nat.add_zero] at f0
    rw [List.getElem_range] at f0 f1 f2 f3
    unfold trN trK
    rw [hm, f0, f1, f2, f3]
    exact q
theorem sampleOk_Q {x : F32} {k : Int} (h : Q x k) (h1 : -4194304 ≤ k) (h2 : k ≤ 4194304) : sampleOk x = true := by
  unfold sampleOk
  have := Q_le (Q_amount h) Q_1024
  unfold fc at *
  rw [this]; simp; omega
theorem enc_ok {fs : List F32} {m : Nat} {Y U V : Nat → Int} (h : Enc fs m Y U V) (h1 : 1 ≤ m) (h2 : m ≤ 1024)
    (hb : ∀ i, i < m → -4194304 ≤ Y i + U i ∧ Y i + U i ≤ 4194304 ∧ -4194304 ≤ Y i - V i ∧ Y i - V i ≤ 4194304 ∧ -4194304 ≤ Y i - U i ∧ Y i - U i ≤ 4194304 ∧ -4194304 ≤ Y i + V i ∧ Y i + V i ≤ 4194304) : samplesOkN fs = true := by
  have hl := h.1
  have e1 : decide (4 ≤ fs.length) = true := by simp; omega
  have e2 : decide (fs.length ≤ 4096) = true := by simp; omega
  have e3 : decide (fs.length % 4 = 0) = true := by simp; omega
  have e4 : fs.all sampleOk = true := by
    rw [List.all_eq_true]
    intro x hx
    obtain ⟨j, hj, rfl⟩ := List.getElem_of_mem hx
    have hg : fs[j] = fs.getD j none := by simp [hj]
    rw [hg]
    have hi : j / 4 < m := by omega
    obtain ⟨q1, q2, q3, q4⟩ := h.2 (j / 4) hi
    obtain ⟨b1, b2, b3, b4, b5, b6, b7, b8⟩ := hb (j / 4) hi
    rcases (show j = 4 * (j / 4) ∨ j = 4 * (j / 4) + 1 ∨ j = 4 * (j / 4) + 2 ∨ j = 4 * (j / 4) + 3 by omega) with e | e | e | e <;> rw [e]
    · exact sampleOk_Q q1 b1 b2
    · exact sampleOk_Q q2 b3 b4
    · exact sampleOk_Q q3 b5 b6
    · exact sampleOk_Q q4 b7 b8
  simp [samplesOkN, e1, e2, e3, e4]
theorem enc_eq {fs gs : List F32} {m : Nat} {Y U V : Nat → Int} (h : Enc fs m Y U V) (h' : Enc gs m Y U V) : fs.length = gs.length ∧ ∀ j, j < fs.length → feq (fs.getD j none) (gs.getD j none) = true := by
  refine ⟨by rw [h.1, h'.1], fun j hj => ?_⟩
  have hl := h.1
  have hi : j / 4 < m := by omega
  obtain ⟨q1, q2, q3, q4⟩ := h.2 (j / 4) hi
  obtain ⟨r1, r2, r3, r4⟩ := h'.2 (j / 4) hi
  rcases (show j = 4 * (j / 4) ∨ j = 4 * (j / 4) + 1 ∨ j = 4 * (j / 4) + 2 ∨ j = 4 * (j / 4) + 3 by omega) with e | e | e | e <;> rw [e]
  · rw [Q_eq q1 r1]; simp
  · rw [Q_eq q2 r2]; simp
  · rw [Q_eq q3 r3]; simp
  · rw [Q_eq q4 r4]; simp
end Go.Proofs.Ytjomilloilbcgaa
