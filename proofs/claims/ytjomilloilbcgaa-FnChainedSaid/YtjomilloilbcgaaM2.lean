/- The plain law behind FnTimes: what Times, Undo and Chain reckon over the channels that the law draws. No condition. -/
import Derived.Test.YtjomilloilbcgaaM1
import Derived.Test.YtjomilloilbcgaaD5
namespace Go.Proofs.Ytjomilloilbcgaa
open Ieee
set_option linter.unusedVariables false
set_option linter.unusedSimpArgs false

theorem product_comm (d e : Datum) : d.product e = e.product d := by
  cases d <;> cases e <;> simp [Datum.product, Bool.xor_comm, Nat.mul_comm, Int.add_comm]
theorem signed_addcomm (a b : Int) : a + b = b + a := Int.add_comm a b
theorem sum_comm (d e : Datum) : d.sum e = e.sum d := by
  cases d with
  | number s m i =>
    cases e with
    | number t n j =>
      simp only [Datum.sum]
      rw [show min j i = min i j from by omega, Int.add_comm, Bool.and_comm]
    | infinity t => rfl
    | nan t f => rfl
  | infinity s =>
    cases e with
    | number t n j => rfl
    | infinity t =>
      simp only [Datum.sum]
      by_cases h : s = t
      · subst h; rfl
      · rw [if_neg h, if_neg (fun e => h e.symm)]
    | nan t f => rfl
  | nan s f => cases e <;> rfl
theorem fmul_comm (x y : F32) : fmul x y = fmul y x := by
  unfold fmul fop
  cases x <;> cases y <;> simp [floatBits, Format.mul, product_comm]
theorem fadd_comm (x y : F32) : fadd x y = fadd y x := by
  unfold fadd fop
  cases x <;> cases y <;> simp [floatBits, Format.add, sum_comm]
theorem timesRe_comm (a b x y : F32) : timesRe a b x y = timesRe x y a b := by
  unfold timesRe; rw [fmul_comm a, fmul_comm b]
theorem timesIm_comm (a b x y : F32) : timesIm a b x y = timesIm x y a b := by
  unfold timesIm; rw [fmul_comm a, fmul_comm b, fadd_comm]

/-- What the walk asks of a channel A, O and a number re + im i. -/
structure Good (A O re im : F32) : Prop where
  ok : chOkN A O re im = true
  pow : feq (powerN re im) (fc 0) = false
  undo : chOkN (fdiv (fc 1065353216) A) (fdiv (fneg O) A) (fdiv re (powerN re im)) (fdiv (fneg im) (powerN re im)) = true
  chain : chOkN (fmul A (fdiv (fc 1065353216) A)) (fadd (fmul (fdiv (fc 1065353216) A) O) (fdiv (fneg O) A)) (timesRe re im (fdiv re (powerN re im)) (fdiv (fneg im) (powerN re im))) (timesIm re im (fdiv re (powerN re im)) (fdiv (fneg im) (powerN re im))) = true
  a1 : feq (fmul A (fdiv (fc 1065353216) A)) (fc 1065353216) = true
  o0 : feq (fadd (fmul (fdiv (fc 1065353216) A) O) (fdiv (fneg O) A)) (fc 0) = true
  r1 : feq (timesRe re im (fdiv re (powerN re im)) (fdiv (fneg im) (powerN re im))) (fc 1065353216) = true
  i0 : feq (timesIm re im (fdiv re (powerN re im)) (fdiv (fneg im) (powerN re im))) (fc 0) = true

theorem chOk_q {A O x y : F32} {a o p q : Int} (hA : Q A a) (hO : Q O o) (hx : Q x p) (hy : Q y q) (h1 : 0 < a) (h2 : a ≤ 65536) (h3 : -262144 ≤ o) (h4 : o ≤ 262144) (h5 : -65536 ≤ p) (h6 : p ≤ 65536) (h7 : -65536 ≤ q) (h8 : q ≤ 65536) : chOkN A O x y = true := by
  unfold chOkN
  rw [Q_gt hA Q_0, Q_le hA Q_16, Q_le (Q_amount hO) Q_64, Q_le (Q_amount hx) Q_16, Q_le (Q_amount hy) Q_16]
  simp; omega

/-- re, im are in units of 1/4096; pw their power, ir, ii the parts of what undoes them. -/
theorem good_q {A O x y : F32} {a o r i ia oo pw r2 i2 ir ii : Int} (hA : Q A a) (hO : Q O o) (hx : Q x r) (hy : Q y i) (hia : ia * a = 16777216) (hoo : oo * a = -o * 4096) (hao : ia * o = -oo * 4096)
    (ha1 : 0 < a) (ha2 : a ≤ 65536) (hia1 : 0 < ia) (hia2 : ia ≤ 65536) (ho : -262144 ≤ o ∧ o ≤ 262144) (hoo2 : -262144 ≤ oo ∧ oo ≤ 262144) (hr : -65536 ≤ r ∧ r ≤ 65536) (hi : -65536 ≤ i ∧ i ≤ 65536)
    (hr2 : r * r = r2 * 4096) (hi2 : i * i = i2 * 4096) (hb : 0 ≤ r2 ∧ r2 ≤ 65536 ∧ 0 ≤ i2 ∧ i2 ≤ 65536) (hpw : pw = r2 + i2) (hpw0 : 0 < pw) (hir : ir * pw = r * 4096) (hii : ii * pw = -i * 4096)
    (hir2 : -65536 ≤ ir ∧ ir ≤ 65536) (hii2 : -65536 ≤ ii ∧ ii ≤ 65536) (p1 p2 p3 p4 : Int) (q1 : r * ir = p1 * 4096) (q2 : i * ii = p2 * 4096) (q3 : r * ii = p3 * 4096) (q4 : i * ir = p4 * 4096)
    (b1 : -65536 ≤ p1 ∧ p1 ≤ 65536) (b2 : -65536 ≤ p2 ∧ p2 ≤ 65536) (b3 : -65536 ≤ p3 ∧ p3 ≤ 65536) (b4 : -65536 ≤ p4 ∧ p4 ≤ 65536) (s1 : p1 - p2 = 4096) (s2 : p3 + p4 = 0) : Good A O x y := by
  have e1 : Q (fmul x x) r2 := Q_mul hx hx hr2 (by omega) (by omega)
  have e2 : Q (fmul y y) i2 := Q_mul hy hy hi2 (by omega) (by omega)
  have e3 : Q (powerN x y) pw := by rw [hpw]; exact Q_add e1 e2 (by omega) (by omega)
  have e4 : Q (fdiv (fc 1065353216) A) ia := Q_div Q_1 hA (by omega) (by omega) (by omega) (by omega)
  have e5 : Q (fdiv (fneg O) A) oo := Q_div (Q_neg hO) hA (by omega) (by omega) (by omega) (by omega)
  have e6 : Q (fdiv x (powerN x y)) ir := Q_div hx e3 (by omega) hir (by omega) (by omega)
  have e7 : Q (fdiv (fneg y) (powerN x y)) ii := Q_div (Q_neg hy) e3 (by omega) hii (by omega) (by omega)
  have f1 : Q (fmul A (fdiv (fc 1065353216) A)) 4096 := Q_mul hA e4 (by rw [Int.mul_comm]; omega) (by omega) (by omega)
  have f2 : Q (fadd (fmul (fdiv (fc 1065353216) A) O) (fdiv (fneg O) A)) 0 := by
    have g1 : Q (fmul (fdiv (fc 1065353216) A) O) (-oo) := Q_mul e4 hO hao (by omega) (by omega)
    have := Q_add g1 e5 (by omega) (by omega)
    rw [show -oo + oo = 0 from by omega] at this
    exact this
  have f3 : Q (timesRe x y (fdiv x (powerN x y)) (fdiv (fneg y) (powerN x y))) 4096 := by
    have g1 : Q (fmul x (fdiv x (powerN x y))) p1 := Q_mul hx e6 q1 (by omega) (by omega)
    have g2 : Q (fmul y (fdiv (fneg y) (powerN x y))) p2 := Q_mul hy e7 q2 (by omega) (by omega)
    have := Q_sub g1 g2 (by omega) (by omega)
    rw [s1] at this
    exact this
  have f4 : Q (timesIm x y (fdiv x (powerN x y)) (fdiv (fneg y) (powerN x y))) 0 := by
    have g1 : Q (fmul x (fdiv (fneg y) (powerN x y))) p3 := Q_mul hx e7 q3 (by omega) (by omega)
    have g2 : Q (fmul y (fdiv x (powerN x y))) p4 := Q_mul hy e6 q4 (by omega) (by omega)
    have := Q_add g1 g2 (by omega) (by omega)
    rw [s2] at this
    exact this
  exact ⟨chOk_q hA hO hx hy ha1 ha2 ho.1 ho.2 hr.1 hr.2 hi.1 hi.2, by rw [Q_eq e3 Q_0]; simp; omega, chOk_q e4 e5 e6 e7 hia1 hia2 hoo2.1 hoo2.2 hir2.1 hir2.2 hii2.1 hii2.2,
    chOk_q f1 f2 f3 f4 (by omega) (by omega) (by omega) (by omega) (by omega) (by omega) (by omega) (by omega),
    by rw [Q_eq f1 Q_1]; rfl, by rw [Q_eq f2 Q_0]; rfl, by rw [Q_eq f3 Q_1]; rfl, by rw [Q_eq f4 Q_0]; rfl⟩

/-- 2, -1, i/2, -4i -/
theorem good_all {A O x y : Nat} (h : PlainCh A O x y) : Good (fN .f32 A) (fN .f32 O) (fc 1073741824) (fc 0) ∧ Good (fN .f32 A) (fN .f32 O) (fc 3212836864) (fc 0) ∧ Good (fN .f32 A) (fN .f32 O) (fc 0) (fc 1056964608) ∧ Good (fN .f32 A) (fN .f32 O) (fc 0) (fc 3229614080) := by
  obtain ⟨a, o, p, q, ha, ho1, ho2, _, _, _, _, hA, hO, _, _⟩ := h
  have ha' : a = 1 ∨ a = 2 ∨ a = 4 ∨ a = 8 := by simpa using ha
  have m1 : Q (fc 3212836864) (-4096) := (Q_mk 3212836864 true 8388608 126 (-4096) (by decide +kernel) (by decide +kernel))
  have h1 : Q (fc 1056964608) 2048 := (Q_mk 1056964608 false 8388608 125 (2048) (by decide +kernel) (by decide +kernel))
  have m4 : Q (fc 3229614080) (-16384) := (Q_mk 3229614080 true 8388608 128 (-16384) (by decide +kernel) (by decide +kernel))
  -- 1/A = 4/a, -O/A = -(o/8)/(a/4) = -o/(2a)
  rcases ha' with rfl | rfl | rfl | rfl
  · refine ⟨?_, ?_, ?_, ?_⟩
    · exact good_q (a := 1024) (o := o * 512) (ia := 16384) (oo := -o * 2048) (pw := 16384) (r2 := 16384) (i2 := 0) (ir := 2048) (ii := 0) hA hO Q_2 Q_0 (by omega) (by omega) (by omega) (by omega) (by omega) (by omega) (by omega) (by omega) (by omega) (by omega) (by omega) (by omega) (by omega) (by omega) (by omega) (by omega) (by omega) (by omega) (by omega) (by omega) (4096) (0) (0) (0) (by omega) (by omega) (by omega) (by omega) (by omega) (by omega) (by omega) (by omega) (by omega) (by omega)
    · exact good_q (a := 1024) (o := o * 512) (ia := 16384) (oo := -o * 2048) (pw := 4096) (r2 := 4096) (i2 := 0) (ir := -4096) (ii := 0) hA hO m1 Q_0 (by omega) (by omega) (by omega) (by omega) (by omega) (by omega) (by omega) (by omega) (by omega) (by omega) (by omega) (by omega) (by omega) (by omega) (by omega) (by omega) (by omega) (by omega) (by omega) (by omega) (4096) (0) (0) (0) (by omega) (by omega) (by omega) (by omega) (by omega) (by omega) (by omega) (by omega) (by omega) (by omega)
    · exact good_q (a := 1024) (o := o * 512) (ia := 16384) (oo := -o * 2048) (pw := 1024) (r2 := 0) (i2 := 1024) (ir := 0) (ii := -8192) hA hO Q_0 h1 (by omega) (by omega) (by omega) (by omega) (by omega) (by omega) (by omega) (by omega) (by omega) (by omega) (by omega) (by omega) (by omega) (by omega) (by omega) (by omega) (by omega) (by omega) (by omega) (by omega) (0) (-4096) (0) (0) (by omega) (by omega) (by omega) (by omega) (by omega) (by omega) (by omega) (by omega) (by omega) (by omega)
    · exact good_q (a := 1024) (o := o * 512) (ia := 16384) (oo := -o * 2048) (pw := 65536) (r2 := 0) (i2 := 65536) (ir := 0) (ii := 1024) hA hO Q_0 m4 (by omega) (by omega) (by omega) (by omega) (by omega) (by omega) (by omega) (by omega) (by omega) (by omega) (by omega) (by omega) (by omega) (by omega) (by omega) (by omega) (by omega) (by omega) (by omega) (by omega) (0) (-4096) (0) (0) (by omega) (by omega) (by omega) (by omega) (by omega) (by omega) (by omega) (by omega) (by omega) (by omega)
  · refine ⟨?_, ?_, ?_, ?_⟩
    · exact good_q (a := 2048) (o := o * 512) (ia := 8192) (oo := -o * 1024) (pw := 16384) (r2 := 16384) (i2 := 0) (ir := 2048) (ii := 0) hA hO Q_2 Q_0 (by omega) (by omega) (by omega) (by omega) (by omega) (by omega) (by omega) (by omega) (by omega) (by omega) (by omega) (by omega) (by omega) (by omega) (by omega) (by omega) (by omega) (by omega) (by omega) (by omega) (4096) (0) (0) (0) (by omega) (by omega) (by omega) (by omega) (by omega) (by omega) (by omega) (by omega) (by omega) (by omega)
    · exact good_q (a := 2048) (o := o * 512) (ia := 8192) (oo := -o * 1024) (pw := 4096) (r2 := 4096) (i2 := 0) (ir := -4096) (ii := 0) hA hO m1 Q_0 (by omega) (by omega) (by omega) (by omega) (by omega) (by omega) (by omega) (by omega) (by omega) (by omega) (by omega) (by omega) (by omega) (by omega) (by omega) (by omega) (by omega) (by omega) (by omega) (by omega) (4096) (0) (0) (0) (by omega) (by omega) (by omega) (by omega) (by omega) (by omega) (by omega) (by omega) (by omega) (by omega)
    · exact good_q (a := 2048) (o := o * 512) (ia := 8192) (oo := -o * 1024) (pw := 1024) (r2 := 0) (i2 := 1024) (ir := 0) (ii := -8192) hA hO Q_0 h1 (by omega) (by omega) (by omega) (by omega) (by omega) (by omega) (by omega) (by omega) (by omega) (by omega) (by omega) (by omega) (by omega) (by omega) (by omega) (by omega) (by omega) (by omega) (by omega) (by omega) (0) (-4096) (0) (0) (by omega) (by omega) (by omega) (by omega) (by omega) (by omega) (by omega) (by omega) (by omega) (by omega)
    · exact good_q (a := 2048) (o := o * 512) (ia := 8192) (oo := -o * 1024) (pw := 65536) (r2 := 0) (i2 := 65536) (ir := 0) (ii := 1024) hA hO Q_0 m4 (by omega) (by omega) (by omega) (by omega) (by omega) (by omega) (by omega) (by omega) (by omega) (by omega) (by omega) (by omega) (by omega) (by omega) (by omega) (by omega) (by omega) (by omega) (by omega) (by omega) (0) (-4096) (0) (0) (by omega) (by omega) (by omega) (by omega) (by omega) (by omega) (by omega) (by omega) (by omega) (by omega)
  · refine ⟨?_, ?_, ?_, ?_⟩
    · exact good_q (a := 4096) (o := o * 512) (ia := 4096) (oo := -o * 512) (pw := 16384) (r2 := 16384) (i2 := 0) (ir := 2048) (ii := 0) hA hO Q_2 Q_0 (by omega) (by omega) (by omega) (by omega) (by omega) (by omega) (by omega) (by omega) (by omega) (by omega) (by omega) (by omega) (by omega) (by omega) (by omega) (by omega) (by omega) (by omega) (by omega) (by omega) (4096) (0) (0) (0) (by omega) (by omega) (by omega) (by omega) (by omega) (by omega) (by omega) (by omega) (by omega) (by omega)
    · exact good_q (a := 4096) (o := o * 512) (ia := 4096) (oo := -o * 512) (pw := 4096) (r2 := 4096) (i2 := 0) (ir := -4096) (ii := 0) hA hO m1 Q_0 (by omega) (by omega) (by omega) (by omega) (by omega) (by omega) (by omega) (by omega) (by omega) (by omega) (by omega) (by omega) (by omega) (by omega) (by omega) (by omega) (by omega) (by omega) (by omega) (by omega) (4096) (0) (0) (0) (by omega) (by omega) (by omega) (by omega) (by omega) (by omega) (by omega) (by omega) (by omega) (by omega)
    · exact good_q (a := 4096) (o := o * 512) (ia := 4096) (oo := -o * 512) (pw := 1024) (r2 := 0) (i2 := 1024) (ir := 0) (ii := -8192) hA hO Q_0 h1 (by omega) (by omega) (by omega) (by omega) (by omega) (by omega) (by omega) (by omega) (by omega) (by omega) (by omega) (by omega) (by omega) (by omega) (by omega) (by omega) (by omega) (by omega) (by omega) (by omega) (0) (-4096) (0) (0) (by omega) (by omega) (by omega) (by omega) (by omega) (by omega) (by omega) (by omega) (by omega) (by omega)
    · exact good_q (a := 4096) (o := o * 512) (ia := 4096) (oo := -o * 512) (pw := 65536) (r2 := 0) (i2 := 65536) (ir := 0) (ii := 1024) hA hO Q_0 m4 (by omega) (by omega) (by omega) (by omega) (by omega) (by omega) (by omega) (by omega) (by omega) (by omega) (by omega) (by omega) (by omega) (by omega) (by omega) (by omega) (by omega) (by omega) (by omega) (by omega) (0) (-4096) (0) (0) (by omega) (by omega) (by omega) (by omega) (by omega) (by omega) (by omega) (by omega) (by omega) (by omega)
  · refine ⟨?_, ?_, ?_, ?_⟩
    · exact good_q (a := 8192) (o := o * 512) (ia := 2048) (oo := -o * 256) (pw := 16384) (r2 := 16384) (i2 := 0) (ir := 2048) (ii := 0) hA hO Q_2 Q_0 (by omega) (by omega) (by omega) (by omega) (by omega) (by omega) (by omega) (by omega) (by omega) (by omega) (by omega) (by omega) (by omega) (by omega) (by omega) (by omega) (by omega) (by omega) (by omega) (by omega) (4096) (0) (0) (0) (by omega) (by omega) (by omega) (by omega) (by omega) (by omega) (by omega) (by omega) (by omega) (by omega)
    · exact good_q (a := 8192) (o := o * 512) (ia := 2048) (oo := -o * 256) (pw := 4096) (r2 := 4096) (i2 := 0) (ir := -4096) (ii := 0) hA hO m1 Q_0 (by omega) (by omega) (by omega) (by omega) (by omega) (by omega) (by omega) (by omega) (by omega) (by omega) (by omega) (by omega) (by omega) (by omega) (by omega) (by omega) (by omega) (by omega) (by omega) (by omega) (4096) (0) (0) (0) (by omega) (by omega) (by omega) (by omega) (by omega) (by omega) (by omega) (by omega) (by omega) (by omega)
    · exact good_q (a := 8192) (o := o * 512) (ia := 2048) (oo := -o * 256) (pw := 1024) (r2 := 0) (i2 := 1024) (ir := 0) (ii := -8192) hA hO Q_0 h1 (by omega) (by omega) (by omega) (by omega) (by omega) (by omega) (by omega) (by omega) (by omega) (by omega) (by omega) (by omega) (by omega) (by omega) (by omega) (by omega) (by omega) (by omega) (by omega) (by omega) (0) (-4096) (0) (0) (by omega) (by omega) (by omega) (by omega) (by omega) (by omega) (by omega) (by omega) (by omega) (by omega)
    · exact good_q (a := 8192) (o := o * 512) (ia := 2048) (oo := -o * 256) (pw := 65536) (r2 := 0) (i2 := 65536) (ir := 0) (ii := 1024) hA hO Q_0 m4 (by omega) (by omega) (by omega) (by omega) (by omega) (by omega) (by omega) (by omega) (by omega) (by omega) (by omega) (by omega) (by omega) (by omega) (by omega) (by omega) (by omega) (by omega) (by omega) (by omega) (0) (-4096) (0) (0) (by omega) (by omega) (by omega) (by omega) (by omega) (by omega) (by omega) (by omega) (by omega) (by omega)

/-! ### a factor 1, a factor i -/
theorem rep_of_val {b : Nat} {Z : Int} (h : Val single b Z) : Rep single 254 Z.natAbs := by
  obtain ⟨s, m, e, h1, rfl⟩ := h
  have hb : single.binade = 8388608 := by decide
  have hi : single.infRung = 2139095040 := by decide
  have hlp : single.leastPlace = -149 := by decide
  have key : m < 2 * single.binade ∧ e ≤ 253 := by
    unfold Format.read at h1
    simp only [] at h1
    rw [hb]
    split at h1
    · rename_i hr
      injection h1 with _ h2 h3
      omega
    · split at h1
      · rename_i hr1 hr2
        injection h1 with _ h2 h3
        rw [hb, hi, hlp] at *
        omega
      · split at h1 <;> cases h1
  refine ⟨m, e, signed_natAbs s m e, key.1, ?_⟩
  have h2 : m < 2 ^ 24 := by have := key.1; rw [hb] at this; omega
  have h3 : m * 2 ^ e < 2 ^ 24 * 2 ^ e := Nat.mul_lt_mul_of_pos_right h2 (pow_pos2 _)
  refine Nat.lt_of_lt_of_le h3 (Nat.le_trans (Nat.le_of_eq (Nat.pow_add 2 24 e).symm) (Nat.pow_le_pow_right (by decide) ?_))
  have : single.fractionBits = 23 := rfl
  omega
def V (x : F32) (Z : Int) : Prop := ∃ b, x = some b ∧ Val single b Z
theorem V_mul1 {x : F32} {X : Int} (hx : V x X) : V (fmul x (fc 1065353216)) X := by
  obtain ⟨b, rfl, hb⟩ := hx
  obtain ⟨c, hc1, hc⟩ := Q_1
  rw [hc1]
  obtain ⟨r, h3, h4⟩ := mul_val (Z := X) 254 single_room single_least hb hc (by
    have e : (4096 : Int) = 2 ^ 12 := by decide
    rw [e, ← pow_split]) (rep_of_val hb)
  exact ⟨r, h3, h4⟩
theorem V_mul0 {x : F32} {X : Int} (hx : V x X) : V (fmul x (fc 0)) 0 := by
  obtain ⟨b, rfl, hb⟩ := hx
  obtain ⟨c, hc1, hc⟩ := Q_0
  rw [hc1]
  obtain ⟨r, h3, h4⟩ := mul_val (Z := 0) 254 single_room single_least hb hc (by simp) ⟨0, 0, rfl, by decide, by simp; exact pow_pos2 _⟩
  exact ⟨r, h3, h4⟩
theorem V_sub0 {x y : F32} {X : Int} (hx : V x X) (hy : V y 0) : V (fsub x y) X := by
  obtain ⟨b, rfl, hb⟩ := hx
  obtain ⟨c, rfl, hc⟩ := hy
  obtain ⟨r, h3, h4⟩ := sub_val 254 single_room hb hc (by rw [Int.sub_zero]; exact rep_of_val hb)
  exact ⟨r, h3, by rw [Int.sub_zero] at h4; exact h4⟩
theorem V_add0 {x y : F32} {X : Int} (hx : V x X) (hy : V y 0) : V (fadd x y) X := by
  obtain ⟨b, rfl, hb⟩ := hx
  obtain ⟨c, rfl, hc⟩ := hy
  obtain ⟨r, h3, h4⟩ := sum_val 254 single_room hb hc (by rw [Int.add_zero]; exact rep_of_val hb)
  exact ⟨r, h3, by rw [Int.add_zero] at h4; exact h4⟩
theorem V_add0' {x y : F32} {X : Int} (hx : V x 0) (hy : V y X) : V (fadd x y) X := by rw [fadd_comm]; exact V_add0 hy hx
theorem V_0sub {x y : F32} {X : Int} (hx : V x 0) (hy : V y X) : V (fsub x y) (-X) := by
  obtain ⟨b, rfl, hb⟩ := hx
  obtain ⟨c, rfl, hc⟩ := hy
  obtain ⟨r, h3, h4⟩ := sub_val 254 single_room hb hc (by rw [Int.zero_sub, Int.natAbs_neg]; exact rep_of_val hc)
  exact ⟨r, h3, by rw [Int.zero_sub] at h4; exact h4⟩
theorem V_neg {x : F32} {X : Int} (hx : V x X) : V (fneg x) (-X) := by
  obtain ⟨b, rfl, hb⟩ := hx
  exact ⟨_, rfl, neg_val .f32 hb⟩
theorem V_eq {x y : F32} {X : Int} (hx : V x X) (hy : V y X) : feq x y = true := by
  obtain ⟨b, rfl, hb⟩ := hx
  obtain ⟨c, rfl, hc⟩ := hy
  have : ford .f32 (some b) (some c) = some (compare X X) := order_val hb hc
  unfold feq
  rw [this, cmpInt, if_neg (by omega), if_pos rfl]; rfl
theorem fine_V {b : Nat} (h : fineN (fN .f32 b) = true) : ∃ X, V (fN .f32 b) X := by
  unfold fineN fc at h
  rw [← o_ge, ← o_le] at h
  simp only [Bool.and_eq_true] at h
  have hn : fN .f32 b = some b ∧ ∃ s m e, single.read b = .number s m e := by
    have hd : FloatKind.f32.format = single := rfl
    rw [hd] at h
    unfold Format.order at h
    have r1 : single.read 3279945728 = .number true 8388608 (single.leastPlace + (134 : Nat)) := by decide +kernel
    have r2 : single.read 1132462080 = .number false 8388608 (single.leastPlace + (134 : Nat)) := by decide +kernel
    rw [r1, r2] at h
    cases hr : single.read b with
    | nan s t => rw [hr] at h; simp [Datum.order] at h
    | infinity s => rw [hr] at h; cases s <;> simp [Datum.order] at h
    | number s m e =>
      refine ⟨?_, s, m, e, rfl⟩
      have : (FloatKind.f32.decode b).isNaN = false := by show (single.read b).isNaN = false; rw [hr]; rfl
      unfold fN; rw [this]; rfl
  obtain ⟨h1, s, m, e, h2⟩ := hn
  obtain ⟨k, hk⟩ : ∃ k : Nat, e = single.leastPlace + (k : Nat) := ⟨(e - single.leastPlace).toNat, by have := read_place h2; omega⟩
  subst hk
  exact ⟨_, b, h1, s, m, k, h2, rfl⟩
theorem times_one {a b : Nat} (ha : fineN (fN .f32 a) = true) (hb : fineN (fN .f32 b) = true) : feq (timesRe (fN .f32 a) (fN .f32 b) (fc 1065353216) (fc 0)) (fN .f32 a) = true ∧ feq (timesIm (fN .f32 a) (fN .f32 b) (fc 1065353216) (fc 0)) (fN .f32 b) = true ∧
    feq (timesRe (fN .f32 a) (fN .f32 b) (fc 0) (fc 1065353216)) (fneg (fN .f32 b)) = true ∧ feq (timesIm (fN .f32 a) (fN .f32 b) (fc 0) (fc 1065353216)) (fN .f32 a) = true := by
  obtain ⟨X, hX⟩ := fine_V ha
  obtain ⟨Y, hY⟩ := fine_V hb
  refine ⟨V_eq (V_sub0 (V_mul1 hX) (V_mul0 hY)) hX, V_eq (V_add0' (V_mul0 hX) (V_mul1 hY)) hY, V_eq (V_0sub (V_mul0 hX) (V_mul1 hY)) (V_neg hY), V_eq (V_add0 (V_mul1 hX) (V_mul0 hY)) hX⟩
end Go.Proofs.Ytjomilloilbcgaa
