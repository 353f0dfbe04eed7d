/- The plain law of FnChained: over the rows and channels that the law draws. No condition. -/
import Derived.Test.YtjomilloilbcgaaM3
namespace Go.Proofs.Ytjomilloilbcgaa
open Ieee
set_option linter.unusedVariables false
set_option linter.unusedSimpArgs false

theorem mulB {a k m n : Int} (h1 : -m ≤ a) (h2 : a ≤ m) (h3 : -n ≤ k) (h4 : k ≤ n) : -(m * n) ≤ a * k ∧ a * k ≤ m * n := by
  have ha : a.natAbs ≤ m.natAbs := by omega
  have hk : k.natAbs ≤ n.natAbs := by omega
  have h := Nat.mul_le_mul ha hk
  rw [← Int.natAbs_mul, ← Int.natAbs_mul] at h
  have hm : 0 ≤ m := by omega
  have hn : 0 ≤ n := by omega
  have := Int.mul_nonneg hm hn
  omega
theorem chOk_Q {A O x y : F32} {a o p q : Int} (hA : Q A a) (hO : Q O o) (hx : Q x p) (hy : Q y q) (h1 : 0 < a) (h2 : a ≤ 65536) (h3 : -262144 ≤ o) (h4 : o ≤ 262144) (h5 : -65536 ≤ p) (h6 : p ≤ 65536) (h7 : -65536 ≤ q) (h8 : q ≤ 65536) : chOkN A O x y = true := by
  have e1 := Q_gt hA Q_0
  have e2 := Q_le hA Q_16
  have e3 := Q_le (Q_amount hO) Q_64
  have e4 := Q_le (Q_amount hx) Q_16
  have e5 := Q_le (Q_amount hy) Q_16
  unfold chOkN
  rw [e1, e2, e3, e4, e5]
  simp
  omega
structure Chained (A O x y A2 O2 x2 y2 : F32) (fs : List F32) : Prop where
  ok1 : chOkN A O x y = true
  ok2 : chOkN A2 O2 x2 y2 = true
  ok3 : chOkN (fmul A A2) (fadd (fmul A2 O) O2) (timesRe x y x2 y2) (timesIm x y x2 y2) = true
  s0 : samplesOkN fs = true
  s1 : samplesOkN (trN A O x y fs) = true
  s2 : samplesOkN (trN A2 O2 x2 y2 (trN A O x y fs)) = true
  s3 : samplesOkN (trN (fmul A A2) (fadd (fmul A2 O) O2) (timesRe x y x2 y2) (timesIm x y x2 y2) fs) = true
  len : (trN A2 O2 x2 y2 (trN A O x y fs)).length = (trN (fmul A A2) (fadd (fmul A2 O) O2) (timesRe x y x2 y2) (timesIm x y x2 y2) fs).length
  eq : ∀ j, j < (trN A2 O2 x2 y2 (trN A O x y fs)).length → feq ((trN A2 O2 x2 y2 (trN A O x y fs)).getD j none) ((trN (fmul A A2) (fadd (fmul A2 O) O2) (timesRe x y x2 y2) (timesIm x y x2 y2) fs).getD j none) = true
theorem pick_cells (cs : List (Nat × Nat × Nat)) (h : ∀ c ∈ cs, PlainCell c) : ∃ K P R : Nat → Int, ∀ i (hi : i < cs.length), (Q (fN .f32 cs[i].1) (K i * 256) ∧ Q (fN .f32 cs[i].2.1) (P i * 256) ∧ Q (fN .f32 cs[i].2.2) (R i * 256)) ∧ -1024 ≤ K i ∧ K i ≤ 1024 ∧ -512 ≤ P i ∧ P i ≤ 512 ∧ -512 ≤ R i ∧ R i ≤ 512 := by
  have h1 : ∀ i : Nat, ∃ t : Int × Int × Int, ∀ hi : i < cs.length, (Q (fN .f32 cs[i].1) (t.1 * 256) ∧ Q (fN .f32 cs[i].2.1) (t.2.1 * 256) ∧ Q (fN .f32 cs[i].2.2) (t.2.2 * 256)) ∧ -1024 ≤ t.1 ∧ t.1 ≤ 1024 ∧ -512 ≤ t.2.1 ∧ t.2.1 ≤ 512 ∧ -512 ≤ t.2.2 ∧ t.2.2 ≤ 512 := by
    intro i
    by_cases hi : i < cs.length
    · obtain ⟨k, p, q, a1, a2, a3, a4, a5, a6, b1, b2, b3⟩ := h cs[i] (List.getElem_mem hi)
      exact ⟨(k, p, q), fun _ => ⟨⟨b1, b2, b3⟩, a1, a2, a3, a4, a5, a6⟩⟩
    · exact ⟨(0, 0, 0), fun h => absurd h hi⟩
  obtain ⟨f, hf⟩ := Classical.skolem.1 h1
  exact ⟨fun i => (f i).1, fun i => (f i).2.1, fun i => (f i).2.2, fun i hi => hf i hi⟩
set_option maxHeartbeats 8000000 in
theorem chained_law {A O x y A2 O2 x2 y2 : Nat} {cs : List (Nat × Nat × Nat)} (h1 : PlainCh A O x y) (h2 : PlainCh A2 O2 x2 y2) (hc : ∀ c ∈ cs, PlainCell c) (hl : 1 ≤ cs.length) (hl2 : cs.length ≤ 6) :
    Chained (fN .f32 A) (fN .f32 O) (fN .f32 x) (fN .f32 y) (fN .f32 A2) (fN .f32 O2) (fN .f32 x2) (fN .f32 y2) (encN true cs) := by
  obtain ⟨a, o, p, q, ha, o1, o2, p1, p2, q1, q2, hA, hO, hx, hy⟩ := h1
  obtain ⟨a', o', p', q', ha', o1', o2', p1', p2', q1', q2', hA', hO', hx', hy'⟩ := h2
  have ha1 : 1 ≤ a ∧ a ≤ 8 := by simp at ha; omega
  have ha1' : 1 ≤ a' ∧ a' ≤ 8 := by simp at ha'; omega
  clear ha ha'
  obtain ⟨ha1, ha2⟩ := ha1
  obtain ⟨ha1', ha2'⟩ := ha1'
  obtain ⟨K, P, R, hK⟩ := pick_cells cs hc
  -- the chain
  have baa := mulB (a := a) (k := a') (m := 8) (n := 8) (by omega) (by omega) (by omega) (by omega)
  have bao := mulB (a := a') (k := o) (m := 8) (n := 32) (by omega) (by omega) (by omega) (by omega)
  have bpp := mulB (a := p) (k := p') (m := 8) (n := 8) (by omega) (by omega) (by omega) (by omega)
  have bqq := mulB (a := q) (k := q') (m := 8) (n := 8) (by omega) (by omega) (by omega) (by omega)
  have bpq := mulB (a := p) (k := q') (m := 8) (n := 8) (by omega) (by omega) (by omega) (by omega)
  have bqp := mulB (a := q) (k := p') (m := 8) (n := 8) (by omega) (by omega) (by omega) (by omega)
  have haa0 : 0 < a * a' := Int.mul_pos (by omega) (by omega)
  have cA : Q (fmul (fN .f32 A) (fN .f32 A2)) (a * a' * 256) := Q_mul hA hA' (by grind) (by omega) (by omega)
  have cO : Q (fadd (fmul (fN .f32 A2) (fN .f32 O)) (fN .f32 O2)) (a' * o * 128 + o' * 512) := Q_add (Q_mul hA' hO (by grind) (by omega) (by omega)) hO' (by omega) (by omega)
  have cX : Q (timesRe (fN .f32 x) (fN .f32 y) (fN .f32 x2) (fN .f32 y2)) (p * p' * 256 - q * q' * 256) := Q_sub (Q_mul hx hx' (by grind) (by omega) (by omega)) (Q_mul hy hy' (by grind) (by omega) (by omega)) (by omega) (by omega)
  have cY : Q (timesIm (fN .f32 x) (fN .f32 y) (fN .f32 x2) (fN .f32 y2)) (p * q' * 256 + q * p' * 256) := Q_add (Q_mul hx hy' (by grind) (by omega) (by omega)) (Q_mul hy hx' (by grind) (by omega) (by omega)) (by omega) (by omega)
  have E0 : Enc (encN true cs) cs.length (fun i => K i * 256) (fun i => P i * 256) (fun i => -(R i * 256)) := by
    have := enc_of true cs (fun i => K i * 256) (fun i => P i * 256) (fun i => R i * 256) 262144 (by omega) (fun i hi => (hK i hi).1) (fun i hi => by have := (hK i hi).2; omega)
    simpa using this
  have B1 : ∀ i, i < cs.length → -8192 ≤ a * K i ∧ a * K i ≤ 8192 ∧ -4096 ≤ P i * p ∧ P i * p ≤ 4096 ∧ -4096 ≤ R i * q ∧ R i * q ≤ 4096 ∧ -4096 ≤ P i * q ∧ P i * q ≤ 4096 ∧ -4096 ≤ R i * p ∧ R i * p ≤ 4096 := by
    intro i hi
    obtain ⟨k1, k2, k3, k4, k5, k6⟩ := (hK i hi).2
    have b1 := mulB (a := a) (k := K i) (m := 8) (n := 1024) (by omega) (by omega) (by omega) (by omega)
    have b2 := mulB (a := P i) (k := p) (m := 512) (n := 8) (by omega) (by omega) (by omega) (by omega)
    have b3 := mulB (a := R i) (k := q) (m := 512) (n := 8) (by omega) (by omega) (by omega) (by omega)
    have b4 := mulB (a := P i) (k := q) (m := 512) (n := 8) (by omega) (by omega) (by omega) (by omega)
    have b5 := mulB (a := R i) (k := p) (m := 512) (n := 8) (by omega) (by omega) (by omega) (by omega)
    omega
  have E1 : Enc (trN (fN .f32 A) (fN .f32 O) (fN .f32 x) (fN .f32 y) (encN true cs)) cs.length (fun i => a * K i * 64 + o * 512) (fun i => (P i * p + R i * q) * 64) (fun i => (P i * q - R i * p) * 64) :=
    enc_tx (m1 := fun i => P i * p * 64) (m2 := fun i => -(R i * q * 64)) (m3 := fun i => P i * q * 64) (m4 := fun i => -(R i * p * 64)) E0 hA hO hx hy 393216 (by omega) (fun i hi => by have := (hK i hi).2; omega)
      (fun i hi => ⟨by grind, by grind, by grind, by grind, by grind, by omega, by omega⟩) 1048576 (by omega) (fun i hi => by have := B1 i hi; omega)
  have B2 : ∀ i, i < cs.length → -65536 ≤ a' * (a * K i) ∧ a' * (a * K i) ≤ 65536 ∧ -65536 ≤ (P i * p + R i * q) * p' ∧ (P i * p + R i * q) * p' ≤ 65536 ∧ -65536 ≤ (P i * q - R i * p) * q' ∧ (P i * q - R i * p) * q' ≤ 65536 ∧ -65536 ≤ (P i * p + R i * q) * q' ∧ (P i * p + R i * q) * q' ≤ 65536 ∧ -65536 ≤ (P i * q - R i * p) * p' ∧ (P i * q - R i * p) * p' ≤ 65536 := by
    intro i hi
    have := B1 i hi
    have b1 := mulB (a := a') (k := a * K i) (m := 8) (n := 8192) (by omega) (by omega) (by omega) (by omega)
    have b2 := mulB (a := P i * p + R i * q) (k := p') (m := 8192) (n := 8) (by omega) (by omega) (by omega) (by omega)
    have b3 := mulB (a := P i * q - R i * p) (k := q') (m := 8192) (n := 8) (by omega) (by omega) (by omega) (by omega)
    have b4 := mulB (a := P i * p + R i * q) (k := q') (m := 8192) (n := 8) (by omega) (by omega) (by omega) (by omega)
    have b5 := mulB (a := P i * q - R i * p) (k := p') (m := 8192) (n := 8) (by omega) (by omega) (by omega) (by omega)
    omega
  have E2 : Enc (trN (fN .f32 A2) (fN .f32 O2) (fN .f32 x2) (fN .f32 y2) (trN (fN .f32 A) (fN .f32 O) (fN .f32 x) (fN .f32 y) (encN true cs))) cs.length (fun i => a' * (a * K i) * 16 + a' * o * 128 + o' * 512) (fun i => ((P i * p + R i * q) * p' - (P i * q - R i * p) * q') * 16) (fun i => ((P i * p + R i * q) * q' + (P i * q - R i * p) * p') * 16) :=
    enc_tx (m1 := fun i => (P i * p + R i * q) * p' * 16) (m2 := fun i => (P i * q - R i * p) * q' * 16) (m3 := fun i => (P i * p + R i * q) * q' * 16) (m4 := fun i => (P i * q - R i * p) * p' * 16) E1 hA' hO' hx' hy' 1114112 (by omega) (fun i hi => by have := B1 i hi; omega)
      (fun i hi => ⟨by grind, by grind, by grind, by grind, by grind, by omega, by omega⟩) 4194304 (by omega) (fun i hi => by have := B2 i hi; omega)
  have B3 : ∀ i, i < cs.length → -65536 ≤ P i * (p * p' - q * q') ∧ P i * (p * p' - q * q') ≤ 65536 ∧ -65536 ≤ R i * (p * q' + q * p') ∧ R i * (p * q' + q * p') ≤ 65536 ∧ -65536 ≤ P i * (p * q' + q * p') ∧ P i * (p * q' + q * p') ≤ 65536 ∧ -65536 ≤ R i * (p * p' - q * q') ∧ R i * (p * p' - q * q') ≤ 65536 := by
    intro i hi
    obtain ⟨k1, k2, k3, k4, k5, k6⟩ := (hK i hi).2
    have b2 := mulB (a := P i) (k := p * p' - q * q') (m := 512) (n := 128) (by omega) (by omega) (by omega) (by omega)
    have b3 := mulB (a := R i) (k := p * q' + q * p') (m := 512) (n := 128) (by omega) (by omega) (by omega) (by omega)
    have b4 := mulB (a := P i) (k := p * q' + q * p') (m := 512) (n := 128) (by omega) (by omega) (by omega) (by omega)
    have b5 := mulB (a := R i) (k := p * p' - q * q') (m := 512) (n := 128) (by omega) (by omega) (by omega) (by omega)
    omega
  have E3 : Enc (trN (fmul (fN .f32 A) (fN .f32 A2)) (fadd (fmul (fN .f32 A2) (fN .f32 O)) (fN .f32 O2)) (timesRe (fN .f32 x) (fN .f32 y) (fN .f32 x2) (fN .f32 y2)) (timesIm (fN .f32 x) (fN .f32 y) (fN .f32 x2) (fN .f32 y2)) (encN true cs)) cs.length (fun i => a' * (a * K i) * 16 + a' * o * 128 + o' * 512) (fun i => ((P i * p + R i * q) * p' - (P i * q - R i * p) * q') * 16) (fun i => ((P i * p + R i * q) * q' + (P i * q - R i * p) * p') * 16) :=
    enc_tx (m1 := fun i => P i * (p * p' - q * q') * 16) (m2 := fun i => -(R i * (p * q' + q * p') * 16)) (m3 := fun i => P i * (p * q' + q * p') * 16) (m4 := fun i => -(R i * (p * p' - q * q') * 16)) E0 cA cO cX cY 393216 (by omega) (fun i hi => by have := (hK i hi).2; omega)
      (fun i hi => ⟨by grind, by grind, by grind, by grind, by grind, by grind, by grind⟩) 4194304 (by omega) (fun i hi => by have := B2 i hi; have := B3 i hi; omega)
  refine ⟨chOk_Q hA hO hx hy (by omega) (by omega) (by omega) (by omega) (by omega) (by omega) (by omega) (by omega), chOk_Q hA' hO' hx' hy' (by omega) (by omega) (by omega) (by omega) (by omega) (by omega) (by omega) (by omega),
    chOk_Q cA cO cX cY (by omega) (by omega) (by omega) (by omega) (by omega) (by omega) (by omega) (by omega), ?_, ?_, ?_, ?_, (enc_eq E2 E3).1, (enc_eq E2 E3).2⟩
  · exact enc_ok E0 hl (by omega) (fun i hi => by have := (hK i hi).2; omega)
  · exact enc_ok E1 hl (by omega) (fun i hi => by have := B1 i hi; omega)
  · exact enc_ok E2 hl (by omega) (fun i hi => by have := B2 i hi; omega)
  · exact enc_ok E3 hl (by omega) (fun i hi => by have := B2 i hi; omega)
theorem rowOk_plain {cs : List (Nat × Nat × Nat)} (hc : ∀ c ∈ cs, PlainCell c) (hl : 1 ≤ cs.length) (hl2 : cs.length ≤ 6) : rowOkI cs = true := by
  have e1 : decide (1 ≤ cs.length) = true := by simp; omega
  have e2 : decide (cs.length ≤ 64) = true := by simp; omega
  have e3 : cs.all okC = true := by
    rw [List.all_eq_true]
    intro c hm
    obtain ⟨k, p, q, a1, a2, a3, a4, a5, a6, b1, b2, b3⟩ := hc c hm
    have f1 := Q_le (Q_amount b1) Q_256
    have f2 := Q_le (Q_amount b2) Q_256
    have f3 := Q_le (Q_amount b3) Q_256
    unfold okC cellOkI
    rw [f1, f2, f3]
    simp; omega
  simp [rowOkI, e1, e2, e3]
end Go.Proofs.Ytjomilloilbcgaa
