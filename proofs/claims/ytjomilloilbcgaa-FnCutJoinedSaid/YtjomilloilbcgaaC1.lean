/- Contracts of impl.amount, Times, Power, ChannelOk, spec.l02Fine, l02Colour, CellOk. No condition. -/
import Derived.Test.YtjomilloilbcgaaProg
import Derived.Test.YtjomilloilbcgaaM1
import Derived.Test.YtjomilloilbcgaaRg
namespace Go.Proofs.Ytjomilloilbcgaa
open Go.RowKit
set_option linter.unusedVariables false
set_option linter.unusedSimpArgs false

def RetFl (w : World) (p : F32) (e : Ending) (w' : World) : Prop := ∃ b, fN .f32 b = p ∧ e = .returned (.float .f32 b) ∧ w.grownBy w' none
def RetCx (w : World) (p q : F32) (e : Ending) (w' : World) : Prop := ∃ a b, fN .f32 a = p ∧ fN .f32 b = q ∧ e = .returned (.complex .f32 a b) ∧ w.grownBy w' none
def RetBo (w : World) (p : Bool) (e : Ending) (w' : World) : Prop := e = .returned (.bool p) ∧ w.grownBy w' none

theorem amount_c (x : Nat) (w : World) : Calls Try.prog 80 #[.float .f32 x] w (RetFl w (amountN (fN .f32 x))) := by
  have L := Az.mk (gr_refl w none)
  cases h : flt (fN .f32 x) (fc 0) with
  | true =>
    have h1 : (FloatKind.f32.format.order x 0 == some .lt) = true := by rw [o_lt]; exact h
    have H := Az.mk h
    clear h
    go_enter Try.func80, Try.ntmps80
    go_wp2
    go_ret
    exact ⟨_, by unfold amountN; rw [H.out, if_pos rfl, fN_neg]; rfl, rfl, L.out⟩
  | false =>
    have h1 : (FloatKind.f32.format.order x 0 == some .lt) = false := by rw [o_lt]; exact h
    have H := Az.mk h
    clear h
    go_enter Try.func80, Try.ntmps80
    go_wp2
    go_ret
    exact ⟨_, by unfold amountN; rw [H.out]; rfl, rfl, L.out⟩

theorem Times_c (a b x y : Nat) (w : World) : Calls Try.prog 16 #[.complex .f32 a b, .complex .f32 x y] w (RetCx w (timesRe (fN .f32 a) (fN .f32 b) (fN .f32 x) (fN .f32 y)) (timesIm (fN .f32 a) (fN .f32 b) (fN .f32 x) (fN .f32 y))) := by
  have L := Az.mk (gr_refl w none)
  go_enter Try.func16, Try.ntmps16
  go_wp2_with (first | ((with_reducible refine gateN 19 rfl ?_); go_must (refine ev_fl 19 rfl rfl rfl rfl rfl rfl ?_; intro b19 W1 hb19 h; have HF19 := Az.mk hb19; clear hb19; have h0 : World.grownBy w W1 none := (by refine World.grownBy.trans ?_ h; repeat (first | exact gr_refl _ _ | apply gr_drewN | apply gr_drew | apply gr_alloc)); have L_ := Az.mk (gr_new L.out h0 (by first | (simp; done) | (simp; omega) | omega)); clear L; have L := L_; clear L_; clear h0 h)) | ((with_reducible refine gateN 22 rfl ?_); go_must (refine ev_fl 22 rfl rfl rfl rfl rfl rfl ?_; intro b22 W2 hb22 h; have HF22 := Az.mk hb22; clear hb22; have h0 : World.grownBy W1 W2 none := (by refine World.grownBy.trans ?_ h; repeat (first | exact gr_refl _ _ | apply gr_drewN | apply gr_drew | apply gr_alloc)); have L_ := Az.mk (gr_new L.out h0 (by first | (simp; done) | (simp; omega) | omega)); clear L; have L := L_; clear L_; clear h0 h)) | ((with_reducible refine gateN 23 rfl ?_); go_must (refine ev_fl 23 rfl rfl rfl rfl rfl rfl ?_; intro b23 W3 hb23 h; have HF23 := Az.mk hb23; clear hb23; have h0 : World.grownBy W2 W3 none := (by refine World.grownBy.trans ?_ h; repeat (first | exact gr_refl _ _ | apply gr_drewN | apply gr_drew | apply gr_alloc)); have L_ := Az.mk (gr_new L.out h0 (by first | (simp; done) | (simp; omega) | omega)); clear L; have L := L_; clear L_; clear h0 h)) | ((with_reducible refine gateN 26 rfl ?_); go_must (refine ev_fl 26 rfl rfl rfl rfl rfl rfl ?_; intro b26 W4 hb26 h; have HF26 := Az.mk hb26; clear hb26; have h0 : World.grownBy W3 W4 none := (by refine World.grownBy.trans ?_ h; repeat (first | exact gr_refl _ _ | apply gr_drewN | apply gr_drew | apply gr_alloc)); have L_ := Az.mk (gr_new L.out h0 (by first | (simp; done) | (simp; omega) | omega)); clear L; have L := L_; clear L_; clear h0 h)) | ((with_reducible refine gateN 29 rfl ?_); go_must (refine ev_fl 29 rfl rfl rfl rfl rfl rfl ?_; intro b29 W5 hb29 h; have HF29 := Az.mk hb29; clear hb29; have h0 : World.grownBy W4 W5 none := (by refine World.grownBy.trans ?_ h; repeat (first | exact gr_refl _ _ | apply gr_drewN | apply gr_drew | apply gr_alloc)); have L_ := Az.mk (gr_new L.out h0 (by first | (simp; done) | (simp; omega) | omega)); clear L; have L := L_; clear L_; clear h0 h)) | ((with_reducible refine gateN 30 rfl ?_); go_must (refine ev_fl 30 rfl rfl rfl rfl rfl rfl ?_; intro b30 W6 hb30 h; have HF30 := Az.mk hb30; clear hb30; have h0 : World.grownBy W5 W6 none := (by refine World.grownBy.trans ?_ h; repeat (first | exact gr_refl _ _ | apply gr_drewN | apply gr_drew | apply gr_alloc)); have L_ := Az.mk (gr_new L.out h0 (by first | (simp; done) | (simp; omega) | omega)); clear L; have L := L_; clear L_; clear h0 h)))
  go_ret
  exact ⟨_, _, by rw [HF23.out, HF19.out, HF22.out]; rfl, by rw [HF30.out, HF26.out, HF29.out]; rfl, rfl, L.out⟩

theorem Power_c (x y : Nat) (w : World) : Calls Try.prog 53 #[.complex .f32 x y] w (RetFl w (powerN (fN .f32 x) (fN .f32 y))) := by
  have L := Az.mk (gr_refl w none)
  go_enter Try.func53, Try.ntmps53
  go_wp2_with (first | ((with_reducible refine gateN 7 rfl ?_); go_must (refine ev_fl 7 rfl rfl rfl rfl rfl rfl ?_; intro b7 W1 hb7 h; have HF7 := Az.mk hb7; clear hb7; have h0 : World.grownBy w W1 none := (by refine World.grownBy.trans ?_ h; repeat (first | exact gr_refl _ _ | apply gr_drewN | apply gr_drew | apply gr_alloc)); have L_ := Az.mk (gr_new L.out h0 (by first | (simp; done) | (simp; omega) | omega)); clear L; have L := L_; clear L_; clear h0 h)) | ((with_reducible refine gateN 12 rfl ?_); go_must (refine ev_fl 12 rfl rfl rfl rfl rfl rfl ?_; intro b12 W2 hb12 h; have HF12 := Az.mk hb12; clear hb12; have h0 : World.grownBy W1 W2 none := (by refine World.grownBy.trans ?_ h; repeat (first | exact gr_refl _ _ | apply gr_drewN | apply gr_drew | apply gr_alloc)); have L_ := Az.mk (gr_new L.out h0 (by first | (simp; done) | (simp; omega) | omega)); clear L; have L := L_; clear L_; clear h0 h)) | ((with_reducible refine gateN 13 rfl ?_); go_must (refine ev_fl 13 rfl rfl rfl rfl rfl rfl ?_; intro b13 W3 hb13 h; have HF13 := Az.mk hb13; clear hb13; have h0 : World.grownBy W2 W3 none := (by refine World.grownBy.trans ?_ h; repeat (first | exact gr_refl _ _ | apply gr_drewN | apply gr_drew | apply gr_alloc)); have L_ := Az.mk (gr_new L.out h0 (by first | (simp; done) | (simp; omega) | omega)); clear L; have L := L_; clear L_; clear h0 h)))
  go_ret
  exact ⟨_, by rw [HF13.out, HF7.out, HF12.out]; rfl, rfl, L.out⟩

theorem l02Fine_c (x : Nat) (w : World) : Calls Try.prog 50 #[.float .f32 x] w (RetBo w (fineN (fN .f32 x))) := by
  have L := Az.mk (gr_refl w none)
  cases h : fge (fN .f32 x) (fc 3279945728) with
  | true =>
    have h1 : (FloatKind.f32.format.order x 3279945728 == some .gt || FloatKind.f32.format.order x 3279945728 == some .eq) = true := by rw [o_ge]; exact h
    have H := Az.mk h
    clear h
    go_enter Try.func50, Try.ntmps50
    go_wp2
    go_ret
    exact ⟨by unfold fineN; rw [H.out, o_le, Bool.true_and]; rfl, L.out⟩
  | false =>
    have h1 : (FloatKind.f32.format.order x 3279945728 == some .gt || FloatKind.f32.format.order x 3279945728 == some .eq) = false := by rw [o_ge]; exact h
    have H := Az.mk h
    clear h
    go_enter Try.func50, Try.ntmps50
    go_wp2
    go_ret
    exact ⟨by unfold fineN; rw [H.out]; rfl, L.out⟩
end Go.Proofs.Ytjomilloilbcgaa
