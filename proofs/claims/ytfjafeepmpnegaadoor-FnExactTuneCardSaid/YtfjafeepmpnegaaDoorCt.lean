/- Contracts of laws.same64 and same32 of a number and itself. No condition. -/
import Derived.Test.YtfjafeepmpnegaaDoorFw
import Derived.Test.YtfjafeepmpnegaaDoorKd
import Derived.Test.YtfjafeepmpnegaaDoorAm
namespace Go.Proofs.YtfjafeepmpnegaaDoor
open Go.RowKit
set_option linter.unusedVariables false
set_option linter.unusedSimpArgs false

theorem same64_nan (a b : Nat) (ha : fN .f64 a = none) (hb : fN .f64 b = none) (w : World) : Calls Tryd.prog 80 #[.float .f64 a, .float .f64 b] w (RetBo w true) := by
  have L := Az.mk (gr_refl w none)
  have t1 : (FloatKind.f64.format.order a a != some .eq) = true := by rw [order_none_l ha]; rfl
  have t2 : (FloatKind.f64.format.order b b != some .eq) = true := by rw [order_none_l hb]; rfl
  clear ha hb
  go_enter Tryd.func80, Tryd.ntmps80
  go_wp2_with fail
  go_ret
  exact ⟨rfl, L.out⟩
theorem same64_self (a : Nat) (ha : fN .f64 a ≠ none) (w : World) : Calls Tryd.prog 80 #[.float .f64 a, .float .f64 a] w (RetBo w true) := by
  have L := Az.mk (gr_refl w none)
  have t1 : (FloatKind.f64.format.order a a != some .eq) = false := by rw [order_self ha]; rfl
  have t2 : (FloatKind.f64.format.order a a == some .eq) = true := by rw [order_self ha]; rfl
  have HA := Az.mk ha
  clear ha
  cases h0 : (FloatKind.f64.format.order a 0 != some .eq) with
  | true =>
    go_enter Tryd.func80, Tryd.ntmps80
    go_wp2_with fail
    go_ret
    exact ⟨rfl, L.out⟩
  | false =>
    have HZ := Az.mk h0
    go_enter Tryd.func80, Tryd.ntmps80
    go_wp2_with (first | ((with_reducible refine gateN 29 rfl ?_); go_must (refine stripG (by first | rfl | (simp [Region.wanted, yielded]; done) | (simp [Region.wanted, yielded]; omega)) ?_; refine ev_fl 29 rfl rfl rfl rfl rfl rfl ?_; intro b29 W1 hb29 h; have HF29 := Az.mk hb29; clear hb29; have h0 : World.grownBy w W1 none := (by refine World.grownBy.trans ?_ h; repeat (first | exact gr_refl _ _ | apply gr_drewN | apply gr_drew | apply gr_alloc)); have L_ := Az.mk (gr_new L.out h0 (by first | (simp; done) | (simp; omega) | omega)); clear L; have L := L_; clear L_; clear h0 h)) | ((with_reducible refine gateN 31 rfl ?_); go_must (refine stripG (by first | rfl | (simp [Region.wanted, yielded]; done) | (simp [Region.wanted, yielded]; omega)) ?_; refine ev_fl 31 rfl rfl rfl rfl rfl rfl ?_; intro b31 W2 hb31 h; have HF31 := Az.mk hb31; clear hb31; have h0 : World.grownBy W1 W2 none := (by refine World.grownBy.trans ?_ h; repeat (first | exact gr_refl _ _ | apply gr_drewN | apply gr_drew | apply gr_alloc)); have L_ := Az.mk (gr_new L.out h0 (by first | (simp; done) | (simp; omega) | omega)); clear L; have L := L_; clear L_; clear h0 h)))
    go_ret
    refine ⟨?_, L.out⟩
    obtain ⟨y, hy⟩ := quo_zero (b := a) (by simpa using HZ.out)
    have e1 := HF29.out
    have e2 := HF31.out
    rw [← floatBits_fop, hy] at e1 e2
    have e3 := fN_eq e1
    have e4 := fN_eq e2
    rw [e3] at e1
    rw [e3, e4]
    have : (FloatKind.f64.format.order y y == some .eq) = true := by rw [order_self (by rw [e1]; simp)]; rfl
    rw [this]; rfl
/-- A number and itself are the same. -/
theorem same32_self (x : Nat) (w : World) : Calls Tryd.prog 55 #[.float .f32 x, .float .f32 x] w (RetBo w true) := by
  have L := Az.mk (gr_refl w none)
  go_enter Tryd.func55, Tryd.ntmps55
  go_wp2_with (first | ((with_reducible refine gateN 6 rfl ?_); go_must (refine ev_cv 6 rfl rfl rfl rfl (by rw [Tryd.underlying22]; rfl) Tryd.underlying63 ?_; intro b6 W1 hb6 hc6 h; have HF6 := Az.mk hb6; have HG6 := Az.mk hc6; clear hb6 hc6; have h0 : World.grownBy w W1 none := (by refine World.grownBy.trans ?_ h; repeat (first | exact gr_refl _ _ | apply gr_drewN | apply gr_drew | apply gr_alloc)); have L_ := Az.mk (gr_new L.out h0 (by first | (simp; done) | (simp; omega) | omega)); clear L; have L := L_; clear L_; clear h0 h)) | ((with_reducible refine gateN 8 rfl ?_); go_must (refine ev_cv 8 rfl rfl rfl rfl (by rw [Tryd.underlying22]; rfl) Tryd.underlying63 ?_; intro b8 W2 hb8 hc8 h; have HF8 := Az.mk hb8; have HG8 := Az.mk hc8; clear hb8 hc8; have h0 : World.grownBy W1 W2 none := (by refine World.grownBy.trans ?_ h; repeat (first | exact gr_refl _ _ | apply gr_drewN | apply gr_drew | apply gr_alloc)); have L_ := Az.mk (gr_new L.out h0 (by first | (simp; done) | (simp; omega) | omega)); clear L; have L := L_; clear L_; clear h0 h)))
  by_cases hx : fN .f32 x = none
  · have h6 := HG6.out hx
    have h8 := HG8.out hx
    clear hx
    refine (same64_nan b6 b8 h6 h8 _).mono ?_
    rintro e w3 ⟨rfl, h⟩
    have h0 : World.grownBy W2 w3 _ := (by refine World.grownBy.trans ?_ h; repeat (first | exact gr_refl _ _ | apply gr_drewN | apply gr_drew | apply gr_alloc))
    have L_ := Az.mk (gr_new L.out h0 (by first | (simp; done) | (simp; omega) | omega))
    clear L
    have L := L_; clear L_
    clear h0 h
    clear h6 h8
    go_wp2_with fail
    go_ret
    exact ⟨rfl, L.out⟩
  · obtain ⟨y, hy, hn⟩ := widen_some hx
    have h6 := HF6.out y hy
    have h8 := HF8.out y hy
    have HN := Az.mk hn
    clear hy hn hx
    rw [h6, h8]
    clear h6 h8
    refine (same64_self y (by rw [HN.out]; simp) _).mono ?_
    rintro e w3 ⟨rfl, h⟩
    have h0 : World.grownBy W2 w3 _ := (by refine World.grownBy.trans ?_ h; repeat (first | exact gr_refl _ _ | apply gr_drewN | apply gr_drew | apply gr_alloc))
    have L_ := Az.mk (gr_new L.out h0 (by first | (simp; done) | (simp; omega) | omega))
    clear L
    have L := L_; clear L_
    clear h0 h
    go_wp2_with fail
    go_ret
    exact ⟨rfl, L.out⟩
end Go.Proofs.YtfjafeepmpnegaaDoor
