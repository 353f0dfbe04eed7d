/- The walk of laws.FnTimes: it answers true. No condition. -/
import Derived.Test.YtjomilloilbcgaaT1
import Derived.Test.YtjomilloilbcgaaM2
namespace Go.Proofs.Ytjomilloilbcgaa
open Go.RowKit
set_option linter.unusedVariables false
set_option linter.unusedSimpArgs false

def RetYes (w : World) (e : Ending) (w' : World) : Prop := e = .returned (.bool true) ∧ w.grownBy w' none

set_option maxHeartbeats 4000000 in
theorem FnTimes_walk (w : World) (A : Option Addr) (n c : Nat) (hrd : BytesRd w A n) (hnc : n ≤ c) : Calls Try.prog 4 #[.slice A n c] w (RetYes w) := by
  have L := Az.mk (gr_refl w none)
  have HR := Az.mk hrd
  have hn := hrd.1
  clear hrd
  go_enter Try.func4, Try.ntmps4
  go_wp2_with fail
  refine (big_c A n c hn _).mono ?_
  rintro e w1 ⟨rfl, h⟩
  have h0 : World.grownBy w w1 _ := (by refine World.grownBy.trans ?_ h; repeat (first | exact gr_refl _ _ | apply gr_drewN | apply gr_drew | apply gr_alloc))
  have L_ := Az.mk (gr_new L.out h0 (by first | (simp; done) | (simp; omega) | omega))
  clear L
  have L := L_; clear L_
  clear h0 h
  by_cases hbig : 1048576 < n
  · have hd : decide (1048576 < n) = true := decide_eq_true hbig
    go_wp2_with fail
    go_ret
    exact ⟨rfl, L.out⟩
  have hd : decide (1048576 < n) = false := decide_eq_false hbig
  rw [hd]
  clear hd hbig
  go_wp2_with fail
  refine (DrawTimes_c w _ A n c HR.out hnc (gr_below L.out)).mono ?_
  rintro e w2 ⟨a, b, x, y, rfl, h⟩
  have h0 : World.grownBy w1 w2 _ := (by refine World.grownBy.trans ?_ h; repeat (first | exact gr_refl _ _ | apply gr_drewN | apply gr_drew | apply gr_alloc))
  have L_ := Az.mk (gr_new L.out h0 (by first | (simp; done) | (simp; omega) | omega))
  clear L
  have L := L_; clear L_
  clear h0 h
  -- c != c || g != g
  cases h1 : (FloatKind.f32.format.order a a == some .eq && FloatKind.f32.format.order b b == some .eq) with
  | false =>
    go_wp2_with fail
    go_ret
    exact ⟨rfl, L.out⟩
  | true =>
  cases h2 : (FloatKind.f32.format.order x x == some .eq && FloatKind.f32.format.order y y == some .eq) with
  | false =>
    go_wp2_with fail
    go_ret
    exact ⟨rfl, L.out⟩
  | true =>
  have H1 := Az.mk h1
  have H2 := Az.mk h2
  go_wp2_with fail
  clear h1 h2
  refine (Times_c a b x y _).mono ?_
  rintro e w3 ⟨u, v, hu, hv, rfl, h⟩
  have h0 : World.grownBy w2 w3 _ := (by refine World.grownBy.trans ?_ h; repeat (first | exact gr_refl _ _ | apply gr_drewN | apply gr_drew | apply gr_alloc))
  have L_ := Az.mk (gr_new L.out h0 (by first | (simp; done) | (simp; omega) | omega))
  clear L
  have L := L_; clear L_
  clear h0 h
  have HT := Az.mk (And.intro hu hv)
  clear hu hv
  go_wp2_with fail
  refine (Times_c x y a b _).mono ?_
  rintro e w4 ⟨u2, v2, hu2, hv2, rfl, h⟩
  have h0 : World.grownBy w3 w4 _ := (by refine World.grownBy.trans ?_ h; repeat (first | exact gr_refl _ _ | apply gr_drewN | apply gr_drew | apply gr_alloc))
  have L_ := Az.mk (gr_new L.out h0 (by first | (simp; done) | (simp; omega) | omega))
  clear L
  have L := L_; clear L_
  clear h0 h
  have HT2 := Az.mk (And.intro hu2 hv2)
  clear hu2 hv2
  have h34 : (FloatKind.f32.format.order u u == some .eq && FloatKind.f32.format.order v v == some .eq) = false ∨ ((FloatKind.f32.format.order u u == some .eq && FloatKind.f32.format.order v v == some .eq) = true ∧ (FloatKind.f32.format.order u u2 == some .eq && FloatKind.f32.format.order v v2 == some .eq) = true) := by
    cases h3 : (FloatKind.f32.format.order u u == some .eq && FloatKind.f32.format.order v v == some .eq) with
    | false => exact .inl rfl
    | true =>
      refine .inr ⟨rfl, ?_⟩
      rw [o_eq, o_eq, HT2.out.1, HT2.out.2, ← timesRe_comm, ← timesIm_comm, ← HT.out.1, ← HT.out.2, ← o_eq, ← o_eq]
      exact h3
  rcases h34 with h3 | ⟨h3, h4⟩
  · go_wp2_with fail
    have H3 := Az.mk h3
    clear h3
    refine (specCellOk_c 0 a b _).mono ?_
    rintro e w5 ⟨rfl, h⟩
    have h0 : World.grownBy w4 w5 _ := (by refine World.grownBy.trans ?_ h; repeat (first | exact gr_refl _ _ | apply gr_drewN | apply gr_drew | apply gr_alloc))
    have L_ := Az.mk (gr_new L.out h0 (by first | (simp; done) | (simp; omega) | omega))
    clear L
    have L := L_; clear L_
    clear h0 h
    cases h6 : cellOkN (fN .f32 0) (fN .f32 a) (fN .f32 b) with
    | false =>
      go_wp2_with fail
      go_ret
      exact ⟨rfl, L.out⟩
    | true =>
    have H6 := Az.mk h6
    clear h6
    go_wp2_with fail
    refine (DrawPlainChannel_c w _ A n c HR.out hnc (gr_below L.out)).mono ?_
    rintro e w6 ⟨cA, cO, cx, cy, hpl, rfl, h⟩
    have h0 : World.grownBy w5 w6 _ := (by refine World.grownBy.trans ?_ h; repeat (first | exact gr_refl _ _ | apply gr_drewN | apply gr_drew | apply gr_alloc))
    have L_ := Az.mk (gr_new L.out h0 (by first | (simp; done) | (simp; omega) | omega))
    clear L
    have L := L_; clear L_
    clear h0 h
    have HP := Az.mk hpl
    clear hpl
    go_wp2_with (first | ((with_reducible refine gateN 7 rfl ?_); go_must (refine ev_al 7 rfl rfl #[.float .f32 0, .float .f32 0, .complex .f32 0 0] 28 ?hr ?_; (case hr => first | (go_simp; done) | (go_simp; rfl)); intro gH heH W1 hbH h; have hgH : w.heap.size ≤ gH := Nat.le_trans L.out.size heH; clear heH; have h0 : World.grownBy w6 W1 none := (by refine World.grownBy.trans ?_ h; repeat (first | exact gr_refl _ _ | apply gr_drewN | apply gr_drew | apply gr_alloc)); have L_ := Az.mk (gr_new L.out h0 (by first | (simp; done) | (simp; omega) | omega)); clear L; have L := L_; clear L_; clear h0 h; have H := Az.mk hbH; clear hbH; have cH0 : World.cell? W1 ⟨gH, 0, none⟩ = some (.float .f32 0) := blkCell H.out 0; have cH1 : World.cell? W1 ⟨gH, 1, none⟩ = some (.float .f32 0) := blkCell H.out 1; have cH2 : World.cell? W1 ⟨gH, 2, none⟩ = some (.complex .f32 0 0) := blkCell H.out 2)) | ((with_reducible refine gateSt 7 rfl ?_); go_must (refine ev_st rfl rfl rfl (cs := #[.float .f32 cA, .float .f32 cO, .complex .f32 cx cy]) rfl rfl H.out (by kernel_rfl) rfl (by simp [Value.oneCell']) ?_; intro W2 hbH h; have h0 : World.grownBy W1 W2 (some gH) := (by refine World.grownBy.trans ?_ h; repeat (first | exact gr_refl _ _ | apply gr_drewN | apply gr_drew | apply gr_alloc)); clear cH0 cH1 cH2; have L_ := Az.mk (gr_new L.out h0 (by first | (simp; done) | (simp; omega) | omega)); clear L; have L := L_; clear L_; clear h0 h; clear H; have H := Az.mk hbH; clear hbH; have cH0 : World.cell? W2 ⟨gH, 0, none⟩ = some (.float .f32 cA) := blkCell H.out 0; have cH1 : World.cell? W2 ⟨gH, 1, none⟩ = some (.float .f32 cO) := blkCell H.out 1; have cH2 : World.cell? W2 ⟨gH, 2, none⟩ = some (.complex .f32 cx cy) := blkCell H.out 2)) | ((with_reducible refine gateN 49 rfl ?_); go_must (refine ev_bs 49 rfl rfl #[.complex .f32 1073741824 0, .complex .f32 3212836864 0, .complex .f32 0 1056964608, .complex .f32 0 3229614080] 26 4 ?hr ?_; (case hr => first | (go_simp; done) | (go_simp; rfl)); intro gS heS W3 hbS h; have hgS : w.heap.size ≤ gS := Nat.le_trans L.out.size heS; have hgSH : gH < gS := Nat.lt_of_lt_of_le (blkLt H.out) heS; clear heS; have h0 : World.grownBy W2 W3 none := (by refine World.grownBy.trans ?_ h; repeat (first | exact gr_refl _ _ | apply gr_drewN | apply gr_drew | apply gr_alloc)); clear cH0 cH1 cH2; have L_ := Az.mk (gr_new L.out h0 (by first | (simp; done) | (simp; omega) | omega)); have H_ := Az.mk (blkGr H.out h0 (by first | (simp; done) | (simp; omega) | omega)); clear L H; have L := L_; clear L_; have H := H_; clear H_; clear h0 h; have S := Az.mk hbS; clear hbS; have cH0 : World.cell? W3 ⟨gH, 0, none⟩ = some (.float .f32 cA) := blkCell H.out 0; have cH1 : World.cell? W3 ⟨gH, 1, none⟩ = some (.float .f32 cO) := blkCell H.out 1; have cH2 : World.cell? W3 ⟨gH, 2, none⟩ = some (.complex .f32 cx cy) := blkCell H.out 2; have cS0 : World.cell? W3 ⟨gS, 0, none⟩ = some (.complex .f32 1073741824 0) := blkCell S.out 0; have cS1 : World.cell? W3 ⟨gS, 1, none⟩ = some (.complex .f32 3212836864 0) := blkCell S.out 1; have cS2 : World.cell? W3 ⟨gS, 2, none⟩ = some (.complex .f32 0 1056964608) := blkCell S.out 2; have cS3 : World.cell? W3 ⟨gS, 3, none⟩ = some (.complex .f32 0 3229614080) := blkCell S.out 3)))
    have hgS0 := hgS
    go_loopw [51] (fun i wr => ∃ k : Nat, k ≤ 4 ∧ i = .int .i64 k ∧ Az (w.grownBy wr none) ∧ Az (∃ p q, wr.heap[gH]? = some (.cells #[.float .f32 cA, .float .f32 cO, .complex .f32 p q] 28 (0, 0))) ∧ Az (wr.heap[gS]? = some (.cells #[.complex .f32 1073741824 0, .complex .f32 3212836864 0, .complex .f32 0 1056964608, .complex .f32 0 3229614080] 26 (0, 0)))) (fun i _ => 4 - (intOf i).toNat)
    case atStart => exact ⟨0, by omega, rfl, L, ⟨_, _, H.out⟩, S⟩
    case round =>
      clear L H S
      obtain ⟨k, hk, rfl, L, HH, S⟩ := hrel
      obtain ⟨p, q, hH⟩ := HH.out
      have H := Az.mk hH
      clear HH hH
      by_cases hlt : k < 4
      · have hgd : ∃ re im, wr.cell? ⟨gS, k, none⟩ = some (.complex .f32 re im) ∧ Good (fN .f32 cA) (fN .f32 cO) (fN .f32 re) (fN .f32 im) := by
          have hg := good_all HP.out
          rw [blkCell S.out k]
          match k, hlt with
          | 0, _ => exact ⟨_, _, rfl, hg.1⟩
          | 1, _ => exact ⟨_, _, rfl, hg.2.1⟩
          | 2, _ => exact ⟨_, _, rfl, hg.2.2.1⟩
          | 3, _ => exact ⟨_, _, rfl, hg.2.2.2⟩
        obtain ⟨re, im, hcell, hgood⟩ := hgd
        have HG := Az.mk hgood
        clear hgood
        have cH0 : World.cell? wr ⟨gH, 0, none⟩ = some (.float .f32 cA) := blkCell H.out 0
        have cH1 : World.cell? wr ⟨gH, 1, none⟩ = some (.float .f32 cO) := blkCell H.out 1
        have cH2 : World.cell? wr ⟨gH, 2, none⟩ = some (.complex .f32 p q) := blkCell H.out 2
        have hlt2 : (k : Int) < 4 := by omega
        go_wp2_with (first | ((with_reducible refine gateSt 56 rfl ?_); go_must (refine ev_st1 rfl rfl rfl (i := 2) (v := .complex .f32 re im) rfl rfl H.out (by kernel_rfl) rfl (by simp) ?_; intro W4 hbH h; have h0 : World.grownBy wr W4 (some gH) := (by refine World.grownBy.trans ?_ h; repeat (first | exact gr_refl _ _ | apply gr_drewN | apply gr_drew | apply gr_alloc)); clear cH0 cH1 cH2; have L_ := Az.mk (gr_new L.out h0 (by first | (simp; done) | (simp; omega) | omega)); have S_ := Az.mk (blkGr S.out h0 (by first | (simp; done) | (simp; omega) | omega)); clear L S; have L := L_; clear L_; have S := S_; clear S_; clear h0 h; simp only [List.setIfInBounds_toArray, List.set_cons_zero, List.set_cons_succ] at hbH; clear H; have H := Az.mk hbH; clear hbH; have cH0 : World.cell? W4 ⟨gH, 0, none⟩ = some (.float .f32 cA) := blkCell H.out 0; have cH1 : World.cell? W4 ⟨gH, 1, none⟩ = some (.float .f32 cO) := blkCell H.out 1; have cH2 : World.cell? W4 ⟨gH, 2, none⟩ = some (.complex .f32 re im) := blkCell H.out 2)) | ((with_reducible refine gateN 58 rfl ?_); go_must (refine ev_ld 58 rfl rfl rfl (cs := #[.float .f32 cA, .float .f32 cO, .complex .f32 re im]) rfl H.out Try.underlying28 rfl (by kernel_rfl) ?_)))
        refine (Undo_ok cA cO re im _ HG.out.ok HG.out.pow HG.out.undo).mono ?_
        rintro e v1 ⟨ua, uo, ux, uy, hua, huo, hux, huy, rfl, h⟩
        have h0 : World.grownBy W4 v1 _ := (by refine World.grownBy.trans ?_ h; repeat (first | exact gr_refl _ _ | apply gr_drewN | apply gr_drew | apply gr_alloc))
        clear cH0 cH1 cH2
        have L_ := Az.mk (gr_new L.out h0 (by first | (simp; done) | (simp; omega) | omega))
        have H_ := Az.mk (blkGr H.out h0 (by first | (simp; done) | (simp; omega) | omega))
        have S_ := Az.mk (blkGr S.out h0 (by first | (simp; done) | (simp; omega) | omega))
        clear L H S
        have L := L_; clear L_
        have H := H_; clear H_
        have S := S_; clear S_
        clear h0 h
        have cH0 : World.cell? v1 ⟨gH, 0, none⟩ = some (.float .f32 cA) := blkCell H.out 0
        have cH1 : World.cell? v1 ⟨gH, 1, none⟩ = some (.float .f32 cO) := blkCell H.out 1
        have cH2 : World.cell? v1 ⟨gH, 2, none⟩ = some (.complex .f32 re im) := blkCell H.out 2
        have HU := Az.mk (And.intro hua (And.intro huo (And.intro hux huy)))
        clear hua huo hux huy
        go_wp2_with (first | ((with_reducible refine gateN 10 rfl ?_); go_must (refine ev_al 10 rfl rfl #[.float .f32 0, .float .f32 0, .complex .f32 0 0] 28 ?hr ?_; (case hr => first | (go_simp; done) | (go_simp; rfl)); intro gU heU W5 hbU h; have hgU : w.heap.size ≤ gU := Nat.le_trans L.out.size heU; have hgUH : gH < gU := Nat.lt_of_lt_of_le (blkLt H.out) heU; have hgUS : gS < gU := Nat.lt_of_lt_of_le (blkLt S.out) heU; clear heU; have h0 : World.grownBy v1 W5 none := (by refine World.grownBy.trans ?_ h; repeat (first | exact gr_refl _ _ | apply gr_drewN | apply gr_drew | apply gr_alloc)); clear cH0 cH1 cH2; have L_ := Az.mk (gr_new L.out h0 (by first | (simp; done) | (simp; omega) | omega)); have H_ := Az.mk (blkGr H.out h0 (by first | (simp; done) | (simp; omega) | omega)); have S_ := Az.mk (blkGr S.out h0 (by first | (simp; done) | (simp; omega) | omega)); clear L H S; have L := L_; clear L_; have H := H_; clear H_; have S := S_; clear S_; clear h0 h; have U := Az.mk hbU; clear hbU; have cH0 : World.cell? W5 ⟨gH, 0, none⟩ = some (.float .f32 cA) := blkCell H.out 0; have cH1 : World.cell? W5 ⟨gH, 1, none⟩ = some (.float .f32 cO) := blkCell H.out 1; have cH2 : World.cell? W5 ⟨gH, 2, none⟩ = some (.complex .f32 re im) := blkCell H.out 2; have cU0 : World.cell? W5 ⟨gU, 0, none⟩ = some (.float .f32 0) := blkCell U.out 0; have cU1 : World.cell? W5 ⟨gU, 1, none⟩ = some (.float .f32 0) := blkCell U.out 1; have cU2 : World.cell? W5 ⟨gU, 2, none⟩ = some (.complex .f32 0 0) := blkCell U.out 2)) | ((with_reducible refine gateSt 10 rfl ?_); go_must (refine ev_st rfl rfl rfl (cs := #[.float .f32 ua, .float .f32 uo, .complex .f32 ux uy]) rfl rfl U.out (by kernel_rfl) rfl (by simp [Value.oneCell']) ?_; intro W6 hbU h; have h0 : World.grownBy W5 W6 (some gU) := (by refine World.grownBy.trans ?_ h; repeat (first | exact gr_refl _ _ | apply gr_drewN | apply gr_drew | apply gr_alloc)); clear cH0 cH1 cH2 cU0 cU1 cU2; have L_ := Az.mk (gr_new L.out h0 (by first | (simp; done) | (simp; omega) | omega)); have H_ := Az.mk (blkGr H.out h0 (by first | (simp; done) | (simp; omega) | omega)); have S_ := Az.mk (blkGr S.out h0 (by first | (simp; done) | (simp; omega) | omega)); clear L H S; have L := L_; clear L_; have H := H_; clear H_; have S := S_; clear S_; clear h0 h; clear U; have U := Az.mk hbU; clear hbU; have cH0 : World.cell? W6 ⟨gH, 0, none⟩ = some (.float .f32 cA) := blkCell H.out 0; have cH1 : World.cell? W6 ⟨gH, 1, none⟩ = some (.float .f32 cO) := blkCell H.out 1; have cH2 : World.cell? W6 ⟨gH, 2, none⟩ = some (.complex .f32 re im) := blkCell H.out 2; have cU0 : World.cell? W6 ⟨gU, 0, none⟩ = some (.float .f32 ua) := blkCell U.out 0; have cU1 : World.cell? W6 ⟨gU, 1, none⟩ = some (.float .f32 uo) := blkCell U.out 1; have cU2 : World.cell? W6 ⟨gU, 2, none⟩ = some (.complex .f32 ux uy) := blkCell U.out 2)) | ((with_reducible refine gateN 63 rfl ?_); go_must (refine ev_ld 63 rfl rfl rfl (cs := #[.float .f32 cA, .float .f32 cO, .complex .f32 re im]) rfl H.out Try.underlying28 rfl (by kernel_rfl) ?_)) | ((with_reducible refine gateN 64 rfl ?_); go_must (refine ev_ld 64 rfl rfl rfl (cs := #[.float .f32 ua, .float .f32 uo, .complex .f32 ux uy]) rfl U.out Try.underlying28 rfl (by kernel_rfl) ?_)))
        refine (Chain_ok cA cO re im ua uo ux uy _ HG.out.ok (by rw [HU.out.1, HU.out.2.1, HU.out.2.2.1, HU.out.2.2.2]; exact HG.out.undo) (by rw [HU.out.1, HU.out.2.1, HU.out.2.2.1, HU.out.2.2.2]; exact HG.out.chain)).mono ?_
        rintro e v2 ⟨xa, xo, xx, xy, hxa, hxo, hxx, hxy, rfl, h⟩
        have h0 : World.grownBy W6 v2 _ := (by refine World.grownBy.trans ?_ h; repeat (first | exact gr_refl _ _ | apply gr_drewN | apply gr_drew | apply gr_alloc))
        clear cH0 cH1 cH2 cU0 cU1 cU2
        have L_ := Az.mk (gr_new L.out h0 (by first | (simp; done) | (simp; omega) | omega))
        have H_ := Az.mk (blkGr H.out h0 (by first | (simp; done) | (simp; omega) | omega))
        have S_ := Az.mk (blkGr S.out h0 (by first | (simp; done) | (simp; omega) | omega))
        have U_ := Az.mk (blkGr U.out h0 (by first | (simp; done) | (simp; omega) | omega))
        clear L H S U
        have L := L_; clear L_
        have H := H_; clear H_
        have S := S_; clear S_
        have U := U_; clear U_
        clear h0 h
        have cH0 : World.cell? v2 ⟨gH, 0, none⟩ = some (.float .f32 cA) := blkCell H.out 0
        have cH1 : World.cell? v2 ⟨gH, 1, none⟩ = some (.float .f32 cO) := blkCell H.out 1
        have cH2 : World.cell? v2 ⟨gH, 2, none⟩ = some (.complex .f32 re im) := blkCell H.out 2
        have cU0 : World.cell? v2 ⟨gU, 0, none⟩ = some (.float .f32 ua) := blkCell U.out 0
        have cU1 : World.cell? v2 ⟨gU, 1, none⟩ = some (.float .f32 uo) := blkCell U.out 1
        have cU2 : World.cell? v2 ⟨gU, 2, none⟩ = some (.complex .f32 ux uy) := blkCell U.out 2
        have e1 : (FloatKind.f32.format.order xa 1065353216 != some .eq) = false := by rw [o_ne, hxa, HU.out.1, show feq _ (fN .f32 1065353216) = true from HG.out.a1]; rfl
        have e2 : (FloatKind.f32.format.order xo 0 != some .eq) = false := by rw [o_ne, hxo, HU.out.1, HU.out.2.1, show feq _ (fN .f32 0) = true from HG.out.o0]; rfl
        have e3 : (!(FloatKind.f32.format.order xx 1065353216 == some .eq && FloatKind.f32.format.order xy 0 == some .eq)) = false := by rw [o_eq, o_eq, hxx, hxy, HU.out.2.2.1, HU.out.2.2.2, show feq _ (fN .f32 1065353216) = true from HG.out.r1, show feq _ (fN .f32 0) = true from HG.out.i0]; rfl
        clear hxa hxo hxx hxy
        go_wp2_with (first | ((with_reducible refine gateN 12 rfl ?_); go_must (refine ev_al 12 rfl rfl #[.float .f32 0, .float .f32 0, .complex .f32 0 0] 28 ?hr ?_; (case hr => first | (go_simp; done) | (go_simp; rfl)); intro gX heX W7 hbX h; have hgX : w.heap.size ≤ gX := Nat.le_trans L.out.size heX; have hgXH : gH < gX := Nat.lt_of_lt_of_le (blkLt H.out) heX; have hgXS : gS < gX := Nat.lt_of_lt_of_le (blkLt S.out) heX; have hgXU : gU < gX := Nat.lt_of_lt_of_le (blkLt U.out) heX; clear heX; have h0 : World.grownBy v2 W7 none := (by refine World.grownBy.trans ?_ h; repeat (first | exact gr_refl _ _ | apply gr_drewN | apply gr_drew | apply gr_alloc)); clear cH0 cH1 cH2 cU0 cU1 cU2; have L_ := Az.mk (gr_new L.out h0 (by first | (simp; done) | (simp; omega) | omega)); have H_ := Az.mk (blkGr H.out h0 (by first | (simp; done) | (simp; omega) | omega)); have S_ := Az.mk (blkGr S.out h0 (by first | (simp; done) | (simp; omega) | omega)); have U_ := Az.mk (blkGr U.out h0 (by first | (simp; done) | (simp; omega) | omega)); clear L H S U; have L := L_; clear L_; have H := H_; clear H_; have S := S_; clear S_; have U := U_; clear U_; clear h0 h; have X := Az.mk hbX; clear hbX; have cH0 : World.cell? W7 ⟨gH, 0, none⟩ = some (.float .f32 cA) := blkCell H.out 0; have cH1 : World.cell? W7 ⟨gH, 1, none⟩ = some (.float .f32 cO) := blkCell H.out 1; have cH2 : World.cell? W7 ⟨gH, 2, none⟩ = some (.complex .f32 re im) := blkCell H.out 2; have cU0 : World.cell? W7 ⟨gU, 0, none⟩ = some (.float .f32 ua) := blkCell U.out 0; have cU1 : World.cell? W7 ⟨gU, 1, none⟩ = some (.float .f32 uo) := blkCell U.out 1; have cU2 : World.cell? W7 ⟨gU, 2, none⟩ = some (.complex .f32 ux uy) := blkCell U.out 2; have cX0 : World.cell? W7 ⟨gX, 0, none⟩ = some (.float .f32 0) := blkCell X.out 0; have cX1 : World.cell? W7 ⟨gX, 1, none⟩ = some (.float .f32 0) := blkCell X.out 1; have cX2 : World.cell? W7 ⟨gX, 2, none⟩ = some (.complex .f32 0 0) := blkCell X.out 2)) | ((with_reducible refine gateSt 12 rfl ?_); go_must (refine ev_st rfl rfl rfl (cs := #[.float .f32 xa, .float .f32 xo, .complex .f32 xx xy]) rfl rfl X.out (by kernel_rfl) rfl (by simp [Value.oneCell']) ?_; intro W8 hbX h; have h0 : World.grownBy W7 W8 (some gX) := (by refine World.grownBy.trans ?_ h; repeat (first | exact gr_refl _ _ | apply gr_drewN | apply gr_drew | apply gr_alloc)); clear cH0 cH1 cH2 cU0 cU1 cU2 cX0 cX1 cX2; have L_ := Az.mk (gr_new L.out h0 (by first | (simp; done) | (simp; omega) | omega)); have H_ := Az.mk (blkGr H.out h0 (by first | (simp; done) | (simp; omega) | omega)); have S_ := Az.mk (blkGr S.out h0 (by first | (simp; done) | (simp; omega) | omega)); have U_ := Az.mk (blkGr U.out h0 (by first | (simp; done) | (simp; omega) | omega)); clear L H S U; have L := L_; clear L_; have H := H_; clear H_; have S := S_; clear S_; have U := U_; clear U_; clear h0 h; clear X; have X := Az.mk hbX; clear hbX; have cH0 : World.cell? W8 ⟨gH, 0, none⟩ = some (.float .f32 cA) := blkCell H.out 0; have cH1 : World.cell? W8 ⟨gH, 1, none⟩ = some (.float .f32 cO) := blkCell H.out 1; have cH2 : World.cell? W8 ⟨gH, 2, none⟩ = some (.complex .f32 re im) := blkCell H.out 2; have cU0 : World.cell? W8 ⟨gU, 0, none⟩ = some (.float .f32 ua) := blkCell U.out 0; have cU1 : World.cell? W8 ⟨gU, 1, none⟩ = some (.float .f32 uo) := blkCell U.out 1; have cU2 : World.cell? W8 ⟨gU, 2, none⟩ = some (.complex .f32 ux uy) := blkCell U.out 2; have cX0 : World.cell? W8 ⟨gX, 0, none⟩ = some (.float .f32 xa) := blkCell X.out 0; have cX1 : World.cell? W8 ⟨gX, 1, none⟩ = some (.float .f32 xo) := blkCell X.out 1; have cX2 : World.cell? W8 ⟨gX, 2, none⟩ = some (.complex .f32 xx xy) := blkCell X.out 2)))
        exact ⟨⟨k + 1, by omega, by go_num, L, ⟨_, _, H.out⟩, S⟩, by simp [intOf]; omega⟩
      · have hge : ¬ (k : Int) < 4 := by omega
        have hfin := (fun hh => times_one (a := a) (b := b) (by unfold cellOkN at hh; simp only [Bool.and_eq_true] at hh; exact hh.2.1) (by unfold cellOkN at hh; simp only [Bool.and_eq_true] at hh; exact hh.2.2)) H6.out
        have HN := Az.mk hfin
        clear hfin
        go_wp2_with fail
        refine (Times_c a b 1065353216 0 _).mono ?_
        rintro e v1 ⟨r1, i1, hr1, hi1, rfl, h⟩
        have h0 : World.grownBy wr v1 _ := (by refine World.grownBy.trans ?_ h; repeat (first | exact gr_refl _ _ | apply gr_drewN | apply gr_drew | apply gr_alloc))
        have L_ := Az.mk (gr_new L.out h0 (by first | (simp; done) | (simp; omega) | omega))
        clear L
        have L := L_; clear L_
        clear h0 h
        have e1 : (FloatKind.f32.format.order r1 a == some .eq && FloatKind.f32.format.order i1 b == some .eq) = true := by
          rw [o_eq, o_eq, hr1, hi1]
          have g1 := HN.out.1
          have g2 := HN.out.2.1
          unfold fc at g1 g2
          rw [g1, g2]; rfl
        clear hr1 hi1
        go_wp2_with fail
        refine (Times_c a b 0 1065353216 _).mono ?_
        rintro e v2 ⟨r2, i2, hr2, hi2, rfl, h⟩
        have h0 : World.grownBy v1 v2 _ := (by refine World.grownBy.trans ?_ h; repeat (first | exact gr_refl _ _ | apply gr_drewN | apply gr_drew | apply gr_alloc))
        have L_ := Az.mk (gr_new L.out h0 (by first | (simp; done) | (simp; omega) | omega))
        clear L
        have L := L_; clear L_
        clear h0 h
        have e2 : (FloatKind.f32.format.order r2 (Op.negFloat .f32 b) == some .eq && FloatKind.f32.format.order i2 a == some .eq) = true := by
          rw [o_eq, o_eq, hr2, hi2, fN_neg]
          have g1 := HN.out.2.2.1
          have g2 := HN.out.2.2.2
          unfold fc fneg at g1
          unfold fc at g2
          rw [g1, g2]; rfl
        clear hr2 hi2
        go_wp2_with fail
        go_ret
        exact ⟨rfl, L.out⟩
  · go_wp2_with fail
    have H3 := Az.mk (And.intro h3 h4)
    clear h3 h4
    refine (specCellOk_c 0 a b _).mono ?_
    rintro e w5 ⟨rfl, h⟩
    have h0 : World.grownBy w4 w5 _ := (by refine World.grownBy.trans ?_ h; repeat (first | exact gr_refl _ _ | apply gr_drewN | apply gr_drew | apply gr_alloc))
    have L_ := Az.mk (gr_new L.out h0 (by first | (simp; done) | (simp; omega) | omega))
    clear L
    have L := L_; clear L_
    clear h0 h
    cases h6 : cellOkN (fN .f32 0) (fN .f32 a) (fN .f32 b) with
    | false =>
      go_wp2_with fail
      go_ret
      exact ⟨rfl, L.out⟩
    | true =>
    have H6 := Az.mk h6
    clear h6
    go_wp2_with fail
    refine (DrawPlainChannel_c w _ A n c HR.out hnc (gr_below L.out)).mono ?_
    rintro e w6 ⟨cA, cO, cx, cy, hpl, rfl, h⟩
    have h0 : World.grownBy w5 w6 _ := (by refine World.grownBy.trans ?_ h; repeat (first | exact gr_refl _ _ | apply gr_drewN | apply gr_drew | apply gr_alloc))
    have L_ := Az.mk (gr_new L.out h0 (by first | (simp; done) | (simp; omega) | omega))
    clear L
    have L := L_; clear L_
    clear h0 h
    have HP := Az.mk hpl
    clear hpl
    go_wp2_with (first | ((with_reducible refine gateN 7 rfl ?_); go_must (refine ev_al 7 rfl rfl #[.float .f32 0, .float .f32 0, .complex .f32 0 0] 28 ?hr ?_; (case hr => first | (go_simp; done) | (go_simp; rfl)); intro gH heH W9 hbH h; have hgH : w.heap.size ≤ gH := Nat.le_trans L.out.size heH; clear heH; have h0 : World.grownBy w6 W9 none := (by refine World.grownBy.trans ?_ h; repeat (first | exact gr_refl _ _ | apply gr_drewN | apply gr_drew | apply gr_alloc)); have L_ := Az.mk (gr_new L.out h0 (by first | (simp; done) | (simp; omega) | omega)); clear L; have L := L_; clear L_; clear h0 h; have H := Az.mk hbH; clear hbH; have cH0 : World.cell? W9 ⟨gH, 0, none⟩ = some (.float .f32 0) := blkCell H.out 0; have cH1 : World.cell? W9 ⟨gH, 1, none⟩ = some (.float .f32 0) := blkCell H.out 1; have cH2 : World.cell? W9 ⟨gH, 2, none⟩ = some (.complex .f32 0 0) := blkCell H.out 2)) | ((with_reducible refine gateSt 7 rfl ?_); go_must (refine ev_st rfl rfl rfl (cs := #[.float .f32 cA, .float .f32 cO, .complex .f32 cx cy]) rfl rfl H.out (by kernel_rfl) rfl (by simp [Value.oneCell']) ?_; intro W10 hbH h; have h0 : World.grownBy W9 W10 (some gH) := (by refine World.grownBy.trans ?_ h; repeat (first | exact gr_refl _ _ | apply gr_drewN | apply gr_drew | apply gr_alloc)); clear cH0 cH1 cH2; have L_ := Az.mk (gr_new L.out h0 (by first | (simp; done) | (simp; omega) | omega)); clear L; have L := L_; clear L_; clear h0 h; clear H; have H := Az.mk hbH; clear hbH; have cH0 : World.cell? W10 ⟨gH, 0, none⟩ = some (.float .f32 cA) := blkCell H.out 0; have cH1 : World.cell? W10 ⟨gH, 1, none⟩ = some (.float .f32 cO) := blkCell H.out 1; have cH2 : World.cell? W10 ⟨gH, 2, none⟩ = some (.complex .f32 cx cy) := blkCell H.out 2)) | ((with_reducible refine gateN 49 rfl ?_); go_must (refine ev_bs 49 rfl rfl #[.complex .f32 1073741824 0, .complex .f32 3212836864 0, .complex .f32 0 1056964608, .complex .f32 0 3229614080] 26 4 ?hr ?_; (case hr => first | (go_simp; done) | (go_simp; rfl)); intro gS heS W11 hbS h; have hgS : w.heap.size ≤ gS := Nat.le_trans L.out.size heS; have hgSH : gH < gS := Nat.lt_of_lt_of_le (blkLt H.out) heS; clear heS; have h0 : World.grownBy W10 W11 none := (by refine World.grownBy.trans ?_ h; repeat (first | exact gr_refl _ _ | apply gr_drewN | apply gr_drew | apply gr_alloc)); clear cH0 cH1 cH2; have L_ := Az.mk (gr_new L.out h0 (by first | (simp; done) | (simp; omega) | omega)); have H_ := Az.mk (blkGr H.out h0 (by first | (simp; done) | (simp; omega) | omega)); clear L H; have L := L_; clear L_; have H := H_; clear H_; clear h0 h; have S := Az.mk hbS; clear hbS; have cH0 : World.cell? W11 ⟨gH, 0, none⟩ = some (.float .f32 cA) := blkCell H.out 0; have cH1 : World.cell? W11 ⟨gH, 1, none⟩ = some (.float .f32 cO) := blkCell H.out 1; have cH2 : World.cell? W11 ⟨gH, 2, none⟩ = some (.complex .f32 cx cy) := blkCell H.out 2; have cS0 : World.cell? W11 ⟨gS, 0, none⟩ = some (.complex .f32 1073741824 0) := blkCell S.out 0; have cS1 : World.cell? W11 ⟨gS, 1, none⟩ = some (.complex .f32 3212836864 0) := blkCell S.out 1; have cS2 : World.cell? W11 ⟨gS, 2, none⟩ = some (.complex .f32 0 1056964608) := blkCell S.out 2; have cS3 : World.cell? W11 ⟨gS, 3, none⟩ = some (.complex .f32 0 3229614080) := blkCell S.out 3)))
    have hgS0 := hgS
    go_loopw [51] (fun i wr => ∃ k : Nat, k ≤ 4 ∧ i = .int .i64 k ∧ Az (w.grownBy wr none) ∧ Az (∃ p q, wr.heap[gH]? = some (.cells #[.float .f32 cA, .float .f32 cO, .complex .f32 p q] 28 (0, 0))) ∧ Az (wr.heap[gS]? = some (.cells #[.complex .f32 1073741824 0, .complex .f32 3212836864 0, .complex .f32 0 1056964608, .complex .f32 0 3229614080] 26 (0, 0)))) (fun i _ => 4 - (intOf i).toNat)
    case atStart => exact ⟨0, by omega, rfl, L, ⟨_, _, H.out⟩, S⟩
    case round =>
      clear L H S
      obtain ⟨k, hk, rfl, L, HH, S⟩ := hrel
      obtain ⟨p, q, hH⟩ := HH.out
      have H := Az.mk hH
      clear HH hH
      by_cases hlt : k < 4
      · have hgd : ∃ re im, wr.cell? ⟨gS, k, none⟩ = some (.complex .f32 re im) ∧ Good (fN .f32 cA) (fN .f32 cO) (fN .f32 re) (fN .f32 im) := by
          have hg := good_all HP.out
          rw [blkCell S.out k]
          match k, hlt with
          | 0, _ => exact ⟨_, _, rfl, hg.1⟩
          | 1, _ => exact ⟨_, _, rfl, hg.2.1⟩
          | 2, _ => exact ⟨_, _, rfl, hg.2.2.1⟩
          | 3, _ => exact ⟨_, _, rfl, hg.2.2.2⟩
        obtain ⟨re, im, hcell, hgood⟩ := hgd
        have HG := Az.mk hgood
        clear hgood
        have cH0 : World.cell? wr ⟨gH, 0, none⟩ = some (.float .f32 cA) := blkCell H.out 0
        have cH1 : World.cell? wr ⟨gH, 1, none⟩ = some (.float .f32 cO) := blkCell H.out 1
        have cH2 : World.cell? wr ⟨gH, 2, none⟩ = some (.complex .f32 p q) := blkCell H.out 2
        have hlt2 : (k : Int) < 4 := by omega
        go_wp2_with (first | ((with_reducible refine gateSt 56 rfl ?_); go_must (refine ev_st1 rfl rfl rfl (i := 2) (v := .complex .f32 re im) rfl rfl H.out (by kernel_rfl) rfl (by simp) ?_; intro W12 hbH h; have h0 : World.grownBy wr W12 (some gH) := (by refine World.grownBy.trans ?_ h; repeat (first | exact gr_refl _ _ | apply gr_drewN | apply gr_drew | apply gr_alloc)); clear cH0 cH1 cH2; have L_ := Az.mk (gr_new L.out h0 (by first | (simp; done) | (simp; omega) | omega)); have S_ := Az.mk (blkGr S.out h0 (by first | (simp; done) | (simp; omega) | omega)); clear L S; have L := L_; clear L_; have S := S_; clear S_; clear h0 h; simp only [List.setIfInBounds_toArray, List.set_cons_zero, List.set_cons_succ] at hbH; clear H; have H := Az.mk hbH; clear hbH; have cH0 : World.cell? W12 ⟨gH, 0, none⟩ = some (.float .f32 cA) := blkCell H.out 0; have cH1 : World.cell? W12 ⟨gH, 1, none⟩ = some (.float .f32 cO) := blkCell H.out 1; have cH2 : World.cell? W12 ⟨gH, 2, none⟩ = some (.complex .f32 re im) := blkCell H.out 2)) | ((with_reducible refine gateN 58 rfl ?_); go_must (refine ev_ld 58 rfl rfl rfl (cs := #[.float .f32 cA, .float .f32 cO, .complex .f32 re im]) rfl H.out Try.underlying28 rfl (by kernel_rfl) ?_)))
        refine (Undo_ok cA cO re im _ HG.out.ok HG.out.pow HG.out.undo).mono ?_
        rintro e v1 ⟨ua, uo, ux, uy, hua, huo, hux, huy, rfl, h⟩
        have h0 : World.grownBy W12 v1 _ := (by refine World.grownBy.trans ?_ h; repeat (first | exact gr_refl _ _ | apply gr_drewN | apply gr_drew | apply gr_alloc))
        clear cH0 cH1 cH2
        have L_ := Az.mk (gr_new L.out h0 (by first | (simp; done) | (simp; omega) | omega))
        have H_ := Az.mk (blkGr H.out h0 (by first | (simp; done) | (simp; omega) | omega))
        have S_ := Az.mk (blkGr S.out h0 (by first | (simp; done) | (simp; omega) | omega))
        clear L H S
        have L := L_; clear L_
        have H := H_; clear H_
        have S := S_; clear S_
        clear h0 h
        have cH0 : World.cell? v1 ⟨gH, 0, none⟩ = some (.float .f32 cA) := blkCell H.out 0
        have cH1 : World.cell? v1 ⟨gH, 1, none⟩ = some (.float .f32 cO) := blkCell H.out 1
        have cH2 : World.cell? v1 ⟨gH, 2, none⟩ = some (.complex .f32 re im) := blkCell H.out 2
        have HU := Az.mk (And.intro hua (And.intro huo (And.intro hux huy)))
        clear hua huo hux huy
        go_wp2_with (first | ((with_reducible refine gateN 10 rfl ?_); go_must (refine ev_al 10 rfl rfl #[.float .f32 0, .float .f32 0, .complex .f32 0 0] 28 ?hr ?_; (case hr => first | (go_simp; done) | (go_simp; rfl)); intro gU heU W13 hbU h; have hgU : w.heap.size ≤ gU := Nat.le_trans L.out.size heU; have hgUH : gH < gU := Nat.lt_of_lt_of_le (blkLt H.out) heU; have hgUS : gS < gU := Nat.lt_of_lt_of_le (blkLt S.out) heU; clear heU; have h0 : World.grownBy v1 W13 none := (by refine World.grownBy.trans ?_ h; repeat (first | exact gr_refl _ _ | apply gr_drewN | apply gr_drew | apply gr_alloc)); clear cH0 cH1 cH2; have L_ := Az.mk (gr_new L.out h0 (by first | (simp; done) | (simp; omega) | omega)); have H_ := Az.mk (blkGr H.out h0 (by first | (simp; done) | (simp; omega) | omega)); have S_ := Az.mk (blkGr S.out h0 (by first | (simp; done) | (simp; omega) | omega)); clear L H S; have L := L_; clear L_; have H := H_; clear H_; have S := S_; clear S_; clear h0 h; have U := Az.mk hbU; clear hbU; have cH0 : World.cell? W13 ⟨gH, 0, none⟩ = some (.float .f32 cA) := blkCell H.out 0; have cH1 : World.cell? W13 ⟨gH, 1, none⟩ = some (.float .f32 cO) := blkCell H.out 1; have cH2 : World.cell? W13 ⟨gH, 2, none⟩ = some (.complex .f32 re im) := blkCell H.out 2; have cU0 : World.cell? W13 ⟨gU, 0, none⟩ = some (.float .f32 0) := blkCell U.out 0; have cU1 : World.cell? W13 ⟨gU, 1, none⟩ = some (.float .f32 0) := blkCell U.out 1; have cU2 : World.cell? W13 ⟨gU, 2, none⟩ = some (.complex .f32 0 0) := blkCell U.out 2)) | ((with_reducible refine gateSt 10 rfl ?_); go_must (refine ev_st rfl rfl rfl (cs := #[.float .f32 ua, .float .f32 uo, .complex .f32 ux uy]) rfl rfl U.out (by kernel_rfl) rfl (by simp [Value.oneCell']) ?_; intro W14 hbU h; have h0 : World.grownBy W13 W14 (some gU) := (by refine World.grownBy.trans ?_ h; repeat (first | exact gr_refl _ _ | apply gr_drewN | apply gr_drew | apply gr_alloc)); clear cH0 cH1 cH2 cU0 cU1 cU2; have L_ := Az.mk (gr_new L.out h0 (by first | (simp; done) | (simp; omega) | omega)); have H_ := Az.mk (blkGr H.out h0 (by first | (simp; done) | (simp; omega) | omega)); have S_ := Az.mk (blkGr S.out h0 (by first | (simp; done) | (simp; omega) | omega)); clear L H S; have L := L_; clear L_; have H := H_; clear H_; have S := S_; clear S_; clear h0 h; clear U; have U := Az.mk hbU; clear hbU; have cH0 : World.cell? W14 ⟨gH, 0, none⟩ = some (.float .f32 cA) := blkCell H.out 0; have cH1 : World.cell? W14 ⟨gH, 1, none⟩ = some (.float .f32 cO) := blkCell H.out 1; have cH2 : World.cell? W14 ⟨gH, 2, none⟩ = some (.complex .f32 re im) := blkCell H.out 2; have cU0 : World.cell? W14 ⟨gU, 0, none⟩ = some (.float .f32 ua) := blkCell U.out 0; have cU1 : World.cell? W14 ⟨gU, 1, none⟩ = some (.float .f32 uo) := blkCell U.out 1; have cU2 : World.cell? W14 ⟨gU, 2, none⟩ = some (.complex .f32 ux uy) := blkCell U.out 2)) | ((with_reducible refine gateN 63 rfl ?_); go_must (refine ev_ld 63 rfl rfl rfl (cs := #[.float .f32 cA, .float .f32 cO, .complex .f32 re im]) rfl H.out Try.underlying28 rfl (by kernel_rfl) ?_)) | ((with_reducible refine gateN 64 rfl ?_); go_must (refine ev_ld 64 rfl rfl rfl (cs := #[.float .f32 ua, .float .f32 uo, .complex .f32 ux uy]) rfl U.out Try.underlying28 rfl (by kernel_rfl) ?_)))
        refine (Chain_ok cA cO re im ua uo ux uy _ HG.out.ok (by rw [HU.out.1, HU.out.2.1, HU.out.2.2.1, HU.out.2.2.2]; exact HG.out.undo) (by rw [HU.out.1, HU.out.2.1, HU.out.2.2.1, HU.out.2.2.2]; exact HG.out.chain)).mono ?_
        rintro e v2 ⟨xa, xo, xx, xy, hxa, hxo, hxx, hxy, rfl, h⟩
        have h0 : World.grownBy W14 v2 _ := (by refine World.grownBy.trans ?_ h; repeat (first | exact gr_refl _ _ | apply gr_drewN | apply gr_drew | apply gr_alloc))
        clear cH0 cH1 cH2 cU0 cU1 cU2
        have L_ := Az.mk (gr_new L.out h0 (by first | (simp; done) | (simp; omega) | omega))
        have H_ := Az.mk (blkGr H.out h0 (by first | (simp; done) | (simp; omega) | omega))
        have S_ := Az.mk (blkGr S.out h0 (by first | (simp; done) | (simp; omega) | omega))
        have U_ := Az.mk (blkGr U.out h0 (by first | (simp; done) | (simp; omega) | omega))
        clear L H S U
        have L := L_; clear L_
        have H := H_; clear H_
        have S := S_; clear S_
        have U := U_; clear U_
        clear h0 h
        have cH0 : World.cell? v2 ⟨gH, 0, none⟩ = some (.float .f32 cA) := blkCell H.out 0
        have cH1 : World.cell? v2 ⟨gH, 1, none⟩ = some (.float .f32 cO) := blkCell H.out 1
        have cH2 : World.cell? v2 ⟨gH, 2, none⟩ = some (.complex .f32 re im) := blkCell H.out 2
        have cU0 : World.cell? v2 ⟨gU, 0, none⟩ = some (.float .f32 ua) := blkCell U.out 0
        have cU1 : World.cell? v2 ⟨gU, 1, none⟩ = some (.float .f32 uo) := blkCell U.out 1
        have cU2 : World.cell? v2 ⟨gU, 2, none⟩ = some (.complex .f32 ux uy) := blkCell U.out 2
        have e1 : (FloatKind.f32.format.order xa 1065353216 != some .eq) = false := by rw [o_ne, hxa, HU.out.1, show feq _ (fN .f32 1065353216) = true from HG.out.a1]; rfl
        have e2 : (FloatKind.f32.format.order xo 0 != some .eq) = false := by rw [o_ne, hxo, HU.out.1, HU.out.2.1, show feq _ (fN .f32 0) = true from HG.out.o0]; rfl
        have e3 : (!(FloatKind.f32.format.order xx 1065353216 == some .eq && FloatKind.f32.format.order xy 0 == some .eq)) = false := by rw [o_eq, o_eq, hxx, hxy, HU.out.2.2.1, HU.out.2.2.2, show feq _ (fN .f32 1065353216) = true from HG.out.r1, show feq _ (fN .f32 0) = true from HG.out.i0]; rfl
        clear hxa hxo hxx hxy
        go_wp2_with (first | ((with_reducible refine gateN 12 rfl ?_); go_must (refine ev_al 12 rfl rfl #[.float .f32 0, .float .f32 0, .complex .f32 0 0] 28 ?hr ?_; (case hr => first | (go_simp; done) | (go_simp; rfl)); intro gX heX W15 hbX h; have hgX : w.heap.size ≤ gX := Nat.le_trans L.out.size heX; have hgXH : gH < gX := Nat.lt_of_lt_of_le (blkLt H.out) heX; have hgXS : gS < gX := Nat.lt_of_lt_of_le (blkLt S.out) heX; have hgXU : gU < gX := Nat.lt_of_lt_of_le (blkLt U.out) heX; clear heX; have h0 : World.grownBy v2 W15 none := (by refine World.grownBy.trans ?_ h; repeat (first | exact gr_refl _ _ | apply gr_drewN | apply gr_drew | apply gr_alloc)); clear cH0 cH1 cH2 cU0 cU1 cU2; have L_ := Az.mk (gr_new L.out h0 (by first | (simp; done) | (simp; omega) | omega)); have H_ := Az.mk (blkGr H.out h0 (by first | (simp; done) | (simp; omega) | omega)); have S_ := Az.mk (blkGr S.out h0 (by first | (simp; done) | (simp; omega) | omega)); have U_ := Az.mk (blkGr U.out h0 (by first | (simp; done) | (simp; omega) | omega)); clear L H S U; have L := L_; clear L_; have H := H_; clear H_; have S := S_; clear S_; have U := U_; clear U_; clear h0 h; have X := Az.mk hbX; clear hbX; have cH0 : World.cell? W15 ⟨gH, 0, none⟩ = some (.float .f32 cA) := blkCell H.out 0; have cH1 : World.cell? W15 ⟨gH, 1, none⟩ = some (.float .f32 cO) := blkCell H.out 1; have cH2 : World.cell? W15 ⟨gH, 2, none⟩ = some (.complex .f32 re im) := blkCell H.out 2; have cU0 : World.cell? W15 ⟨gU, 0, none⟩ = some (.float .f32 ua) := blkCell U.out 0; have cU1 : World.cell? W15 ⟨gU, 1, none⟩ = some (.float .f32 uo) := blkCell U.out 1; have cU2 : World.cell? W15 ⟨gU, 2, none⟩ = some (.complex .f32 ux uy) := blkCell U.out 2; have cX0 : World.cell? W15 ⟨gX, 0, none⟩ = some (.float .f32 0) := blkCell X.out 0; have cX1 : World.cell? W15 ⟨gX, 1, none⟩ = some (.float .f32 0) := blkCell X.out 1; have cX2 : World.cell? W15 ⟨gX, 2, none⟩ = some (.complex .f32 0 0) := blkCell X.out 2)) | ((with_reducible refine gateSt 12 rfl ?_); go_must (refine ev_st rfl rfl rfl (cs := #[.float .f32 xa, .float .f32 xo, .complex .f32 xx xy]) rfl rfl X.out (by kernel_rfl) rfl (by simp [Value.oneCell']) ?_; intro W16 hbX h; have h0 : World.grownBy W15 W16 (some gX) := (by refine World.grownBy.trans ?_ h; repeat (first | exact gr_refl _ _ | apply gr_drewN | apply gr_drew | apply gr_alloc)); clear cH0 cH1 cH2 cU0 cU1 cU2 cX0 cX1 cX2; have L_ := Az.mk (gr_new L.out h0 (by first | (simp; done) | (simp; omega) | omega)); have H_ := Az.mk (blkGr H.out h0 (by first | (simp; done) | (simp; omega) | omega)); have S_ := Az.mk (blkGr S.out h0 (by first | (simp; done) | (simp; omega) | omega)); have U_ := Az.mk (blkGr U.out h0 (by first | (simp; done) | (simp; omega) | omega)); clear L H S U; have L := L_; clear L_; have H := H_; clear H_; have S := S_; clear S_; have U := U_; clear U_; clear h0 h; clear X; have X := Az.mk hbX; clear hbX; have cH0 : World.cell? W16 ⟨gH, 0, none⟩ = some (.float .f32 cA) := blkCell H.out 0; have cH1 : World.cell? W16 ⟨gH, 1, none⟩ = some (.float .f32 cO) := blkCell H.out 1; have cH2 : World.cell? W16 ⟨gH, 2, none⟩ = some (.complex .f32 re im) := blkCell H.out 2; have cU0 : World.cell? W16 ⟨gU, 0, none⟩ = some (.float .f32 ua) := blkCell U.out 0; have cU1 : World.cell? W16 ⟨gU, 1, none⟩ = some (.float .f32 uo) := blkCell U.out 1; have cU2 : World.cell? W16 ⟨gU, 2, none⟩ = some (.complex .f32 ux uy) := blkCell U.out 2; have cX0 : World.cell? W16 ⟨gX, 0, none⟩ = some (.float .f32 xa) := blkCell X.out 0; have cX1 : World.cell? W16 ⟨gX, 1, none⟩ = some (.float .f32 xo) := blkCell X.out 1; have cX2 : World.cell? W16 ⟨gX, 2, none⟩ = some (.complex .f32 xx xy) := blkCell X.out 2)))
        exact ⟨⟨k + 1, by omega, by go_num, L, ⟨_, _, H.out⟩, S⟩, by simp [intOf]; omega⟩
      · have hge : ¬ (k : Int) < 4 := by omega
        have hfin := (fun hh => times_one (a := a) (b := b) (by unfold cellOkN at hh; simp only [Bool.and_eq_true] at hh; exact hh.2.1) (by unfold cellOkN at hh; simp only [Bool.and_eq_true] at hh; exact hh.2.2)) H6.out
        have HN := Az.mk hfin
        clear hfin
        go_wp2_with fail
        refine (Times_c a b 1065353216 0 _).mono ?_
        rintro e v1 ⟨r1, i1, hr1, hi1, rfl, h⟩
        have h0 : World.grownBy wr v1 _ := (by refine World.grownBy.trans ?_ h; repeat (first | exact gr_refl _ _ | apply gr_drewN | apply gr_drew | apply gr_alloc))
        have L_ := Az.mk (gr_new L.out h0 (by first | (simp; done) | (simp; omega) | omega))
        clear L
        have L := L_; clear L_
        clear h0 h
        have e1 : (FloatKind.f32.format.order r1 a == some .eq && FloatKind.f32.format.order i1 b == some .eq) = true := by
          rw [o_eq, o_eq, hr1, hi1]
          have g1 := HN.out.1
          have g2 := HN.out.2.1
          unfold fc at g1 g2
          rw [g1, g2]; rfl
        clear hr1 hi1
        go_wp2_with fail
        refine (Times_c a b 0 1065353216 _).mono ?_
        rintro e v2 ⟨r2, i2, hr2, hi2, rfl, h⟩
        have h0 : World.grownBy v1 v2 _ := (by refine World.grownBy.trans ?_ h; repeat (first | exact gr_refl _ _ | apply gr_drewN | apply gr_drew | apply gr_alloc))
        have L_ := Az.mk (gr_new L.out h0 (by first | (simp; done) | (simp; omega) | omega))
        clear L
        have L := L_; clear L_
        clear h0 h
        have e2 : (FloatKind.f32.format.order r2 (Op.negFloat .f32 b) == some .eq && FloatKind.f32.format.order i2 a == some .eq) = true := by
          rw [o_eq, o_eq, hr2, hi2, fN_neg]
          have g1 := HN.out.2.2.1
          have g2 := HN.out.2.2.2
          unfold fc fneg at g1
          unfold fc at g2
          rw [g1, g2]; rfl
        clear hr2 hi2
        go_wp2_with fail
        go_ret
        exact ⟨rfl, L.out⟩
end Go.Proofs.Ytjomilloilbcgaa
