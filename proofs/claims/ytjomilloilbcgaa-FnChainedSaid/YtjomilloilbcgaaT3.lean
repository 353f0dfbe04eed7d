/- The walk of laws.FnChained: it answers true. No condition. -/
import Derived.Test.YtjomilloilbcgaaM4
import Derived.Test.YtjomilloilbcgaaT2
namespace Go.Proofs.Ytjomilloilbcgaa
open Go.RowKit
set_option linter.unusedVariables false
set_option linter.unusedSimpArgs false

theorem BytesRd.sub {w : World} {ad : Addr} {n : Nat} (k : Nat) (h : BytesRd w (some ad) n) : BytesRd w (some (ad.add k)) (n - k) := by
  refine ⟨by have := h.1; omega, fun hn => ⟨_, rfl, fun j hj => ?_⟩⟩
  obtain ⟨ad', e, hb⟩ := h.2 (by omega)
  injection e with e
  subst e
  have := hb (k + j) (by omega)
  have e : (ad.add k).add j = ad.add (k + j) := by
    by_cases h1 : k = 0 <;> by_cases h2 : j = 0 <;> simp [Addr.add, h1, h2, Nat.add_assoc]
  rw [e]; exact this

theorem BytesRd.subO {w : World} {A : Option Addr} {n : Nat} (k : Nat) (h : BytesRd w A n) : BytesRd w (Option.map (fun x => x.add k) A) (n - k) := by
  cases A with
  | some ad => exact h.sub k
  | none =>
    refine ⟨by have := h.1; omega, fun hn => ?_⟩
    obtain ⟨_, e, _⟩ := h.2 (by omega)
    cases e
theorem own_rdS {w : World} {base : Nat} {e : TypeId} {size : Nat} {A : Option Addr} {n c m : Nat} {xs : List Value} (h : w.ownsRow base e size (.slice A n c) m xs) : Rd w A m size xs := by
  obtain ⟨A', c', e, _, hr, _⟩ := own_rd h
  injection e with e1 e2 e3
  rw [e1]; exact hr
set_option maxHeartbeats 4000000 in
theorem FnChained_a (w : World) (A : Option Addr) (n c : Nat) (hrd : BytesRd w A n) (hnc : n ≤ c) (hz : c ≠ n / 2) :
    Calls Try.prog 5 #[.slice A n c] w (RetYes w) := by
  have L := Az.mk (gr_refl w none)
  have HR := Az.mk hrd
  have hn := hrd.1
  clear hrd
  go_enter Try.func5, Try.ntmps5
  go_wp2_with fail
  refine (big_c A n c hn _).mono ?_
  rintro e w1 ⟨rfl, h⟩
  have h0 : World.grownBy w w1 _ := (by refine World.grownBy.trans ?_ h; repeat (first | exact gr_refl _ _ | apply gr_drewN | apply gr_drew | apply gr_alloc))
  have L_ := Az.mk (gr_new L.out h0 (by first | (simp; done) | (simp; omega) | omega))
  clear L
  have L := L_; clear L_
  clear h0 h
  by_cases hbig : 1048576 < n
  · have hd : decide (1048576 < n) = true := decide_eq_true hbig
    go_wp2_with fail
    go_ret
    exact ⟨rfl, L.out⟩
  have hd : decide (1048576 < n) = false := decide_eq_false hbig
  rw [hd]
  clear hd
  go_wp2_with fail
  refine (DrawPlainChannel_c w _ A n c HR.out hnc (gr_below L.out)).mono ?_
  rintro e w2 ⟨a1, o1, x1, y1, hpl, rfl, h⟩
  have h0 : World.grownBy w1 w2 _ := (by refine World.grownBy.trans ?_ h; repeat (first | exact gr_refl _ _ | apply gr_drewN | apply gr_drew | apply gr_alloc))
  have L_ := Az.mk (gr_new L.out h0 (by first | (simp; done) | (simp; omega) | omega))
  clear L
  have L := L_; clear L_
  clear h0 h
  have HP := Az.mk hpl
  clear hpl
  go_wp2_with (first | ((with_reducible refine gateN 3 rfl ?_); go_must (refine ev_al 3 rfl rfl #[.float .f32 0, .float .f32 0, .complex .f32 0 0] 28 ?hr ?_; (case hr => first | (go_simp; done) | (go_simp; rfl)); intro gB heB W1 hbB h; have hgB : w.heap.size ≤ gB := Nat.le_trans L.out.size heB; clear heB; have h0 : World.grownBy w2 W1 none := (by refine World.grownBy.trans ?_ h; repeat (first | exact gr_refl _ _ | apply gr_drewN | apply gr_drew | apply gr_alloc)); have L_ := Az.mk (gr_new L.out h0 (by first | (simp; done) | (simp; omega) | omega)); clear L; have L := L_; clear L_; clear h0 h; have B := Az.mk hbB; clear hbB; have cB0 : World.cell? W1 ⟨gB, 0, none⟩ = some (.float .f32 0) := blkCell B.out 0; have cB1 : World.cell? W1 ⟨gB, 1, none⟩ = some (.float .f32 0) := blkCell B.out 1; have cB2 : World.cell? W1 ⟨gB, 2, none⟩ = some (.complex .f32 0 0) := blkCell B.out 2)) | ((with_reducible refine gateSt 3 rfl ?_); go_must (refine ev_st rfl rfl rfl (cs := #[.float .f32 a1, .float .f32 o1, .complex .f32 x1 y1]) rfl rfl B.out (by kernel_rfl) rfl (by simp [Value.oneCell']) ?_; intro W2 hbB h; have h0 : World.grownBy W1 W2 (some gB) := (by refine World.grownBy.trans ?_ h; repeat (first | exact gr_refl _ _ | apply gr_drewN | apply gr_drew | apply gr_alloc)); clear cB0 cB1 cB2; have L_ := Az.mk (gr_new L.out h0 (by first | (simp; done) | (simp; omega) | omega)); clear L; have L := L_; clear L_; clear h0 h; clear B; have B := Az.mk hbB; clear hbB; have cB0 : World.cell? W2 ⟨gB, 0, none⟩ = some (.float .f32 a1) := blkCell B.out 0; have cB1 : World.cell? W2 ⟨gB, 1, none⟩ = some (.float .f32 o1) := blkCell B.out 1; have cB2 : World.cell? W2 ⟨gB, 2, none⟩ = some (.complex .f32 x1 y1) := blkCell B.out 2)))
  refine (DrawPlainChannel_c w _ (Option.map (Addr.add · (n / 2)) A) (n - n / 2) (c - n / 2) (HR.out.subO _) (by omega) (gr_below L.out)).mono ?_
  rintro e w3 ⟨a2, o2, x2, y2, hpl, rfl, h⟩
  have h0 : World.grownBy W2 w3 _ := (by refine World.grownBy.trans ?_ h; repeat (first | exact gr_refl _ _ | apply gr_drewN | apply gr_drew | apply gr_alloc))
  clear cB0 cB1 cB2
  have L_ := Az.mk (gr_new L.out h0 (by first | (simp; done) | (simp; omega) | omega))
  have B_ := Az.mk (blkGr B.out h0 (by first | (simp; done) | (simp; omega) | omega))
  clear L B
  have L := L_; clear L_
  have B := B_; clear B_
  clear h0 h
  have cB0 : World.cell? w3 ⟨gB, 0, none⟩ = some (.float .f32 a1) := blkCell B.out 0
  have cB1 : World.cell? w3 ⟨gB, 1, none⟩ = some (.float .f32 o1) := blkCell B.out 1
  have cB2 : World.cell? w3 ⟨gB, 2, none⟩ = some (.complex .f32 x1 y1) := blkCell B.out 2
  have HP2 := Az.mk hpl
  clear hpl
  go_wp2_with (first | ((with_reducible refine gateN 4 rfl ?_); go_must (refine ev_al 4 rfl rfl #[.float .f32 0, .float .f32 0, .complex .f32 0 0] 28 ?hr ?_; (case hr => first | (go_simp; done) | (go_simp; rfl)); intro gD heD W3 hbD h; have hgD : w.heap.size ≤ gD := Nat.le_trans L.out.size heD; have hgDB : gB < gD := Nat.lt_of_lt_of_le (blkLt B.out) heD; clear heD; have h0 : World.grownBy w3 W3 none := (by refine World.grownBy.trans ?_ h; repeat (first | exact gr_refl _ _ | apply gr_drewN | apply gr_drew | apply gr_alloc)); clear cB0 cB1 cB2; have L_ := Az.mk (gr_new L.out h0 (by first | (simp; done) | (simp; omega) | omega)); have B_ := Az.mk (blkGr B.out h0 (by first | (simp; done) | (simp; omega) | omega)); clear L B; have L := L_; clear L_; have B := B_; clear B_; clear h0 h; have D := Az.mk hbD; clear hbD; have cB0 : World.cell? W3 ⟨gB, 0, none⟩ = some (.float .f32 a1) := blkCell B.out 0; have cB1 : World.cell? W3 ⟨gB, 1, none⟩ = some (.float .f32 o1) := blkCell B.out 1; have cB2 : World.cell? W3 ⟨gB, 2, none⟩ = some (.complex .f32 x1 y1) := blkCell B.out 2; have cD0 : World.cell? W3 ⟨gD, 0, none⟩ = some (.float .f32 0) := blkCell D.out 0; have cD1 : World.cell? W3 ⟨gD, 1, none⟩ = some (.float .f32 0) := blkCell D.out 1; have cD2 : World.cell? W3 ⟨gD, 2, none⟩ = some (.complex .f32 0 0) := blkCell D.out 2)) | ((with_reducible refine gateSt 4 rfl ?_); go_must (refine ev_st rfl rfl rfl (cs := #[.float .f32 a2, .float .f32 o2, .complex .f32 x2 y2]) rfl rfl D.out (by kernel_rfl) rfl (by simp [Value.oneCell']) ?_; intro W4 hbD h; have h0 : World.grownBy W3 W4 (some gD) := (by refine World.grownBy.trans ?_ h; repeat (first | exact gr_refl _ _ | apply gr_drewN | apply gr_drew | apply gr_alloc)); clear cB0 cB1 cB2 cD0 cD1 cD2; have L_ := Az.mk (gr_new L.out h0 (by first | (simp; done) | (simp; omega) | omega)); have B_ := Az.mk (blkGr B.out h0 (by first | (simp; done) | (simp; omega) | omega)); clear L B; have L := L_; clear L_; have B := B_; clear B_; clear h0 h; clear D; have D := Az.mk hbD; clear hbD; have cB0 : World.cell? W4 ⟨gB, 0, none⟩ = some (.float .f32 a1) := blkCell B.out 0; have cB1 : World.cell? W4 ⟨gB, 1, none⟩ = some (.float .f32 o1) := blkCell B.out 1; have cB2 : World.cell? W4 ⟨gB, 2, none⟩ = some (.complex .f32 x1 y1) := blkCell B.out 2; have cD0 : World.cell? W4 ⟨gD, 0, none⟩ = some (.float .f32 a2) := blkCell D.out 0; have cD1 : World.cell? W4 ⟨gD, 1, none⟩ = some (.float .f32 o2) := blkCell D.out 1; have cD2 : World.cell? W4 ⟨gD, 2, none⟩ = some (.complex .f32 x2 y2) := blkCell D.out 2)))
  refine (DrawPlainRow_c w _ A n c HR.out hnc (gr_below L.out)).mono ?_
  rintro e w4 ⟨v4, cs, hl1, hl2, hcs, rfl, hown, h⟩
  have h0 : World.grownBy W4 w4 _ := (by refine World.grownBy.trans ?_ h; repeat (first | exact gr_refl _ _ | apply gr_drewN | apply gr_drew | apply gr_alloc))
  clear cB0 cB1 cB2 cD0 cD1 cD2
  have L_ := Az.mk (gr_new L.out h0 (by first | (simp; done) | (simp; omega) | omega))
  have B_ := Az.mk (blkGr B.out h0 (by first | (simp; done) | (simp; omega) | omega))
  have D_ := Az.mk (blkGr D.out h0 (by first | (simp; done) | (simp; omega) | omega))
  clear L B D
  have L := L_; clear L_
  have B := B_; clear B_
  have D := D_; clear D_
  clear h0 h
  have cB0 : World.cell? w4 ⟨gB, 0, none⟩ = some (.float .f32 a1) := blkCell B.out 0
  have cB1 : World.cell? w4 ⟨gB, 1, none⟩ = some (.float .f32 o1) := blkCell B.out 1
  have cB2 : World.cell? w4 ⟨gB, 2, none⟩ = some (.complex .f32 x1 y1) := blkCell B.out 2
  have cD0 : World.cell? w4 ⟨gD, 0, none⟩ = some (.float .f32 a2) := blkCell D.out 0
  have cD1 : World.cell? w4 ⟨gD, 1, none⟩ = some (.float .f32 o2) := blkCell D.out 1
  have cD2 : World.cell? w4 ⟨gD, 2, none⟩ = some (.complex .f32 x2 y2) := blkCell D.out 2
  obtain ⟨A4, c4, rfl, hc4, hrd4, _⟩ := own_rd hown
  have HLaw := Az.mk (chained_law HP.out HP2.out hcs hl1 hl2)
  have HR4 := Az.mk hrd4
  have HCS := Az.mk hcs
  have HOK := Az.mk (rowOk_plain hcs hl1 hl2)
  clear hown hrd4 hcs
  go_wp2_with fail
  refine (EncodeCells_c true A4 _ c4 cs _ rfl HR4.out).mono ?_
  rintro e w5 ⟨v5, bs, hbs, rfl, hS, h⟩
  have h0 : World.grownBy w4 w5 _ := (by refine World.grownBy.trans ?_ h; repeat (first | exact gr_refl _ _ | apply gr_drewN | apply gr_drew | apply gr_alloc))
  clear cB0 cB1 cB2 cD0 cD1 cD2
  have L_ := Az.mk (gr_new L.out h0 (by first | (simp; done) | (simp; omega) | omega))
  have B_ := Az.mk (blkGr B.out h0 (by first | (simp; done) | (simp; omega) | omega))
  have D_ := Az.mk (blkGr D.out h0 (by first | (simp; done) | (simp; omega) | omega))
  clear L B D
  have L := L_; clear L_
  have B := B_; clear B_
  have D := D_; clear D_
  clear h0 h
  have S := Az.mk hS; clear hS
  have cB0 : World.cell? w5 ⟨gB, 0, none⟩ = some (.float .f32 a1) := blkCell B.out 0
  have cB1 : World.cell? w5 ⟨gB, 1, none⟩ = some (.float .f32 o1) := blkCell B.out 1
  have cB2 : World.cell? w5 ⟨gB, 2, none⟩ = some (.complex .f32 x1 y1) := blkCell B.out 2
  have cD0 : World.cell? w5 ⟨gD, 0, none⟩ = some (.float .f32 a2) := blkCell D.out 0
  have cD1 : World.cell? w5 ⟨gD, 1, none⟩ = some (.float .f32 o2) := blkCell D.out 1
  have cD2 : World.cell? w5 ⟨gD, 2, none⟩ = some (.complex .f32 x2 y2) := blkCell D.out 2
  have hbs2 : bs.map (fN .f32) = encN true cs := by rw [hbs, encRow, HOK.out]; rfl
  obtain ⟨A5, c5, rfl, hc5, _, _⟩ := own_rd S.out
  have HBS := Az.mk hbs2
  clear hbs hbs2
  go_wp2_with (first | ((with_reducible refine gateN 28 rfl ?_); go_must (refine ev_ld 28 rfl rfl rfl (cs := #[.float .f32 a1, .float .f32 o1, .complex .f32 x1 y1]) rfl B.out Try.underlying28 rfl (by kernel_rfl) ?_)))
  refine (Transmit_ok a1 o1 x1 y1 A5 _ c5 bs _ rfl hc5 (own_rdS (by first | exact S.out | exact S.out.alloc _ | exact S.out.drewN _ | exact (S.out.alloc _).alloc _)) HLaw.out.ok1 (by rw [HBS.out]; exact HLaw.out.s0) (by rw [HBS.out]; exact HLaw.out.s1)).mono ?_
  rintro e w6 ⟨v6, xs, hxs, rfl, hX, h⟩
  have h0 : World.grownBy w5 w6 _ := (by refine World.grownBy.trans ?_ h; repeat (first | exact gr_refl _ _ | apply gr_drewN | apply gr_drew | apply gr_alloc))
  clear cB0 cB1 cB2 cD0 cD1 cD2
  have L_ := Az.mk (gr_new L.out h0 (by first | (simp; done) | (simp; omega) | omega))
  have B_ := Az.mk (blkGr B.out h0 (by first | (simp; done) | (simp; omega) | omega))
  have D_ := Az.mk (blkGr D.out h0 (by first | (simp; done) | (simp; omega) | omega))
  have S_ := Az.mk (own_gr S.out h0 (by first | exact own_none _ | exact .inr (own_blk S.out B.out (by decide)) | exact .inr (own_blk S.out D.out (by decide))))
  clear L B D S
  have L := L_; clear L_
  have B := B_; clear B_
  have D := D_; clear D_
  have S := S_; clear S_
  clear h0 h
  have X := Az.mk hX; clear hX
  have cB0 : World.cell? w6 ⟨gB, 0, none⟩ = some (.float .f32 a1) := blkCell B.out 0
  have cB1 : World.cell? w6 ⟨gB, 1, none⟩ = some (.float .f32 o1) := blkCell B.out 1
  have cB2 : World.cell? w6 ⟨gB, 2, none⟩ = some (.complex .f32 x1 y1) := blkCell B.out 2
  have cD0 : World.cell? w6 ⟨gD, 0, none⟩ = some (.float .f32 a2) := blkCell D.out 0
  have cD1 : World.cell? w6 ⟨gD, 1, none⟩ = some (.float .f32 o2) := blkCell D.out 1
  have cD2 : World.cell? w6 ⟨gD, 2, none⟩ = some (.complex .f32 x2 y2) := blkCell D.out 2
  obtain ⟨A6, c6, rfl, hc6, _, _⟩ := own_rd X.out
  rw [HBS.out] at hxs
  have HXS := Az.mk hxs
  clear hxs
  go_wp2_with (first | ((with_reducible refine gateN 34 rfl ?_); go_must (refine ev_ld 34 rfl rfl rfl (cs := #[.float .f32 a2, .float .f32 o2, .complex .f32 x2 y2]) rfl D.out Try.underlying28 rfl (by kernel_rfl) ?_)))
  refine (Transmit_ok a2 o2 x2 y2 A6 _ c6 xs _ rfl hc6 (own_rdS (by first | exact X.out | exact X.out.alloc _ | exact X.out.drewN _ | exact (X.out.alloc _).alloc _)) HLaw.out.ok2 (by rw [HXS.out]; exact HLaw.out.s1) (by rw [HXS.out]; exact HLaw.out.s2)).mono ?_
  rintro e w7 ⟨v7, ys, hys, rfl, hY, h⟩
  have h0 : World.grownBy w6 w7 _ := (by refine World.grownBy.trans ?_ h; repeat (first | exact gr_refl _ _ | apply gr_drewN | apply gr_drew | apply gr_alloc))
  clear cB0 cB1 cB2 cD0 cD1 cD2
  have L_ := Az.mk (gr_new L.out h0 (by first | (simp; done) | (simp; omega) | omega))
  have B_ := Az.mk (blkGr B.out h0 (by first | (simp; done) | (simp; omega) | omega))
  have D_ := Az.mk (blkGr D.out h0 (by first | (simp; done) | (simp; omega) | omega))
  have S_ := Az.mk (own_gr S.out h0 (by first | exact own_none _ | exact .inr (own_blk S.out B.out (by decide)) | exact .inr (own_blk S.out D.out (by decide))))
  have X_ := Az.mk (own_gr X.out h0 (by first | exact own_none _ | exact .inr (own_blk X.out B.out (by decide)) | exact .inr (own_blk X.out D.out (by decide))))
  clear L B D S X
  have L := L_; clear L_
  have B := B_; clear B_
  have D := D_; clear D_
  have S := S_; clear S_
  have X := X_; clear X_
  clear h0 h
  have Y := Az.mk hY; clear hY
  have cB0 : World.cell? w7 ⟨gB, 0, none⟩ = some (.float .f32 a1) := blkCell B.out 0
  have cB1 : World.cell? w7 ⟨gB, 1, none⟩ = some (.float .f32 o1) := blkCell B.out 1
  have cB2 : World.cell? w7 ⟨gB, 2, none⟩ = some (.complex .f32 x1 y1) := blkCell B.out 2
  have cD0 : World.cell? w7 ⟨gD, 0, none⟩ = some (.float .f32 a2) := blkCell D.out 0
  have cD1 : World.cell? w7 ⟨gD, 1, none⟩ = some (.float .f32 o2) := blkCell D.out 1
  have cD2 : World.cell? w7 ⟨gD, 2, none⟩ = some (.complex .f32 x2 y2) := blkCell D.out 2
  obtain ⟨A7, c7, rfl, hc7, _, _⟩ := own_rd Y.out
  rw [HXS.out] at hys
  have HYS := Az.mk hys
  clear hys
  go_wp2_with (first | ((with_reducible refine gateN 40 rfl ?_); go_must (refine ev_ld 40 rfl rfl rfl (cs := #[.float .f32 a1, .float .f32 o1, .complex .f32 x1 y1]) rfl B.out Try.underlying28 rfl (by kernel_rfl) ?_)) | ((with_reducible refine gateN 41 rfl ?_); go_must (refine ev_ld 41 rfl rfl rfl (cs := #[.float .f32 a2, .float .f32 o2, .complex .f32 x2 y2]) rfl D.out Try.underlying28 rfl (by kernel_rfl) ?_)))
  refine (Chain_ok a1 o1 x1 y1 a2 o2 x2 y2 _ HLaw.out.ok1 HLaw.out.ok2 HLaw.out.ok3).mono ?_
  rintro e w8 ⟨a3, o3, x3, y3, e1, e2, e3, e4, rfl, h⟩
  have h0 : World.grownBy w7 w8 _ := (by refine World.grownBy.trans ?_ h; repeat (first | exact gr_refl _ _ | apply gr_drewN | apply gr_drew | apply gr_alloc))
  clear cB0 cB1 cB2 cD0 cD1 cD2
  have L_ := Az.mk (gr_new L.out h0 (by first | (simp; done) | (simp; omega) | omega))
  have B_ := Az.mk (blkGr B.out h0 (by first | (simp; done) | (simp; omega) | omega))
  have D_ := Az.mk (blkGr D.out h0 (by first | (simp; done) | (simp; omega) | omega))
  have S_ := Az.mk (own_gr S.out h0 (by first | exact own_none _ | exact .inr (own_blk S.out B.out (by decide)) | exact .inr (own_blk S.out D.out (by decide))))
  have X_ := Az.mk (own_gr X.out h0 (by first | exact own_none _ | exact .inr (own_blk X.out B.out (by decide)) | exact .inr (own_blk X.out D.out (by decide))))
  have Y_ := Az.mk (own_gr Y.out h0 (by first | exact own_none _ | exact .inr (own_blk Y.out B.out (by decide)) | exact .inr (own_blk Y.out D.out (by decide))))
  clear L B D S X Y
  have L := L_; clear L_
  have B := B_; clear B_
  have D := D_; clear D_
  have S := S_; clear S_
  have X := X_; clear X_
  have Y := Y_; clear Y_
  clear h0 h
  have cB0 : World.cell? w8 ⟨gB, 0, none⟩ = some (.float .f32 a1) := blkCell B.out 0
  have cB1 : World.cell? w8 ⟨gB, 1, none⟩ = some (.float .f32 o1) := blkCell B.out 1
  have cB2 : World.cell? w8 ⟨gB, 2, none⟩ = some (.complex .f32 x1 y1) := blkCell B.out 2
  have cD0 : World.cell? w8 ⟨gD, 0, none⟩ = some (.float .f32 a2) := blkCell D.out 0
  have cD1 : World.cell? w8 ⟨gD, 1, none⟩ = some (.float .f32 o2) := blkCell D.out 1
  have cD2 : World.cell? w8 ⟨gD, 2, none⟩ = some (.complex .f32 x2 y2) := blkCell D.out 2
  have HE := Az.mk (And.intro e1 (And.intro e2 (And.intro e3 e4)))
  clear e1 e2 e3 e4
  go_wp2_with (first | ((with_reducible refine gateN 10 rfl ?_); go_must (refine ev_al 10 rfl rfl #[.float .f32 0, .float .f32 0, .complex .f32 0 0] 28 ?hr ?_; (case hr => first | (go_simp; done) | (go_simp; rfl)); intro gE heE W5 hbE h; have hgE : w.heap.size ≤ gE := Nat.le_trans L.out.size heE; have hgEB : gB < gE := Nat.lt_of_lt_of_le (blkLt B.out) heE; have hgED : gD < gE := Nat.lt_of_lt_of_le (blkLt D.out) heE; clear heE; have h0 : World.grownBy w8 W5 none := (by refine World.grownBy.trans ?_ h; repeat (first | exact gr_refl _ _ | apply gr_drewN | apply gr_drew | apply gr_alloc)); clear cB0 cB1 cB2 cD0 cD1 cD2; have L_ := Az.mk (gr_new L.out h0 (by first | (simp; done) | (simp; omega) | omega)); have B_ := Az.mk (blkGr B.out h0 (by first | (simp; done) | (simp; omega) | omega)); have D_ := Az.mk (blkGr D.out h0 (by first | (simp; done) | (simp; omega) | omega)); have S_ := Az.mk (own_gr S.out h0 (by first | exact own_none _ | exact .inr (own_blk S.out B.out (by decide)) | exact .inr (own_blk S.out D.out (by decide)))); have X_ := Az.mk (own_gr X.out h0 (by first | exact own_none _ | exact .inr (own_blk X.out B.out (by decide)) | exact .inr (own_blk X.out D.out (by decide)))); have Y_ := Az.mk (own_gr Y.out h0 (by first | exact own_none _ | exact .inr (own_blk Y.out B.out (by decide)) | exact .inr (own_blk Y.out D.out (by decide)))); clear L B D S X Y; have L := L_; clear L_; have B := B_; clear B_; have D := D_; clear D_; have S := S_; clear S_; have X := X_; clear X_; have Y := Y_; clear Y_; clear h0 h; have E := Az.mk hbE; clear hbE; have cB0 : World.cell? W5 ⟨gB, 0, none⟩ = some (.float .f32 a1) := blkCell B.out 0; have cB1 : World.cell? W5 ⟨gB, 1, none⟩ = some (.float .f32 o1) := blkCell B.out 1; have cB2 : World.cell? W5 ⟨gB, 2, none⟩ = some (.complex .f32 x1 y1) := blkCell B.out 2; have cD0 : World.cell? W5 ⟨gD, 0, none⟩ = some (.float .f32 a2) := blkCell D.out 0; have cD1 : World.cell? W5 ⟨gD, 1, none⟩ = some (.float .f32 o2) := blkCell D.out 1; have cD2 : World.cell? W5 ⟨gD, 2, none⟩ = some (.complex .f32 x2 y2) := blkCell D.out 2; have cE0 : World.cell? W5 ⟨gE, 0, none⟩ = some (.float .f32 0) := blkCell E.out 0; have cE1 : World.cell? W5 ⟨gE, 1, none⟩ = some (.float .f32 0) := blkCell E.out 1; have cE2 : World.cell? W5 ⟨gE, 2, none⟩ = some (.complex .f32 0 0) := blkCell E.out 2)) | ((with_reducible refine gateSt 10 rfl ?_); go_must (refine ev_st rfl rfl rfl (cs := #[.float .f32 a3, .float .f32 o3, .complex .f32 x3 y3]) rfl rfl E.out (by kernel_rfl) rfl (by simp [Value.oneCell']) ?_; intro W6 hbE h; have h0 : World.grownBy W5 W6 (some gE) := (by refine World.grownBy.trans ?_ h; repeat (first | exact gr_refl _ _ | apply gr_drewN | apply gr_drew | apply gr_alloc)); clear cB0 cB1 cB2 cD0 cD1 cD2 cE0 cE1 cE2; have L_ := Az.mk (gr_new L.out h0 (by first | (simp; done) | (simp; omega) | omega)); have B_ := Az.mk (blkGr B.out h0 (by first | (simp; done) | (simp; omega) | omega)); have D_ := Az.mk (blkGr D.out h0 (by first | (simp; done) | (simp; omega) | omega)); have S_ := Az.mk (own_gr S.out h0 (by first | exact own_none _ | exact .inr (own_blk S.out B.out (by decide)) | exact .inr (own_blk S.out D.out (by decide)) | exact .inr (own_blk S.out E.out (by decide)))); have X_ := Az.mk (own_gr X.out h0 (by first | exact own_none _ | exact .inr (own_blk X.out B.out (by decide)) | exact .inr (own_blk X.out D.out (by decide)) | exact .inr (own_blk X.out E.out (by decide)))); have Y_ := Az.mk (own_gr Y.out h0 (by first | exact own_none _ | exact .inr (own_blk Y.out B.out (by decide)) | exact .inr (own_blk Y.out D.out (by decide)) | exact .inr (own_blk Y.out E.out (by decide)))); clear L B D S X Y; have L := L_; clear L_; have B := B_; clear B_; have D := D_; clear D_; have S := S_; clear S_; have X := X_; clear X_; have Y := Y_; clear Y_; clear h0 h; clear E; have E := Az.mk hbE; clear hbE; have cB0 : World.cell? W6 ⟨gB, 0, none⟩ = some (.float .f32 a1) := blkCell B.out 0; have cB1 : World.cell? W6 ⟨gB, 1, none⟩ = some (.float .f32 o1) := blkCell B.out 1; have cB2 : World.cell? W6 ⟨gB, 2, none⟩ = some (.complex .f32 x1 y1) := blkCell B.out 2; have cD0 : World.cell? W6 ⟨gD, 0, none⟩ = some (.float .f32 a2) := blkCell D.out 0; have cD1 : World.cell? W6 ⟨gD, 1, none⟩ = some (.float .f32 o2) := blkCell D.out 1; have cD2 : World.cell? W6 ⟨gD, 2, none⟩ = some (.complex .f32 x2 y2) := blkCell D.out 2; have cE0 : World.cell? W6 ⟨gE, 0, none⟩ = some (.float .f32 a3) := blkCell E.out 0; have cE1 : World.cell? W6 ⟨gE, 1, none⟩ = some (.float .f32 o3) := blkCell E.out 1; have cE2 : World.cell? W6 ⟨gE, 2, none⟩ = some (.complex .f32 x3 y3) := blkCell E.out 2)) | ((with_reducible refine gateN 48 rfl ?_); go_must (refine ev_ld 48 rfl rfl rfl (cs := #[.float .f32 a3, .float .f32 o3, .complex .f32 x3 y3]) rfl E.out Try.underlying28 rfl (by kernel_rfl) ?_)))
  refine (Transmit_ok a3 o3 x3 y3 A5 _ c5 bs _ rfl hc5 (own_rdS (by first | exact S.out | exact S.out.alloc _ | exact S.out.drewN _ | exact (S.out.alloc _).alloc _)) (by rw [HE.out.1, HE.out.2.1, HE.out.2.2.1, HE.out.2.2.2]; exact HLaw.out.ok3) (by rw [HBS.out]; exact HLaw.out.s0) (by rw [HBS.out, HE.out.1, HE.out.2.1, HE.out.2.2.1, HE.out.2.2.2]; exact HLaw.out.s3)).mono ?_
  rintro e w9 ⟨v9, zs, hzs, rfl, hZ, h⟩
  have h0 : World.grownBy W6 w9 _ := (by refine World.grownBy.trans ?_ h; repeat (first | exact gr_refl _ _ | apply gr_drewN | apply gr_drew | apply gr_alloc))
  clear cB0 cB1 cB2 cD0 cD1 cD2 cE0 cE1 cE2
  have L_ := Az.mk (gr_new L.out h0 (by first | (simp; done) | (simp; omega) | omega))
  have B_ := Az.mk (blkGr B.out h0 (by first | (simp; done) | (simp; omega) | omega))
  have D_ := Az.mk (blkGr D.out h0 (by first | (simp; done) | (simp; omega) | omega))
  have S_ := Az.mk (own_gr S.out h0 (by first | exact own_none _ | exact .inr (own_blk S.out B.out (by decide)) | exact .inr (own_blk S.out D.out (by decide)) | exact .inr (own_blk S.out E.out (by decide))))
  have X_ := Az.mk (own_gr X.out h0 (by first | exact own_none _ | exact .inr (own_blk X.out B.out (by decide)) | exact .inr (own_blk X.out D.out (by decide)) | exact .inr (own_blk X.out E.out (by decide))))
  have Y_ := Az.mk (own_gr Y.out h0 (by first | exact own_none _ | exact .inr (own_blk Y.out B.out (by decide)) | exact .inr (own_blk Y.out D.out (by decide)) | exact .inr (own_blk Y.out E.out (by decide))))
  have E_ := Az.mk (blkGr E.out h0 (by first | (simp; done) | (simp; omega) | omega))
  clear L B D S X Y E
  have L := L_; clear L_
  have B := B_; clear B_
  have D := D_; clear D_
  have S := S_; clear S_
  have X := X_; clear X_
  have Y := Y_; clear Y_
  have E := E_; clear E_
  clear h0 h
  have Z := Az.mk hZ; clear hZ
  have cB0 : World.cell? w9 ⟨gB, 0, none⟩ = some (.float .f32 a1) := blkCell B.out 0
  have cB1 : World.cell? w9 ⟨gB, 1, none⟩ = some (.float .f32 o1) := blkCell B.out 1
  have cB2 : World.cell? w9 ⟨gB, 2, none⟩ = some (.complex .f32 x1 y1) := blkCell B.out 2
  have cD0 : World.cell? w9 ⟨gD, 0, none⟩ = some (.float .f32 a2) := blkCell D.out 0
  have cD1 : World.cell? w9 ⟨gD, 1, none⟩ = some (.float .f32 o2) := blkCell D.out 1
  have cD2 : World.cell? w9 ⟨gD, 2, none⟩ = some (.complex .f32 x2 y2) := blkCell D.out 2
  have cE0 : World.cell? w9 ⟨gE, 0, none⟩ = some (.float .f32 a3) := blkCell E.out 0
  have cE1 : World.cell? w9 ⟨gE, 1, none⟩ = some (.float .f32 o3) := blkCell E.out 1
  have cE2 : World.cell? w9 ⟨gE, 2, none⟩ = some (.complex .f32 x3 y3) := blkCell E.out 2
  obtain ⟨A9, c9, rfl, hc9, _, _⟩ := own_rd Z.out
  rw [HBS.out, HE.out.1, HE.out.2.1, HE.out.2.2.1, HE.out.2.2.2] at hzs
  have HZS := Az.mk hzs
  clear hzs
  have hlen : zs.length = ys.length := by
    have := HLaw.out.len
    rw [← HYS.out, ← HZS.out, List.length_map, List.length_map] at this
    exact this.symm
  have HLn := Az.mk hlen
  have hRZ := own_rdS Z.out
  rw [hlen] at hRZ
  have HRZ := Az.mk hRZ
  clear hRZ hlen
  have heq : ∀ j (h1 : j < ys.length) (h2 : j < zs.length), feq (fN .f32 ys[j]) (fN .f32 zs[j]) = true := by
    intro j h1 h2
    have := HLaw.out.eq j (by rw [← HYS.out, List.length_map]; exact h1)
    rw [← HYS.out, ← HZS.out, map_getD _ _ h1, map_getD _ _ h2] at this
    exact this
  have HEQ := Az.mk heq
  clear heq
  go_wp2_with fail
  rw [HLn.out]
  refine (equals_ok A7 A9 _ c7 c9 ys zs _ rfl HLn.out (own_rdS Y.out) HRZ.out HEQ.out).mono ?_
  rintro e w10 ⟨rfl, h⟩
  have h0 : World.grownBy w9 w10 _ := (by refine World.grownBy.trans ?_ h; repeat (first | exact gr_refl _ _ | apply gr_drewN | apply gr_drew | apply gr_alloc))
  clear cB0 cB1 cB2 cD0 cD1 cD2 cE0 cE1 cE2
  have L_ := Az.mk (gr_new L.out h0 (by first | (simp; done) | (simp; omega) | omega))
  have B_ := Az.mk (blkGr B.out h0 (by first | (simp; done) | (simp; omega) | omega))
  have D_ := Az.mk (blkGr D.out h0 (by first | (simp; done) | (simp; omega) | omega))
  have S_ := Az.mk (own_gr S.out h0 (by first | exact own_none _ | exact .inr (own_blk S.out B.out (by decide)) | exact .inr (own_blk S.out D.out (by decide)) | exact .inr (own_blk S.out E.out (by decide))))
  have X_ := Az.mk (own_gr X.out h0 (by first | exact own_none _ | exact .inr (own_blk X.out B.out (by decide)) | exact .inr (own_blk X.out D.out (by decide)) | exact .inr (own_blk X.out E.out (by decide))))
  have Y_ := Az.mk (own_gr Y.out h0 (by first | exact own_none _ | exact .inr (own_blk Y.out B.out (by decide)) | exact .inr (own_blk Y.out D.out (by decide)) | exact .inr (own_blk Y.out E.out (by decide))))
  have E_ := Az.mk (blkGr E.out h0 (by first | (simp; done) | (simp; omega) | omega))
  have Z_ := Az.mk (own_gr Z.out h0 (by first | exact own_none _ | exact .inr (own_blk Z.out B.out (by decide)) | exact .inr (own_blk Z.out D.out (by decide)) | exact .inr (own_blk Z.out E.out (by decide))))
  clear L B D S X Y E Z
  have L := L_; clear L_
  have B := B_; clear B_
  have D := D_; clear D_
  have S := S_; clear S_
  have X := X_; clear X_
  have Y := Y_; clear Y_
  have E := E_; clear E_
  have Z := Z_; clear Z_
  clear h0 h
  have cB0 : World.cell? w10 ⟨gB, 0, none⟩ = some (.float .f32 a1) := blkCell B.out 0
  have cB1 : World.cell? w10 ⟨gB, 1, none⟩ = some (.float .f32 o1) := blkCell B.out 1
  have cB2 : World.cell? w10 ⟨gB, 2, none⟩ = some (.complex .f32 x1 y1) := blkCell B.out 2
  have cD0 : World.cell? w10 ⟨gD, 0, none⟩ = some (.float .f32 a2) := blkCell D.out 0
  have cD1 : World.cell? w10 ⟨gD, 1, none⟩ = some (.float .f32 o2) := blkCell D.out 1
  have cD2 : World.cell? w10 ⟨gD, 2, none⟩ = some (.complex .f32 x2 y2) := blkCell D.out 2
  have cE0 : World.cell? w10 ⟨gE, 0, none⟩ = some (.float .f32 a3) := blkCell E.out 0
  have cE1 : World.cell? w10 ⟨gE, 1, none⟩ = some (.float .f32 o3) := blkCell E.out 1
  have cE2 : World.cell? w10 ⟨gE, 2, none⟩ = some (.complex .f32 x3 y3) := blkCell E.out 2
  go_wp2_with fail
  go_ret
  exact ⟨rfl, L.out⟩

set_option maxHeartbeats 4000000 in
theorem FnChained_b (w : World) (A : Option Addr) (n c : Nat) (hrd : BytesRd w A n) (hnc : n ≤ c) (hz : c = n / 2) :
    Calls Try.prog 5 #[.slice A n c] w (RetYes w) := by
  obtain rfl : n = 0 := by omega
  obtain rfl : c = 0 := by omega
  clear hz
  have L := Az.mk (gr_refl w none)
  have HR := Az.mk hrd
  have hn := hrd.1
  clear hrd
  go_enter Try.func5, Try.ntmps5
  go_wp2_with fail
  refine (big_c A 0 0 hn _).mono ?_
  rintro e w1 ⟨rfl, h⟩
  have h0 : World.grownBy w w1 _ := (by refine World.grownBy.trans ?_ h; repeat (first | exact gr_refl _ _ | apply gr_drewN | apply gr_drew | apply gr_alloc))
  have L_ := Az.mk (gr_new L.out h0 (by first | (simp; done) | (simp; omega) | omega))
  clear L
  have L := L_; clear L_
  clear h0 h
  have hd : decide (1048576 < 0) = false := by decide
  rw [hd]
  clear hd
  go_wp2_with fail
  refine (DrawPlainChannel_c w _ A 0 0 HR.out hnc (gr_below L.out)).mono ?_
  rintro e w2 ⟨a1, o1, x1, y1, hpl, rfl, h⟩
  have h0 : World.grownBy w1 w2 _ := (by refine World.grownBy.trans ?_ h; repeat (first | exact gr_refl _ _ | apply gr_drewN | apply gr_drew | apply gr_alloc))
  have L_ := Az.mk (gr_new L.out h0 (by first | (simp; done) | (simp; omega) | omega))
  clear L
  have L := L_; clear L_
  clear h0 h
  have HP := Az.mk hpl
  clear hpl
  go_wp2_with (first | ((with_reducible refine gateN 3 rfl ?_); go_must (refine ev_al 3 rfl rfl #[.float .f32 0, .float .f32 0, .complex .f32 0 0] 28 ?hr ?_; (case hr => first | (go_simp; done) | (go_simp; rfl)); intro gB heB W1 hbB h; have hgB : w.heap.size ≤ gB := Nat.le_trans L.out.size heB; clear heB; have h0 : World.grownBy w2 W1 none := (by refine World.grownBy.trans ?_ h; repeat (first | exact gr_refl _ _ | apply gr_drewN | apply gr_drew | apply gr_alloc)); have L_ := Az.mk (gr_new L.out h0 (by first | (simp; done) | (simp; omega) | omega)); clear L; have L := L_; clear L_; clear h0 h; have B := Az.mk hbB; clear hbB; have cB0 : World.cell? W1 ⟨gB, 0, none⟩ = some (.float .f32 0) := blkCell B.out 0; have cB1 : World.cell? W1 ⟨gB, 1, none⟩ = some (.float .f32 0) := blkCell B.out 1; have cB2 : World.cell? W1 ⟨gB, 2, none⟩ = some (.complex .f32 0 0) := blkCell B.out 2)) | ((with_reducible refine gateSt 3 rfl ?_); go_must (refine ev_st rfl rfl rfl (cs := #[.float .f32 a1, .float .f32 o1, .complex .f32 x1 y1]) rfl rfl B.out (by kernel_rfl) rfl (by simp [Value.oneCell']) ?_; intro W2 hbB h; have h0 : World.grownBy W1 W2 (some gB) := (by refine World.grownBy.trans ?_ h; repeat (first | exact gr_refl _ _ | apply gr_drewN | apply gr_drew | apply gr_alloc)); clear cB0 cB1 cB2; have L_ := Az.mk (gr_new L.out h0 (by first | (simp; done) | (simp; omega) | omega)); clear L; have L := L_; clear L_; clear h0 h; clear B; have B := Az.mk hbB; clear hbB; have cB0 : World.cell? W2 ⟨gB, 0, none⟩ = some (.float .f32 a1) := blkCell B.out 0; have cB1 : World.cell? W2 ⟨gB, 1, none⟩ = some (.float .f32 o1) := blkCell B.out 1; have cB2 : World.cell? W2 ⟨gB, 2, none⟩ = some (.complex .f32 x1 y1) := blkCell B.out 2)))
  refine (DrawPlainChannel_c w _ A 0 0 HR.out (by omega) (gr_below L.out)).mono ?_
  rintro e w3 ⟨a2, o2, x2, y2, hpl, rfl, h⟩
  have h0 : World.grownBy W2 w3 _ := (by refine World.grownBy.trans ?_ h; repeat (first | exact gr_refl _ _ | apply gr_drewN | apply gr_drew | apply gr_alloc))
  clear cB0 cB1 cB2
  have L_ := Az.mk (gr_new L.out h0 (by first | (simp; done) | (simp; omega) | omega))
  have B_ := Az.mk (blkGr B.out h0 (by first | (simp; done) | (simp; omega) | omega))
  clear L B
  have L := L_; clear L_
  have B := B_; clear B_
  clear h0 h
  have cB0 : World.cell? w3 ⟨gB, 0, none⟩ = some (.float .f32 a1) := blkCell B.out 0
  have cB1 : World.cell? w3 ⟨gB, 1, none⟩ = some (.float .f32 o1) := blkCell B.out 1
  have cB2 : World.cell? w3 ⟨gB, 2, none⟩ = some (.complex .f32 x1 y1) := blkCell B.out 2
  have HP2 := Az.mk hpl
  clear hpl
  go_wp2_with (first | ((with_reducible refine gateN 4 rfl ?_); go_must (refine ev_al 4 rfl rfl #[.float .f32 0, .float .f32 0, .complex .f32 0 0] 28 ?hr ?_; (case hr => first | (go_simp; done) | (go_simp; rfl)); intro gD heD W3 hbD h; have hgD : w.heap.size ≤ gD := Nat.le_trans L.out.size heD; have hgDB : gB < gD := Nat.lt_of_lt_of_le (blkLt B.out) heD; clear heD; have h0 : World.grownBy w3 W3 none := (by refine World.grownBy.trans ?_ h; repeat (first | exact gr_refl _ _ | apply gr_drewN | apply gr_drew | apply gr_alloc)); clear cB0 cB1 cB2; have L_ := Az.mk (gr_new L.out h0 (by first | (simp; done) | (simp; omega) | omega)); have B_ := Az.mk (blkGr B.out h0 (by first | (simp; done) | (simp; omega) | omega)); clear L B; have L := L_; clear L_; have B := B_; clear B_; clear h0 h; have D := Az.mk hbD; clear hbD; have cB0 : World.cell? W3 ⟨gB, 0, none⟩ = some (.float .f32 a1) := blkCell B.out 0; have cB1 : World.cell? W3 ⟨gB, 1, none⟩ = some (.float .f32 o1) := blkCell B.out 1; have cB2 : World.cell? W3 ⟨gB, 2, none⟩ = some (.complex .f32 x1 y1) := blkCell B.out 2; have cD0 : World.cell? W3 ⟨gD, 0, none⟩ = some (.float .f32 0) := blkCell D.out 0; have cD1 : World.cell? W3 ⟨gD, 1, none⟩ = some (.float .f32 0) := blkCell D.out 1; have cD2 : World.cell? W3 ⟨gD, 2, none⟩ = some (.complex .f32 0 0) := blkCell D.out 2)) | ((with_reducible refine gateSt 4 rfl ?_); go_must (refine ev_st rfl rfl rfl (cs := #[.float .f32 a2, .float .f32 o2, .complex .f32 x2 y2]) rfl rfl D.out (by kernel_rfl) rfl (by simp [Value.oneCell']) ?_; intro W4 hbD h; have h0 : World.grownBy W3 W4 (some gD) := (by refine World.grownBy.trans ?_ h; repeat (first | exact gr_refl _ _ | apply gr_drewN | apply gr_drew | apply gr_alloc)); clear cB0 cB1 cB2 cD0 cD1 cD2; have L_ := Az.mk (gr_new L.out h0 (by first | (simp; done) | (simp; omega) | omega)); have B_ := Az.mk (blkGr B.out h0 (by first | (simp; done) | (simp; omega) | omega)); clear L B; have L := L_; clear L_; have B := B_; clear B_; clear h0 h; clear D; have D := Az.mk hbD; clear hbD; have cB0 : World.cell? W4 ⟨gB, 0, none⟩ = some (.float .f32 a1) := blkCell B.out 0; have cB1 : World.cell? W4 ⟨gB, 1, none⟩ = some (.float .f32 o1) := blkCell B.out 1; have cB2 : World.cell? W4 ⟨gB, 2, none⟩ = some (.complex .f32 x1 y1) := blkCell B.out 2; have cD0 : World.cell? W4 ⟨gD, 0, none⟩ = some (.float .f32 a2) := blkCell D.out 0; have cD1 : World.cell? W4 ⟨gD, 1, none⟩ = some (.float .f32 o2) := blkCell D.out 1; have cD2 : World.cell? W4 ⟨gD, 2, none⟩ = some (.complex .f32 x2 y2) := blkCell D.out 2)))
  refine (DrawPlainRow_c w _ A 0 0 HR.out hnc (gr_below L.out)).mono ?_
  rintro e w4 ⟨v4, cs, hl1, hl2, hcs, rfl, hown, h⟩
  have h0 : World.grownBy W4 w4 _ := (by refine World.grownBy.trans ?_ h; repeat (first | exact gr_refl _ _ | apply gr_drewN | apply gr_drew | apply gr_alloc))
  clear cB0 cB1 cB2 cD0 cD1 cD2
  have L_ := Az.mk (gr_new L.out h0 (by first | (simp; done) | (simp; omega) | omega))
  have B_ := Az.mk (blkGr B.out h0 (by first | (simp; done) | (simp; omega) | omega))
  have D_ := Az.mk (blkGr D.out h0 (by first | (simp; done) | (simp; omega) | omega))
  clear L B D
  have L := L_; clear L_
  have B := B_; clear B_
  have D := D_; clear D_
  clear h0 h
  have cB0 : World.cell? w4 ⟨gB, 0, none⟩ = some (.float .f32 a1) := blkCell B.out 0
  have cB1 : World.cell? w4 ⟨gB, 1, none⟩ = some (.float .f32 o1) := blkCell B.out 1
  have cB2 : World.cell? w4 ⟨gB, 2, none⟩ = some (.complex .f32 x1 y1) := blkCell B.out 2
  have cD0 : World.cell? w4 ⟨gD, 0, none⟩ = some (.float .f32 a2) := blkCell D.out 0
  have cD1 : World.cell? w4 ⟨gD, 1, none⟩ = some (.float .f32 o2) := blkCell D.out 1
  have cD2 : World.cell? w4 ⟨gD, 2, none⟩ = some (.complex .f32 x2 y2) := blkCell D.out 2
  obtain ⟨A4, c4, rfl, hc4, hrd4, _⟩ := own_rd hown
  have HLaw := Az.mk (chained_law HP.out HP2.out hcs hl1 hl2)
  have HR4 := Az.mk hrd4
  have HCS := Az.mk hcs
  have HOK := Az.mk (rowOk_plain hcs hl1 hl2)
  clear hown hrd4 hcs
  go_wp2_with fail
  refine (EncodeCells_c true A4 _ c4 cs _ rfl HR4.out).mono ?_
  rintro e w5 ⟨v5, bs, hbs, rfl, hS, h⟩
  have h0 : World.grownBy w4 w5 _ := (by refine World.grownBy.trans ?_ h; repeat (first | exact gr_refl _ _ | apply gr_drewN | apply gr_drew | apply gr_alloc))
  clear cB0 cB1 cB2 cD0 cD1 cD2
  have L_ := Az.mk (gr_new L.out h0 (by first | (simp; done) | (simp; omega) | omega))
  have B_ := Az.mk (blkGr B.out h0 (by first | (simp; done) | (simp; omega) | omega))
  have D_ := Az.mk (blkGr D.out h0 (by first | (simp; done) | (simp; omega) | omega))
  clear L B D
  have L := L_; clear L_
  have B := B_; clear B_
  have D := D_; clear D_
  clear h0 h
  have S := Az.mk hS; clear hS
  have cB0 : World.cell? w5 ⟨gB, 0, none⟩ = some (.float .f32 a1) := blkCell B.out 0
  have cB1 : World.cell? w5 ⟨gB, 1, none⟩ = some (.float .f32 o1) := blkCell B.out 1
  have cB2 : World.cell? w5 ⟨gB, 2, none⟩ = some (.complex .f32 x1 y1) := blkCell B.out 2
  have cD0 : World.cell? w5 ⟨gD, 0, none⟩ = some (.float .f32 a2) := blkCell D.out 0
  have cD1 : World.cell? w5 ⟨gD, 1, none⟩ = some (.float .f32 o2) := blkCell D.out 1
  have cD2 : World.cell? w5 ⟨gD, 2, none⟩ = some (.complex .f32 x2 y2) := blkCell D.out 2
  have hbs2 : bs.map (fN .f32) = encN true cs := by rw [hbs, encRow, HOK.out]; rfl
  obtain ⟨A5, c5, rfl, hc5, _, _⟩ := own_rd S.out
  have HBS := Az.mk hbs2
  clear hbs hbs2
  go_wp2_with (first | ((with_reducible refine gateN 28 rfl ?_); go_must (refine ev_ld 28 rfl rfl rfl (cs := #[.float .f32 a1, .float .f32 o1, .complex .f32 x1 y1]) rfl B.out Try.underlying28 rfl (by kernel_rfl) ?_)))
  refine (Transmit_ok a1 o1 x1 y1 A5 _ c5 bs _ rfl hc5 (own_rdS (by first | exact S.out | exact S.out.alloc _ | exact S.out.drewN _ | exact (S.out.alloc _).alloc _)) HLaw.out.ok1 (by rw [HBS.out]; exact HLaw.out.s0) (by rw [HBS.out]; exact HLaw.out.s1)).mono ?_
  rintro e w6 ⟨v6, xs, hxs, rfl, hX, h⟩
  have h0 : World.grownBy w5 w6 _ := (by refine World.grownBy.trans ?_ h; repeat (first | exact gr_refl _ _ | apply gr_drewN | apply gr_drew | apply gr_alloc))
  clear cB0 cB1 cB2 cD0 cD1 cD2
  have L_ := Az.mk (gr_new L.out h0 (by first | (simp; done) | (simp; omega) | omega))
  have B_ := Az.mk (blkGr B.out h0 (by first | (simp; done) | (simp; omega) | omega))
  have D_ := Az.mk (blkGr D.out h0 (by first | (simp; done) | (simp; omega) | omega))
  have S_ := Az.mk (own_gr S.out h0 (by first | exact own_none _ | exact .inr (own_blk S.out B.out (by decide)) | exact .inr (own_blk S.out D.out (by decide))))
  clear L B D S
  have L := L_; clear L_
  have B := B_; clear B_
  have D := D_; clear D_
  have S := S_; clear S_
  clear h0 h
  have X := Az.mk hX; clear hX
  have cB0 : World.cell? w6 ⟨gB, 0, none⟩ = some (.float .f32 a1) := blkCell B.out 0
  have cB1 : World.cell? w6 ⟨gB, 1, none⟩ = some (.float .f32 o1) := blkCell B.out 1
  have cB2 : World.cell? w6 ⟨gB, 2, none⟩ = some (.complex .f32 x1 y1) := blkCell B.out 2
  have cD0 : World.cell? w6 ⟨gD, 0, none⟩ = some (.float .f32 a2) := blkCell D.out 0
  have cD1 : World.cell? w6 ⟨gD, 1, none⟩ = some (.float .f32 o2) := blkCell D.out 1
  have cD2 : World.cell? w6 ⟨gD, 2, none⟩ = some (.complex .f32 x2 y2) := blkCell D.out 2
  obtain ⟨A6, c6, rfl, hc6, _, _⟩ := own_rd X.out
  rw [HBS.out] at hxs
  have HXS := Az.mk hxs
  clear hxs
  go_wp2_with (first | ((with_reducible refine gateN 34 rfl ?_); go_must (refine ev_ld 34 rfl rfl rfl (cs := #[.float .f32 a2, .float .f32 o2, .complex .f32 x2 y2]) rfl D.out Try.underlying28 rfl (by kernel_rfl) ?_)))
  refine (Transmit_ok a2 o2 x2 y2 A6 _ c6 xs _ rfl hc6 (own_rdS (by first | exact X.out | exact X.out.alloc _ | exact X.out.drewN _ | exact (X.out.alloc _).alloc _)) HLaw.out.ok2 (by rw [HXS.out]; exact HLaw.out.s1) (by rw [HXS.out]; exact HLaw.out.s2)).mono ?_
  rintro e w7 ⟨v7, ys, hys, rfl, hY, h⟩
  have h0 : World.grownBy w6 w7 _ := (by refine World.grownBy.trans ?_ h; repeat (first | exact gr_refl _ _ | apply gr_drewN | apply gr_drew | apply gr_alloc))
  clear cB0 cB1 cB2 cD0 cD1 cD2
  have L_ := Az.mk (gr_new L.out h0 (by first | (simp; done) | (simp; omega) | omega))
  have B_ := Az.mk (blkGr B.out h0 (by first | (simp; done) | (simp; omega) | omega))
  have D_ := Az.mk (blkGr D.out h0 (by first | (simp; done) | (simp; omega) | omega))
  have S_ := Az.mk (own_gr S.out h0 (by first | exact own_none _ | exact .inr (own_blk S.out B.out (by decide)) | exact .inr (own_blk S.out D.out (by decide))))
  have X_ := Az.mk (own_gr X.out h0 (by first | exact own_none _ | exact .inr (own_blk X.out B.out (by decide)) | exact .inr (own_blk X.out D.out (by decide))))
  clear L B D S X
  have L := L_; clear L_
  have B := B_; clear B_
  have D := D_; clear D_
  have S := S_; clear S_
  have X := X_; clear X_
  clear h0 h
  have Y := Az.mk hY; clear hY
  have cB0 : World.cell? w7 ⟨gB, 0, none⟩ = some (.float .f32 a1) := blkCell B.out 0
  have cB1 : World.cell? w7 ⟨gB, 1, none⟩ = some (.float .f32 o1) := blkCell B.out 1
  have cB2 : World.cell? w7 ⟨gB, 2, none⟩ = some (.complex .f32 x1 y1) := blkCell B.out 2
  have cD0 : World.cell? w7 ⟨gD, 0, none⟩ = some (.float .f32 a2) := blkCell D.out 0
  have cD1 : World.cell? w7 ⟨gD, 1, none⟩ = some (.float .f32 o2) := blkCell D.out 1
  have cD2 : World.cell? w7 ⟨gD, 2, none⟩ = some (.complex .f32 x2 y2) := blkCell D.out 2
  obtain ⟨A7, c7, rfl, hc7, _, _⟩ := own_rd Y.out
  rw [HXS.out] at hys
  have HYS := Az.mk hys
  clear hys
  go_wp2_with (first | ((with_reducible refine gateN 40 rfl ?_); go_must (refine ev_ld 40 rfl rfl rfl (cs := #[.float .f32 a1, .float .f32 o1, .complex .f32 x1 y1]) rfl B.out Try.underlying28 rfl (by kernel_rfl) ?_)) | ((with_reducible refine gateN 41 rfl ?_); go_must (refine ev_ld 41 rfl rfl rfl (cs := #[.float .f32 a2, .float .f32 o2, .complex .f32 x2 y2]) rfl D.out Try.underlying28 rfl (by kernel_rfl) ?_)))
  refine (Chain_ok a1 o1 x1 y1 a2 o2 x2 y2 _ HLaw.out.ok1 HLaw.out.ok2 HLaw.out.ok3).mono ?_
  rintro e w8 ⟨a3, o3, x3, y3, e1, e2, e3, e4, rfl, h⟩
  have h0 : World.grownBy w7 w8 _ := (by refine World.grownBy.trans ?_ h; repeat (first | exact gr_refl _ _ | apply gr_drewN | apply gr_drew | apply gr_alloc))
  clear cB0 cB1 cB2 cD0 cD1 cD2
  have L_ := Az.mk (gr_new L.out h0 (by first | (simp; done) | (simp; omega) | omega))
  have B_ := Az.mk (blkGr B.out h0 (by first | (simp; done) | (simp; omega) | omega))
  have D_ := Az.mk (blkGr D.out h0 (by first | (simp; done) | (simp; omega) | omega))
  have S_ := Az.mk (own_gr S.out h0 (by first | exact own_none _ | exact .inr (own_blk S.out B.out (by decide)) | exact .inr (own_blk S.out D.out (by decide))))
  have X_ := Az.mk (own_gr X.out h0 (by first | exact own_none _ | exact .inr (own_blk X.out B.out (by decide)) | exact .inr (own_blk X.out D.out (by decide))))
  have Y_ := Az.mk (own_gr Y.out h0 (by first | exact own_none _ | exact .inr (own_blk Y.out B.out (by decide)) | exact .inr (own_blk Y.out D.out (by decide))))
  clear L B D S X Y
  have L := L_; clear L_
  have B := B_; clear B_
  have D := D_; clear D_
  have S := S_; clear S_
  have X := X_; clear X_
  have Y := Y_; clear Y_
  clear h0 h
  have cB0 : World.cell? w8 ⟨gB, 0, none⟩ = some (.float .f32 a1) := blkCell B.out 0
  have cB1 : World.cell? w8 ⟨gB, 1, none⟩ = some (.float .f32 o1) := blkCell B.out 1
  have cB2 : World.cell? w8 ⟨gB, 2, none⟩ = some (.complex .f32 x1 y1) := blkCell B.out 2
  have cD0 : World.cell? w8 ⟨gD, 0, none⟩ = some (.float .f32 a2) := blkCell D.out 0
  have cD1 : World.cell? w8 ⟨gD, 1, none⟩ = some (.float .f32 o2) := blkCell D.out 1
  have cD2 : World.cell? w8 ⟨gD, 2, none⟩ = some (.complex .f32 x2 y2) := blkCell D.out 2
  have HE := Az.mk (And.intro e1 (And.intro e2 (And.intro e3 e4)))
  clear e1 e2 e3 e4
  go_wp2_with (first | ((with_reducible refine gateN 10 rfl ?_); go_must (refine ev_al 10 rfl rfl #[.float .f32 0, .float .f32 0, .complex .f32 0 0] 28 ?hr ?_; (case hr => first | (go_simp; done) | (go_simp; rfl)); intro gE heE W5 hbE h; have hgE : w.heap.size ≤ gE := Nat.le_trans L.out.size heE; have hgEB : gB < gE := Nat.lt_of_lt_of_le (blkLt B.out) heE; have hgED : gD < gE := Nat.lt_of_lt_of_le (blkLt D.out) heE; clear heE; have h0 : World.grownBy w8 W5 none := (by refine World.grownBy.trans ?_ h; repeat (first | exact gr_refl _ _ | apply gr_drewN | apply gr_drew | apply gr_alloc)); clear cB0 cB1 cB2 cD0 cD1 cD2; have L_ := Az.mk (gr_new L.out h0 (by first | (simp; done) | (simp; omega) | omega)); have B_ := Az.mk (blkGr B.out h0 (by first | (simp; done) | (simp; omega) | omega)); have D_ := Az.mk (blkGr D.out h0 (by first | (simp; done) | (simp; omega) | omega)); have S_ := Az.mk (own_gr S.out h0 (by first | exact own_none _ | exact .inr (own_blk S.out B.out (by decide)) | exact .inr (own_blk S.out D.out (by decide)))); have X_ := Az.mk (own_gr X.out h0 (by first | exact own_none _ | exact .inr (own_blk X.out B.out (by decide)) | exact .inr (own_blk X.out D.out (by decide)))); have Y_ := Az.mk (own_gr Y.out h0 (by first | exact own_none _ | exact .inr (own_blk Y.out B.out (by decide)) | exact .inr (own_blk Y.out D.out (by decide)))); clear L B D S X Y; have L := L_; clear L_; have B := B_; clear B_; have D := D_; clear D_; have S := S_; clear S_; have X := X_; clear X_; have Y := Y_; clear Y_; clear h0 h; have E := Az.mk hbE; clear hbE; have cB0 : World.cell? W5 ⟨gB, 0, none⟩ = some (.float .f32 a1) := blkCell B.out 0; have cB1 : World.cell? W5 ⟨gB, 1, none⟩ = some (.float .f32 o1) := blkCell B.out 1; have cB2 : World.cell? W5 ⟨gB, 2, none⟩ = some (.complex .f32 x1 y1) := blkCell B.out 2; have cD0 : World.cell? W5 ⟨gD, 0, none⟩ = some (.float .f32 a2) := blkCell D.out 0; have cD1 : World.cell? W5 ⟨gD, 1, none⟩ = some (.float .f32 o2) := blkCell D.out 1; have cD2 : World.cell? W5 ⟨gD, 2, none⟩ = some (.complex .f32 x2 y2) := blkCell D.out 2; have cE0 : World.cell? W5 ⟨gE, 0, none⟩ = some (.float .f32 0) := blkCell E.out 0; have cE1 : World.cell? W5 ⟨gE, 1, none⟩ = some (.float .f32 0) := blkCell E.out 1; have cE2 : World.cell? W5 ⟨gE, 2, none⟩ = some (.complex .f32 0 0) := blkCell E.out 2)) | ((with_reducible refine gateSt 10 rfl ?_); go_must (refine ev_st rfl rfl rfl (cs := #[.float .f32 a3, .float .f32 o3, .complex .f32 x3 y3]) rfl rfl E.out (by kernel_rfl) rfl (by simp [Value.oneCell']) ?_; intro W6 hbE h; have h0 : World.grownBy W5 W6 (some gE) := (by refine World.grownBy.trans ?_ h; repeat (first | exact gr_refl _ _ | apply gr_drewN | apply gr_drew | apply gr_alloc)); clear cB0 cB1 cB2 cD0 cD1 cD2 cE0 cE1 cE2; have L_ := Az.mk (gr_new L.out h0 (by first | (simp; done) | (simp; omega) | omega)); have B_ := Az.mk (blkGr B.out h0 (by first | (simp; done) | (simp; omega) | omega)); have D_ := Az.mk (blkGr D.out h0 (by first | (simp; done) | (simp; omega) | omega)); have S_ := Az.mk (own_gr S.out h0 (by first | exact own_none _ | exact .inr (own_blk S.out B.out (by decide)) | exact .inr (own_blk S.out D.out (by decide)) | exact .inr (own_blk S.out E.out (by decide)))); have X_ := Az.mk (own_gr X.out h0 (by first | exact own_none _ | exact .inr (own_blk X.out B.out (by decide)) | exact .inr (own_blk X.out D.out (by decide)) | exact .inr (own_blk X.out E.out (by decide)))); have Y_ := Az.mk (own_gr Y.out h0 (by first | exact own_none _ | exact .inr (own_blk Y.out B.out (by decide)) | exact .inr (own_blk Y.out D.out (by decide)) | exact .inr (own_blk Y.out E.out (by decide)))); clear L B D S X Y; have L := L_; clear L_; have B := B_; clear B_; have D := D_; clear D_; have S := S_; clear S_; have X := X_; clear X_; have Y := Y_; clear Y_; clear h0 h; clear E; have E := Az.mk hbE; clear hbE; have cB0 : World.cell? W6 ⟨gB, 0, none⟩ = some (.float .f32 a1) := blkCell B.out 0; have cB1 : World.cell? W6 ⟨gB, 1, none⟩ = some (.float .f32 o1) := blkCell B.out 1; have cB2 : World.cell? W6 ⟨gB, 2, none⟩ = some (.complex .f32 x1 y1) := blkCell B.out 2; have cD0 : World.cell? W6 ⟨gD, 0, none⟩ = some (.float .f32 a2) := blkCell D.out 0; have cD1 : World.cell? W6 ⟨gD, 1, none⟩ = some (.float .f32 o2) := blkCell D.out 1; have cD2 : World.cell? W6 ⟨gD, 2, none⟩ = some (.complex .f32 x2 y2) := blkCell D.out 2; have cE0 : World.cell? W6 ⟨gE, 0, none⟩ = some (.float .f32 a3) := blkCell E.out 0; have cE1 : World.cell? W6 ⟨gE, 1, none⟩ = some (.float .f32 o3) := blkCell E.out 1; have cE2 : World.cell? W6 ⟨gE, 2, none⟩ = some (.complex .f32 x3 y3) := blkCell E.out 2)) | ((with_reducible refine gateN 48 rfl ?_); go_must (refine ev_ld 48 rfl rfl rfl (cs := #[.float .f32 a3, .float .f32 o3, .complex .f32 x3 y3]) rfl E.out Try.underlying28 rfl (by kernel_rfl) ?_)))
  refine (Transmit_ok a3 o3 x3 y3 A5 _ c5 bs _ rfl hc5 (own_rdS (by first | exact S.out | exact S.out.alloc _ | exact S.out.drewN _ | exact (S.out.alloc _).alloc _)) (by rw [HE.out.1, HE.out.2.1, HE.out.2.2.1, HE.out.2.2.2]; exact HLaw.out.ok3) (by rw [HBS.out]; exact HLaw.out.s0) (by rw [HBS.out, HE.out.1, HE.out.2.1, HE.out.2.2.1, HE.out.2.2.2]; exact HLaw.out.s3)).mono ?_
  rintro e w9 ⟨v9, zs, hzs, rfl, hZ, h⟩
  have h0 : World.grownBy W6 w9 _ := (by refine World.grownBy.trans ?_ h; repeat (first | exact gr_refl _ _ | apply gr_drewN | apply gr_drew | apply gr_alloc))
  clear cB0 cB1 cB2 cD0 cD1 cD2 cE0 cE1 cE2
  have L_ := Az.mk (gr_new L.out h0 (by first | (simp; done) | (simp; omega) | omega))
  have B_ := Az.mk (blkGr B.out h0 (by first | (simp; done) | (simp; omega) | omega))
  have D_ := Az.mk (blkGr D.out h0 (by first | (simp; done) | (simp; omega) | omega))
  have S_ := Az.mk (own_gr S.out h0 (by first | exact own_none _ | exact .inr (own_blk S.out B.out (by decide)) | exact .inr (own_blk S.out D.out (by decide)) | exact .inr (own_blk S.out E.out (by decide))))
  have X_ := Az.mk (own_gr X.out h0 (by first | exact own_none _ | exact .inr (own_blk X.out B.out (by decide)) | exact .inr (own_blk X.out D.out (by decide)) | exact .inr (own_blk X.out E.out (by decide))))
  have Y_ := Az.mk (own_gr Y.out h0 (by first | exact own_none _ | exact .inr (own_blk Y.out B.out (by decide)) | exact .inr (own_blk Y.out D.out (by decide)) | exact .inr (own_blk Y.out E.out (by decide))))
  have E_ := Az.mk (blkGr E.out h0 (by first | (simp; done) | (simp; omega) | omega))
  clear L B D S X Y E
  have L := L_; clear L_
  have B := B_; clear B_
  have D := D_; clear D_
  have S := S_; clear S_
  have X := X_; clear X_
  have Y := Y_; clear Y_
  have E := E_; clear E_
  clear h0 h
  have Z := Az.mk hZ; clear hZ
  have cB0 : World.cell? w9 ⟨gB, 0, none⟩ = some (.float .f32 a1) := blkCell B.out 0
  have cB1 : World.cell? w9 ⟨gB, 1, none⟩ = some (.float .f32 o1) := blkCell B.out 1
  have cB2 : World.cell? w9 ⟨gB, 2, none⟩ = some (.complex .f32 x1 y1) := blkCell B.out 2
  have cD0 : World.cell? w9 ⟨gD, 0, none⟩ = some (.float .f32 a2) := blkCell D.out 0
  have cD1 : World.cell? w9 ⟨gD, 1, none⟩ = some (.float .f32 o2) := blkCell D.out 1
  have cD2 : World.cell? w9 ⟨gD, 2, none⟩ = some (.complex .f32 x2 y2) := blkCell D.out 2
  have cE0 : World.cell? w9 ⟨gE, 0, none⟩ = some (.float .f32 a3) := blkCell E.out 0
  have cE1 : World.cell? w9 ⟨gE, 1, none⟩ = some (.float .f32 o3) := blkCell E.out 1
  have cE2 : World.cell? w9 ⟨gE, 2, none⟩ = some (.complex .f32 x3 y3) := blkCell E.out 2
  obtain ⟨A9, c9, rfl, hc9, _, _⟩ := own_rd Z.out
  rw [HBS.out, HE.out.1, HE.out.2.1, HE.out.2.2.1, HE.out.2.2.2] at hzs
  have HZS := Az.mk hzs
  clear hzs
  have hlen : zs.length = ys.length := by
    have := HLaw.out.len
    rw [← HYS.out, ← HZS.out, List.length_map, List.length_map] at this
    exact this.symm
  have HLn := Az.mk hlen
  have hRZ := own_rdS Z.out
  rw [hlen] at hRZ
  have HRZ := Az.mk hRZ
  clear hRZ hlen
  have heq : ∀ j (h1 : j < ys.length) (h2 : j < zs.length), feq (fN .f32 ys[j]) (fN .f32 zs[j]) = true := by
    intro j h1 h2
    have := HLaw.out.eq j (by rw [← HYS.out, List.length_map]; exact h1)
    rw [← HYS.out, ← HZS.out, map_getD _ _ h1, map_getD _ _ h2] at this
    exact this
  have HEQ := Az.mk heq
  clear heq
  go_wp2_with fail
  rw [HLn.out]
  refine (equals_ok A7 A9 _ c7 c9 ys zs _ rfl HLn.out (own_rdS Y.out) HRZ.out HEQ.out).mono ?_
  rintro e w10 ⟨rfl, h⟩
  have h0 : World.grownBy w9 w10 _ := (by refine World.grownBy.trans ?_ h; repeat (first | exact gr_refl _ _ | apply gr_drewN | apply gr_drew | apply gr_alloc))
  clear cB0 cB1 cB2 cD0 cD1 cD2 cE0 cE1 cE2
  have L_ := Az.mk (gr_new L.out h0 (by first | (simp; done) | (simp; omega) | omega))
  have B_ := Az.mk (blkGr B.out h0 (by first | (simp; done) | (simp; omega) | omega))
  have D_ := Az.mk (blkGr D.out h0 (by first | (simp; done) | (simp; omega) | omega))
  have S_ := Az.mk (own_gr S.out h0 (by first | exact own_none _ | exact .inr (own_blk S.out B.out (by decide)) | exact .inr (own_blk S.out D.out (by decide)) | exact .inr (own_blk S.out E.out (by decide))))
  have X_ := Az.mk (own_gr X.out h0 (by first | exact own_none _ | exact .inr (own_blk X.out B.out (by decide)) | exact .inr (own_blk X.out D.out (by decide)) | exact .inr (own_blk X.out E.out (by decide))))
  have Y_ := Az.mk (own_gr Y.out h0 (by first | exact own_none _ | exact .inr (own_blk Y.out B.out (by decide)) | exact .inr (own_blk Y.out D.out (by decide)) | exact .inr (own_blk Y.out E.out (by decide))))
  have E_ := Az.mk (blkGr E.out h0 (by first | (simp; done) | (simp; omega) | omega))
  have Z_ := Az.mk (own_gr Z.out h0 (by first | exact own_none _ | exact .inr (own_blk Z.out B.out (by decide)) | exact .inr (own_blk Z.out D.out (by decide)) | exact .inr (own_blk Z.out E.out (by decide))))
  clear L B D S X Y E Z
  have L := L_; clear L_
  have B := B_; clear B_
  have D := D_; clear D_
  have S := S_; clear S_
  have X := X_; clear X_
  have Y := Y_; clear Y_
  have E := E_; clear E_
  have Z := Z_; clear Z_
  clear h0 h
  have cB0 : World.cell? w10 ⟨gB, 0, none⟩ = some (.float .f32 a1) := blkCell B.out 0
  have cB1 : World.cell? w10 ⟨gB, 1, none⟩ = some (.float .f32 o1) := blkCell B.out 1
  have cB2 : World.cell? w10 ⟨gB, 2, none⟩ = some (.complex .f32 x1 y1) := blkCell B.out 2
  have cD0 : World.cell? w10 ⟨gD, 0, none⟩ = some (.float .f32 a2) := blkCell D.out 0
  have cD1 : World.cell? w10 ⟨gD, 1, none⟩ = some (.float .f32 o2) := blkCell D.out 1
  have cD2 : World.cell? w10 ⟨gD, 2, none⟩ = some (.complex .f32 x2 y2) := blkCell D.out 2
  have cE0 : World.cell? w10 ⟨gE, 0, none⟩ = some (.float .f32 a3) := blkCell E.out 0
  have cE1 : World.cell? w10 ⟨gE, 1, none⟩ = some (.float .f32 o3) := blkCell E.out 1
  have cE2 : World.cell? w10 ⟨gE, 2, none⟩ = some (.complex .f32 x3 y3) := blkCell E.out 2
  go_wp2_with fail
  go_ret
  exact ⟨rfl, L.out⟩
theorem FnChained_walk (w : World) (A : Option Addr) (n c : Nat) (hrd : BytesRd w A n) (hnc : n ≤ c) : Calls Try.prog 5 #[.slice A n c] w (RetYes w) := by
  by_cases hz : c = n / 2
  · exact FnChained_b w A n c hrd hnc hz
  · exact FnChained_a w A n c hrd hnc hz
end Go.Proofs.Ytjomilloilbcgaa
