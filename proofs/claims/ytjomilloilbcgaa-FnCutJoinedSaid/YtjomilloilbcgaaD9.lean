/- Draws of pictures: contracts of spec.l08Picture, l08Channel, DrawLink. No condition. -/
import Derived.Test.YtjomilloilbcgaaD8
namespace Go.Proofs.Ytjomilloilbcgaa
open Go.RowKit
set_option linter.unusedVariables false
set_option linter.unusedSimpArgs false

/-- A cell that a link can carry. -/
def LinkCell (c : Nat × Nat × Nat) : Prop := ∃ k p q : Int, 0 ≤ k ∧ k ≤ 960 ∧ -32 ≤ p ∧ p ≤ 32 ∧ -32 ≤ q ∧ q ≤ 32 ∧ Q (fN .f32 c.1) (k * 256) ∧ Q (fN .f32 c.2.1) (p * 256) ∧ Q (fN .f32 c.2.2) (q * 256)
/-- Up to row r and cell j. -/
def Done (wd : Nat) (rows : List Row) (r j : Nat) : Prop := ∀ s i, s < rows.length → i < wd → (s < r ∨ (s = r ∧ i < j)) → LinkCell (cellAt rows s i) ∧ (2 ≤ s % 4 → (cellAt rows s i).2 = (cellAt rows (s - 2) i).2)
theorem Done.zero (wd : Nat) (rows : List Row) : Done wd rows 0 0 := fun s i _ _ h => by omega
theorem Done.next {wd : Nat} {rows : List Row} {r : Nat} (h : Done wd rows r wd) : Done wd rows (r + 1) 0 := fun s i hs hi h1 => h s i hs hi (by omega)
theorem Done.put {wd : Nat} {rows : List Row} {r j : Nat} (h : Done wd rows r j) (hr : r < rows.length) (hj : j < (rowOf rows r).length) {c : Nat × Nat × Nat} (hc : LinkCell c) (h2 : 2 ≤ r % 4 → c.2 = (cellAt rows (r - 2) j).2) : Done wd (putCell rows r j c) r (j + 1) := by
  intro s i hs hi h1
  rw [putCell_len] at hs
  rw [cellAt_put hr hj, cellAt_put hr hj]
  by_cases h3 : s = r ∧ i = j
  · rw [if_pos h3]
    obtain ⟨rfl, rfl⟩ := h3
    refine ⟨hc, fun h4 => ?_⟩
    rw [if_neg (by omega)]
    exact h2 h4
  · rw [if_neg h3]
    have h5 := h s i hs hi (by omega)
    refine ⟨h5.1, fun h4 => ?_⟩
    rw [if_neg (by omega)]
    exact h5.2 h4
theorem Done.linkAt {wd : Nat} {rows : List Row} {r j s i : Nat} (h : Done wd rows r j) (hs : s < rows.length) (hi : i < wd) (h1 : s < r ∨ (s = r ∧ i < j)) : LinkCell (cellAt rows s i) := (h s i hs hi h1).1
/-- A picture that a link can carry. -/
def Link (wd : Nat) (rows : List Row) : Prop := (∀ r, r < rows.length → (rowOf rows r).length = wd) ∧ Done wd rows rows.length 0
def RetLink (w0 w : World) (g : Nat) (e : Ending) (w' : World) : Prop := ∃ v wd h rows, 1 ≤ wd ∧ wd ≤ 4 ∧ 4 ≤ h ∧ h ≤ 8 ∧ h % 4 = 0 ∧ e = .returned v ∧ Pic w' w.heap.size v wd h rows ∧ Link wd rows ∧ Cur w0 w' g ∧ w.grownBy w' (some g)
set_option maxRecDepth 8000 in
set_option maxHeartbeats 4000000 in
theorem l08Picture_c (w0 w : World) (g : Nat) (hc : Cur w0 w g) : Calls Try.prog 37 #[.pointer (some ⟨g, 0, none⟩)] w (RetLink w0 w g) := by
  have K := Az.mk hc
  have hlt := hc.lt
  have L := Az.mk (gr_refl w (some g))
  have hS := hc.below.size
  clear hc
  go_enter Try.func37, Try.ntmps37
  go_wp2_with fail
  refine (l02Paired_c w0 _ g (by first | exact K.out | exact K.out.alloc _ | exact K.out.drewN _ | exact (K.out.alloc _).alloc _)).mono ?_
  rintro e w1 ⟨v, wd, hh, rows, hw1, hw2, hh1, hh2, hh3, rfl, ⟨hrl, vs, ho, hp⟩, hK, h⟩
  have h0 : World.grownBy w w1 _ := (by refine World.grownBy.trans ?_ h; repeat (first | exact gr_refl _ _ | apply gr_drewN | apply gr_drew | apply gr_alloc))
  have L_ := Az.mk (gr_new L.out h0 (by first | (simp; done) | (simp; omega) | omega))
  clear L
  have L := L_; clear L_
  clear h0 h
  clear K; have K := Az.mk hK; clear hK
  have HRL := Az.mk hrl
  obtain ⟨gO, cO, rfl, hcO, _, _⟩ := own_slice ho (by omega)
  have O := Az.mk ho
  have P := Az.mk hp
  clear hrl ho hp
  go_wp2_with fail
  go_loopw [4] (fun i wr => ∃ rows, ∃ r : Nat, i = .int .i64 r ∧ r ≤ hh ∧ Az (rows.length = hh) ∧ Az (Done wd rows r 0) ∧ Az (Cur w0 wr g) ∧ Az (w.grownBy wr (some g)) ∧ Az (wr.ownsRow w.heap.size 40 1 (.slice (some ⟨gO, 0, none⟩) hh cO) hh vs) ∧ Az (PicR wr w.heap.size vs wd rows)) (fun i _ => hh - (intOf i).toNat)
  case atStart => exact ⟨rows, 0, by go_num, by omega, HRL, ⟨Done.zero _ _⟩, K, L, O, P⟩
  case round =>
    clear K L O P HRL
    obtain ⟨rows, r, rfl, hr, HRL, HD, K, L, O, P⟩ := hrel
    by_cases hk : r < hh
    · by_cases h42 : 2 ≤ r % 4
      · have hnop := True.intro
        clear hnop
        obtain ⟨q, rfl⟩ : ∃ q, r = q + 2 := ⟨r - 2, by have := h42; omega⟩
        have H42 := Az.mk h42
        clear h42
        have hk3 : (q : Int) + 2 < hh := by omega
        have HRr := Az.mk (show (q + 2) < rows.length by have := HRL.out; omega)
        obtain ⟨gr, cr, hvr, hcr⟩ := P.out.val (by omega) HRr.out
        have HVr := Az.mk hvr
        clear hvr
        have dO := own_cell O.out HVr.out
        go_wp2_with fail
        go_loopw [5] (fun i wv => ∃ rows, ∃ j : Nat, i = .int .i64 j ∧ j ≤ wd ∧ Az (rows.length = hh) ∧ Az (Done wd rows (q + 2) j) ∧ Az (Cur w0 wv g) ∧ Az (w.grownBy wv (some g)) ∧ Az (wv.ownsRow w.heap.size 40 1 (.slice (some ⟨gO, 0, none⟩) hh cO) hh vs) ∧ Az (PicR wv w.heap.size vs wd rows)) (fun i _ => wd - (intOf i).toNat)
        case atStart => exact ⟨rows, 0, by go_num, by omega, HRL, HD, K, L, O, P⟩
        case round =>
          clear K L O P HRL HD HRr dO
          obtain ⟨rows, j, rfl, hj, HRL, HD, K, L, O, P⟩ := hrel
          have HRr := Az.mk (show (q + 2) < rows.length by have := HRL.out; omega)
          have dO := own_cell O.out HVr.out
          by_cases hj3 : j < wd
          · have hj4 : (j : Int) < wd := by omega
            have hj5 : j < cr := by omega
            · have hnop := True.intro
              clear hnop
              have HM42 : Az (decide (2 ≤ ((q : Int) + 2) % 4) = true) := ⟨by have := H42.out; simp; omega⟩
              have HRq := Az.mk (show q < rows.length by have := HRr.out; omega)
              obtain ⟨gq, cq, hvq, hcq⟩ := P.out.val (by omega) HRq.out
              have HVq := Az.mk hvq
              clear hvq
              have hj6 : j < cq := by omega
              have dO := own_cell O.out HVr.out
              go_wp2_with fail
              refine (l01Below_c w0 _ g _ (by omega) (by omega) (by first | exact K.out | exact K.out.alloc _ | exact K.out.drewN _ | exact (K.out.alloc _).alloc _)).mono ?_
              rintro e v1 ⟨k, h0k, h1k, rfl, hK, h⟩
              have h0 : World.grownBy wr v1 _ := (by refine World.grownBy.trans ?_ h; repeat (first | exact gr_refl _ _ | apply gr_drewN | apply gr_drew | apply gr_alloc))
              clear dO
              have L_ := Az.mk (gr_new L.out h0 (by first | (simp; done) | (simp; omega) | omega))
              have O_ := Az.mk (own_gr O.out h0 (by first | exact own_none _ | exact .inr hl?O.out | exact .inr (own_cur O.out K.out (by decide))))
              have P_ := Az.mk (PicR_gr P.out h0 (by first | exact fun r hr => own_none _ | exact hl?P.out | exact PicR_cur P.out K.out | exact PicR_own P.out O.out (by decide) | exact PicR_low HLow.out O.out))
              clear L O P
              have L := L_; clear L_
              have O := O_; clear O_
              have P := P_; clear P_
              clear h0 h
              clear K; have K := Az.mk hK; clear hK
              have dO := own_cell O.out HVr.out
              go_wp2_with (first | ((with_reducible refine gateN 29 rfl ?_); go_must (refine ev_fl 29 rfl rfl rfl rfl rfl rfl ?_; intro b29 W1 hb29 h; have HF29 := Az.mk hb29; clear hb29; have h0 : World.grownBy v1 W1 none := (by refine World.grownBy.trans ?_ h; repeat (first | exact gr_refl _ _ | apply gr_drewN | apply gr_drew | apply gr_alloc)); clear dO; have K_ := Az.mk (Cur.gr K.out h0 (by first | (simp; done) | (simp; omega) | omega) (by first | (simp; done) | (simp; omega) | omega)); have L_ := Az.mk (gr_new L.out h0 (by first | (simp; done) | (simp; omega) | omega)); have O_ := Az.mk (own_gr O.out h0 (by first | exact own_none _ | exact .inr hl?O.out | exact .inr (own_cur O.out K.out (by decide)))); have P_ := Az.mk (PicR_gr P.out h0 (by first | exact fun r hr => own_none _ | exact hl?P.out | exact PicR_cur P.out K.out | exact PicR_own P.out O.out (by decide) | exact PicR_low HLow.out O.out)); clear K L O P; have K := K_; clear K_; have L := L_; clear L_; have O := O_; clear O_; have P := P_; clear P_; clear h0 h; have dO := own_cell O.out HVr.out)))
              refine (l01Below_c w0 _ g _ (by omega) (by omega) (by first | exact K.out | exact K.out.alloc _ | exact K.out.drewN _ | exact (K.out.alloc _).alloc _)).mono ?_
              rintro e v2 ⟨p, h0p, h1p, rfl, hK, h⟩
              have h0 : World.grownBy W1 v2 _ := (by refine World.grownBy.trans ?_ h; repeat (first | exact gr_refl _ _ | apply gr_drewN | apply gr_drew | apply gr_alloc))
              clear dO
              have L_ := Az.mk (gr_new L.out h0 (by first | (simp; done) | (simp; omega) | omega))
              have O_ := Az.mk (own_gr O.out h0 (by first | exact own_none _ | exact .inr hl?O.out | exact .inr (own_cur O.out K.out (by decide))))
              have P_ := Az.mk (PicR_gr P.out h0 (by first | exact fun r hr => own_none _ | exact hl?P.out | exact PicR_cur P.out K.out | exact PicR_own P.out O.out (by decide) | exact PicR_low HLow.out O.out))
              clear L O P
              have L := L_; clear L_
              have O := O_; clear O_
              have P := P_; clear P_
              clear h0 h
              clear K; have K := Az.mk hK; clear hK
              have dO := own_cell O.out HVr.out
              go_wp2_with (first | ((with_reducible refine gateN 34 rfl ?_); go_must (refine ev_fl 34 rfl rfl rfl rfl rfl rfl ?_; intro b34 W2 hb34 h; have HF34 := Az.mk hb34; clear hb34; have h0 : World.grownBy v2 W2 none := (by refine World.grownBy.trans ?_ h; repeat (first | exact gr_refl _ _ | apply gr_drewN | apply gr_drew | apply gr_alloc)); clear dO; have K_ := Az.mk (Cur.gr K.out h0 (by first | (simp; done) | (simp; omega) | omega) (by first | (simp; done) | (simp; omega) | omega)); have L_ := Az.mk (gr_new L.out h0 (by first | (simp; done) | (simp; omega) | omega)); have O_ := Az.mk (own_gr O.out h0 (by first | exact own_none _ | exact .inr hl?O.out | exact .inr (own_cur O.out K.out (by decide)))); have P_ := Az.mk (PicR_gr P.out h0 (by first | exact fun r hr => own_none _ | exact hl?P.out | exact PicR_cur P.out K.out | exact PicR_own P.out O.out (by decide) | exact PicR_low HLow.out O.out)); clear K L O P; have K := K_; clear K_; have L := L_; clear L_; have O := O_; clear O_; have P := P_; clear P_; clear h0 h; have dO := own_cell O.out HVr.out)))
              refine (l01Below_c w0 _ g _ (by omega) (by omega) (by first | exact K.out | exact K.out.alloc _ | exact K.out.drewN _ | exact (K.out.alloc _).alloc _)).mono ?_
              rintro e v3 ⟨x, h0x, h1x, rfl, hK, h⟩
              have h0 : World.grownBy W2 v3 _ := (by refine World.grownBy.trans ?_ h; repeat (first | exact gr_refl _ _ | apply gr_drewN | apply gr_drew | apply gr_alloc))
              clear dO
              have L_ := Az.mk (gr_new L.out h0 (by first | (simp; done) | (simp; omega) | omega))
              have O_ := Az.mk (own_gr O.out h0 (by first | exact own_none _ | exact .inr hl?O.out | exact .inr (own_cur O.out K.out (by decide))))
              have P_ := Az.mk (PicR_gr P.out h0 (by first | exact fun r hr => own_none _ | exact hl?P.out | exact PicR_cur P.out K.out | exact PicR_own P.out O.out (by decide) | exact PicR_low HLow.out O.out))
              clear L O P
              have L := L_; clear L_
              have O := O_; clear O_
              have P := P_; clear P_
              clear h0 h
              clear K; have K := Az.mk hK; clear hK
              have dO := own_cell O.out HVr.out
              have hm42 := HM42.out
              have HWD := Az.mk (P.out.ownR HRr.out HVr.out).1
              go_wp2_with (first | ((with_reducible refine gateN 39 rfl ?_); go_must (refine ev_fl 39 rfl rfl rfl rfl rfl rfl ?_; intro b39 W3 hb39 h; have HF39 := Az.mk hb39; clear hb39; have h0 : World.grownBy v3 W3 none := (by refine World.grownBy.trans ?_ h; repeat (first | exact gr_refl _ _ | apply gr_drewN | apply gr_drew | apply gr_alloc)); clear dO; have K_ := Az.mk (Cur.gr K.out h0 (by first | (simp; done) | (simp; omega) | omega) (by first | (simp; done) | (simp; omega) | omega)); have L_ := Az.mk (gr_new L.out h0 (by first | (simp; done) | (simp; omega) | omega)); have O_ := Az.mk (own_gr O.out h0 (by first | exact own_none _ | exact .inr hl?O.out | exact .inr (own_cur O.out K.out (by decide)))); have P_ := Az.mk (PicR_gr P.out h0 (by first | exact fun r hr => own_none _ | exact hl?P.out | exact PicR_cur P.out K.out | exact PicR_own P.out O.out (by decide) | exact PicR_low HLow.out O.out)); clear K L O P; have K := K_; clear K_; have L := L_; clear L_; have O := O_; clear O_; have P := P_; clear P_; clear h0 h; have dO := own_cell O.out HVr.out)) | ((with_reducible refine gateSt 50 rfl ?_); go_must (have YR := Az.mk ((P.out.ownR HRr.out HVr.out).2); refine ev_so2 rfl rfl rfl (i := j * 2) rfl rfl YR.out (by kernel_rfl) (by omega) ?_; intro W4 hY h; have h0 : World.grownBy W3 W4 _ := (by refine World.grownBy.trans ?_ h; repeat (first | exact gr_refl _ _ | apply gr_drewN | apply gr_drew | apply gr_alloc)); have P_ := Az.mk (PicR.put2 P.out HRr.out HVr.out h0 hY); clear dO; have K_ := Az.mk (Cur.gr K.out h0 (fun he => own_cur YR.out K.out (by decide) he.symm) (by first | exact fun j hj => Nat.le_trans hS (own_base YR.out j hj) | exact fun j hj => Nat.le_trans hS2 (own_base YR.out j hj))); have L_ := Az.mk (gr_new L.out h0 (fun j hj => .inl (own_base YR.out j hj))); have O_ := Az.mk (own_gr O.out h0 (own_own O.out YR.out (by decide))); clear K L O; have K := K_; clear K_; have L := L_; clear L_; have O := O_; clear O_; clear h0 h; clear P YR hY; have P := P_; clear P_; have dO := own_cell O.out HVr.out)))
              have HRn := Az.mk (show q + 2 < (putCell rows (q + 2) j (b29, b34, b39)).length by rw [putCell_len]; exact HRr.out)
              have HRq2 := Az.mk (show q < (putCell rows (q + 2) j (b29, b34, b39)).length by rw [putCell_len]; exact HRq.out)
              have HRo := HRr
              clear HRr
              have HRr := HRn
              clear HRn
              obtain ⟨uq, vq, huq⟩ : ∃ uq vq, (cellAt rows q j).2 = (uq, vq) := ⟨_, _, rfl⟩
              have hcq2 : cellAt (putCell rows (q + 2) j (b29, b34, b39)) q j = cellAt rows q j := by rw [cellAt_put HRo.out (by rw [HWD.out]; exact hj3), if_neg (by omega)]
              have d2 := (P.out.cellA HRq2.out HVq.out hj3).2
              rw [hcq2, huq] at d2
              have HUQ := Az.mk huq
              clear huq hcq2
              have d1 := own_cell O.out HVq.out
              have v0 : ∀ w1, Up W4 w1 → w1.cell? ⟨gO, q + 2, none⟩ = some (.slice (some ⟨gr, 0, none⟩) wd cr) := fun w1 hu => cellGr hu dO (by simp)
              have v1 : ∀ w1, Up W4 w1 → w1.cell? ⟨gO, q, none⟩ = some (.slice (some ⟨gq, 0, none⟩) wd cq) := fun w1 hu => cellGr hu d1 (by simp)
              have v2 : ∀ w1, Up W4 w1 → w1.cell? ⟨gq, j * 2 + 1, none⟩ = some (.complex .f32 uq vq) := fun w1 hu => cellGr hu d2 (by simp)
              have b1 : 0 ≤ (q : Int) + 2 := by omega
              have b2 : (q : Int) + 2 < hh := by omega
              have b3 : ((q : Int) + 2).toNat = q + 2 := by omega
              have b4 : (q : Int) < hh := by omega
              have b5 : IntKind.i64.wrap (q : Int) = q := by rw [IntKind.wrap_i64]; omega
              refine wp_region_rel 16 (fun _ _ _ _ => True) (by kernel_rfl) (by kernel_rfl) ?_
              simp only [List.take_succ_cons, List.take_zero, List.drop_succ_cons, List.drop_zero]
              repeat (first | (refine lex_val' rfl ?_; apply Exists.intro; refine ⟨fun w1 hu => ?_, ?_⟩; (focus (first | (go_simp; done) | (go_simp; rfl))); refine lexK (fun K hK => ?_); go_simp; refine hK _ ?_; clear hK K))
              refine lex_nil (fun W5 h hF => ?_)
              have h0 : World.grownBy W4 W5 none := (by refine World.grownBy.trans ?_ h; repeat (first | exact gr_refl _ _ | apply gr_drewN | apply gr_drew | apply gr_alloc))
              clear dO
              have K_ := Az.mk (Cur.gr K.out h0 (by first | (simp; done) | (simp; omega) | omega) (by first | (simp; done) | (simp; omega) | omega))
              have L_ := Az.mk (gr_new L.out h0 (by first | (simp; done) | (simp; omega) | omega))
              have O_ := Az.mk (own_gr O.out h0 (by first | exact own_none _ | exact .inr hl?O.out | exact .inr (own_cur O.out K.out (by decide))))
              have P_ := Az.mk (PicR_gr P.out h0 (by first | exact fun r hr => own_none _ | exact hl?P.out | exact PicR_cur P.out K.out | exact PicR_own P.out O.out (by decide) | exact PicR_low HLow.out O.out))
              clear K L O P
              have K := K_; clear K_
              have L := L_; clear L_
              have O := O_; clear O_
              have P := P_; clear P_
              clear h0 h
              clear hF
              have dO := own_cell O.out HVr.out
              clear b1 b2 b3 b4 b5
              clear v0 v1 v2 d1 d2
              go_wp2_with (first | ((with_reducible refine gateSt 69 rfl ?_); go_must (have YR := Az.mk ((P.out.ownR HRr.out HVr.out).2); refine ev_so1 rfl rfl rfl (i := j * 2 + 1) rfl rfl YR.out (by kernel_rfl) rfl (by omega) ?_; intro W6 hY h; have h0 : World.grownBy W5 W6 _ := (by refine World.grownBy.trans ?_ h; repeat (first | exact gr_refl _ _ | apply gr_drewN | apply gr_drew | apply gr_alloc)); have P_ := Az.mk (PicR.put1 P.out HRr.out HVr.out h0 (by omega) hY); clear dO; have K_ := Az.mk (Cur.gr K.out h0 (fun he => own_cur YR.out K.out (by decide) he.symm) (by first | exact fun j hj => Nat.le_trans hS (own_base YR.out j hj) | exact fun j hj => Nat.le_trans hS2 (own_base YR.out j hj))); have L_ := Az.mk (gr_new L.out h0 (fun j hj => .inl (own_base YR.out j hj))); have O_ := Az.mk (own_gr O.out h0 (own_own O.out YR.out (by decide))); clear K L O; have K := K_; clear K_; have L := L_; clear L_; have O := O_; clear O_; clear h0 h; clear P YR hY; have P := P_; clear P_; have dO := own_cell O.out HVr.out)))
              have hlj : j < (rowOf rows (q + 2)).length := by rw [HWD.out]; exact hj3
              have P2 := P.out
              rw [putCell_again HRo.out, cellAt_put HRo.out hlj, if_pos ⟨rfl, rfl⟩] at P2
              have hlc : LinkCell (b29, uq, vq) := by
                have := (HD.out.linkAt (s := q) (i := j) HRq.out hj3 (by omega))
                obtain ⟨k', p', q', _, _, c3, c4, c5, c6, _, d2, d3⟩ := this
                rw [HUQ.out] at d2 d3
                exact ⟨k, p', q', by omega, by omega, c3, c4, c5, c6, sixteenth (by omega) (by omega) HF29.out, d2, d3⟩
              refine ⟨?_, by simp [intOf]; omega⟩
              repeat apply Exists.intro
              refine ⟨?_, rfl⟩
              exact ⟨putCell rows (q + 2) j (b29, uq, vq), j + 1, by go_num, by omega, ⟨by rw [putCell_len]; exact HRL.out⟩, ⟨HD.out.put HRo.out hlj hlc (fun _ => by rw [show q + 2 - 2 = q by omega, HUQ.out])⟩, K, L, O, ⟨P2⟩⟩
          · go_wp2_with fail
            obtain rfl : j = wd := by omega
            exact ⟨⟨rows, (q + 2) + 1, by go_num, by omega, HRL, ⟨HD.out.next⟩, K, L, O, P⟩, by simp only [intOf]; omega⟩

      · have hnop := True.intro
        clear hnop
        have H42 := Az.mk h42
        clear h42
        have hk3 : (r : Int) < hh := by omega
        have HRr := Az.mk (show r < rows.length by have := HRL.out; omega)
        obtain ⟨gr, cr, hvr, hcr⟩ := P.out.val (by omega) HRr.out
        have HVr := Az.mk hvr
        clear hvr
        have dO := own_cell O.out HVr.out
        go_wp2_with fail
        go_loopw [5] (fun i wv => ∃ rows, ∃ j : Nat, i = .int .i64 j ∧ j ≤ wd ∧ Az (rows.length = hh) ∧ Az (Done wd rows r j) ∧ Az (Cur w0 wv g) ∧ Az (w.grownBy wv (some g)) ∧ Az (wv.ownsRow w.heap.size 40 1 (.slice (some ⟨gO, 0, none⟩) hh cO) hh vs) ∧ Az (PicR wv w.heap.size vs wd rows)) (fun i _ => wd - (intOf i).toNat)
        case atStart => exact ⟨rows, 0, by go_num, by omega, HRL, HD, K, L, O, P⟩
        case round =>
          clear K L O P HRL HD HRr dO
          obtain ⟨rows, j, rfl, hj, HRL, HD, K, L, O, P⟩ := hrel
          have HRr := Az.mk (show r < rows.length by have := HRL.out; omega)
          have dO := own_cell O.out HVr.out
          by_cases hj3 : j < wd
          · have hj4 : (j : Int) < wd := by omega
            have hj5 : j < cr := by omega
            · have hnop := True.intro
              clear hnop
              have HM42 : Az (decide (2 ≤ (r : Int) % 4) = false) := ⟨by have := H42.out; simp; omega⟩
              have dO := own_cell O.out HVr.out
              go_wp2_with fail
              refine (l01Below_c w0 _ g _ (by omega) (by omega) (by first | exact K.out | exact K.out.alloc _ | exact K.out.drewN _ | exact (K.out.alloc _).alloc _)).mono ?_
              rintro e v1 ⟨k, h0k, h1k, rfl, hK, h⟩
              have h0 : World.grownBy wr v1 _ := (by refine World.grownBy.trans ?_ h; repeat (first | exact gr_refl _ _ | apply gr_drewN | apply gr_drew | apply gr_alloc))
              clear dO
              have L_ := Az.mk (gr_new L.out h0 (by first | (simp; done) | (simp; omega) | omega))
              have O_ := Az.mk (own_gr O.out h0 (by first | exact own_none _ | exact .inr hl?O.out | exact .inr (own_cur O.out K.out (by decide))))
              have P_ := Az.mk (PicR_gr P.out h0 (by first | exact fun r hr => own_none _ | exact hl?P.out | exact PicR_cur P.out K.out | exact PicR_own P.out O.out (by decide) | exact PicR_low HLow.out O.out))
              clear L O P
              have L := L_; clear L_
              have O := O_; clear O_
              have P := P_; clear P_
              clear h0 h
              clear K; have K := Az.mk hK; clear hK
              have dO := own_cell O.out HVr.out
              go_wp2_with (first | ((with_reducible refine gateN 29 rfl ?_); go_must (refine ev_fl 29 rfl rfl rfl rfl rfl rfl ?_; intro b29 W7 hb29 h; have HF29 := Az.mk hb29; clear hb29; have h0 : World.grownBy v1 W7 none := (by refine World.grownBy.trans ?_ h; repeat (first | exact gr_refl _ _ | apply gr_drewN | apply gr_drew | apply gr_alloc)); clear dO; have K_ := Az.mk (Cur.gr K.out h0 (by first | (simp; done) | (simp; omega) | omega) (by first | (simp; done) | (simp; omega) | omega)); have L_ := Az.mk (gr_new L.out h0 (by first | (simp; done) | (simp; omega) | omega)); have O_ := Az.mk (own_gr O.out h0 (by first | exact own_none _ | exact .inr hl?O.out | exact .inr (own_cur O.out K.out (by decide)))); have P_ := Az.mk (PicR_gr P.out h0 (by first | exact fun r hr => own_none _ | exact hl?P.out | exact PicR_cur P.out K.out | exact PicR_own P.out O.out (by decide) | exact PicR_low HLow.out O.out)); clear K L O P; have K := K_; clear K_; have L := L_; clear L_; have O := O_; clear O_; have P := P_; clear P_; clear h0 h; have dO := own_cell O.out HVr.out)))
              refine (l01Below_c w0 _ g _ (by omega) (by omega) (by first | exact K.out | exact K.out.alloc _ | exact K.out.drewN _ | exact (K.out.alloc _).alloc _)).mono ?_
              rintro e v2 ⟨p, h0p, h1p, rfl, hK, h⟩
              have h0 : World.grownBy W7 v2 _ := (by refine World.grownBy.trans ?_ h; repeat (first | exact gr_refl _ _ | apply gr_drewN | apply gr_drew | apply gr_alloc))
              clear dO
              have L_ := Az.mk (gr_new L.out h0 (by first | (simp; done) | (simp; omega) | omega))
              have O_ := Az.mk (own_gr O.out h0 (by first | exact own_none _ | exact .inr hl?O.out | exact .inr (own_cur O.out K.out (by decide))))
              have P_ := Az.mk (PicR_gr P.out h0 (by first | exact fun r hr => own_none _ | exact hl?P.out | exact PicR_cur P.out K.out | exact PicR_own P.out O.out (by decide) | exact PicR_low HLow.out O.out))
              clear L O P
              have L := L_; clear L_
              have O := O_; clear O_
              have P := P_; clear P_
              clear h0 h
              clear K; have K := Az.mk hK; clear hK
              have dO := own_cell O.out HVr.out
              go_wp2_with (first | ((with_reducible refine gateN 34 rfl ?_); go_must (refine ev_fl 34 rfl rfl rfl rfl rfl rfl ?_; intro b34 W8 hb34 h; have HF34 := Az.mk hb34; clear hb34; have h0 : World.grownBy v2 W8 none := (by refine World.grownBy.trans ?_ h; repeat (first | exact gr_refl _ _ | apply gr_drewN | apply gr_drew | apply gr_alloc)); clear dO; have K_ := Az.mk (Cur.gr K.out h0 (by first | (simp; done) | (simp; omega) | omega) (by first | (simp; done) | (simp; omega) | omega)); have L_ := Az.mk (gr_new L.out h0 (by first | (simp; done) | (simp; omega) | omega)); have O_ := Az.mk (own_gr O.out h0 (by first | exact own_none _ | exact .inr hl?O.out | exact .inr (own_cur O.out K.out (by decide)))); have P_ := Az.mk (PicR_gr P.out h0 (by first | exact fun r hr => own_none _ | exact hl?P.out | exact PicR_cur P.out K.out | exact PicR_own P.out O.out (by decide) | exact PicR_low HLow.out O.out)); clear K L O P; have K := K_; clear K_; have L := L_; clear L_; have O := O_; clear O_; have P := P_; clear P_; clear h0 h; have dO := own_cell O.out HVr.out)))
              refine (l01Below_c w0 _ g _ (by omega) (by omega) (by first | exact K.out | exact K.out.alloc _ | exact K.out.drewN _ | exact (K.out.alloc _).alloc _)).mono ?_
              rintro e v3 ⟨x, h0x, h1x, rfl, hK, h⟩
              have h0 : World.grownBy W8 v3 _ := (by refine World.grownBy.trans ?_ h; repeat (first | exact gr_refl _ _ | apply gr_drewN | apply gr_drew | apply gr_alloc))
              clear dO
              have L_ := Az.mk (gr_new L.out h0 (by first | (simp; done) | (simp; omega) | omega))
              have O_ := Az.mk (own_gr O.out h0 (by first | exact own_none _ | exact .inr hl?O.out | exact .inr (own_cur O.out K.out (by decide))))
              have P_ := Az.mk (PicR_gr P.out h0 (by first | exact fun r hr => own_none _ | exact hl?P.out | exact PicR_cur P.out K.out | exact PicR_own P.out O.out (by decide) | exact PicR_low HLow.out O.out))
              clear L O P
              have L := L_; clear L_
              have O := O_; clear O_
              have P := P_; clear P_
              clear h0 h
              clear K; have K := Az.mk hK; clear hK
              have dO := own_cell O.out HVr.out
              have hm42 := HM42.out
              have HWD := Az.mk (P.out.ownR HRr.out HVr.out).1
              go_wp2_with (first | ((with_reducible refine gateN 39 rfl ?_); go_must (refine ev_fl 39 rfl rfl rfl rfl rfl rfl ?_; intro b39 W9 hb39 h; have HF39 := Az.mk hb39; clear hb39; have h0 : World.grownBy v3 W9 none := (by refine World.grownBy.trans ?_ h; repeat (first | exact gr_refl _ _ | apply gr_drewN | apply gr_drew | apply gr_alloc)); clear dO; have K_ := Az.mk (Cur.gr K.out h0 (by first | (simp; done) | (simp; omega) | omega) (by first | (simp; done) | (simp; omega) | omega)); have L_ := Az.mk (gr_new L.out h0 (by first | (simp; done) | (simp; omega) | omega)); have O_ := Az.mk (own_gr O.out h0 (by first | exact own_none _ | exact .inr hl?O.out | exact .inr (own_cur O.out K.out (by decide)))); have P_ := Az.mk (PicR_gr P.out h0 (by first | exact fun r hr => own_none _ | exact hl?P.out | exact PicR_cur P.out K.out | exact PicR_own P.out O.out (by decide) | exact PicR_low HLow.out O.out)); clear K L O P; have K := K_; clear K_; have L := L_; clear L_; have O := O_; clear O_; have P := P_; clear P_; clear h0 h; have dO := own_cell O.out HVr.out)) | ((with_reducible refine gateSt 50 rfl ?_); go_must (have YR := Az.mk ((P.out.ownR HRr.out HVr.out).2); refine ev_so2 rfl rfl rfl (i := j * 2) rfl rfl YR.out (by kernel_rfl) (by omega) ?_; intro W10 hY h; have h0 : World.grownBy W9 W10 _ := (by refine World.grownBy.trans ?_ h; repeat (first | exact gr_refl _ _ | apply gr_drewN | apply gr_drew | apply gr_alloc)); have P_ := Az.mk (PicR.put2 P.out HRr.out HVr.out h0 hY); clear dO; have K_ := Az.mk (Cur.gr K.out h0 (fun he => own_cur YR.out K.out (by decide) he.symm) (by first | exact fun j hj => Nat.le_trans hS (own_base YR.out j hj) | exact fun j hj => Nat.le_trans hS2 (own_base YR.out j hj))); have L_ := Az.mk (gr_new L.out h0 (fun j hj => .inl (own_base YR.out j hj))); have O_ := Az.mk (own_gr O.out h0 (own_own O.out YR.out (by decide))); clear K L O; have K := K_; clear K_; have L := L_; clear L_; have O := O_; clear O_; clear h0 h; clear P YR hY; have P := P_; clear P_; have dO := own_cell O.out HVr.out)))
              have hlj : j < (rowOf rows r).length := by rw [HWD.out]; exact hj3
              have hlc : LinkCell (b29, b34, b39) := ⟨k, p - 32, x - 32, by omega, by omega, by omega, by omega, by omega, by omega, sixteenth (by omega) (by omega) HF29.out, sixteenth (by omega) (by omega) HF34.out, sixteenth (by omega) (by omega) HF39.out⟩
              refine ⟨⟨putCell rows r j (b29, b34, b39), j + 1, by go_num, by omega, ⟨by rw [putCell_len]; exact HRL.out⟩, ⟨HD.out.put HRr.out hlj hlc (fun h => absurd h H42.out)⟩, K, L, O, P⟩, by simp only [intOf]; omega⟩
          · go_wp2_with fail
            obtain rfl : j = wd := by omega
            exact ⟨⟨rows, r + 1, by go_num, by omega, HRL, ⟨HD.out.next⟩, K, L, O, P⟩, by simp only [intOf]; omega⟩
    · go_wp2_with fail
      go_ret
      obtain rfl : r = hh := by omega
      exact ⟨_, wd, r, rows, by omega, by omega, by omega, by omega, by omega, rfl, ⟨HRL.out, vs, O.out, P.out⟩, ⟨fun s hs => (P.out.row s hs).elim fun _ h => by rw [rowOf_get hs]; exact h.1, by rw [HRL.out]; exact HD.out⟩, K.out, L.out⟩
end Go.Proofs.Ytjomilloilbcgaa
