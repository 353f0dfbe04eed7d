/- Contract of impl.Starts (where there are lows and the first line fits). -/
import Derived.Test.YtjomilloilbcgaaCc
namespace Go.Proofs.Ytjomilloilbcgaa
open Go.RowKit
set_option linter.unusedVariables false
set_option linter.unusedSimpArgs false

def findM (rs : List (Nat × Nat)) (t : Int) : Option (Nat × Nat) := rs.find? fun r => nearI t (r.1 : Int)
theorem findM_of {rs : List (Nat × Nat)} {t r : Int} (h : FindRun rs t r) : (r = -1 ∧ findM rs t = none) ∨ ∃ k, ∃ h : k < rs.length, r = (k : Int) ∧ findM rs t = some rs[k] ∧ t - 3 ≤ (rs[k].1 : Int) ∧ (rs[k].1 : Int) ≤ t + 3 := by
  rcases h with ⟨h1, h2⟩ | ⟨k, hk, h1, h2, h3⟩
  · refine .inl ⟨h1, ?_⟩
    unfold findM
    rw [List.find?_eq_none]
    intro x hx
    obtain ⟨j, hj, rfl⟩ := List.getElem_of_mem hx
    simp [h2 j hj]
  · refine .inr ⟨k, hk, h1, ?_, ?_⟩
    · unfold findM
      rw [List.find?_eq_some_iff_getElem]
      exact ⟨h2, k, hk, rfl, fun j hj => by simp [h3 j (by omega) hj]⟩
    · unfold nearI at h2; simpa using h2
def lenOfS : Value → Nat
  | .slice _ k _ => k
  | _ => 0
def lastI (is : List Int) : Int := is.getD (is.length - 1) 0
def startsM (rs : List (Nat × Nat)) (len n : Int) (gap : Nat) : Nat → List Int → Nat → List Int
  | 0, is, _ => is
  | f + 1, is, m =>
    if lastI is + n + n > len then is
    else match findM rs (lastI is + n) with
      | some r => startsM rs len n gap f (is ++ [(r.1 : Int)]) 0
      | none => if m + 1 > gap then is else startsM rs len n gap f (is ++ [lastI is + n]) (m + 1)
theorem lastI_at {is : List Int} {q : Nat} (h : is.length = q + 1) : (intsV is)[q]? = some (.int .i64 (lastI is)) := by
  have hq : q < is.length := by omega
  rw [intsV_get is q hq]
  unfold lastI
  rw [h, Nat.add_sub_cancel]
  simp [List.getD_eq_getElem?_getD, List.getElem?_eq_getElem hq]
theorem lastI_snoc (is : List Int) (i : Int) : lastI (is ++ [i]) = i := by simp [lastI]
def RetInts (w : World) (is : List Int) (e : Ending) (w' : World) : Prop := ∃ v, e = .returned v ∧ w'.ownsRow w.heap.size 3 1 v is.length (intsV is) ∧ w.grownBy w' none
set_option maxRecDepth 8000 in
set_option maxHeartbeats 4000000 in
theorem Starts_ok (A : Option Addr) (ln c s n gap : Nat) (bs : List Nat) (r0 : Nat × Nat) (rs : List (Nat × Nat)) (w : World) (hn : bs.length = ln) (h20 : ln ≤ 20000) (hrd : Rd w A ln 1 (flV bs)) (hlow : lowsN (fN .f32 s) (bs.map (fN .f32)) = r0 :: rs) (hn1 : 28 ≤ n) (hn2 : n ≤ 280) (hg : gap ≤ 10) (hfit : r0.1 + n ≤ ln) :
    Calls Try.prog 26 #[.slice A ln c, .float .f32 s, .int .i64 n, .int .i64 gap] w (RetInts w (startsM (r0 :: rs) ln n gap (ln + 1) [(r0.1 : Int)] 0)) := by
  have L := Az.mk (gr_refl w none)
  have HR := Az.mk hrd
  have HN := Az.mk hn
  have HL := Az.mk hlow
  clear hrd hn hlow
  go_enter Try.func26, Try.ntmps26
  go_wp2_with fail
  refine (Lows_c A ln c s bs _ HN.out h20 HR.out).mono ?_
  rintro e w1 ⟨v1, rfl, hR, h⟩
  have h0 : World.grownBy w w1 _ := (by refine World.grownBy.trans ?_ h; repeat (first | exact gr_refl _ _ | apply gr_drewN | apply gr_drew | apply gr_alloc))
  have L_ := Az.mk (gr_new L.out h0 (by first | (simp; done) | (simp; omega) | omega))
  clear L
  have L := L_; clear L_
  clear h0 h
  have R := Az.mk hR; clear hR
  rw [HL.out] at R
  obtain ⟨g1, c1, rfl, hc1, _, _⟩ := own_slice R.out (by simp)
  have dB := own_cell R.out (runsV_get (r0 :: rs) 0 (by simp)).1
  have hlen : 0 < (r0 :: rs).length := by simp
  have hfi : ¬ ((r0.1 : Int) + n > ln) := by omega
  go_wp2_with fail
  refine (lengthOk_c _ _).mono ?_
  rintro e w2 ⟨rfl, h⟩
  have h0 : World.grownBy w1 w2 _ := (by refine World.grownBy.trans ?_ h; repeat (first | exact gr_refl _ _ | apply gr_drewN | apply gr_drew | apply gr_alloc))
  clear dB
  have L_ := Az.mk (gr_new L.out h0 (by first | (simp; done) | (simp; omega) | omega))
  have R_ := Az.mk (own_gr R.out h0 (by first | exact own_none _ | exact .inr hl?R.out))
  clear L R
  have L := L_; clear L_
  have R := R_; clear R_
  clear h0 h
  have dB := own_cell R.out (runsV_get (r0 :: rs) 0 (by simp)).1
  have e1 : (decide (28 ≤ (n : Int)) && decide ((n : Int) ≤ 280)) = true := by simp; omega
  rw [e1]
  go_wp2_with fail
  refine (within_c _ _ _ _).mono ?_
  rintro e w3 ⟨rfl, h⟩
  have h0 : World.grownBy w2 w3 _ := (by refine World.grownBy.trans ?_ h; repeat (first | exact gr_refl _ _ | apply gr_drewN | apply gr_drew | apply gr_alloc))
  clear dB
  have L_ := Az.mk (gr_new L.out h0 (by first | (simp; done) | (simp; omega) | omega))
  have R_ := Az.mk (own_gr R.out h0 (by first | exact own_none _ | exact .inr hl?R.out))
  clear L R
  have L := L_; clear L_
  have R := R_; clear R_
  clear h0 h
  have dB := own_cell R.out (runsV_get (r0 :: rs) 0 (by simp)).1
  have e2 : (decide ((0 : Int) ≤ (gap : Int)) && decide ((gap : Int) ≤ 10)) = true := by simp; omega
  rw [e2]
  clear e1 e2
  have hb0 : ((rs.length : Int) + 1 == 0) = false := by simp; omega
  have hb1 : decide ((ln : Int) < (r0.1 : Int) + n) = false := by simp; omega
  go_wp2_with (first | ((with_reducible refine gateN 45 rfl ?_); go_must (refine ev_bs 45 rfl rfl #[.int .i64 (r0.1 : Int)] 3 1 ?hr ?_; (case hr => first | (go_simp; done) | (go_simp; rfl)); intro gI heI W1 hbI h; have hgI : w.heap.size ≤ gI := Nat.le_trans L.out.size heI; have hlIR := Az.mk (own_lows R.out heI); clear heI; have h0 : World.grownBy w3 W1 none := (by refine World.grownBy.trans ?_ h; repeat (first | exact gr_refl _ _ | apply gr_drewN | apply gr_drew | apply gr_alloc)); clear dB; have L_ := Az.mk (gr_new L.out h0 (by first | (simp; done) | (simp; omega) | omega)); have R_ := Az.mk (own_gr R.out h0 (by first | exact own_none _ | exact .inr hl?R.out)); clear L R; have L := L_; clear L_; have R := R_; clear R_; clear h0 h; have I := Az.mk hbI; clear hbI; have dB := own_cell R.out (runsV_get (r0 :: rs) 0 (by simp)).1; have cI0 : World.cell? W1 ⟨gI, 0, none⟩ = some (.int .i64 (r0.1 : Int)) := blkCell I.out 0)))
  have O := Az.mk (own_of_blk (size := 1) (m := 1) I.out w.heap.size hgI rfl (by decide))
  clear I
  have hr0 : r0.1 ≤ ln := by omega
  clear hb0 hb1 hfi hlen dB
  go_loopw [10, 11] (fun z mi wr => ∃ is, ∃ q a m f g2 c2 : Nat, z = .slice (some ⟨g2, 0, none⟩) (q + 1) c2 ∧ mi = .int .i64 m ∧ m ≤ 11 ∧ a ≤ ln ∧ q ≤ a ∧ ln < a + f ∧ q + 1 ≤ c2 ∧ Az (lastI is = (a : Int)) ∧ Az (is.length = q + 1) ∧ Az (startsM (r0 :: rs) ln n gap f is m = startsM (r0 :: rs) ln n gap (ln + 1) [(r0.1 : Int)] 0) ∧ Az (w.grownBy wr none) ∧ Az (wr.ownsRow w.heap.size 3 1 z (q + 1) (intsV is)) ∧ Az (wr.ownsRow w.heap.size 99 2 (.slice (some ⟨g1, 0, none⟩) (rs.length + 1) c1) (rs.length + 1) (runsV (r0 :: rs)))) (fun z _ _ => ln + 2 - lenOfS z)
  case atStart => exact ⟨[(r0.1 : Int)], 0, r0.1, 0, ln + 1, gI, 1, rfl, by go_num, by omega, by omega, by omega, by omega, by omega, ⟨by simp [lastI]⟩, ⟨rfl⟩, ⟨rfl⟩, L, O, R⟩
  case round =>
    clear L O R
    obtain ⟨is, q, a, m, f, g2, c2, rfl, rfl, hm, ha, hqa, hf, hqc, HA, HQ, HS, L, O, R⟩ := hrel
    obtain ⟨f, rfl⟩ : ∃ k, f = k + 1 := ⟨f - 1, by omega⟩
    have dO := own_cell O.out (lastI_at HQ.out)
    rw [HA.out] at dO
    have hsz : g2 < wr.heap.size := (own_slice O.out (by omega)).elim fun _ ⟨_, e, _, _, h⟩ => by injection e with e; injection e with e; injection e with e; omega
    have dO := (own_cell O.out (lastI_at HQ.out)).trans (by rw [HA.out])
    by_cases hst : (ln : Int) < (a : Int) + n + n
    · skip
      go_wp2_with (first | ((with_reducible refine gateN 12 rfl ?_); go_must (refine ev_al 12 rfl rfl #[.int .i64 0] 3 ?hr ?_; (case hr => first | (go_simp; done) | (go_simp; rfl)); intro gT heT W2 hbT h; have hgT : w.heap.size ≤ gT := Nat.le_trans L.out.size heT; have hlTO := Az.mk (own_lows O.out heT); have hlTR := Az.mk (own_lows R.out heT); clear heT; have h0 : World.grownBy wr W2 none := (by refine World.grownBy.trans ?_ h; repeat (first | exact gr_refl _ _ | apply gr_drewN | apply gr_drew | apply gr_alloc)); clear dO; have L_ := Az.mk (gr_new L.out h0 (by first | (simp; done) | (simp; omega) | omega)); have O_ := Az.mk (own_gr O.out h0 (by first | exact own_none _ | exact .inr hl?O.out)); have R_ := Az.mk (own_gr R.out h0 (by first | exact own_none _ | exact .inr hl?R.out)); clear L O R; have L := L_; clear L_; have O := O_; clear O_; have R := R_; clear R_; clear h0 h; have T := Az.mk hbT; clear hbT; have dO := (own_cell O.out (lastI_at HQ.out)).trans (by rw [HA.out]); have cT0 : World.cell? W2 ⟨gT, 0, none⟩ = some (.int .i64 0) := blkCell T.out 0)) | ((with_reducible refine gateSt 12 rfl ?_); go_must (refine ev_st1 rfl rfl rfl (i := 0) (v := .int .i64 ((a : Int) + n)) rfl rfl T.out (by kernel_rfl) rfl (by simp) ?_; intro W3 hbT h; have h0 : World.grownBy W2 W3 (some gT) := (by refine World.grownBy.trans ?_ h; repeat (first | exact gr_refl _ _ | apply gr_drewN | apply gr_drew | apply gr_alloc)); clear cT0 dO; have L_ := Az.mk (gr_new L.out h0 (by first | (simp; done) | (simp; omega) | omega)); have O_ := Az.mk (own_gr O.out h0 (by first | exact own_none _ | exact .inr hlTO.out | exact .inr (own_blk O.out T.out (by decide)))); have R_ := Az.mk (own_gr R.out h0 (by first | exact own_none _ | exact .inr hlTR.out | exact .inr (own_blk R.out T.out (by decide)))); clear L O R; have L := L_; clear L_; have O := O_; clear O_; have R := R_; clear R_; clear h0 h; simp only [List.setIfInBounds_toArray, List.set_cons_zero, List.set_cons_succ] at hbT; clear T; have T := Az.mk hbT; clear hbT; have dO := (own_cell O.out (lastI_at HQ.out)).trans (by rw [HA.out]); have cT0 : World.cell? W3 ⟨gT, 0, none⟩ = some (.int .i64 ((a : Int) + n)) := blkCell T.out 0)))
      go_ret
      have e : startsM (r0 :: rs) ln n gap (ln + 1) [(r0.1 : Int)] 0 = is := by rw [← HS.out, startsM, HA.out, if_pos (by omega)]
      refine ⟨_, rfl, ?_, L.out⟩
      rw [e, HQ.out]; exact O.out
    · have HNS := Az.mk hst
      have hst2 : decide ((ln : Int) < (a : Int) + n + n) = false := by simp; omega
      clear hst
      go_wp2_with (first | ((with_reducible refine gateN 12 rfl ?_); go_must (refine ev_al 12 rfl rfl #[.int .i64 0] 3 ?hr ?_; (case hr => first | (go_simp; done) | (go_simp; rfl)); intro gT heT W4 hbT h; have hgT : w.heap.size ≤ gT := Nat.le_trans L.out.size heT; have hlTO := Az.mk (own_lows O.out heT); have hlTR := Az.mk (own_lows R.out heT); clear heT; have h0 : World.grownBy wr W4 none := (by refine World.grownBy.trans ?_ h; repeat (first | exact gr_refl _ _ | apply gr_drewN | apply gr_drew | apply gr_alloc)); clear dO; have L_ := Az.mk (gr_new L.out h0 (by first | (simp; done) | (simp; omega) | omega)); have O_ := Az.mk (own_gr O.out h0 (by first | exact own_none _ | exact .inr hl?O.out)); have R_ := Az.mk (own_gr R.out h0 (by first | exact own_none _ | exact .inr hl?R.out)); clear L O R; have L := L_; clear L_; have O := O_; clear O_; have R := R_; clear R_; clear h0 h; have T := Az.mk hbT; clear hbT; have dO := (own_cell O.out (lastI_at HQ.out)).trans (by rw [HA.out]); have cT0 : World.cell? W4 ⟨gT, 0, none⟩ = some (.int .i64 0) := blkCell T.out 0)) | ((with_reducible refine gateSt 12 rfl ?_); go_must (refine ev_st1 rfl rfl rfl (i := 0) (v := .int .i64 ((a : Int) + n)) rfl rfl T.out (by kernel_rfl) rfl (by simp) ?_; intro W5 hbT h; have h0 : World.grownBy W4 W5 (some gT) := (by refine World.grownBy.trans ?_ h; repeat (first | exact gr_refl _ _ | apply gr_drewN | apply gr_drew | apply gr_alloc)); clear cT0 dO; have L_ := Az.mk (gr_new L.out h0 (by first | (simp; done) | (simp; omega) | omega)); have O_ := Az.mk (own_gr O.out h0 (by first | exact own_none _ | exact .inr hlTO.out | exact .inr (own_blk O.out T.out (by decide)))); have R_ := Az.mk (own_gr R.out h0 (by first | exact own_none _ | exact .inr hlTR.out | exact .inr (own_blk R.out T.out (by decide)))); clear L O R; have L := L_; clear L_; have O := O_; clear O_; have R := R_; clear R_; clear h0 h; simp only [List.setIfInBounds_toArray, List.set_cons_zero, List.set_cons_succ] at hbT; clear T; have T := Az.mk hbT; clear hbT; have dO := (own_cell O.out (lastI_at HQ.out)).trans (by rw [HA.out]); have cT0 : World.cell? W5 ⟨gT, 0, none⟩ = some (.int .i64 ((a : Int) + n)) := blkCell T.out 0)))
      refine (IndexRun_c gT ((a : Int) + n) (by omega) (by omega) (some ⟨g1, 0, none⟩) (rs.length + 1) c1 (r0 :: rs) _ rfl (own_rdS R.out) T.out).mono ?_
      rintro e w4 ⟨r, hfr, rfl, h⟩
      have h0 : World.grownBy W5 w4 _ := (by refine World.grownBy.trans ?_ h; repeat (first | exact gr_refl _ _ | apply gr_drewN | apply gr_drew | apply gr_alloc))
      clear cT0 dO
      have L_ := Az.mk (gr_new L.out h0 (by first | (simp; done) | (simp; omega) | omega))
      have O_ := Az.mk (own_gr O.out h0 (by first | exact own_none _ | exact .inr hl?O.out | exact .inr (own_blk O.out T.out (by decide))))
      have R_ := Az.mk (own_gr R.out h0 (by first | exact own_none _ | exact .inr hl?R.out | exact .inr (own_blk R.out T.out (by decide))))
      have T_ := Az.mk (blkGr T.out h0 (by first | (simp; done) | (simp; omega) | omega))
      clear L O R T
      have L := L_; clear L_
      have O := O_; clear O_
      have R := R_; clear R_
      have T := T_; clear T_
      clear h0 h
      have dO := (own_cell O.out (lastI_at HQ.out)).trans (by rw [HA.out])
      have cT0 : World.cell? w4 ⟨gT, 0, none⟩ = some (.int .i64 ((a : Int) + n)) := blkCell T.out 0
      have HFR := Az.mk (findM_of hfr)
      clear hfr hst2
      rcases HFR.out with ⟨hr1, hr2⟩ | ⟨k, hk, hr1, hr2, hr3, hr4⟩
      · have HF2 := Az.mk hr2
        subst hr1
        clear hr2 HFR
        by_cases hmg : m + 1 > gap
        · have hmg2 : decide ((gap : Int) < (m : Int) + 1) = true := by simp; omega
          go_wp2_with fail
          go_ret
          have e : startsM (r0 :: rs) ln n gap (ln + 1) [(r0.1 : Int)] 0 = is := by rw [← HS.out, startsM, HA.out, if_neg (by have := HNS.out; omega), HF2.out]; simp only []; rw [if_pos hmg]
          refine ⟨_, rfl, ?_, L.out⟩
          rw [e, HQ.out]; exact O.out
        · have hmg2 : decide ((gap : Int) < (m : Int) + 1) = false := by simp; omega
          clear dO
          go_wp2_with (first | ((with_reducible refine gateN 79 rfl ?_); go_must (refine ev_bs 79 rfl rfl #[.int .i64 ((a : Int) + n)] 3 1 ?hr ?_; (case hr => first | (go_simp; done) | (go_simp; rfl)); intro gN heN W6 hbN h; have hgN : w.heap.size ≤ gN := Nat.le_trans L.out.size heN; have hlNO := Az.mk (own_lows O.out heN); have hlNR := Az.mk (own_lows R.out heN); have hgNT : gT < gN := Nat.lt_of_lt_of_le (blkLt T.out) heN; clear heN; have h0 : World.grownBy w4 W6 none := (by refine World.grownBy.trans ?_ h; repeat (first | exact gr_refl _ _ | apply gr_drewN | apply gr_drew | apply gr_alloc)); clear cT0; have L_ := Az.mk (gr_new L.out h0 (by first | (simp; done) | (simp; omega) | omega)); have O_ := Az.mk (own_gr O.out h0 (by first | exact own_none _ | exact .inr hl?O.out | exact .inr (own_blk O.out T.out (by decide)))); have R_ := Az.mk (own_gr R.out h0 (by first | exact own_none _ | exact .inr hl?R.out | exact .inr (own_blk R.out T.out (by decide)))); have T_ := Az.mk (blkGr T.out h0 (by first | (simp; done) | (simp; omega) | omega)); clear L O R T; have L := L_; clear L_; have O := O_; clear O_; have R := R_; clear R_; have T := T_; clear T_; clear h0 h; have N := Az.mk hbN; clear hbN; have cT0 : World.cell? W6 ⟨gT, 0, none⟩ = some (.int .i64 ((a : Int) + n)) := blkCell T.out 0; have cN0 : World.cell? W6 ⟨gN, 0, none⟩ = some (.int .i64 ((a : Int) + n)) := blkCell N.out 0)) | ((with_reducible refine gateN 80 rfl ?_); go_must (refine ev_app 80 rfl rfl rfl Try.underlying59 (z := .int .i64 0) (size := 1) (bytes := 8) (by kernel_rfl) rfl (by decide) rfl O.out rfl N.out rfl (by simp [Value.oneCell']) ?hbase ?hl ?hl2 ?_; (case hbase => have := L.out.size; omega); (case hl => omega); (case hl2 => omega); intro vO W7 hO h; have h0 : World.grownBy W6 W7 _ := (by refine World.grownBy.trans ?_ h; repeat (first | exact gr_refl _ _ | apply gr_drewN | apply gr_drew | apply gr_alloc)); clear cT0 cN0; have L_ := Az.mk (gr_new L.out h0 (fun j hj => .inl (own_base O.out j hj))); have R_ := Az.mk (own_gr R.out h0 (own_own R.out O.out (by decide))); have T_ := Az.mk (blkGr T.out h0 (by first | exact fun he => own_blk O.out T.out (by decide) he.symm | exact fun he => hlTO.out he.symm | exact fun he => (by have := own_base O.out _ he.symm; omega))); clear L R T; have L := L_; clear L_; have R := R_; clear R_; have T := T_; clear T_; clear h0 h; clear O N; have O := Az.mk hO; clear hO; have cT0 : World.cell? W7 ⟨gT, 0, none⟩ = some (.int .i64 ((a : Int) + n)) := blkCell T.out 0)))
          obtain ⟨g3, c3, rfl, hc3, _, _⟩ := own_slice O.out (by omega)
          have hns := HNS.out
          refine ⟨⟨is ++ [(a : Int) + n], q + 1, a + n, m + 1, f, g3, c3, rfl, by go_num, by omega, by omega, by omega, by omega, by omega, ⟨by rw [lastI_snoc]; omega⟩, ⟨by have := HQ.out; simp; omega⟩, ⟨?_⟩, L, ⟨by rw [intsV_snoc]; exact O.out⟩, R⟩, by simp only [lenOfS]; omega⟩
          rw [← HS.out, startsM, HA.out, if_neg (by have := HNS.out; omega), HF2.out]; simp only []; rw [if_neg hmg]
      · have HF2 := Az.mk hr2
        subst hr1
        clear hr2 HFR
        have hkl : k < rs.length + 1 := by simpa using hk
        obtain ⟨x, y, hxy⟩ : ∃ x y, (r0 :: rs)[k] = (x, y) := ⟨_, _, rfl⟩
        rw [hxy] at hr3 hr4
        rw [hxy] at HF2
        have HXY := Az.mk hxy
        clear hxy
        have dO := (own_cell O.out (lastI_at HQ.out)).trans (by rw [HA.out])
        clear dO
        have dR : (w4).cell? ⟨g1, k * 2, none⟩ = some (.int .i64 (x : Int)) := (own_cell R.out (runsV_get (r0 :: rs) k hk).1).trans (by rw [HXY.out])
        go_wp2_with (first | ((with_reducible refine gateSt 12 rfl ?_); go_must (refine ev_st1 rfl rfl rfl (i := 0) (v := .int .i64 (x : Int)) rfl rfl T.out (by kernel_rfl) rfl (by simp) ?_; intro W8 hbT h; have h0 : World.grownBy w4 W8 (some gT) := (by refine World.grownBy.trans ?_ h; repeat (first | exact gr_refl _ _ | apply gr_drewN | apply gr_drew | apply gr_alloc)); clear cT0; have L_ := Az.mk (gr_new L.out h0 (by first | (simp; done) | (simp; omega) | omega)); have O_ := Az.mk (own_gr O.out h0 (by first | exact own_none _ | exact .inr hlTO.out | exact .inr (own_blk O.out T.out (by decide)))); have R_ := Az.mk (own_gr R.out h0 (by first | exact own_none _ | exact .inr hlTR.out | exact .inr (own_blk R.out T.out (by decide)))); clear L O R; have L := L_; clear L_; have O := O_; clear O_; have R := R_; clear R_; clear h0 h; simp only [List.setIfInBounds_toArray, List.set_cons_zero, List.set_cons_succ] at hbT; clear T; have T := Az.mk hbT; clear hbT; have cT0 : World.cell? W8 ⟨gT, 0, none⟩ = some (.int .i64 (x : Int)) := blkCell T.out 0)) | ((with_reducible refine gateN 79 rfl ?_); go_must (refine ev_bs 79 rfl rfl #[.int .i64 (x : Int)] 3 1 ?hr ?_; (case hr => first | (go_simp; done) | (go_simp; rfl)); intro gN heN W9 hbN h; have hgN : w.heap.size ≤ gN := Nat.le_trans L.out.size heN; have hlNO := Az.mk (own_lows O.out heN); have hlNR := Az.mk (own_lows R.out heN); have hgNT : gT < gN := Nat.lt_of_lt_of_le (blkLt T.out) heN; clear heN; have h0 : World.grownBy W8 W9 none := (by refine World.grownBy.trans ?_ h; repeat (first | exact gr_refl _ _ | apply gr_drewN | apply gr_drew | apply gr_alloc)); clear cT0; have L_ := Az.mk (gr_new L.out h0 (by first | (simp; done) | (simp; omega) | omega)); have O_ := Az.mk (own_gr O.out h0 (by first | exact own_none _ | exact .inr hl?O.out | exact .inr (own_blk O.out T.out (by decide)))); have R_ := Az.mk (own_gr R.out h0 (by first | exact own_none _ | exact .inr hl?R.out | exact .inr (own_blk R.out T.out (by decide)))); have T_ := Az.mk (blkGr T.out h0 (by first | (simp; done) | (simp; omega) | omega)); clear L O R T; have L := L_; clear L_; have O := O_; clear O_; have R := R_; clear R_; have T := T_; clear T_; clear h0 h; have N := Az.mk hbN; clear hbN; have cT0 : World.cell? W9 ⟨gT, 0, none⟩ = some (.int .i64 (x : Int)) := blkCell T.out 0; have cN0 : World.cell? W9 ⟨gN, 0, none⟩ = some (.int .i64 (x : Int)) := blkCell N.out 0)) | ((with_reducible refine gateN 80 rfl ?_); go_must (refine ev_app 80 rfl rfl rfl Try.underlying59 (z := .int .i64 0) (size := 1) (bytes := 8) (by kernel_rfl) rfl (by decide) rfl O.out rfl N.out rfl (by simp [Value.oneCell']) ?hbase ?hl ?hl2 ?_; (case hbase => have := L.out.size; omega); (case hl => omega); (case hl2 => omega); intro vO W10 hO h; have h0 : World.grownBy W9 W10 _ := (by refine World.grownBy.trans ?_ h; repeat (first | exact gr_refl _ _ | apply gr_drewN | apply gr_drew | apply gr_alloc)); clear cT0 cN0; have L_ := Az.mk (gr_new L.out h0 (fun j hj => .inl (own_base O.out j hj))); have R_ := Az.mk (own_gr R.out h0 (own_own R.out O.out (by decide))); have T_ := Az.mk (blkGr T.out h0 (by first | exact fun he => own_blk O.out T.out (by decide) he.symm | exact fun he => hlTO.out he.symm | exact fun he => (by have := own_base O.out _ he.symm; omega))); clear L R T; have L := L_; clear L_; have R := R_; clear R_; have T := T_; clear T_; clear h0 h; clear O N; have O := Az.mk hO; clear hO; have cT0 : World.cell? W10 ⟨gT, 0, none⟩ = some (.int .i64 (x : Int)) := blkCell T.out 0)))
        obtain ⟨g3, c3, rfl, hc3, _, _⟩ := own_slice O.out (by omega)
        have hns := HNS.out
        refine ⟨⟨is ++ [(x : Int)], q + 1, x, 0, f, g3, c3, rfl, by go_num, by omega, by omega, by omega, by omega, by omega, ⟨by rw [lastI_snoc]⟩, ⟨by have := HQ.out; simp; omega⟩, ⟨?_⟩, L, ⟨by rw [intsV_snoc]; exact O.out⟩, R⟩, by simp only [lenOfS]; omega⟩
        rw [← HS.out, startsM, HA.out, if_neg (by have := HNS.out; omega), HF2.out]
end Go.Proofs.Ytjomilloilbcgaa
