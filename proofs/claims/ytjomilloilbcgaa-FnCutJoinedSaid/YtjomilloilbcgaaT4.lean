/- The walk of laws.FnCutJoined: it answers true. No condition. -/
import Derived.Test.YtjomilloilbcgaaM6
import Derived.Test.YtjomilloilbcgaaT1
namespace Go.Proofs.Ytjomilloilbcgaa
open Go.RowKit
set_option linter.unusedVariables false
set_option linter.unusedSimpArgs false

def RetYesC (w : World) (e : Ending) (w' : World) : Prop := e = .returned (.bool true) ∧ w.grownBy w' none
theorem LinkCells {wd : Nat} {rows : List Row} (h : Link wd rows) {r : Nat} (hr : r < rows.length) : ∀ c ∈ rowOf rows r, LinkCell c := by
  intro c hc
  obtain ⟨i, hi, rfl⟩ := List.getElem_of_mem hc
  have hl := h.1 r hr
  have := (h.2 r i hr (by omega) (.inl hr)).1
  rw [cellAt_get hi] at this; exact this
def ksN (N h : Nat) : List Nat := (List.range h).map (· * N)
theorem ksN_len (N h : Nat) : (ksN N h).length = h := by simp [ksN]
theorem ksN_starts {N h : Nat} (hh : 1 ≤ h) : natsV (ksN N h) = startsE N (h - 1) := by
  unfold natsV ksN startsE
  rw [show h - 1 + 1 = h by omega, List.map_map]; rfl
theorem flV_app (a b : List Nat) : flV (a ++ b) = flV a ++ flV b := by simp [flV]
theorem take_cut (bs : List Nat) (N k : Nat) : bs.take (k * N) ++ cutN bs N (k * N) = bs.take ((k + 1) * N) := by
  unfold cutN
  rw [Nat.add_mul, Nat.one_mul, List.take_add]
set_option maxRecDepth 100000 in
set_option maxHeartbeats 8000000 in
theorem FnCutJoined_walk (w : World) (A : Option Addr) (n c : Nat) (hrd : BytesRd w A n) (hnc : n ≤ c) : Calls Try.prog 6 #[.slice A n c] w (RetYesC w) := by
  have L := Az.mk (gr_refl w none)
  have HR := Az.mk hrd
  have hn := hrd.1
  clear hrd
  go_enter Try.func6, Try.ntmps6
  go_wp2_with fail
  refine (big_c A n c hn _).mono ?_
  rintro e w1 ⟨rfl, h⟩
  have h0 : World.grownBy w w1 _ := (by refine World.grownBy.trans ?_ h; repeat (first | exact gr_refl _ _ | apply gr_drewN | apply gr_drew | apply gr_alloc))
  have L_ := Az.mk (gr_new L.out h0 (by first | (simp; done) | (simp; omega) | omega))
  clear L
  have L := L_; clear L_
  clear h0 h
  by_cases hbig : 1048576 < n
  · have hd : decide (1048576 < n) = true := decide_eq_true hbig
    go_wp2_with fail
    go_ret
    exact ⟨rfl, L.out⟩
  have hd : decide (1048576 < n) = false := decide_eq_false hbig
  rw [hd]
  clear hd
  go_wp2_with fail
  refine (DrawLink_c w _ A n c HR.out hnc (gr_below L.out)).mono ?_
  rintro e w2 ⟨v, wd, hh, rows, cA, cO, cx, cy, hw1, hw2, hh1, hh2, hh3, rfl, ⟨hrl, vs, ho, hp⟩, hlk, hch, h⟩
  have h0 : World.grownBy w1 w2 _ := (by refine World.grownBy.trans ?_ h; repeat (first | exact gr_refl _ _ | apply gr_drewN | apply gr_drew | apply gr_alloc))
  have L_ := Az.mk (gr_new L.out h0 (by first | (simp; done) | (simp; omega) | omega))
  clear L
  have L := L_; clear L_
  clear h0 h
  clear hch
  have HRL := Az.mk hrl
  have HLK := Az.mk hlk
  obtain ⟨gO, kO, rfl, hkO, _, _⟩ := own_slice ho (by omega)
  have O := Az.mk ho
  have P := Az.mk hp
  clear hrl hlk ho hp
  have L2 := Az.mk (gr_refl w2 none)
  obtain ⟨N, hN⟩ : ∃ N : Nat, N = 24 + 4 * wd := ⟨_, rfl⟩
  have HNN := Az.mk hN
  have hNi : (24 : Int) + 4 * (wd : Int) = (N : Int) := by omega
  have hN1 : 28 ≤ N := by omega
  have hN2 : N ≤ 40 := by omega
  have HNi := Az.mk hNi
  clear hN hNi
  obtain ⟨g0, k0, hv0, hk0⟩ := P.out.val (by omega) (show 0 < rows.length by have := HRL.out; omega)
  have HV0 := Az.mk hv0
  clear hv0
  have dO := own_cell (own_gr O.out L2.out (own_none _)) HV0.out
  go_wp2_with (first | ((with_reducible refine gateN 4 rfl ?_); go_must (refine ev_al 4 rfl rfl #[.float .f32 0, .float .f32 0, .complex .f32 0 0] 28 ?hr ?_; (case hr => first | (go_simp; done) | (go_simp; rfl)); intro gB heB W1 hbB h; have hgB : w2.heap.size ≤ gB := Nat.le_trans L2.out.size heB; clear heB; have h0 : World.grownBy w2 W1 none := (by refine World.grownBy.trans ?_ h; repeat (first | exact gr_refl _ _ | apply gr_drewN | apply gr_drew | apply gr_alloc)); clear dO; have L2_ := Az.mk (gr_new L2.out h0 (by first | (simp; done) | (simp; omega) | omega)); clear L2; have L2 := L2_; clear L2_; clear h0 h; have B := Az.mk hbB; clear hbB; have dO := own_cell (own_gr O.out L2.out (own_none _)) HV0.out; have cB0 : World.cell? W1 ⟨gB, 0, none⟩ = some (.float .f32 0) := blkCell B.out 0; have cB1 : World.cell? W1 ⟨gB, 1, none⟩ = some (.float .f32 0) := blkCell B.out 1; have cB2 : World.cell? W1 ⟨gB, 2, none⟩ = some (.complex .f32 0 0) := blkCell B.out 2)) | ((with_reducible refine gateSt 4 rfl ?_); go_must (refine ev_st rfl rfl rfl (cs := #[.float .f32 cA, .float .f32 cO, .complex .f32 cx cy]) rfl rfl B.out (by kernel_rfl) rfl (by simp [Value.oneCell']) ?_; intro W2 hbB h; have h0 : World.grownBy W1 W2 (some gB) := (by refine World.grownBy.trans ?_ h; repeat (first | exact gr_refl _ _ | apply gr_drewN | apply gr_drew | apply gr_alloc)); clear cB0 cB1 cB2 dO; have L2_ := Az.mk (gr_new L2.out h0 (by first | (simp; done) | (simp; omega) | omega)); clear L2; have L2 := L2_; clear L2_; clear h0 h; clear B; have B := Az.mk hbB; clear hbB; have dO := own_cell (own_gr O.out L2.out (own_none _)) HV0.out; have cB0 : World.cell? W2 ⟨gB, 0, none⟩ = some (.float .f32 cA) := blkCell B.out 0; have cB1 : World.cell? W2 ⟨gB, 1, none⟩ = some (.float .f32 cO) := blkCell B.out 1; have cB2 : World.cell? W2 ⟨gB, 2, none⟩ = some (.complex .f32 cx cy) := blkCell B.out 2)) | ((with_reducible refine gateN 22 rfl ?_); go_must (refine ev_bs 22 rfl rfl #[] 25 0 ?hr ?_; (case hr => first | (go_simp; done) | (go_simp; rfl)); intro gS heS W3 hbS h; have hgS : w2.heap.size ≤ gS := Nat.le_trans L2.out.size heS; clear heS; have h0 : World.grownBy W2 W3 none := (by refine World.grownBy.trans ?_ h; repeat (first | exact gr_refl _ _ | apply gr_drewN | apply gr_drew | apply gr_alloc)); clear cB0 cB1 cB2 dO; have L2_ := Az.mk (gr_new L2.out h0 (by first | (simp; done) | (simp; omega) | omega)); have B_ := Az.mk (blkGr B.out h0 (by first | (simp; done) | (simp; omega) | omega)); clear L2 B; have L2 := L2_; clear L2_; have B := B_; clear B_; clear h0 h; have S := Az.mk (own_empty (size := 1) hbS hgS); clear hbS; have dO := own_cell (own_gr O.out L2.out (own_none _)) HV0.out; have cB0 : World.cell? W3 ⟨gB, 0, none⟩ = some (.float .f32 cA) := blkCell B.out 0; have cB1 : World.cell? W3 ⟨gB, 1, none⟩ = some (.float .f32 cO) := blkCell B.out 1; have cB2 : World.cell? W3 ⟨gB, 2, none⟩ = some (.complex .f32 cx cy) := blkCell B.out 2)))
  rw [HNi.out]
  clear dO
  clear B cB0 cB1 cB2
  go_loopw [5, 7] (fun z i wr => ∃ bs, ∃ r : Nat, i = .int .i64 r ∧ r ≤ hh ∧ bs.length ≤ 40 * r ∧ Az (LowS N r bs) ∧ Az (w2.grownBy wr none) ∧ Az (wr.ownsRow w2.heap.size 25 1 z bs.length (flV bs))) (fun _ i _ => hh - (intOf i).toNat)
  case atStart => exact ⟨[], 0, by go_num, by omega, by simp, ⟨LowS.zero N⟩, L2, S⟩
  case round =>
    clear L2 S
    obtain ⟨bs, r, rfl, hr, hbl, HS, L2, S⟩ := hrel
    by_cases hk : r < hh
    · have hki : (r : Int) < hh := by omega
      have HRr := Az.mk (show r < rows.length by have := HRL.out; omega)
      obtain ⟨gr, cr, hvr, hcr⟩ := P.out.val (by omega) HRr.out
      have HVr := Az.mk hvr
      have HRD := Az.mk (own_rdS (P.out.ownR HRr.out hvr).2)
      have HRW := Az.mk (P.out.ownR HRr.out hvr).1
      have HLC := Az.mk (LinkCells HLK.out HRr.out)
      clear hvr
      have dO := own_cell (own_gr O.out L2.out (own_none _)) HVr.out
      go_wp2_with (first | ((with_reducible refine gateN 35 rfl ?_); go_must (refine ev_bs 35 rfl rfl #[] 49 0 ?hr ?_; (case hr => first | (go_simp; done) | (go_simp; rfl)); intro gR heR W4 hbR h; have hgR : w2.heap.size ≤ gR := Nat.le_trans L2.out.size heR; clear heR; have h0 : World.grownBy wr W4 none := (by refine World.grownBy.trans ?_ h; repeat (first | exact gr_refl _ _ | apply gr_drewN | apply gr_drew | apply gr_alloc)); clear dO; have L2_ := Az.mk (gr_new L2.out h0 (by first | (simp; done) | (simp; omega) | omega)); have S_ := Az.mk (own_gr S.out h0 (by first | exact own_none _ | exact .inr hl?S.out)); clear L2 S; have L2 := L2_; clear L2_; have S := S_; clear S_; clear h0 h; have R := Az.mk (own_empty (size := 2) hbR hgR); clear hbR; have dO := own_cell (own_gr O.out L2.out (own_none _)) HVr.out)) | ((with_reducible refine gateN 40 rfl ?_); go_must (refine ev_aps 40 rfl rfl rfl Try.underlying40 (z := .agg #[.float .f32 0, .complex .f32 0 0]) (size := 2) (bytes := 12) (by kernel_rfl) rfl (by decide) rfl R.out rfl (HRD.out.up L2.out) (cellsV_one _) ?hbase ?hl ?hl2 ?_; (case hbase => have := L2.out.size; omega); (case hl => omega); (case hl2 => omega); intro vR W5 hR h; have h0 : World.grownBy W4 W5 _ := (by refine World.grownBy.trans ?_ h; repeat (first | exact gr_refl _ _ | apply gr_drewN | apply gr_drew | apply gr_alloc)); clear dO; have L2_ := Az.mk (gr_new L2.out h0 (fun j hj => .inl (own_base R.out j hj))); have S_ := Az.mk (own_gr S.out h0 (own_own S.out R.out (by decide))); clear L2 S; have L2 := L2_; clear L2_; have S := S_; clear S_; clear h0 h; clear R; have R := Az.mk hR; clear hR; have dO := own_cell (own_gr O.out L2.out (own_none _)) HVr.out)))
      clear dO
      have R_ := Az.mk (show World.ownsRow W5 _ 49 2 vR wd (cellsV (clampK (rowOf rows r) 0)) from by have := R.out; rw [Nat.zero_add, List.nil_append] at this; rw [clampK_zero]; exact this)
      clear R
      have R := R_
      clear R_
      obtain ⟨g7, c7, rfl, hc7, _, _⟩ := own_slice R.out (by omega)
      go_loopw [9] (fun i wv => ∃ j : Nat, i = .int .i64 j ∧ j ≤ wd ∧ Az (w2.grownBy wv none) ∧ Az (wv.ownsRow w2.heap.size 25 1 u5 bs.length (flV bs)) ∧ Az (wv.ownsRow w2.heap.size 49 2 (.slice (some ⟨g7, 0, none⟩) wd c7) wd (cellsV (clampK (rowOf rows r) j)))) (fun i _ => wd - (intOf i).toNat)
      case atStart => exact ⟨0, by go_num, by omega, L2, S, R⟩
      case round =>
        clear L2 S R
        obtain ⟨j, rfl, hj, L2, S, R⟩ := hrel
        by_cases hj3 : j < wd
        · have hj4 : (j : Int) < wd := by omega
          have hj5 : j < c7 := by omega
          have hjr : j < (rowOf rows r).length := by rw [HRW.out]; exact hj3
          have hjk : j < (clampK (rowOf rows r) j).length := by rw [clampK_len _ _ (by omega)]; exact hjr
          have hat : (clampK (rowOf rows r) j)[j] = (rowOf rows r)[j] := by
            have := clampK_at (rowOf rows r) j hjr
            rw [List.getElem?_eq_getElem hjk] at this
            injection this
          have dj : wr.cell? ⟨g7, j * 2, none⟩ = some (.float .f32 (rowOf rows r)[j].1) := (own_cell R.out (cellsV_get _ j hjk).1).trans (by rw [hat])
          cases hlt : flt (fN .f32 (rowOf rows r)[j].1) (fc 1098907648) with
          | false =>
            have t1 : (FloatKind.f32.format.order (rowOf rows r)[j].1 1098907648 == some .lt) = false := by rw [o_lt]; exact hlt
            have HLT := Az.mk hlt
            clear hlt hat
            go_wp2_with fail
            exact ⟨⟨j + 1, by go_num, by omega, L2, S, ⟨by rw [clampK_keep _ _ hjr HLT.out]; exact R.out⟩⟩, by simp only [intOf]; omega⟩
          | true =>
            have t1 : (FloatKind.f32.format.order (rowOf rows r)[j].1 1098907648 == some .lt) = true := by rw [o_lt]; exact hlt
            have HLT := Az.mk hlt
            have HAT := Az.mk hat
            clear hlt hat
            go_wp2_with (first | ((with_reducible refine gateSt 56 rfl ?_); go_must (refine ev_so1 rfl rfl rfl (i := j * 2) (v := .float .f32 1098907648) rfl rfl R.out (by kernel_rfl) rfl (by omega) ?_; intro W6 hR h; have h0 : World.grownBy wr W6 _ := (by refine World.grownBy.trans ?_ h; repeat (first | exact gr_refl _ _ | apply gr_drewN | apply gr_drew | apply gr_alloc)); have L2_ := Az.mk (gr_new L2.out h0 (fun j hj => .inl (own_base R.out j hj))); have S_ := Az.mk (own_gr S.out h0 (own_own S.out R.out (by decide))); clear L2 S; have L2 := L2_; clear L2_; have S := S_; clear S_; clear h0 h; clear R; have R := Az.mk hR; clear hR)))
            refine ⟨⟨j + 1, by go_num, by omega, L2, S, ⟨?_⟩⟩, by simp only [intOf]; omega⟩
            have e : clampK (rowOf rows r) (j + 1) = (clampK (rowOf rows r) j).set j (1098907648, (clampK (rowOf rows r) j)[j].2) := by
              rw [clampK_succ _ _ hjr, HAT.out, clampC, if_pos HLT.out]
            rw [e, ← cellsV_set0 _ _ hjk, Nat.mul_comm 2 j]; exact R.out
        · obtain rfl : j = wd := by omega
          have R_ := Az.mk (show World.ownsRow wr _ 49 2 (.slice (some ⟨g7, 0, none⟩) j c7) j (cellsV ((rowOf rows r).map clampC)) from by have := R.out; rw [← HRW.out, clampK_all, HRW.out] at this; exact this)
          clear R
          have R := R_
          clear R_
          obtain ⟨odd, hodd⟩ : ∃ odd : Bool, ((r : Int) % 2 == 1) = odd := ⟨_, rfl⟩
          have HCC : Az (∀ c ∈ (rowOf rows r).map clampC, CutCell c) := ⟨fun c hc => by
            obtain ⟨c', hc', rfl⟩ := List.mem_map.1 hc
            exact clamp_cut (HLC.out c' hc')⟩
          have HML : Az (((rowOf rows r).map clampC).length = j) := ⟨by rw [List.length_map]; exact HRW.out⟩
          go_wp2_with fail
          have HOK : Az (rowOkI ((rowOf rows r).map clampC) = true) := ⟨rowOk_plain (fun c hc => (HCC.out c hc).plain) (by rw [HML.out]; omega) (by rw [HML.out]; omega)⟩
          refine (MakeLine_c odd (some ⟨g7, 0, none⟩) j c7 ((rowOf rows r).map clampC) _ HML.out (own_rdS R.out) HOK.out).mono ?_
          rintro e v2 ⟨v6, ls, hls, rfl, hT, h⟩
          have h0 : World.grownBy wr v2 _ := (by refine World.grownBy.trans ?_ h; repeat (first | exact gr_refl _ _ | apply gr_drewN | apply gr_drew | apply gr_alloc))
          have L2_ := Az.mk (gr_new L2.out h0 (by first | (simp; done) | (simp; omega) | omega))
          have S_ := Az.mk (own_gr S.out h0 (by first | exact own_none _ | exact .inr hl?S.out))
          have R_ := Az.mk (own_gr R.out h0 (by first | exact own_none _ | exact .inr hl?R.out))
          clear L2 S R
          have L2 := L2_; clear L2_
          have S := S_; clear S_
          have R := R_; clear R_
          clear h0 h
          have hll : ls.length = N := by have := congrArg List.length hls; rw [List.length_map, lineN_len, HML.out] at this; rw [HNN.out]; exact this
          obtain ⟨g8, c8, rfl, hc8, _, _⟩ := own_slice hT (by omega)
          have HT := Az.mk hT
          have HLL := Az.mk hll
          have HLS := Az.mk hls
          have hll2 : ls.length ≤ 40 := by omega
          clear hT hll hls hodd
          go_wp2_with (first | ((with_reducible refine gateN 63 rfl ?_); go_must (refine ev_aps 63 rfl rfl rfl Try.underlying31 (z := .float .f32 0) (size := 1) (bytes := 4) (by kernel_rfl) rfl (by decide) rfl S.out rfl ((own_rdS HT.out)) (flV_one _) ?hbase ?hl ?hl2 ?_; (case hbase => have := L2.out.size; omega); (case hl => omega); (case hl2 => omega); intro vS W7 hS h; have h0 : World.grownBy v2 W7 _ := (by refine World.grownBy.trans ?_ h; repeat (first | exact gr_refl _ _ | apply gr_drewN | apply gr_drew | apply gr_alloc)); have L2_ := Az.mk (gr_new L2.out h0 (fun j hj => .inl (own_base S.out j hj))); clear L2; have L2 := L2_; clear L2_; clear h0 h; clear S; have S := Az.mk hS; clear hS)))
          refine ⟨⟨bs ++ ls, r + 1, by go_num, by omega, by simp; omega, ⟨HS.out.snoc odd HCC.out (by rw [HML.out]; exact HNN.out) HLS.out⟩, L2, ⟨?_⟩⟩, by simp only [intOf]; omega⟩
          have := S.out
          rw [List.length_append]; simpa [flV] using this
    · obtain rfl : r = hh := by omega
      have hbs := HS.out.1
      have hbl2 : bs.length = r * N := hbs
      have hpos : 0 < bs.length := by
        have : 4 * N ≤ r * N := Nat.mul_le_mul_right N hh1
        omega
      obtain ⟨gS, cS, rfl, hcS, _, _⟩ := own_slice S.out hpos
      have HBS := Az.mk hbs
      have hrb : r ≤ bs.length := by rw [hbs]; exact Nat.le_mul_of_pos_right r (by omega)
      have hfit : N ≤ bs.length := by rw [hbs]; exact Nat.le_mul_of_pos_left N (by omega)
      obtain ⟨rs, hrs⟩ := runs_head (n := N) r r (by omega)
      rw [if_neg (by omega)] at hrs
      have HLOW : Az (lowsN (fN .f32 3256877056) (bs.map (fN .f32)) = (0, 8) :: rs) := ⟨by rw [← hrs]; exact lows_all hN1 (by rw [List.length_map, hbs]) (fun i hi => HS.out.mask i hi)⟩
      have HIS : Az (startsM ((0, 8) :: rs) (bs.length : Int) N 1 (bs.length + 1) [((0 : Nat) : Int)] 0 = natsV (ksN N r)) := ⟨by
        rw [← hrs, ksN_starts (by omega)]
        have e0 : [((0 : Nat) : Int)] = startsE N 0 := by simp [startsE]
        rw [e0]
        have := starts_run hN1 r r (r - 1) 0 0 (bs.length + 1) (by omega) (by omega) (.inl rfl) (by omega)
        rw [← hbs] at this
        exact this⟩
      clear hbs hbl2 hrs
      go_wp2_with fail
      have hz8 := L2.out.size
      refine (Starts_ok (some ⟨gS, 0, none⟩) bs.length cS 3256877056 N 1 bs (0, 8) rs _ rfl (by omega) (own_rdS S.out) HLOW.out hN1 (by omega) (by omega) (by simp only [Nat.zero_add]; exact hfit)).mono ?_
      rintro e w5 ⟨v5, rfl, hZ, h⟩
      have h0 : World.grownBy wr w5 _ := (by refine World.grownBy.trans ?_ h; repeat (first | exact gr_refl _ _ | apply gr_drewN | apply gr_drew | apply gr_alloc))
      have L2_ := Az.mk (gr_new L2.out h0 (by first | (simp; done) | (simp; omega) | omega))
      have S_ := Az.mk (own_gr S.out h0 (by first | exact own_none _ | exact .inr hl?S.out))
      clear L2 S
      have L2 := L2_; clear L2_
      have S := S_; clear S_
      clear h0 h
      have hZ2 := hZ
      rw [HIS.out] at hZ2
      have hlz : (natsV (ksN N r)).length = r := by simp [natsV, ksN_len]
      rw [hlz] at hZ2
      have Z := Az.mk (own_weak hZ2 hz8)
      clear hZ hZ2
      have hz9 := L2.out.size
      have HKS : Az (∀ k ∈ ksN N r, k + N ≤ bs.length) := ⟨fun k hk => by
        obtain ⟨j, hj, rfl⟩ := List.mem_map.1 hk
        have hj := List.mem_range.1 hj
        have : (j + 1) * N ≤ r * N := Nat.mul_le_mul_right N hj
        rw [Nat.add_mul, Nat.one_mul] at this
        rw [HBS.out]; exact this⟩
      obtain ⟨gZ, cZ, rfl, hcZ, _, _⟩ := own_slice Z.out (by omega)
      go_wp2_with fail
      refine (CutLines_c gS 0 bs.length cS N r (some ⟨gZ, 0, none⟩) cZ bs (ksN N r) _ rfl (by omega) (own_rdS S.out) (ksN_len N r) (own_rdS Z.out) HKS.out hN1 (by omega) (by omega) hcS).mono ?_
      rintro e w6 ⟨v6, vs2, rfl, hV, hPL, h⟩
      have h0 : World.grownBy w5 w6 _ := (by refine World.grownBy.trans ?_ h; repeat (first | exact gr_refl _ _ | apply gr_drewN | apply gr_drew | apply gr_alloc))
      have L2_ := Az.mk (gr_new L2.out h0 (by first | (simp; done) | (simp; omega) | omega))
      have S_ := Az.mk (own_gr S.out h0 (by first | exact own_none _ | exact .inr hl?S.out))
      have Z_ := Az.mk (own_gr Z.out h0 (by first | exact own_none _ | exact .inr hl?Z.out))
      clear L2 S Z
      have L2 := L2_; clear L2_
      have S := S_; clear S_
      have Z := Z_; clear Z_
      clear h0 h
      rw [List.length_map, ksN_len] at hV
      have V := Az.mk (own_weak hV hz9)
      have PL := Az.mk (hPL.weak hz9)
      clear hV hPL
      obtain ⟨gV, cV, rfl, hcV, _, _⟩ := own_slice V.out (by omega)
      have LF := Az.mk (gr_trans L.out L2.out)
      have L3 := Az.mk (gr_refl w6 none)
      go_wp2_with (first | ((with_reducible refine gateN 83 rfl ?_); go_must (refine ev_bs 83 rfl rfl #[] 25 0 ?hr ?_; (case hr => first | (go_simp; done) | (go_simp; rfl)); intro gU heU W8 hbU h; have hgU : w6.heap.size ≤ gU := Nat.le_trans L3.out.size heU; clear heU; have h0 : World.grownBy w6 W8 none := (by refine World.grownBy.trans ?_ h; repeat (first | exact gr_refl _ _ | apply gr_drewN | apply gr_drew | apply gr_alloc)); have L3_ := Az.mk (gr_new L3.out h0 (by first | (simp; done) | (simp; omega) | omega)); clear L3; have L3 := L3_; clear L3_; clear h0 h; have U := Az.mk (own_empty (size := 1) hbU hgU); clear hbU)))
      go_loopw [12, 13] (fun z i wr => ∃ k : Nat, i = .int .i64 k ∧ k ≤ r ∧ Az (w6.grownBy wr none) ∧ Az (wr.ownsRow w6.heap.size 25 1 z (bs.take (k * N)).length (flV (bs.take (k * N))))) (fun _ i _ => r - (intOf i).toNat)
      case atStart => exact ⟨0, by go_num, by omega, L3, ⟨by simpa [flV] using U.out⟩⟩
      case round =>
        clear L3 U
        obtain ⟨k, rfl, hk2, L3, U⟩ := hrel
        by_cases hkr : k < r
        · have hkri : (k : Int) < r := by omega
          have hkl : k < ((ksN N r).map (cutN bs N)).length := by rw [List.length_map, ksN_len]; exact hkr
          obtain ⟨gk, ck, hvk, hck, hrk, hlk⟩ := PL.out.val (by omega) hkl
          have hek : ((ksN N r).map (cutN bs N))[k] = cutN bs N (k * N) := by simp [ksN]
          rw [hek] at hrk hlk
          have HRK := Az.mk hrk
          have HVK := Az.mk hvk
          have HLN := Az.mk hlk
          clear hrk hvk hlk hek
          obtain ⟨m, hm⟩ : ∃ m : Nat, m = k * N := ⟨_, rfl⟩
          have hmr : m + N ≤ bs.length := by
            have : (k + 1) * N ≤ r * N := Nat.mul_le_mul_right N hkr
            rw [Nat.add_mul, Nat.one_mul] at this
            rw [HBS.out, hm]; exact this
          have HKN : Az ((k : Int) * (N : Int) = (m : Int)) := ⟨by rw [hm]; simp⟩
          have hb0 : 0 ≤ (k : Int) * (N : Int) := by rw [HKN.out]; omega
          have hb1 : (k : Int) * (N : Int) ≤ 20000 := by rw [HKN.out]; omega
          have HM := Az.mk hm
          clear hm
          have htl : (bs.take (k * N)).length = m := by rw [← HM.out, List.length_take]; omega
          rw [htl] at U
          have HTL := Az.mk htl
          clear htl
          have dV := (own_cell (own_gr V.out L3.out (own_none _)) HVK.out)
          go_wp2_with (first | ((with_reducible refine gateN 95 rfl ?_); go_must (refine ev_aps 95 rfl rfl rfl Try.underlying31 (z := .float .f32 0) (size := 1) (bytes := 4) (by kernel_rfl) rfl (by decide) rfl U.out rfl (HRK.out.up L3.out) (flV_one _) ?hbase ?hl ?hl2 ?_; (case hbase => have := L3.out.size; omega); (case hl => omega); (case hl2 => omega); intro vU W9 hU h; have h0 : World.grownBy wr W9 _ := (by refine World.grownBy.trans ?_ h; repeat (first | exact gr_refl _ _ | apply gr_drewN | apply gr_drew | apply gr_alloc)); clear dV; have L3_ := Az.mk (gr_new L3.out h0 (fun j hj => .inl (own_base U.out j hj))); clear L3; have L3 := L3_; clear L3_; clear h0 h; clear U; have U := Az.mk hU; clear hU; have dV := (own_cell (own_gr V.out L3.out (own_none _)) HVK.out))))
          clear dV
          rw [HKN.out]
          refine (Erase_c gS 0 bs.length cS m bs _ rfl (by omega) ((own_rdS S.out).up L3.out) (by omega)).mono ?_
          rintro e v2 ⟨v7, rfl, hE, h⟩
          have h0 : World.grownBy W9 v2 _ := (by refine World.grownBy.trans ?_ h; repeat (first | exact gr_refl _ _ | apply gr_drewN | apply gr_drew | apply gr_alloc))
          have L3_ := Az.mk (gr_new L3.out h0 (by first | (simp; done) | (simp; omega) | omega))
          have U_ := Az.mk (own_gr U.out h0 (by first | exact own_none _ | exact .inr hl?U.out))
          clear L3 U
          have L3 := L3_; clear L3_
          have U := U_; clear U_
          clear h0 h
          have hel : (eraseN bs m 8).length = bs.length := eraseN_len _ _ _ (by omega)
          rw [hel] at hE
          have E := Az.mk hE
          have HEL := Az.mk hel
          clear hE hel
          obtain ⟨gE, cE, rfl, hcE, _, _⟩ := own_slice E.out hpos
          obtain ⟨q, rs', hq1, hq2, hq3⟩ : ∃ q rs', runsE N k r = (q, 8) :: rs' ∧ q + N ≤ bs.length ∧ (0 < k → q = 0) := by
            obtain ⟨rs', hr'⟩ := runs_head (n := N) k r (by omega)
            refine ⟨_, rs', hr', ?_, fun h => by rw [if_neg (by omega)]⟩
            have : 2 * N ≤ r * N := Nat.mul_le_mul_right N (by omega)
            rw [HBS.out]
            by_cases h : k = 0
            · rw [if_pos h]; omega
            · rw [if_neg h]; omega
          have HLOW2 : Az (lowsN (fN .f32 3256877056) ((eraseN bs m 8).map (fN .f32)) = (q, 8) :: rs') := ⟨by
            rw [← hq1, HM.out]; exact lows_all hN1 (by rw [List.length_map, ← HM.out, HEL.out, HBS.out]) (fun i hi => HS.out.erased hN1 hkr i hi)⟩
          have HQ1 := Az.mk hq1
          clear hq1
          go_wp2_with fail
          refine (Starts_ok (some ⟨gE, 0, none⟩) bs.length cE 3256877056 N 1 (eraseN bs m 8) (q, 8) rs' _ HEL.out (by omega) (own_rdS E.out) HLOW2.out hN1 (by omega) (by omega) hq2).mono ?_
          rintro e w8 ⟨v8, rfl, hX, h⟩
          have h0 : World.grownBy v2 w8 _ := (by refine World.grownBy.trans ?_ h; repeat (first | exact gr_refl _ _ | apply gr_drewN | apply gr_drew | apply gr_alloc))
          have L3_ := Az.mk (gr_new L3.out h0 (by first | (simp; done) | (simp; omega) | omega))
          have U_ := Az.mk (own_gr U.out h0 (by first | exact own_none _ | exact .inr hl?U.out))
          clear L3 U
          have L3 := L3_; clear L3_
          have U := U_; clear U_
          clear h0 h
          have dZ := (own_cell (own_gr Z.out L3.out (own_none _)) (show (intsV (natsV (ksN N r)))[k]? = some (.int .i64 (m : Int)) from by simp [intsV, natsV, ksN, hkr, HM.out]))
          have hne : ((m : Int) != (k : Int) * (N : Int)) = false := by rw [HKN.out]; simp
          by_cases hk0 : 0 < k
          · have hk0i : (0 : Int) < k := by omega
            have hx : startsM ((q, 8) :: rs') (bs.length : Int) N 1 (bs.length + 1) [((q : Nat) : Int)] 0 = natsV (ksN N r) := by
              rw [← HQ1.out, ksN_starts (by omega), hq3 hk0]
              have e0 : [((0 : Nat) : Int)] = startsE N 0 := by simp [startsE]
              rw [e0]
              have := starts_run hN1 k r (r - 1) 0 0 (bs.length + 1) (by omega) (by omega) (.inl rfl) (by omega)
              rw [← HBS.out] at this
              exact this
            rw [hx] at hX
            have hlz : (natsV (ksN N r)).length = r := by simp [natsV, ksN_len]
            rw [hlz] at hX
            have X := Az.mk hX
            have HLZ := Az.mk hlz
            clear hX hx hlz
            obtain ⟨gX, cX, rfl, hcX, _, _⟩ := own_slice X.out (by omega)
            go_wp2_with fail
            refine (sameInts_ok (some ⟨gX, 0, none⟩) (some ⟨gZ, 0, none⟩) r cX cZ (natsV (ksN N r)) _ HLZ.out (own_rdS X.out) ((own_rdS Z.out).up L3.out)).mono ?_
            rintro e w9 ⟨rfl, h⟩
            have h0 : World.grownBy w8 w9 _ := (by refine World.grownBy.trans ?_ h; repeat (first | exact gr_refl _ _ | apply gr_drewN | apply gr_drew | apply gr_alloc))
            clear dZ
            have L3_ := Az.mk (gr_new L3.out h0 (by first | (simp; done) | (simp; omega) | omega))
            have U_ := Az.mk (own_gr U.out h0 (by first | exact own_none _ | exact .inr hl?U.out))
            clear L3 U
            have L3 := L3_; clear L3_
            have U := U_; clear U_
            clear h0 h
            have dZ := (own_cell (own_gr Z.out L3.out (own_none _)) (show (intsV (natsV (ksN N r)))[k]? = some (.int .i64 (m : Int)) from by simp [intsV, natsV, ksN, hkr, HM.out]))
            go_wp2_with fail
            refine ⟨⟨k + 1, by go_num, by omega, L3, ⟨?_⟩⟩, by simp only [intOf]; omega⟩
            have := U.out
            rw [← take_cut, List.length_append, HTL.out, HLN.out, flV_app]
            exact this
          · have hk0i : ¬ (0 : Int) < k := by omega
            clear hX
            go_wp2_with fail
            refine ⟨⟨k + 1, by go_num, by omega, L3, ⟨?_⟩⟩, by simp only [intOf]; omega⟩
            have := U.out
            rw [← take_cut, List.length_append, HTL.out, HLN.out, flV_app]
            exact this
        · obtain rfl : k = r := by omega
          have htl : bs.take (k * N) = bs := by rw [← HBS.out]; exact List.take_length
          rw [htl] at U
          obtain ⟨gU, cU, rfl, hcU, _, _⟩ := own_slice U.out hpos
          go_wp2_with fail
          refine (sameSamples_ok (some ⟨gU, 0, none⟩) (some ⟨gS, 0, none⟩) bs.length cU cS bs _ rfl (own_rdS U.out) ((own_rdS S.out).up L3.out)).mono ?_
          rintro e w9 ⟨rfl, h⟩
          have h0 : World.grownBy wr w9 _ := (by refine World.grownBy.trans ?_ h; repeat (first | exact gr_refl _ _ | apply gr_drewN | apply gr_drew | apply gr_alloc))
          have L3_ := Az.mk (gr_new L3.out h0 (by first | (simp; done) | (simp; omega) | omega))
          have U_ := Az.mk (own_gr U.out h0 (by first | exact own_none _ | exact .inr hl?U.out))
          clear L3 U
          have L3 := L3_; clear L3_
          have U := U_; clear U_
          clear h0 h
          go_wp2_with fail
          go_ret
          exact ⟨rfl, gr_trans LF.out L3.out⟩
end Go.Proofs.Ytjomilloilbcgaa
