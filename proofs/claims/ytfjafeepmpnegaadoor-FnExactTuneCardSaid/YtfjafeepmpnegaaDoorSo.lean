/- The walk of laws.FnTuned: it answers true. Condition: the library's table and variable are there. -/
import Derived.Test.YtfjafeepmpnegaaDoorSn
namespace Go.Proofs.YtfjafeepmpnegaaDoor
open Go.RowKit
set_option linter.unusedVariables false
set_option linter.unusedSimpArgs false

def RetYesT (w : World) (e : Ending) (w' : World) : Prop := e = .returned (.bool true) ∧ w.grownBy w' none
theorem boV_get {bs : List Bool} {k : Nat} {b : Bool} (h : bs[k]? = some b) : (boV bs)[k]? = some (.bool b) := by simp [boV, h]
set_option maxRecDepth 100000 in
set_option maxHeartbeats 8000000 in
theorem FnTuned_walk (w : World) (A : Option Addr) (n c : Nat) (hE : Env w) (hrd : BytesRd w A n) (hnc : n ≤ c) : Calls Tryd.prog 4 #[.slice A n c] w (RetYesT w) := by
  have L := Az.mk (gr_refl w none)
  have HE := Az.mk hE
  have HR := Az.mk hrd
  have hn := hrd.1
  clear hrd hE
  go_enter Tryd.func4, Tryd.ntmps4
  go_wp2_with fail
  refine (big_c A n c hn _).mono ?_
  rintro e w1 ⟨rfl, h⟩
  have h0 : World.grownBy w w1 _ := (by refine World.grownBy.trans ?_ h; repeat (first | exact gr_refl _ _ | apply gr_drewN | apply gr_drew | apply gr_alloc))
  have L_ := Az.mk (gr_new L.out h0 (by first | (simp; done) | (simp; omega) | omega))
  clear L
  have L := L_; clear L_
  clear h0 h
  by_cases hbig : 1048576 < n
  · have hd : decide (1048576 < n) = true := decide_eq_true hbig
    go_wp2_with fail
    go_ret
    exact ⟨rfl, L.out⟩
  have hd : decide (1048576 < n) = false := decide_eq_false hbig
  rw [hd]
  clear hd
  go_wp2_with fail
  have s1 := L.out.size
  refine (DrawTuneAll_c w _ A n c HR.out hnc (gr_below L.out)).mono ?_
  rintro e w2 ⟨a, b, v1, vl, ls, rfl, hR1, hRL, hll, hlt, h⟩
  have h0 : World.grownBy w1 w2 _ := (by refine World.grownBy.trans ?_ h; repeat (first | exact gr_refl _ _ | apply gr_drewN | apply gr_drew | apply gr_alloc))
  have L_ := Az.mk (gr_new L.out h0 (by first | (simp; done) | (simp; omega) | omega))
  clear L
  have L := L_; clear L_
  clear h0 h
  obtain ⟨s, hs⟩ : ∃ s, (newM a b).getD zeroS = s := ⟨_, rfl⟩
  have hsl : s.log = [] := by rw [← hs]; exact newM_log
  have hR1' : World.ownsRow w2 w1.heap.size 9 1 v1 s.log.length (stV s.log) := by rw [hsl]; exact hR1
  have hsl0 : s.log.length = 0 := by rw [hsl]; rfl
  have HSL := Az.mk hsl
  have HSL0 := Az.mk hsl0
  have hsl100 : s.log.length ≤ 100 := by omega
  rw [hs]
  have HS := Az.mk hs
  have R1 := Az.mk (own_weak hR1' s1)
  have RL := Az.mk (own_weak hRL s1)
  have HLT2 : Az (∀ t ∈ ls, t.length ≤ 140737488355328) := ⟨fun t ht => Nat.le_trans (hlt t ht) (by decide)⟩
  clear hR1 hR1' hRL hlt hs hsl hsl0
  obtain ⟨A1, c1, rfl, _⟩ := own_sl R1.out
  obtain ⟨A2, c2, rfl, _⟩ := own_sl RL.out
  go_wp2_with (first | ((with_reducible refine gateN 3 rfl ?_); go_must (refine ev_al 3 rfl rfl #[.int .i64 0, .int .i64 0, .float .f32 0, .float .f32 0, .float .f32 0, .slice none 0 0] 28 ?hr ?_; (case hr => first | (go_simp; done) | (go_simp; rfl)); intro gB heB W1 hbB h; have hgB : w.heap.size ≤ gB := Nat.le_trans L.out.size heB; have hlBR1 := Az.mk (own_lows R1.out heB); have hlBRL := Az.mk (own_lows RL.out heB); clear heB; have h0 : World.grownBy w2 W1 none := (by refine World.grownBy.trans ?_ h; repeat (first | exact gr_refl _ _ | apply gr_drewN | apply gr_drew | apply gr_alloc)); have L_ := Az.mk (gr_new L.out h0 (by first | (simp; done) | (simp; omega) | omega)); have R1_ := Az.mk (own_gr R1.out h0 (by first | exact own_none _ | exact .inr hl?R1.out)); have RL_ := Az.mk (own_gr RL.out h0 (by first | exact own_none _ | exact .inr hl?RL.out)); clear L R1 RL; have L := L_; clear L_; have R1 := R1_; clear R1_; have RL := RL_; clear RL_; clear h0 h; have B := Az.mk hbB; clear hbB; have cB0 : World.cell? W1 ⟨gB, 0, none⟩ = some (.int .i64 0) := blkCell B.out 0; have cB1 : World.cell? W1 ⟨gB, 1, none⟩ = some (.int .i64 0) := blkCell B.out 1; have cB2 : World.cell? W1 ⟨gB, 2, none⟩ = some (.float .f32 0) := blkCell B.out 2; have cB3 : World.cell? W1 ⟨gB, 3, none⟩ = some (.float .f32 0) := blkCell B.out 3; have cB4 : World.cell? W1 ⟨gB, 4, none⟩ = some (.float .f32 0) := blkCell B.out 4; have cB5 : World.cell? W1 ⟨gB, 5, none⟩ = some (.slice none 0 0) := blkCell B.out 5)) | ((with_reducible refine gateSt 3 rfl ?_); go_must (refine ev_st rfl rfl rfl (cs := #[.int .i64 s.cells, .int .i64 s.rows, .float .f32 s.sl, .float .f32 s.le, .float .f32 s.sa, .slice A1 s.log.length c1]) rfl rfl B.out (by kernel_rfl) rfl (by simp [Value.oneCell']) ?_; intro W2 hbB h; have h0 : World.grownBy W1 W2 (some gB) := (by refine World.grownBy.trans ?_ h; repeat (first | exact gr_refl _ _ | apply gr_drewN | apply gr_drew | apply gr_alloc)); clear cB0 cB1 cB2 cB3 cB4 cB5; have L_ := Az.mk (gr_new L.out h0 (by first | (simp; done) | (simp; omega) | omega)); have R1_ := Az.mk (own_gr R1.out h0 (by first | exact own_none _ | exact .inr hlBR1.out | exact .inr (own_blk R1.out B.out (by decide)))); have RL_ := Az.mk (own_gr RL.out h0 (by first | exact own_none _ | exact .inr hlBRL.out | exact .inr (own_blk RL.out B.out (by decide)))); clear L R1 RL; have L := L_; clear L_; have R1 := R1_; clear R1_; have RL := RL_; clear RL_; clear h0 h; clear B; have B := Az.mk hbB; clear hbB; have cB0 : World.cell? W2 ⟨gB, 0, none⟩ = some (.int .i64 s.cells) := blkCell B.out 0; have cB1 : World.cell? W2 ⟨gB, 1, none⟩ = some (.int .i64 s.rows) := blkCell B.out 1; have cB2 : World.cell? W2 ⟨gB, 2, none⟩ = some (.float .f32 s.sl) := blkCell B.out 2; have cB3 : World.cell? W2 ⟨gB, 3, none⟩ = some (.float .f32 s.le) := blkCell B.out 3; have cB4 : World.cell? W2 ⟨gB, 4, none⟩ = some (.float .f32 s.sa) := blkCell B.out 4; have cB5 : World.cell? W2 ⟨gB, 5, none⟩ = some (.slice A1 s.log.length c1) := blkCell B.out 5)) | ((with_reducible refine gateN 19 rfl ?_); go_must (refine ev_ld 19 rfl rfl rfl (cs := #[.int .i64 s.cells, .int .i64 s.rows, .float .f32 s.sl, .float .f32 s.le, .float .f32 s.sa, .slice A1 s.log.length c1]) rfl B.out Tryd.underlying28 rfl (by kernel_rfl) ?_)))
  have s2 := L.out.size
  refine (TuneAll_c s A1 s.log.length c1 A2 ls.length c2 ls (by omega) (by omega) HLT2.out _ (HE.out.gr L.out) (own_slS R1.out) (own_slS RL.out)).mono ?_
  rintro e w3 ⟨v3, vb, rfl, hR3, hRB, h⟩
  have h0 : World.grownBy W2 w3 _ := (by refine World.grownBy.trans ?_ h; repeat (first | exact gr_refl _ _ | apply gr_drewN | apply gr_drew | apply gr_alloc))
  clear cB0 cB1 cB2 cB3 cB4 cB5
  have L_ := Az.mk (gr_new L.out h0 (by first | (simp; done) | (simp; omega) | omega))
  have R1_ := Az.mk (own_gr R1.out h0 (by first | exact own_none _ | exact .inr hl?R1.out | exact .inr (own_blk R1.out B.out (by decide))))
  have RL_ := Az.mk (own_gr RL.out h0 (by first | exact own_none _ | exact .inr hl?RL.out | exact .inr (own_blk RL.out B.out (by decide))))
  have B_ := Az.mk (blkGr B.out h0 (by first | (simp; done) | (simp; omega) | omega))
  clear L R1 RL B
  have L := L_; clear L_
  have R1 := R1_; clear R1_
  have RL := RL_; clear RL_
  have B := B_; clear B_
  clear h0 h
  have cB0 : World.cell? w3 ⟨gB, 0, none⟩ = some (.int .i64 s.cells) := blkCell B.out 0
  have cB1 : World.cell? w3 ⟨gB, 1, none⟩ = some (.int .i64 s.rows) := blkCell B.out 1
  have cB2 : World.cell? w3 ⟨gB, 2, none⟩ = some (.float .f32 s.sl) := blkCell B.out 2
  have cB3 : World.cell? w3 ⟨gB, 3, none⟩ = some (.float .f32 s.le) := blkCell B.out 3
  have cB4 : World.cell? w3 ⟨gB, 4, none⟩ = some (.float .f32 s.sa) := blkCell B.out 4
  have cB5 : World.cell? w3 ⟨gB, 5, none⟩ = some (.slice A1 s.log.length c1) := blkCell B.out 5
  obtain ⟨p, hp⟩ : ∃ p, allM s ls = p := ⟨_, rfl⟩
  rw [hp] at hR3 hRB
  rw [hp]
  have hbl : p.2.length = ls.length := by rw [← hp]; exact allM_len s ls
  have HP := Az.mk hp
  have R3 := Az.mk (own_weak hR3 s2)
  have RB := Az.mk (own_weak hRB s2)
  clear hp hR3 hRB
  obtain ⟨t, ht⟩ : ∃ t, p.1 = t := ⟨_, rfl⟩
  obtain ⟨bs, hbs⟩ : ∃ bs, p.2 = bs := ⟨_, rfl⟩
  rw [ht] at R3
  rw [hbs] at RB hbl
  rw [ht]
  have HT := Az.mk ht
  have HBS := Az.mk hbs
  clear ht hbs
  obtain ⟨A3, c3, rfl, _⟩ := own_sl R3.out
  obtain ⟨A4, c4, rfl, hc4, _, _⟩ := own_rd RB.out
  have HBL := Az.mk hbl
  have hbl6 : bs.length ≤ 6 := by omega
  clear hbl
  go_wp2_with (first | ((with_reducible refine gateN 5 rfl ?_); go_must (refine ev_al 5 rfl rfl #[.int .i64 0, .int .i64 0, .float .f32 0, .float .f32 0, .float .f32 0, .slice none 0 0] 28 ?hr ?_; (case hr => first | (go_simp; done) | (go_simp; rfl)); intro gT heT W3 hbT h; have hgT : w.heap.size ≤ gT := Nat.le_trans L.out.size heT; have hlTR1 := Az.mk (own_lows R1.out heT); have hlTRL := Az.mk (own_lows RL.out heT); have hgTB : gB < gT := Nat.lt_of_lt_of_le (blkLt B.out) heT; have hlTR3 := Az.mk (own_lows R3.out heT); have hlTRB := Az.mk (own_lows RB.out heT); clear heT; have h0 : World.grownBy w3 W3 none := (by refine World.grownBy.trans ?_ h; repeat (first | exact gr_refl _ _ | apply gr_drewN | apply gr_drew | apply gr_alloc)); clear cB0 cB1 cB2 cB3 cB4 cB5; have L_ := Az.mk (gr_new L.out h0 (by first | (simp; done) | (simp; omega) | omega)); have R1_ := Az.mk (own_gr R1.out h0 (by first | exact own_none _ | exact .inr hl?R1.out | exact .inr (own_blk R1.out B.out (by decide)))); have RL_ := Az.mk (own_gr RL.out h0 (by first | exact own_none _ | exact .inr hl?RL.out | exact .inr (own_blk RL.out B.out (by decide)))); have B_ := Az.mk (blkGr B.out h0 (by first | (simp; done) | (simp; omega) | omega)); have R3_ := Az.mk (own_gr R3.out h0 (by first | exact own_none _ | exact .inr hl?R3.out | exact .inr (own_blk R3.out B.out (by decide)))); have RB_ := Az.mk (own_gr RB.out h0 (by first | exact own_none _ | exact .inr hl?RB.out | exact .inr (own_blk RB.out B.out (by decide)))); clear L R1 RL B R3 RB; have L := L_; clear L_; have R1 := R1_; clear R1_; have RL := RL_; clear RL_; have B := B_; clear B_; have R3 := R3_; clear R3_; have RB := RB_; clear RB_; clear h0 h; have T := Az.mk hbT; clear hbT; have cB0 : World.cell? W3 ⟨gB, 0, none⟩ = some (.int .i64 s.cells) := blkCell B.out 0; have cB1 : World.cell? W3 ⟨gB, 1, none⟩ = some (.int .i64 s.rows) := blkCell B.out 1; have cB2 : World.cell? W3 ⟨gB, 2, none⟩ = some (.float .f32 s.sl) := blkCell B.out 2; have cB3 : World.cell? W3 ⟨gB, 3, none⟩ = some (.float .f32 s.le) := blkCell B.out 3; have cB4 : World.cell? W3 ⟨gB, 4, none⟩ = some (.float .f32 s.sa) := blkCell B.out 4; have cB5 : World.cell? W3 ⟨gB, 5, none⟩ = some (.slice A1 s.log.length c1) := blkCell B.out 5; have cT0 : World.cell? W3 ⟨gT, 0, none⟩ = some (.int .i64 0) := blkCell T.out 0; have cT1 : World.cell? W3 ⟨gT, 1, none⟩ = some (.int .i64 0) := blkCell T.out 1; have cT2 : World.cell? W3 ⟨gT, 2, none⟩ = some (.float .f32 0) := blkCell T.out 2; have cT3 : World.cell? W3 ⟨gT, 3, none⟩ = some (.float .f32 0) := blkCell T.out 3; have cT4 : World.cell? W3 ⟨gT, 4, none⟩ = some (.float .f32 0) := blkCell T.out 4; have cT5 : World.cell? W3 ⟨gT, 5, none⟩ = some (.slice none 0 0) := blkCell T.out 5)) | ((with_reducible refine gateSt 5 rfl ?_); go_must (refine ev_st rfl rfl rfl (cs := #[.int .i64 t.cells, .int .i64 t.rows, .float .f32 t.sl, .float .f32 t.le, .float .f32 t.sa, .slice A3 t.log.length c3]) rfl rfl T.out (by kernel_rfl) rfl (by simp [Value.oneCell']) ?_; intro W4 hbT h; have h0 : World.grownBy W3 W4 (some gT) := (by refine World.grownBy.trans ?_ h; repeat (first | exact gr_refl _ _ | apply gr_drewN | apply gr_drew | apply gr_alloc)); clear cB0 cB1 cB2 cB3 cB4 cB5 cT0 cT1 cT2 cT3 cT4 cT5; have L_ := Az.mk (gr_new L.out h0 (by first | (simp; done) | (simp; omega) | omega)); have R1_ := Az.mk (own_gr R1.out h0 (by first | exact own_none _ | exact .inr hlTR1.out | exact .inr (own_blk R1.out B.out (by decide)) | exact .inr (own_blk R1.out T.out (by decide)))); have RL_ := Az.mk (own_gr RL.out h0 (by first | exact own_none _ | exact .inr hlTRL.out | exact .inr (own_blk RL.out B.out (by decide)) | exact .inr (own_blk RL.out T.out (by decide)))); have B_ := Az.mk (blkGr B.out h0 (by first | (simp; done) | (simp; omega) | omega)); have R3_ := Az.mk (own_gr R3.out h0 (by first | exact own_none _ | exact .inr hlTR3.out | exact .inr (own_blk R3.out B.out (by decide)) | exact .inr (own_blk R3.out T.out (by decide)))); have RB_ := Az.mk (own_gr RB.out h0 (by first | exact own_none _ | exact .inr hlTRB.out | exact .inr (own_blk RB.out B.out (by decide)) | exact .inr (own_blk RB.out T.out (by decide)))); clear L R1 RL B R3 RB; have L := L_; clear L_; have R1 := R1_; clear R1_; have RL := RL_; clear RL_; have B := B_; clear B_; have R3 := R3_; clear R3_; have RB := RB_; clear RB_; clear h0 h; clear T; have T := Az.mk hbT; clear hbT; have cB0 : World.cell? W4 ⟨gB, 0, none⟩ = some (.int .i64 s.cells) := blkCell B.out 0; have cB1 : World.cell? W4 ⟨gB, 1, none⟩ = some (.int .i64 s.rows) := blkCell B.out 1; have cB2 : World.cell? W4 ⟨gB, 2, none⟩ = some (.float .f32 s.sl) := blkCell B.out 2; have cB3 : World.cell? W4 ⟨gB, 3, none⟩ = some (.float .f32 s.le) := blkCell B.out 3; have cB4 : World.cell? W4 ⟨gB, 4, none⟩ = some (.float .f32 s.sa) := blkCell B.out 4; have cB5 : World.cell? W4 ⟨gB, 5, none⟩ = some (.slice A1 s.log.length c1) := blkCell B.out 5; have cT0 : World.cell? W4 ⟨gT, 0, none⟩ = some (.int .i64 t.cells) := blkCell T.out 0; have cT1 : World.cell? W4 ⟨gT, 1, none⟩ = some (.int .i64 t.rows) := blkCell T.out 1; have cT2 : World.cell? W4 ⟨gT, 2, none⟩ = some (.float .f32 t.sl) := blkCell T.out 2; have cT3 : World.cell? W4 ⟨gT, 3, none⟩ = some (.float .f32 t.le) := blkCell T.out 3; have cT4 : World.cell? W4 ⟨gT, 4, none⟩ = some (.float .f32 t.sa) := blkCell T.out 4; have cT5 : World.cell? W4 ⟨gT, 5, none⟩ = some (.slice A3 t.log.length c3) := blkCell T.out 5)))
  go_loop [7, 8] (fun z i => ∃ k : Nat, i = .int .i64 k ∧ k ≤ bs.length ∧ trues (bs.take k) ≤ 6 ∧ z = .int .i64 ((trues (bs.take k) : Nat) : Int)) (fun _ i => bs.length - (intOf i).toNat)
  case atStart => exact ⟨0, by go_num, by omega, by simp [trues], by simp [trues]⟩
  case round =>
    obtain ⟨k, rfl, hk, htr, rfl⟩ := hrel
    by_cases hkl : k < bs.length
    · have hki : (k : Int) < bs.length := by omega
      obtain ⟨x, hx⟩ : ∃ x, bs[k]? = some x := ⟨_, List.getElem?_eq_getElem hkl⟩
      obtain ⟨gb, ob, rfl, hcell⟩ := (own_rdS RB.out).2.2 (by omega)
      have dB := hcell _ _ (boV_get hx)
      clear hcell
      have htk : trues (bs.take (k + 1)) = trues (bs.take k) + (if x then 1 else 0) := by rw [List.take_add_one, hx]; exact trues_snoc _ _
      have htl : trues (bs.take (k + 1)) ≤ 6 := Nat.le_trans (List.length_filter_le _ _) (by rw [List.length_take]; omega)
      have HTK := Az.mk htk
      clear htk hx
      cases x with
      | true =>
        go_wp2_with fail
        exact ⟨⟨k + 1, by go_num, by omega, htl, by rw [HTK.out]; go_num⟩, by simp only [intOf]; omega⟩
      | false =>
        go_wp2_with fail
        exact ⟨⟨k + 1, by go_num, by omega, htl, by rw [HTK.out]; rfl⟩, by simp only [intOf]; omega⟩
    · obtain rfl : k = bs.length := by omega
      obtain ⟨m, hm⟩ : ∃ m, trues (bs.take bs.length) = m := ⟨_, rfl⟩
      rw [hm] at htr
      rw [hm]
      have HM : Az (m = trues bs) := ⟨by rw [← hm, List.take_length]⟩
      clear hm
      have hLaw : (setOkM s = false ∧ t = s ∧ m = 0) ∨ (setOkM s = true ∧ s = freshS a b ∧ Came a b t ∧ t.log.length = m) := by
        have e1 : (ls.foldl stepM (s, [])) = p := HP.out
        cases hok : setOkM s with
        | false =>
          have h1 := all_bad ls (s, []) hok
          rw [e1, HT.out, HBS.out] at h1
          exact .inl ⟨rfl, h1.1, by rw [HM.out, h1.2]; rfl⟩
        | true =>
          have hsf : s = freshS a b := by
            rw [← HS.out] at hok ⊢
            unfold newM at hok ⊢
            split
            · rfl
            · rename_i hno; rw [if_neg hno] at hok; have h0 := zero_bad; rw [show ((none : Option SetV).getD zeroS) = zeroS from rfl, h0] at hok; cases hok
          have h1 := all_came (x := a) (y := b) ls (s, []) (by rw [hsf]; exact Came.new (by rw [← hsf]; exact hok))
          rw [e1, HT.out, HBS.out] at h1
          refine .inr ⟨rfl, hsf, h1.1, ?_⟩
          have h2 := h1.2
          have h3 : trues ([] : List Bool) = 0 := rfl
          rw [HM.out]
          have h4 := HSL0.out
          show t.log.length = trues bs
          have h5 : t.log.length + trues ([] : List Bool) = s.log.length + trues bs := h2
          omega
      have hblb : ((bs.length : Int) != (ls.length : Int)) = false := by have := HBL.out; simp; omega
      have htm : (((t.log.length : Nat) : Int) != (s.log.length : Int) + (m : Int)) = false := by
        have h4 := HSL0.out
        rcases hLaw with ⟨_, h, h2⟩ | ⟨_, _, _, h⟩
        · subst h; subst h2; simp
        · simp; omega
      have HLaw := Az.mk hLaw
      clear hLaw
      go_wp2_with (first | ((with_reducible refine gateN 52 rfl ?_); go_must (refine ev_ld 52 rfl rfl rfl (cs := #[.int .i64 s.cells, .int .i64 s.rows, .float .f32 s.sl, .float .f32 s.le, .float .f32 s.sa, .slice A1 s.log.length c1]) rfl B.out Tryd.underlying28 rfl (by kernel_rfl) ?_)))
      refine (SetOk_c s A1 s.log.length c1 rfl (by omega) _).mono ?_
      rintro e w5 ⟨rfl, h⟩
      have h0 : World.grownBy W4 w5 _ := (by refine World.grownBy.trans ?_ h; repeat (first | exact gr_refl _ _ | apply gr_drewN | apply gr_drew | apply gr_alloc))
      clear cB0 cB1 cB2 cB3 cB4 cB5 cT0 cT1 cT2 cT3 cT4 cT5
      have L_ := Az.mk (gr_new L.out h0 (by first | (simp; done) | (simp; omega) | omega))
      have R1_ := Az.mk (own_gr R1.out h0 (by first | exact own_none _ | exact .inr hl?R1.out | exact .inr (own_blk R1.out B.out (by decide)) | exact .inr (own_blk R1.out T.out (by decide))))
      have RL_ := Az.mk (own_gr RL.out h0 (by first | exact own_none _ | exact .inr hl?RL.out | exact .inr (own_blk RL.out B.out (by decide)) | exact .inr (own_blk RL.out T.out (by decide))))
      have B_ := Az.mk (blkGr B.out h0 (by first | (simp; done) | (simp; omega) | omega))
      have R3_ := Az.mk (own_gr R3.out h0 (by first | exact own_none _ | exact .inr hl?R3.out | exact .inr (own_blk R3.out B.out (by decide)) | exact .inr (own_blk R3.out T.out (by decide))))
      have RB_ := Az.mk (own_gr RB.out h0 (by first | exact own_none _ | exact .inr hl?RB.out | exact .inr (own_blk RB.out B.out (by decide)) | exact .inr (own_blk RB.out T.out (by decide))))
      have T_ := Az.mk (blkGr T.out h0 (by first | (simp; done) | (simp; omega) | omega))
      clear L R1 RL B R3 RB T
      have L := L_; clear L_
      have R1 := R1_; clear R1_
      have RL := RL_; clear RL_
      have B := B_; clear B_
      have R3 := R3_; clear R3_
      have RB := RB_; clear RB_
      have T := T_; clear T_
      clear h0 h
      have cB0 : World.cell? w5 ⟨gB, 0, none⟩ = some (.int .i64 s.cells) := blkCell B.out 0
      have cB1 : World.cell? w5 ⟨gB, 1, none⟩ = some (.int .i64 s.rows) := blkCell B.out 1
      have cB2 : World.cell? w5 ⟨gB, 2, none⟩ = some (.float .f32 s.sl) := blkCell B.out 2
      have cB3 : World.cell? w5 ⟨gB, 3, none⟩ = some (.float .f32 s.le) := blkCell B.out 3
      have cB4 : World.cell? w5 ⟨gB, 4, none⟩ = some (.float .f32 s.sa) := blkCell B.out 4
      have cB5 : World.cell? w5 ⟨gB, 5, none⟩ = some (.slice A1 s.log.length c1) := blkCell B.out 5
      have cT0 : World.cell? w5 ⟨gT, 0, none⟩ = some (.int .i64 t.cells) := blkCell T.out 0
      have cT1 : World.cell? w5 ⟨gT, 1, none⟩ = some (.int .i64 t.rows) := blkCell T.out 1
      have cT2 : World.cell? w5 ⟨gT, 2, none⟩ = some (.float .f32 t.sl) := blkCell T.out 2
      have cT3 : World.cell? w5 ⟨gT, 3, none⟩ = some (.float .f32 t.le) := blkCell T.out 3
      have cT4 : World.cell? w5 ⟨gT, 4, none⟩ = some (.float .f32 t.sa) := blkCell T.out 4
      have cT5 : World.cell? w5 ⟨gT, 5, none⟩ = some (.slice A3 t.log.length c3) := blkCell T.out 5
      rcases HLaw.out with ⟨h1, h2, h3⟩ | ⟨h1, h2, h3, h4⟩
      · rw [h1]
        clear h1
        subst h2
        have hm0 : ((m : Int) == 0) = true := by simp; exact h3
        clear h3
        have cB0 : World.cell? w5 ⟨gB, 0, none⟩ = some (.int .i64 t.cells) := blkCell B.out 0
        have cB1 : World.cell? w5 ⟨gB, 1, none⟩ = some (.int .i64 t.rows) := blkCell B.out 1
        have cB2 : World.cell? w5 ⟨gB, 2, none⟩ = some (.float .f32 t.sl) := blkCell B.out 2
        have cB3 : World.cell? w5 ⟨gB, 3, none⟩ = some (.float .f32 t.le) := blkCell B.out 3
        have cB4 : World.cell? w5 ⟨gB, 4, none⟩ = some (.float .f32 t.sa) := blkCell B.out 4
        have cB5 : World.cell? w5 ⟨gB, 5, none⟩ = some (.slice A1 t.log.length c1) := blkCell B.out 5
        have cT0 : World.cell? w5 ⟨gT, 0, none⟩ = some (.int .i64 t.cells) := blkCell T.out 0
        have cT1 : World.cell? w5 ⟨gT, 1, none⟩ = some (.int .i64 t.rows) := blkCell T.out 1
        have cT2 : World.cell? w5 ⟨gT, 2, none⟩ = some (.float .f32 t.sl) := blkCell T.out 2
        have cT3 : World.cell? w5 ⟨gT, 3, none⟩ = some (.float .f32 t.le) := blkCell T.out 3
        have cT4 : World.cell? w5 ⟨gT, 4, none⟩ = some (.float .f32 t.sa) := blkCell T.out 4
        have cT5 : World.cell? w5 ⟨gT, 5, none⟩ = some (.slice A3 t.log.length c3) := blkCell T.out 5
        go_wp2_with (first | ((with_reducible refine gateN 58 rfl ?_); go_must (refine stripG (by first | rfl | (simp [Region.wanted, yielded]; done) | (simp [Region.wanted, yielded]; omega)) ?_; refine ev_ld 58 rfl rfl rfl (cs := #[.int .i64 t.cells, .int .i64 t.rows, .float .f32 t.sl, .float .f32 t.le, .float .f32 t.sa, .slice A1 t.log.length c1]) rfl B.out Tryd.underlying28 rfl (by kernel_rfl) ?_)) | ((with_reducible refine gateN 59 rfl ?_); go_must (refine stripG (by first | rfl | (simp [Region.wanted, yielded]; done) | (simp [Region.wanted, yielded]; omega)) ?_; refine ev_ld 59 rfl rfl rfl (cs := #[.int .i64 t.cells, .int .i64 t.rows, .float .f32 t.sl, .float .f32 t.le, .float .f32 t.sa, .slice A3 t.log.length c3]) rfl T.out Tryd.underlying28 rfl (by kernel_rfl) ?_)))
        refine (sameSet_ok t A1 A3 t.log.length c1 c3 _ rfl (own_rdS R1.out) (own_rdS R3.out)).mono ?_
        rintro e w6 ⟨rfl, h⟩
        have h0 : World.grownBy w5 w6 _ := (by refine World.grownBy.trans ?_ h; repeat (first | exact gr_refl _ _ | apply gr_drewN | apply gr_drew | apply gr_alloc))
        clear cB0 cB1 cB2 cB3 cB4 cB5 cT0 cT1 cT2 cT3 cT4 cT5
        have L_ := Az.mk (gr_new L.out h0 (by first | (simp; done) | (simp; omega) | omega))
        have B_ := Az.mk (blkGr B.out h0 (by first | (simp; done) | (simp; omega) | omega))
        have T_ := Az.mk (blkGr T.out h0 (by first | (simp; done) | (simp; omega) | omega))
        have R1_ := Az.mk (own_gr R1.out h0 (by first | exact own_none _ | exact .inr hl?R1.out | exact .inr (own_blk R1.out B.out (by decide)) | exact .inr (own_blk R1.out T.out (by decide))))
        have R3_ := Az.mk (own_gr R3.out h0 (by first | exact own_none _ | exact .inr hl?R3.out | exact .inr (own_blk R3.out B.out (by decide)) | exact .inr (own_blk R3.out T.out (by decide))))
        have RB_ := Az.mk (own_gr RB.out h0 (by first | exact own_none _ | exact .inr hl?RB.out | exact .inr (own_blk RB.out B.out (by decide)) | exact .inr (own_blk RB.out T.out (by decide))))
        clear L B T R1 R3 RB
        have L := L_; clear L_
        have B := B_; clear B_
        have T := T_; clear T_
        have R1 := R1_; clear R1_
        have R3 := R3_; clear R3_
        have RB := RB_; clear RB_
        clear h0 h
        have cB0 : World.cell? w6 ⟨gB, 0, none⟩ = some (.int .i64 t.cells) := blkCell B.out 0
        have cB1 : World.cell? w6 ⟨gB, 1, none⟩ = some (.int .i64 t.rows) := blkCell B.out 1
        have cB2 : World.cell? w6 ⟨gB, 2, none⟩ = some (.float .f32 t.sl) := blkCell B.out 2
        have cB3 : World.cell? w6 ⟨gB, 3, none⟩ = some (.float .f32 t.le) := blkCell B.out 3
        have cB4 : World.cell? w6 ⟨gB, 4, none⟩ = some (.float .f32 t.sa) := blkCell B.out 4
        have cB5 : World.cell? w6 ⟨gB, 5, none⟩ = some (.slice A1 t.log.length c1) := blkCell B.out 5
        have cT0 : World.cell? w6 ⟨gT, 0, none⟩ = some (.int .i64 t.cells) := blkCell T.out 0
        have cT1 : World.cell? w6 ⟨gT, 1, none⟩ = some (.int .i64 t.rows) := blkCell T.out 1
        have cT2 : World.cell? w6 ⟨gT, 2, none⟩ = some (.float .f32 t.sl) := blkCell T.out 2
        have cT3 : World.cell? w6 ⟨gT, 3, none⟩ = some (.float .f32 t.le) := blkCell T.out 3
        have cT4 : World.cell? w6 ⟨gT, 4, none⟩ = some (.float .f32 t.sa) := blkCell T.out 4
        have cT5 : World.cell? w6 ⟨gT, 5, none⟩ = some (.slice A3 t.log.length c3) := blkCell T.out 5
        go_wp2_with fail
        go_ret
        exact ⟨rfl, L.out⟩
      · rw [h1]
        have HRT : Az (retuneM s.cells s.rows t.log = some t) := ⟨by rw [h2]; exact h3.2.1⟩
        have HTL : Az (∀ z ∈ t.log, z.length ≤ 140737488355328) := ⟨fun z hz => Nat.le_trans (h3.2.2 z hz) (by decide)⟩
        have htl : t.log.length ≤ 100 := by omega
        clear h1 h2 h3 h4
        go_wp2_with fail
        have s6 := L.out.size
        refine (Retune_c s.cells s.rows A3 t.log.length c3 t.log (by omega) HTL.out _ (HE.out.gr L.out) (own_slS R3.out)).mono ?_
        rintro e w6 ⟨v6, rfl, hR6, h⟩
        have h0 : World.grownBy w5 w6 _ := (by refine World.grownBy.trans ?_ h; repeat (first | exact gr_refl _ _ | apply gr_drewN | apply gr_drew | apply gr_alloc))
        clear cB0 cB1 cB2 cB3 cB4 cB5 cT0 cT1 cT2 cT3 cT4 cT5
        have L_ := Az.mk (gr_new L.out h0 (by first | (simp; done) | (simp; omega) | omega))
        have R1_ := Az.mk (own_gr R1.out h0 (by first | exact own_none _ | exact .inr hl?R1.out | exact .inr (own_blk R1.out B.out (by decide)) | exact .inr (own_blk R1.out T.out (by decide))))
        have RL_ := Az.mk (own_gr RL.out h0 (by first | exact own_none _ | exact .inr hl?RL.out | exact .inr (own_blk RL.out B.out (by decide)) | exact .inr (own_blk RL.out T.out (by decide))))
        have B_ := Az.mk (blkGr B.out h0 (by first | (simp; done) | (simp; omega) | omega))
        have R3_ := Az.mk (own_gr R3.out h0 (by first | exact own_none _ | exact .inr hl?R3.out | exact .inr (own_blk R3.out B.out (by decide)) | exact .inr (own_blk R3.out T.out (by decide))))
        have RB_ := Az.mk (own_gr RB.out h0 (by first | exact own_none _ | exact .inr hl?RB.out | exact .inr (own_blk RB.out B.out (by decide)) | exact .inr (own_blk RB.out T.out (by decide))))
        have T_ := Az.mk (blkGr T.out h0 (by first | (simp; done) | (simp; omega) | omega))
        clear L R1 RL B R3 RB T
        have L := L_; clear L_
        have R1 := R1_; clear R1_
        have RL := RL_; clear RL_
        have B := B_; clear B_
        have R3 := R3_; clear R3_
        have RB := RB_; clear RB_
        have T := T_; clear T_
        clear h0 h
        have cB0 : World.cell? w6 ⟨gB, 0, none⟩ = some (.int .i64 s.cells) := blkCell B.out 0
        have cB1 : World.cell? w6 ⟨gB, 1, none⟩ = some (.int .i64 s.rows) := blkCell B.out 1
        have cB2 : World.cell? w6 ⟨gB, 2, none⟩ = some (.float .f32 s.sl) := blkCell B.out 2
        have cB3 : World.cell? w6 ⟨gB, 3, none⟩ = some (.float .f32 s.le) := blkCell B.out 3
        have cB4 : World.cell? w6 ⟨gB, 4, none⟩ = some (.float .f32 s.sa) := blkCell B.out 4
        have cB5 : World.cell? w6 ⟨gB, 5, none⟩ = some (.slice A1 s.log.length c1) := blkCell B.out 5
        have cT0 : World.cell? w6 ⟨gT, 0, none⟩ = some (.int .i64 t.cells) := blkCell T.out 0
        have cT1 : World.cell? w6 ⟨gT, 1, none⟩ = some (.int .i64 t.rows) := blkCell T.out 1
        have cT2 : World.cell? w6 ⟨gT, 2, none⟩ = some (.float .f32 t.sl) := blkCell T.out 2
        have cT3 : World.cell? w6 ⟨gT, 3, none⟩ = some (.float .f32 t.le) := blkCell T.out 3
        have cT4 : World.cell? w6 ⟨gT, 4, none⟩ = some (.float .f32 t.sa) := blkCell T.out 4
        have cT5 : World.cell? w6 ⟨gT, 5, none⟩ = some (.slice A3 t.log.length c3) := blkCell T.out 5
        rw [HRT.out] at hR6
        rw [HRT.out]
        simp only [Option.getD_some, Option.isSome_some] at hR6
        simp only [Option.getD_some, Option.isSome_some]
        have R6 := Az.mk (own_weak hR6 s6)
        clear hR6
        obtain ⟨A5, c5, rfl, _⟩ := own_sl R6.out
        go_wp2_with (first | ((with_reducible refine gateN 9 rfl ?_); go_must (refine ev_al 9 rfl rfl #[.int .i64 0, .int .i64 0, .float .f32 0, .float .f32 0, .float .f32 0, .slice none 0 0] 28 ?hr ?_; (case hr => first | (go_simp; done) | (go_simp; rfl)); intro gX heX W5 hbX h; have hgX : w.heap.size ≤ gX := Nat.le_trans L.out.size heX; have hlXR1 := Az.mk (own_lows R1.out heX); have hlXRL := Az.mk (own_lows RL.out heX); have hgXB : gB < gX := Nat.lt_of_lt_of_le (blkLt B.out) heX; have hlXR3 := Az.mk (own_lows R3.out heX); have hlXRB := Az.mk (own_lows RB.out heX); have hgXT : gT < gX := Nat.lt_of_lt_of_le (blkLt T.out) heX; have hlXR6 := Az.mk (own_lows R6.out heX); clear heX; have h0 : World.grownBy w6 W5 none := (by refine World.grownBy.trans ?_ h; repeat (first | exact gr_refl _ _ | apply gr_drewN | apply gr_drew | apply gr_alloc)); clear cB0 cB1 cB2 cB3 cB4 cB5 cT0 cT1 cT2 cT3 cT4 cT5; have L_ := Az.mk (gr_new L.out h0 (by first | (simp; done) | (simp; omega) | omega)); have R1_ := Az.mk (own_gr R1.out h0 (by first | exact own_none _ | exact .inr hl?R1.out | exact .inr (own_blk R1.out B.out (by decide)) | exact .inr (own_blk R1.out T.out (by decide)))); have RL_ := Az.mk (own_gr RL.out h0 (by first | exact own_none _ | exact .inr hl?RL.out | exact .inr (own_blk RL.out B.out (by decide)) | exact .inr (own_blk RL.out T.out (by decide)))); have B_ := Az.mk (blkGr B.out h0 (by first | (simp; done) | (simp; omega) | omega)); have R3_ := Az.mk (own_gr R3.out h0 (by first | exact own_none _ | exact .inr hl?R3.out | exact .inr (own_blk R3.out B.out (by decide)) | exact .inr (own_blk R3.out T.out (by decide)))); have RB_ := Az.mk (own_gr RB.out h0 (by first | exact own_none _ | exact .inr hl?RB.out | exact .inr (own_blk RB.out B.out (by decide)) | exact .inr (own_blk RB.out T.out (by decide)))); have T_ := Az.mk (blkGr T.out h0 (by first | (simp; done) | (simp; omega) | omega)); have R6_ := Az.mk (own_gr R6.out h0 (by first | exact own_none _ | exact .inr hl?R6.out | exact .inr (own_blk R6.out B.out (by decide)) | exact .inr (own_blk R6.out T.out (by decide)))); clear L R1 RL B R3 RB T R6; have L := L_; clear L_; have R1 := R1_; clear R1_; have RL := RL_; clear RL_; have B := B_; clear B_; have R3 := R3_; clear R3_; have RB := RB_; clear RB_; have T := T_; clear T_; have R6 := R6_; clear R6_; clear h0 h; have X := Az.mk hbX; clear hbX; have cB0 : World.cell? W5 ⟨gB, 0, none⟩ = some (.int .i64 s.cells) := blkCell B.out 0; have cB1 : World.cell? W5 ⟨gB, 1, none⟩ = some (.int .i64 s.rows) := blkCell B.out 1; have cB2 : World.cell? W5 ⟨gB, 2, none⟩ = some (.float .f32 s.sl) := blkCell B.out 2; have cB3 : World.cell? W5 ⟨gB, 3, none⟩ = some (.float .f32 s.le) := blkCell B.out 3; have cB4 : World.cell? W5 ⟨gB, 4, none⟩ = some (.float .f32 s.sa) := blkCell B.out 4; have cB5 : World.cell? W5 ⟨gB, 5, none⟩ = some (.slice A1 s.log.length c1) := blkCell B.out 5; have cT0 : World.cell? W5 ⟨gT, 0, none⟩ = some (.int .i64 t.cells) := blkCell T.out 0; have cT1 : World.cell? W5 ⟨gT, 1, none⟩ = some (.int .i64 t.rows) := blkCell T.out 1; have cT2 : World.cell? W5 ⟨gT, 2, none⟩ = some (.float .f32 t.sl) := blkCell T.out 2; have cT3 : World.cell? W5 ⟨gT, 3, none⟩ = some (.float .f32 t.le) := blkCell T.out 3; have cT4 : World.cell? W5 ⟨gT, 4, none⟩ = some (.float .f32 t.sa) := blkCell T.out 4; have cT5 : World.cell? W5 ⟨gT, 5, none⟩ = some (.slice A3 t.log.length c3) := blkCell T.out 5; have cX0 : World.cell? W5 ⟨gX, 0, none⟩ = some (.int .i64 0) := blkCell X.out 0; have cX1 : World.cell? W5 ⟨gX, 1, none⟩ = some (.int .i64 0) := blkCell X.out 1; have cX2 : World.cell? W5 ⟨gX, 2, none⟩ = some (.float .f32 0) := blkCell X.out 2; have cX3 : World.cell? W5 ⟨gX, 3, none⟩ = some (.float .f32 0) := blkCell X.out 3; have cX4 : World.cell? W5 ⟨gX, 4, none⟩ = some (.float .f32 0) := blkCell X.out 4; have cX5 : World.cell? W5 ⟨gX, 5, none⟩ = some (.slice none 0 0) := blkCell X.out 5)) | ((with_reducible refine gateSt 9 rfl ?_); go_must (refine ev_st rfl rfl rfl (cs := #[.int .i64 t.cells, .int .i64 t.rows, .float .f32 t.sl, .float .f32 t.le, .float .f32 t.sa, .slice A5 t.log.length c5]) rfl rfl X.out (by kernel_rfl) rfl (by simp [Value.oneCell']) ?_; intro W6 hbX h; have h0 : World.grownBy W5 W6 (some gX) := (by refine World.grownBy.trans ?_ h; repeat (first | exact gr_refl _ _ | apply gr_drewN | apply gr_drew | apply gr_alloc)); clear cB0 cB1 cB2 cB3 cB4 cB5 cT0 cT1 cT2 cT3 cT4 cT5 cX0 cX1 cX2 cX3 cX4 cX5; have L_ := Az.mk (gr_new L.out h0 (by first | (simp; done) | (simp; omega) | omega)); have R1_ := Az.mk (own_gr R1.out h0 (by first | exact own_none _ | exact .inr hlXR1.out | exact .inr (own_blk R1.out B.out (by decide)) | exact .inr (own_blk R1.out T.out (by decide)) | exact .inr (own_blk R1.out X.out (by decide)))); have RL_ := Az.mk (own_gr RL.out h0 (by first | exact own_none _ | exact .inr hlXRL.out | exact .inr (own_blk RL.out B.out (by decide)) | exact .inr (own_blk RL.out T.out (by decide)) | exact .inr (own_blk RL.out X.out (by decide)))); have B_ := Az.mk (blkGr B.out h0 (by first | (simp; done) | (simp; omega) | omega)); have R3_ := Az.mk (own_gr R3.out h0 (by first | exact own_none _ | exact .inr hlXR3.out | exact .inr (own_blk R3.out B.out (by decide)) | exact .inr (own_blk R3.out T.out (by decide)) | exact .inr (own_blk R3.out X.out (by decide)))); have RB_ := Az.mk (own_gr RB.out h0 (by first | exact own_none _ | exact .inr hlXRB.out | exact .inr (own_blk RB.out B.out (by decide)) | exact .inr (own_blk RB.out T.out (by decide)) | exact .inr (own_blk RB.out X.out (by decide)))); have T_ := Az.mk (blkGr T.out h0 (by first | (simp; done) | (simp; omega) | omega)); have R6_ := Az.mk (own_gr R6.out h0 (by first | exact own_none _ | exact .inr hlXR6.out | exact .inr (own_blk R6.out B.out (by decide)) | exact .inr (own_blk R6.out T.out (by decide)) | exact .inr (own_blk R6.out X.out (by decide)))); clear L R1 RL B R3 RB T R6; have L := L_; clear L_; have R1 := R1_; clear R1_; have RL := RL_; clear RL_; have B := B_; clear B_; have R3 := R3_; clear R3_; have RB := RB_; clear RB_; have T := T_; clear T_; have R6 := R6_; clear R6_; clear h0 h; clear X; have X := Az.mk hbX; clear hbX; have cB0 : World.cell? W6 ⟨gB, 0, none⟩ = some (.int .i64 s.cells) := blkCell B.out 0; have cB1 : World.cell? W6 ⟨gB, 1, none⟩ = some (.int .i64 s.rows) := blkCell B.out 1; have cB2 : World.cell? W6 ⟨gB, 2, none⟩ = some (.float .f32 s.sl) := blkCell B.out 2; have cB3 : World.cell? W6 ⟨gB, 3, none⟩ = some (.float .f32 s.le) := blkCell B.out 3; have cB4 : World.cell? W6 ⟨gB, 4, none⟩ = some (.float .f32 s.sa) := blkCell B.out 4; have cB5 : World.cell? W6 ⟨gB, 5, none⟩ = some (.slice A1 s.log.length c1) := blkCell B.out 5; have cT0 : World.cell? W6 ⟨gT, 0, none⟩ = some (.int .i64 t.cells) := blkCell T.out 0; have cT1 : World.cell? W6 ⟨gT, 1, none⟩ = some (.int .i64 t.rows) := blkCell T.out 1; have cT2 : World.cell? W6 ⟨gT, 2, none⟩ = some (.float .f32 t.sl) := blkCell T.out 2; have cT3 : World.cell? W6 ⟨gT, 3, none⟩ = some (.float .f32 t.le) := blkCell T.out 3; have cT4 : World.cell? W6 ⟨gT, 4, none⟩ = some (.float .f32 t.sa) := blkCell T.out 4; have cT5 : World.cell? W6 ⟨gT, 5, none⟩ = some (.slice A3 t.log.length c3) := blkCell T.out 5; have cX0 : World.cell? W6 ⟨gX, 0, none⟩ = some (.int .i64 t.cells) := blkCell X.out 0; have cX1 : World.cell? W6 ⟨gX, 1, none⟩ = some (.int .i64 t.rows) := blkCell X.out 1; have cX2 : World.cell? W6 ⟨gX, 2, none⟩ = some (.float .f32 t.sl) := blkCell X.out 2; have cX3 : World.cell? W6 ⟨gX, 3, none⟩ = some (.float .f32 t.le) := blkCell X.out 3; have cX4 : World.cell? W6 ⟨gX, 4, none⟩ = some (.float .f32 t.sa) := blkCell X.out 4; have cX5 : World.cell? W6 ⟨gX, 5, none⟩ = some (.slice A5 t.log.length c5) := blkCell X.out 5)) | ((with_reducible refine gateN 74 rfl ?_); go_must (refine stripG (by first | rfl | (simp [Region.wanted, yielded]; done) | (simp [Region.wanted, yielded]; omega)) ?_; refine ev_ld 74 rfl rfl rfl (cs := #[.int .i64 t.cells, .int .i64 t.rows, .float .f32 t.sl, .float .f32 t.le, .float .f32 t.sa, .slice A5 t.log.length c5]) rfl X.out Tryd.underlying28 rfl (by kernel_rfl) ?_)) | ((with_reducible refine gateN 75 rfl ?_); go_must (refine stripG (by first | rfl | (simp [Region.wanted, yielded]; done) | (simp [Region.wanted, yielded]; omega)) ?_; refine ev_ld 75 rfl rfl rfl (cs := #[.int .i64 t.cells, .int .i64 t.rows, .float .f32 t.sl, .float .f32 t.le, .float .f32 t.sa, .slice A3 t.log.length c3]) rfl T.out Tryd.underlying28 rfl (by kernel_rfl) ?_)))
        refine (sameSet_ok t A5 A3 t.log.length c5 c3 _ rfl (own_rdS R6.out) (own_rdS R3.out)).mono ?_
        rintro e w7 ⟨rfl, h⟩
        have h0 : World.grownBy W6 w7 _ := (by refine World.grownBy.trans ?_ h; repeat (first | exact gr_refl _ _ | apply gr_drewN | apply gr_drew | apply gr_alloc))
        clear cB0 cB1 cB2 cB3 cB4 cB5 cT0 cT1 cT2 cT3 cT4 cT5 cX0 cX1 cX2 cX3 cX4 cX5
        have L_ := Az.mk (gr_new L.out h0 (by first | (simp; done) | (simp; omega) | omega))
        have R1_ := Az.mk (own_gr R1.out h0 (by first | exact own_none _ | exact .inr hl?R1.out | exact .inr (own_blk R1.out B.out (by decide)) | exact .inr (own_blk R1.out T.out (by decide)) | exact .inr (own_blk R1.out X.out (by decide))))
        have RL_ := Az.mk (own_gr RL.out h0 (by first | exact own_none _ | exact .inr hl?RL.out | exact .inr (own_blk RL.out B.out (by decide)) | exact .inr (own_blk RL.out T.out (by decide)) | exact .inr (own_blk RL.out X.out (by decide))))
        have B_ := Az.mk (blkGr B.out h0 (by first | (simp; done) | (simp; omega) | omega))
        have R3_ := Az.mk (own_gr R3.out h0 (by first | exact own_none _ | exact .inr hl?R3.out | exact .inr (own_blk R3.out B.out (by decide)) | exact .inr (own_blk R3.out T.out (by decide)) | exact .inr (own_blk R3.out X.out (by decide))))
        have RB_ := Az.mk (own_gr RB.out h0 (by first | exact own_none _ | exact .inr hl?RB.out | exact .inr (own_blk RB.out B.out (by decide)) | exact .inr (own_blk RB.out T.out (by decide)) | exact .inr (own_blk RB.out X.out (by decide))))
        have T_ := Az.mk (blkGr T.out h0 (by first | (simp; done) | (simp; omega) | omega))
        have R6_ := Az.mk (own_gr R6.out h0 (by first | exact own_none _ | exact .inr hl?R6.out | exact .inr (own_blk R6.out B.out (by decide)) | exact .inr (own_blk R6.out T.out (by decide)) | exact .inr (own_blk R6.out X.out (by decide))))
        have X_ := Az.mk (blkGr X.out h0 (by first | (simp; done) | (simp; omega) | omega))
        clear L R1 RL B R3 RB T R6 X
        have L := L_; clear L_
        have R1 := R1_; clear R1_
        have RL := RL_; clear RL_
        have B := B_; clear B_
        have R3 := R3_; clear R3_
        have RB := RB_; clear RB_
        have T := T_; clear T_
        have R6 := R6_; clear R6_
        have X := X_; clear X_
        clear h0 h
        have cB0 : World.cell? w7 ⟨gB, 0, none⟩ = some (.int .i64 s.cells) := blkCell B.out 0
        have cB1 : World.cell? w7 ⟨gB, 1, none⟩ = some (.int .i64 s.rows) := blkCell B.out 1
        have cB2 : World.cell? w7 ⟨gB, 2, none⟩ = some (.float .f32 s.sl) := blkCell B.out 2
        have cB3 : World.cell? w7 ⟨gB, 3, none⟩ = some (.float .f32 s.le) := blkCell B.out 3
        have cB4 : World.cell? w7 ⟨gB, 4, none⟩ = some (.float .f32 s.sa) := blkCell B.out 4
        have cB5 : World.cell? w7 ⟨gB, 5, none⟩ = some (.slice A1 s.log.length c1) := blkCell B.out 5
        have cT0 : World.cell? w7 ⟨gT, 0, none⟩ = some (.int .i64 t.cells) := blkCell T.out 0
        have cT1 : World.cell? w7 ⟨gT, 1, none⟩ = some (.int .i64 t.rows) := blkCell T.out 1
        have cT2 : World.cell? w7 ⟨gT, 2, none⟩ = some (.float .f32 t.sl) := blkCell T.out 2
        have cT3 : World.cell? w7 ⟨gT, 3, none⟩ = some (.float .f32 t.le) := blkCell T.out 3
        have cT4 : World.cell? w7 ⟨gT, 4, none⟩ = some (.float .f32 t.sa) := blkCell T.out 4
        have cT5 : World.cell? w7 ⟨gT, 5, none⟩ = some (.slice A3 t.log.length c3) := blkCell T.out 5
        have cX0 : World.cell? w7 ⟨gX, 0, none⟩ = some (.int .i64 t.cells) := blkCell X.out 0
        have cX1 : World.cell? w7 ⟨gX, 1, none⟩ = some (.int .i64 t.rows) := blkCell X.out 1
        have cX2 : World.cell? w7 ⟨gX, 2, none⟩ = some (.float .f32 t.sl) := blkCell X.out 2
        have cX3 : World.cell? w7 ⟨gX, 3, none⟩ = some (.float .f32 t.le) := blkCell X.out 3
        have cX4 : World.cell? w7 ⟨gX, 4, none⟩ = some (.float .f32 t.sa) := blkCell X.out 4
        have cX5 : World.cell? w7 ⟨gX, 5, none⟩ = some (.slice A5 t.log.length c5) := blkCell X.out 5
        go_wp2_with fail
        go_ret
        exact ⟨rfl, L.out⟩
end Go.Proofs.YtfjafeepmpnegaaDoor
