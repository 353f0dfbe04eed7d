/- Contracts of impl.mod4, Carried, conj, encoded, EncodeCells, decoded. No condition. -/
import Derived.Test.YtjomilloilbcgaaC4
namespace Go.Proofs.Ytjomilloilbcgaa
open Go.RowKit
set_option linter.unusedVariables false
set_option linter.unusedSimpArgs false

def carN (n : Nat) (p q : F32) : F32 := match n with | 0 => p | 1 => fneg q | 2 => fneg p | _ => q
theorem mod4_c (n : Nat) (hn : n < 4) (w : World) : Calls Try.prog 90 #[.int .i64 n] w (fun e w' => e = .returned (.int .i64 n) ∧ w.grownBy w' none) := by
  have L := Az.mk (gr_refl w none)
  rcases (show n = 0 ∨ n = 1 ∨ n = 2 ∨ n = 3 by omega) with rfl | rfl | rfl | rfl
  all_goals
    go_enter Try.func90, Try.ntmps90
    go_wp2
    go_ret
    exact ⟨rfl, L.out⟩
theorem Carried_c (a b : Nat) (n : Nat) (hn : n < 4) (w : World) : Calls Try.prog 60 #[.complex .f32 a b, .int .i64 n] w (RetFl w (carN n (fN .f32 a) (fN .f32 b))) := by
  have L := Az.mk (gr_refl w none)
  rcases (show n = 0 ∨ n = 1 ∨ n = 2 ∨ n = 3 by omega) with rfl | rfl | rfl | rfl
  · go_enter Try.func60, Try.ntmps60
    go_wp2_with fail
    refine (mod4_c 0 (by omega) _).mono ?_
    rintro e w1 ⟨rfl, h⟩
    have h0 : World.grownBy w w1 _ := (by refine World.grownBy.trans ?_ h; repeat (first | exact gr_refl _ _ | apply gr_drewN | apply gr_drew | apply gr_alloc))
    have L_ := Az.mk (gr_new L.out h0 (by first | (simp; done) | (simp; omega) | omega))
    clear L
    have L := L_; clear L_
    clear h0 h
    go_wp2_with fail
    go_ret
    exact ⟨_, by simp only [carN], rfl, L.out⟩
  · go_enter Try.func60, Try.ntmps60
    go_wp2_with fail
    refine (mod4_c 1 (by omega) _).mono ?_
    rintro e w1 ⟨rfl, h⟩
    have h0 : World.grownBy w w1 _ := (by refine World.grownBy.trans ?_ h; repeat (first | exact gr_refl _ _ | apply gr_drewN | apply gr_drew | apply gr_alloc))
    have L_ := Az.mk (gr_new L.out h0 (by first | (simp; done) | (simp; omega) | omega))
    clear L
    have L := L_; clear L_
    clear h0 h
    go_wp2_with fail
    go_ret
    exact ⟨_, by simp only [carN]; rw [fN_neg]; rfl, rfl, L.out⟩
  · go_enter Try.func60, Try.ntmps60
    go_wp2_with fail
    refine (mod4_c 2 (by omega) _).mono ?_
    rintro e w1 ⟨rfl, h⟩
    have h0 : World.grownBy w w1 _ := (by refine World.grownBy.trans ?_ h; repeat (first | exact gr_refl _ _ | apply gr_drewN | apply gr_drew | apply gr_alloc))
    have L_ := Az.mk (gr_new L.out h0 (by first | (simp; done) | (simp; omega) | omega))
    clear L
    have L := L_; clear L_
    clear h0 h
    go_wp2_with fail
    go_ret
    exact ⟨_, by simp only [carN]; rw [fN_neg]; rfl, rfl, L.out⟩
  · go_enter Try.func60, Try.ntmps60
    go_wp2_with fail
    refine (mod4_c 3 (by omega) _).mono ?_
    rintro e w1 ⟨rfl, h⟩
    have h0 : World.grownBy w w1 _ := (by refine World.grownBy.trans ?_ h; repeat (first | exact gr_refl _ _ | apply gr_drewN | apply gr_drew | apply gr_alloc))
    have L_ := Az.mk (gr_new L.out h0 (by first | (simp; done) | (simp; omega) | omega))
    clear L
    have L := L_; clear L_
    clear h0 h
    go_wp2_with fail
    go_ret
    exact ⟨_, by simp only [carN], rfl, L.out⟩
theorem conj_c (a b : Nat) (w : World) : Calls Try.prog 87 #[.complex .f32 a b] w (RetCx w (fN .f32 a) (fneg (fN .f32 b))) := by
  have L := Az.mk (gr_refl w none)
  go_enter Try.func87, Try.ntmps87
  go_wp2_with fail
  go_ret
  exact ⟨_, _, rfl, by rw [fN_neg]; rfl, rfl, L.out⟩

def conjN (odd : Bool) (q : F32) : F32 := if odd then fneg q else q
def sampN (odd : Bool) (n : Nat) (y u v : F32) : F32 := fadd y (carN n u (conjN odd v))
def cellS (odd : Bool) (c : Nat × Nat × Nat) : List F32 := [sampN odd 0 (fN .f32 c.1) (fN .f32 c.2.1) (fN .f32 c.2.2), sampN odd 1 (fN .f32 c.1) (fN .f32 c.2.1) (fN .f32 c.2.2), sampN odd 2 (fN .f32 c.1) (fN .f32 c.2.1) (fN .f32 c.2.2), sampN odd 3 (fN .f32 c.1) (fN .f32 c.2.1) (fN .f32 c.2.2)]
def encN (odd : Bool) (cs : List (Nat × Nat × Nat)) : List F32 := cs.flatMap (cellS odd)
theorem cellS_len (odd : Bool) (c : Nat × Nat × Nat) : (cellS odd c).length = 4 := rfl
theorem encN_len (odd : Bool) (cs : List (Nat × Nat × Nat)) : (encN odd cs).length = 4 * cs.length := by
  induction cs with
  | nil => rfl
  | cons c cs ih => simp only [encN, List.flatMap_cons, List.length_append, cellS_len, List.length_cons] at *; omega
theorem encN_take (odd : Bool) (cs : List (Nat × Nat × Nat)) (k : Nat) (hk : k < cs.length) : encN odd (cs.take (k + 1)) = encN odd (cs.take k) ++ cellS odd cs[k] := by
  simp only [encN]; rw [List.take_succ_eq_append_getElem hk, List.flatMap_append]; simp
theorem cellS_take (odd : Bool) (c : Nat × Nat × Nat) (j : Nat) (hj : j < 4) : (cellS odd c).take (j + 1) = (cellS odd c).take j ++ [sampN odd j (fN .f32 c.1) (fN .f32 c.2.1) (fN .f32 c.2.2)] := by
  rcases (show j = 0 ∨ j = 1 ∨ j = 2 ∨ j = 3 by omega) with rfl | rfl | rfl | rfl <;> rfl
def flV (bs : List Nat) : List Value := bs.map (.float .f32)
theorem flV_snoc (bs : List Nat) (b : Nat) : flV (bs ++ [b]) = flV bs ++ [.float .f32 b] := by simp [flV]
/-- A list of floats of the call's own, told up to NaN. -/
def RetFls (w : World) (fs : List F32) (e : Ending) (w' : World) : Prop := ∃ v bs, bs.map (fN .f32) = fs ∧ e = .returned v ∧ w'.ownsRow w.heap.size 25 1 v bs.length (flV bs) ∧ w.grownBy w' none

set_option maxHeartbeats 2000000 in
theorem encoded_true (A : Option Addr) (n c : Nat) (cs : List (Nat × Nat × Nat)) (w : World) (hn : cs.length = n) (h64 : n ≤ 64) (hrd : Rd w A n 2 (cellsV cs)) :
    Calls Try.prog 55 #[.slice A n c, .bool true] w (RetFls w (encN true cs)) := by
  have L := Az.mk (gr_refl w none)
  have HR := Az.mk hrd
  have HN := Az.mk hn
  have R := Az.mk (own_nil w w.heap.size 25 1)
  clear hrd hn
  go_enter Try.func55, Try.ntmps55
  go_wp2_with fail
  go_loopw [5, 12] (fun o i wr => ∃ bs, ∃ k : Nat, i = .int .i64 k ∧ k ≤ n ∧ bs.length ≤ 4 * k ∧ Az (bs.length = 4 * k) ∧ Az (bs.map (fN .f32) = encN true (cs.take k)) ∧ Az (w.grownBy wr none) ∧ Az (wr.ownsRow w.heap.size 25 1 o bs.length (flV bs))) (fun _ i _ => n - (intOf i).toNat)
  case atStart => exact ⟨[], 0, by go_num, by omega, by simp, ⟨rfl⟩, ⟨rfl⟩, L, R⟩
  case round =>
    clear L R
    obtain ⟨bs, k, rfl, hkn, hbl, HBL, HB, L, R⟩ := hrel
    by_cases hk : k < n
    · have hkc : k < cs.length := by rw [HN.out]; exact hk
      obtain ⟨b, off, rfl, hcell⟩ := (HR.out.up L.out).2.2 (by omega)
      have hc1 := (Rd.cellAt hcell k hkc).1
      have hc2 := (Rd.cellAt hcell k hkc).2
      clear hcell
      go_wp2_with (first | ((with_reducible refine gateN 7 rfl ?_); go_must (refine ev_al 7 rfl rfl #[.float .f32 0, .complex .f32 0 0] 49 ?hr ?_; (case hr => first | (go_simp; done) | (go_simp; rfl)); intro gX heX W1 hbX h; have hgX : w.heap.size ≤ gX := Nat.le_trans L.out.size heX; have hlXR := Az.mk (own_lows R.out heX); clear heX; have h0 : World.grownBy wr W1 none := (by refine World.grownBy.trans ?_ h; repeat (first | exact gr_refl _ _ | apply gr_drewN | apply gr_drew | apply gr_alloc)); have L_ := Az.mk (gr_new L.out h0 (by first | (simp; done) | (simp; omega) | omega)); have R_ := Az.mk (own_gr R.out h0 (by first | exact own_none _ | exact .inr hl?R.out)); clear L R; have L := L_; clear L_; have R := R_; clear R_; clear h0 h; have X := Az.mk hbX; clear hbX; have cX0 : World.cell? W1 ⟨gX, 0, none⟩ = some (.float .f32 0) := blkCell X.out 0; have cX1 : World.cell? W1 ⟨gX, 1, none⟩ = some (.complex .f32 0 0) := blkCell X.out 1)) | ((with_reducible refine gateSt 7 rfl ?_); go_must (refine ev_st rfl rfl rfl (cs := #[.float .f32 cs[k].1, .complex .f32 cs[k].2.1 cs[k].2.2]) rfl rfl X.out (by kernel_rfl) rfl (by simp [Value.oneCell']) ?_; intro W2 hbX h; have h0 : World.grownBy W1 W2 (some gX) := (by refine World.grownBy.trans ?_ h; repeat (first | exact gr_refl _ _ | apply gr_drewN | apply gr_drew | apply gr_alloc)); clear cX0 cX1; have L_ := Az.mk (gr_new L.out h0 (by first | (simp; done) | (simp; omega) | omega)); have R_ := Az.mk (own_gr R.out h0 (by first | exact own_none _ | exact .inr hlXR.out | exact .inr (own_blk R.out X.out (by decide)))); clear L R; have L := L_; clear L_; have R := R_; clear R_; clear h0 h; clear X; have X := Az.mk hbX; clear hbX; have cX0 : World.cell? W2 ⟨gX, 0, none⟩ = some (.float .f32 cs[k].1) := blkCell X.out 0; have cX1 : World.cell? W2 ⟨gX, 1, none⟩ = some (.complex .f32 cs[k].2.1 cs[k].2.2) := blkCell X.out 1)))
      refine (conj_c _ _ _).mono ?_
      rintro e v1 ⟨p, q, hp, hq, rfl, h⟩
      have h0 : World.grownBy W2 v1 _ := (by refine World.grownBy.trans ?_ h; repeat (first | exact gr_refl _ _ | apply gr_drewN | apply gr_drew | apply gr_alloc))
      clear cX0 cX1
      have L_ := Az.mk (gr_new L.out h0 (by first | (simp; done) | (simp; omega) | omega))
      have R_ := Az.mk (own_gr R.out h0 (by first | exact own_none _ | exact .inr hl?R.out | exact .inr (own_blk R.out X.out (by decide))))
      have X_ := Az.mk (blkGr X.out h0 (by first | (simp; done) | (simp; omega) | omega))
      clear L R X
      have L := L_; clear L_
      have R := R_; clear R_
      have X := X_; clear X_
      clear h0 h
      have cX0 : World.cell? v1 ⟨gX, 0, none⟩ = some (.float .f32 cs[k].1) := blkCell X.out 0
      have cX1 : World.cell? v1 ⟨gX, 1, none⟩ = some (.complex .f32 cs[k].2.1 cs[k].2.2) := blkCell X.out 1
      have HP := Az.mk hp
      have HQ := Az.mk hq
      clear hp hq
      go_wp2_with fail
      go_loopw [5, 9] (fun o i wv => ∃ bs2, ∃ j : Nat, i = .int .i64 j ∧ j ≤ 4 ∧ bs2.length ≤ 4 * k + j ∧ Az (bs2.length = 4 * k + j) ∧ Az (bs2.map (fN .f32) = encN true (cs.take k) ++ (cellS true cs[k]).take j) ∧ Az (w.grownBy wv none) ∧ Az (wv.ownsRow w.heap.size 25 1 o bs2.length (flV bs2)) ∧ Az (wv.heap[gX]? = some (.cells #[.float .f32 cs[k].1, .complex .f32 cs[k].2.1 cs[k].2.2] 49 (0, 0)))) (fun _ i _ => 4 - (intOf i).toNat)
      case atStart => exact ⟨bs, 0, by go_num, by omega, by omega, ⟨HBL.out⟩, ⟨by rw [HB.out]; simp⟩, L, R, X⟩
      case round =>
        clear L R X HBL HB hbl cX0 cX1
        obtain ⟨bs2, j, rfl, hj4, hbl, HBL, HB, L, R, X⟩ := hrel
        have cX0 : World.cell? wr ⟨gX, 0, none⟩ = some (.float .f32 cs[k].1) := blkCell X.out 0
        have cX1 : World.cell? wr ⟨gX, 1, none⟩ = some (.complex .f32 cs[k].2.1 cs[k].2.2) := blkCell X.out 1
        by_cases hj : j < 4
        · go_wp2_with fail
          have uX0 : ∀ w1, Up wr w1 → w1.cell? ⟨gX, 0, none⟩ = some (.float .f32 cs[k].1) := fun w1 hu => blkCell (blkGr X.out hu (by simp)) 0
          have uX1 : ∀ w1, Up wr w1 → w1.cell? ⟨gX, 1, none⟩ = some (.complex .f32 cs[k].2.1 cs[k].2.2) := fun w1 hu => blkCell (blkGr X.out hu (by simp)) 1
          refine wp_region_rel 8 (fun _ _ v _ => ∃ u, fN .f32 u = carN j (fN .f32 p) (fN .f32 q) ∧ v = .float .f32 u) (by kernel_rfl) (by kernel_rfl) ?_
          simp only [List.take_succ_cons, List.take_zero, List.drop_succ_cons, List.drop_zero]
          repeat (first | ((with_reducible refine gateLexN 30 rfl ?_); go_must (refine lex_call rfl Try.func60 (by kernel_rfl) rfl #[.complex .f32 p q, .int .i64 j] rfl (by simp only [List.map_toArray, List.map_cons, List.map_nil]; rfl) (fun w1 hu => (Carried_c p q j (by omega) w1).mono ?_) ?_; (rintro e w2 ⟨u, h1, rfl, h⟩; exact ⟨_, rfl, h, u, h1, rfl⟩); rintro v ⟨w2, u, h1, rfl⟩; have HT := Az.mk h1; clear h1; refine lexK (fun K hK => ?_); go_simp; refine hK _ ?_; clear hK K)) | ((with_reducible refine gateLexN 31 rfl ?_); go_must (refine lex_fl rfl rfl rfl rfl rfl ?_; intro b31 hb31; have HF31 := Az.mk hb31; clear hb31; refine lexK (fun K hK => ?_); go_simp; refine hK _ ?_; clear hK K)) | ((with_reducible refine gateLexN 32 rfl ?_); go_must (refine lex_bs rfl #[.float .f32 b31] 25 1 (fun w1 hu => ?_) ?_; (focus (first | (go_simp; done) | (go_simp; rfl))); intro gN heN; have hgN : w.heap.size ≤ gN := Nat.le_trans L.out.size heN; clear heN; refine lexK (fun K hK => ?_); go_simp; refine hK _ ?_; clear hK K)) | (refine lex_val' rfl ?_; apply Exists.intro; refine ⟨fun w1 hu => ?_, ?_⟩; (focus (first | (go_simp; done) | (go_simp; rfl))); refine lexK (fun K hK => ?_); go_simp; refine hK _ ?_; clear hK K))
          refine lex_nil (fun W3 h hF => ?_)
          clear uX0 uX1
          have h0 : World.grownBy wr W3 none := (by refine World.grownBy.trans ?_ h; repeat (first | exact gr_refl _ _ | apply gr_drewN | apply gr_drew | apply gr_alloc))
          clear cX0 cX1
          have L_ := Az.mk (gr_new L.out h0 (by first | (simp; done) | (simp; omega) | omega))
          have R_ := Az.mk (own_gr R.out h0 (by first | exact own_none _ | exact .inr hl?R.out | exact .inr (own_blk R.out X.out (by decide))))
          have X_ := Az.mk (blkGr X.out h0 (by first | (simp; done) | (simp; omega) | omega))
          clear L R X
          have L := L_; clear L_
          have R := R_; clear R_
          have X := X_; clear X_
          clear h0 h
          have N := Az.mk (show W3.heap[gN]? = some (.cells #[.float .f32 b31] _ (0, 0)) from by first | exact hF.2 | exact hF.1.2 | exact hF.1.1.2 | exact hF.1.1.1.2)
          clear hF
          have cX0 : World.cell? W3 ⟨gX, 0, none⟩ = some (.float .f32 cs[k].1) := blkCell X.out 0
          have cX1 : World.cell? W3 ⟨gX, 1, none⟩ = some (.complex .f32 cs[k].2.1 cs[k].2.2) := blkCell X.out 1
          have cN0 : World.cell? W3 ⟨gN, 0, none⟩ = some (.float .f32 b31) := blkCell N.out 0
          go_wp2_with (first | ((with_reducible refine gateN 33 rfl ?_); go_must (refine ev_app 33 rfl rfl rfl Try.underlying31 (z := .float .f32 0) (size := 1) (bytes := 4) (by kernel_rfl) rfl (by decide) rfl R.out rfl N.out rfl (by simp [Value.oneCell']) ?hbase ?hl ?hl2 ?_; (case hbase => have := L.out.size; omega); (case hl => omega); (case hl2 => omega); intro vR W4 hR h; have h0 : World.grownBy W3 W4 _ := (by refine World.grownBy.trans ?_ h; repeat (first | exact gr_refl _ _ | apply gr_drewN | apply gr_drew | apply gr_alloc)); clear cX0 cX1 cN0; have L_ := Az.mk (gr_new L.out h0 (fun j hj => .inl (own_base R.out j hj))); have X_ := Az.mk (blkGr X.out h0 (by first | exact fun he => own_blk R.out X.out (by decide) he.symm | exact fun he => hlXR.out he.symm | exact fun he => (by have := own_base R.out _ he.symm; omega))); clear L X; have L := L_; clear L_; have X := X_; clear X_; clear h0 h; clear R N; have R := Az.mk hR; clear hR; have cX0 : World.cell? W4 ⟨gX, 0, none⟩ = some (.float .f32 cs[k].1) := blkCell X.out 0; have cX1 : World.cell? W4 ⟨gX, 1, none⟩ = some (.complex .f32 cs[k].2.1 cs[k].2.2) := blkCell X.out 1)))
          refine ⟨⟨bs2 ++ [b31], j + 1, by go_num, by omega, by simp; omega, ⟨by have := HBL.out; simp; omega⟩, ⟨?_⟩, L, ⟨?_⟩, X⟩, by simp only [intOf]; omega⟩
          · rw [List.map_append, HB.out, cellS_take _ _ _ hj, List.append_assoc]
            simp only [List.map_cons, List.map_nil, sampN, conjN, HF31.out, HT.out, HP.out, HQ.out]
            rfl
          · rw [List.length_append, flV_snoc]; exact R.out
        · go_wp2_with fail
          have hj4 : j = 4 := by omega
          subst hj4
          refine ⟨⟨bs2, k + 1, by go_num, by omega, by omega, ⟨HBL.out⟩, ⟨?_⟩, L, R⟩, by simp only [intOf]; omega⟩
          rw [HB.out, encN_take _ _ _ hkc]
          rfl
    · go_wp2_with fail
      go_ret
      have hkn : k = cs.length := by have := HN.out; omega
      exact ⟨_, bs, by rw [HB.out, hkn, List.take_length], rfl, R.out, L.out⟩

set_option maxHeartbeats 2000000 in
theorem encoded_false (A : Option Addr) (n c : Nat) (cs : List (Nat × Nat × Nat)) (w : World) (hn : cs.length = n) (h64 : n ≤ 64) (hrd : Rd w A n 2 (cellsV cs)) :
    Calls Try.prog 55 #[.slice A n c, .bool false] w (RetFls w (encN false cs)) := by
  have L := Az.mk (gr_refl w none)
  have HR := Az.mk hrd
  have HN := Az.mk hn
  have R := Az.mk (own_nil w w.heap.size 25 1)
  clear hrd hn
  go_enter Try.func55, Try.ntmps55
  go_wp2_with fail
  go_loopw [5, 12] (fun o i wr => ∃ bs, ∃ k : Nat, i = .int .i64 k ∧ k ≤ n ∧ bs.length ≤ 4 * k ∧ Az (bs.length = 4 * k) ∧ Az (bs.map (fN .f32) = encN false (cs.take k)) ∧ Az (w.grownBy wr none) ∧ Az (wr.ownsRow w.heap.size 25 1 o bs.length (flV bs))) (fun _ i _ => n - (intOf i).toNat)
  case atStart => exact ⟨[], 0, by go_num, by omega, by simp, ⟨rfl⟩, ⟨rfl⟩, L, R⟩
  case round =>
    clear L R
    obtain ⟨bs, k, rfl, hkn, hbl, HBL, HB, L, R⟩ := hrel
    by_cases hk : k < n
    · have hkc : k < cs.length := by rw [HN.out]; exact hk
      obtain ⟨b, off, rfl, hcell⟩ := (HR.out.up L.out).2.2 (by omega)
      have hc1 := (Rd.cellAt hcell k hkc).1
      have hc2 := (Rd.cellAt hcell k hkc).2
      clear hcell
      go_wp2_with (first | ((with_reducible refine gateN 7 rfl ?_); go_must (refine ev_al 7 rfl rfl #[.float .f32 0, .complex .f32 0 0] 49 ?hr ?_; (case hr => first | (go_simp; done) | (go_simp; rfl)); intro gX heX W1 hbX h; have hgX : w.heap.size ≤ gX := Nat.le_trans L.out.size heX; have hlXR := Az.mk (own_lows R.out heX); clear heX; have h0 : World.grownBy wr W1 none := (by refine World.grownBy.trans ?_ h; repeat (first | exact gr_refl _ _ | apply gr_drewN | apply gr_drew | apply gr_alloc)); have L_ := Az.mk (gr_new L.out h0 (by first | (simp; done) | (simp; omega) | omega)); have R_ := Az.mk (own_gr R.out h0 (by first | exact own_none _ | exact .inr hl?R.out)); clear L R; have L := L_; clear L_; have R := R_; clear R_; clear h0 h; have X := Az.mk hbX; clear hbX; have cX0 : World.cell? W1 ⟨gX, 0, none⟩ = some (.float .f32 0) := blkCell X.out 0; have cX1 : World.cell? W1 ⟨gX, 1, none⟩ = some (.complex .f32 0 0) := blkCell X.out 1)) | ((with_reducible refine gateSt 7 rfl ?_); go_must (refine ev_st rfl rfl rfl (cs := #[.float .f32 cs[k].1, .complex .f32 cs[k].2.1 cs[k].2.2]) rfl rfl X.out (by kernel_rfl) rfl (by simp [Value.oneCell']) ?_; intro W2 hbX h; have h0 : World.grownBy W1 W2 (some gX) := (by refine World.grownBy.trans ?_ h; repeat (first | exact gr_refl _ _ | apply gr_drewN | apply gr_drew | apply gr_alloc)); clear cX0 cX1; have L_ := Az.mk (gr_new L.out h0 (by first | (simp; done) | (simp; omega) | omega)); have R_ := Az.mk (own_gr R.out h0 (by first | exact own_none _ | exact .inr hlXR.out | exact .inr (own_blk R.out X.out (by decide)))); clear L R; have L := L_; clear L_; have R := R_; clear R_; clear h0 h; clear X; have X := Az.mk hbX; clear hbX; have cX0 : World.cell? W2 ⟨gX, 0, none⟩ = some (.float .f32 cs[k].1) := blkCell X.out 0; have cX1 : World.cell? W2 ⟨gX, 1, none⟩ = some (.complex .f32 cs[k].2.1 cs[k].2.2) := blkCell X.out 1)))
      have hp : fN .f32 cs[k].2.1 = fN .f32 cs[k].2.1 := rfl
      have hq : fN .f32 cs[k].2.2 = fN .f32 cs[k].2.2 := rfl
      have HP := Az.mk hp
      have HQ := Az.mk hq
      clear hp hq
      go_loopw [5, 9] (fun o i wv => ∃ bs2, ∃ j : Nat, i = .int .i64 j ∧ j ≤ 4 ∧ bs2.length ≤ 4 * k + j ∧ Az (bs2.length = 4 * k + j) ∧ Az (bs2.map (fN .f32) = encN false (cs.take k) ++ (cellS false cs[k]).take j) ∧ Az (w.grownBy wv none) ∧ Az (wv.ownsRow w.heap.size 25 1 o bs2.length (flV bs2)) ∧ Az (wv.heap[gX]? = some (.cells #[.float .f32 cs[k].1, .complex .f32 cs[k].2.1 cs[k].2.2] 49 (0, 0)))) (fun _ i _ => 4 - (intOf i).toNat)
      case atStart => exact ⟨bs, 0, by go_num, by omega, by omega, ⟨HBL.out⟩, ⟨by rw [HB.out]; simp⟩, L, R, X⟩
      case round =>
        clear L R X HBL HB hbl cX0 cX1
        obtain ⟨bs2, j, rfl, hj4, hbl, HBL, HB, L, R, X⟩ := hrel
        have cX0 : World.cell? wr ⟨gX, 0, none⟩ = some (.float .f32 cs[k].1) := blkCell X.out 0
        have cX1 : World.cell? wr ⟨gX, 1, none⟩ = some (.complex .f32 cs[k].2.1 cs[k].2.2) := blkCell X.out 1
        by_cases hj : j < 4
        · go_wp2_with fail
          have uX0 : ∀ w1, Up wr w1 → w1.cell? ⟨gX, 0, none⟩ = some (.float .f32 cs[k].1) := fun w1 hu => blkCell (blkGr X.out hu (by simp)) 0
          have uX1 : ∀ w1, Up wr w1 → w1.cell? ⟨gX, 1, none⟩ = some (.complex .f32 cs[k].2.1 cs[k].2.2) := fun w1 hu => blkCell (blkGr X.out hu (by simp)) 1
          refine wp_region_rel 8 (fun _ _ v _ => ∃ u, fN .f32 u = carN j (fN .f32 cs[k].2.1) (fN .f32 cs[k].2.2) ∧ v = .float .f32 u) (by kernel_rfl) (by kernel_rfl) ?_
          simp only [List.take_succ_cons, List.take_zero, List.drop_succ_cons, List.drop_zero]
          repeat (first | ((with_reducible refine gateLexN 30 rfl ?_); go_must (refine lex_call rfl Try.func60 (by kernel_rfl) rfl #[.complex .f32 cs[k].2.1 cs[k].2.2, .int .i64 j] rfl (by simp only [List.map_toArray, List.map_cons, List.map_nil]; rfl) (fun w1 hu => (Carried_c cs[k].2.1 cs[k].2.2 j (by omega) w1).mono ?_) ?_; (rintro e w2 ⟨u, h1, rfl, h⟩; exact ⟨_, rfl, h, u, h1, rfl⟩); rintro v ⟨w2, u, h1, rfl⟩; have HT := Az.mk h1; clear h1; refine lexK (fun K hK => ?_); go_simp; refine hK _ ?_; clear hK K)) | ((with_reducible refine gateLexN 31 rfl ?_); go_must (refine lex_fl rfl rfl rfl rfl rfl ?_; intro b31 hb31; have HF31 := Az.mk hb31; clear hb31; refine lexK (fun K hK => ?_); go_simp; refine hK _ ?_; clear hK K)) | ((with_reducible refine gateLexN 32 rfl ?_); go_must (refine lex_bs rfl #[.float .f32 b31] 25 1 (fun w1 hu => ?_) ?_; (focus (first | (go_simp; done) | (go_simp; rfl))); intro gN heN; have hgN : w.heap.size ≤ gN := Nat.le_trans L.out.size heN; clear heN; refine lexK (fun K hK => ?_); go_simp; refine hK _ ?_; clear hK K)) | (refine lex_val' rfl ?_; apply Exists.intro; refine ⟨fun w1 hu => ?_, ?_⟩; (focus (first | (go_simp; done) | (go_simp; rfl))); refine lexK (fun K hK => ?_); go_simp; refine hK _ ?_; clear hK K))
          refine lex_nil (fun W3 h hF => ?_)
          clear uX0 uX1
          have h0 : World.grownBy wr W3 none := (by refine World.grownBy.trans ?_ h; repeat (first | exact gr_refl _ _ | apply gr_drewN | apply gr_drew | apply gr_alloc))
          clear cX0 cX1
          have L_ := Az.mk (gr_new L.out h0 (by first | (simp; done) | (simp; omega) | omega))
          have R_ := Az.mk (own_gr R.out h0 (by first | exact own_none _ | exact .inr hl?R.out | exact .inr (own_blk R.out X.out (by decide))))
          have X_ := Az.mk (blkGr X.out h0 (by first | (simp; done) | (simp; omega) | omega))
          clear L R X
          have L := L_; clear L_
          have R := R_; clear R_
          have X := X_; clear X_
          clear h0 h
          have N := Az.mk (show W3.heap[gN]? = some (.cells #[.float .f32 b31] _ (0, 0)) from by first | exact hF.2 | exact hF.1.2 | exact hF.1.1.2 | exact hF.1.1.1.2)
          clear hF
          have cX0 : World.cell? W3 ⟨gX, 0, none⟩ = some (.float .f32 cs[k].1) := blkCell X.out 0
          have cX1 : World.cell? W3 ⟨gX, 1, none⟩ = some (.complex .f32 cs[k].2.1 cs[k].2.2) := blkCell X.out 1
          have cN0 : World.cell? W3 ⟨gN, 0, none⟩ = some (.float .f32 b31) := blkCell N.out 0
          go_wp2_with (first | ((with_reducible refine gateN 33 rfl ?_); go_must (refine ev_app 33 rfl rfl rfl Try.underlying31 (z := .float .f32 0) (size := 1) (bytes := 4) (by kernel_rfl) rfl (by decide) rfl R.out rfl N.out rfl (by simp [Value.oneCell']) ?hbase ?hl ?hl2 ?_; (case hbase => have := L.out.size; omega); (case hl => omega); (case hl2 => omega); intro vR W4 hR h; have h0 : World.grownBy W3 W4 _ := (by refine World.grownBy.trans ?_ h; repeat (first | exact gr_refl _ _ | apply gr_drewN | apply gr_drew | apply gr_alloc)); clear cX0 cX1 cN0; have L_ := Az.mk (gr_new L.out h0 (fun j hj => .inl (own_base R.out j hj))); have X_ := Az.mk (blkGr X.out h0 (by first | exact fun he => own_blk R.out X.out (by decide) he.symm | exact fun he => hlXR.out he.symm | exact fun he => (by have := own_base R.out _ he.symm; omega))); clear L X; have L := L_; clear L_; have X := X_; clear X_; clear h0 h; clear R N; have R := Az.mk hR; clear hR; have cX0 : World.cell? W4 ⟨gX, 0, none⟩ = some (.float .f32 cs[k].1) := blkCell X.out 0; have cX1 : World.cell? W4 ⟨gX, 1, none⟩ = some (.complex .f32 cs[k].2.1 cs[k].2.2) := blkCell X.out 1)))
          refine ⟨⟨bs2 ++ [b31], j + 1, by go_num, by omega, by simp; omega, ⟨by have := HBL.out; simp; omega⟩, ⟨?_⟩, L, ⟨?_⟩, X⟩, by simp only [intOf]; omega⟩
          · rw [List.map_append, HB.out, cellS_take _ _ _ hj, List.append_assoc]
            simp only [List.map_cons, List.map_nil, sampN, conjN, HF31.out, HT.out, HP.out, HQ.out]
            rfl
          · rw [List.length_append, flV_snoc]; exact R.out
        · go_wp2_with fail
          have hj4 : j = 4 := by omega
          subst hj4
          refine ⟨⟨bs2, k + 1, by go_num, by omega, by omega, ⟨HBL.out⟩, ⟨?_⟩, L, R⟩, by simp only [intOf]; omega⟩
          rw [HB.out, encN_take _ _ _ hkc]
          rfl
    · go_wp2_with fail
      go_ret
      have hkn : k = cs.length := by have := HN.out; omega
      exact ⟨_, bs, by rw [HB.out, hkn, List.take_length], rfl, R.out, L.out⟩
theorem encoded_c (odd : Bool) (A : Option Addr) (n c : Nat) (cs : List (Nat × Nat × Nat)) (w : World) (hn : cs.length = n) (h64 : n ≤ 64) (hrd : Rd w A n 2 (cellsV cs)) :
    Calls Try.prog 55 #[.slice A n c, .bool odd] w (RetFls w (encN odd cs)) := by
  cases odd
  · exact encoded_false A n c cs w hn h64 hrd
  · exact encoded_true A n c cs w hn h64 hrd
def encRow (odd : Bool) (cs : List (Nat × Nat × Nat)) : List F32 := if rowOkI cs then encN odd cs else []
set_option maxHeartbeats 1000000 in
theorem EncodeCells_c (odd : Bool) (A : Option Addr) (n c : Nat) (cs : List (Nat × Nat × Nat)) (w : World) (hn : cs.length = n) (hrd : Rd w A n 2 (cellsV cs)) :
    Calls Try.prog 21 #[.slice A n c, .bool odd] w (RetFls w (encRow odd cs)) := by
  have L := Az.mk (gr_refl w none)
  have HR := Az.mk hrd
  have HN := Az.mk hn
  clear hrd hn
  go_enter Try.func21, Try.ntmps21
  go_wp2_with fail
  refine (RowOk_c A n c cs _ HN.out HR.out).mono ?_
  rintro e w1 ⟨rfl, h⟩
  have h0 : World.grownBy w w1 _ := (by refine World.grownBy.trans ?_ h; repeat (first | exact gr_refl _ _ | apply gr_drewN | apply gr_drew | apply gr_alloc))
  have L_ := Az.mk (gr_new L.out h0 (by first | (simp; done) | (simp; omega) | omega))
  clear L
  have L := L_; clear L_
  clear h0 h
  by_cases hok : rowOkI cs = true
  · have h64 : n ≤ 64 := by
      have := HN.out
      simp only [rowOkI, Bool.and_eq_true, decide_eq_true_eq] at hok; omega
    have HO := Az.mk hok
    have s1 := L.out.size
    rw [hok]; clear hok
    go_wp2_with fail
    refine (encoded_c odd A n c cs _ HN.out h64 (HR.out.up L.out)).mono ?_
    rintro e w2 ⟨v, bs, h1, rfl, hR, h⟩
    have h0 : World.grownBy w1 w2 _ := (by refine World.grownBy.trans ?_ h; repeat (first | exact gr_refl _ _ | apply gr_drewN | apply gr_drew | apply gr_alloc))
    have L_ := Az.mk (gr_new L.out h0 (by first | (simp; done) | (simp; omega) | omega))
    clear L
    have L := L_; clear L_
    clear h0 h
    have R := Az.mk hR; clear hR
    have H1 := Az.mk h1
    clear h1
    go_wp2_with fail
    go_ret
    exact ⟨_, bs, by rw [H1.out, encRow, HO.out]; rfl, rfl, own_weak R.out s1, L.out⟩
  · have hok' : rowOkI cs = false := by simpa using hok
    have HO := Az.mk hok'
    rw [hok']; clear hok hok'
    go_wp2_with fail
    go_ret
    exact ⟨_, [], by rw [encRow, HO.out]; rfl, rfl, own_nil _ _ _ _, L.out⟩

/-- What four samples tell of. -/
def decY (s t u v : F32) : F32 := fdiv (fadd (fadd (fadd s t) u) v) (fc 1082130432)
def decR (s u : F32) : F32 := fdiv (fsub s u) (fc 1073741824)
def decI (odd : Bool) (t v : F32) : F32 := conjN odd (fdiv (fsub v t) (fc 1073741824))
def RetDec (w : World) (p q r : F32) (e : Ending) (w' : World) : Prop := ∃ y u v : Nat, fN .f32 y = p ∧ fN .f32 u = q ∧ fN .f32 v = r ∧ e = .returned (.agg #[.float .f32 y, .complex .f32 u v]) ∧ w.grownBy w' none
set_option maxHeartbeats 1000000 in
theorem decoded_false (b off c s t u v : Nat) (w : World) (hrd : Rd w (some ⟨b, off, none⟩) 4 1 (flV [s, t, u, v])) :
    Calls Try.prog 59 #[.slice (some ⟨b, off, none⟩) 4 c, .bool false] w (RetDec w (decY (fN .f32 s) (fN .f32 t) (fN .f32 u) (fN .f32 v)) (decR (fN .f32 s) (fN .f32 u)) (decI false (fN .f32 t) (fN .f32 v))) := by
  have L := Az.mk (gr_refl w none)
  have HR := Az.mk hrd
  clear hrd
  go_enter Try.func59, Try.ntmps59
  go_wp2_with (first | ((with_reducible refine gateN 4 rfl ?_); go_must (refine ev_al 4 rfl rfl #[.float .f32 0, .complex .f32 0 0] 49 ?hr ?_; (case hr => first | (go_simp; done) | (go_simp; rfl)); intro gX heX W1 hbX h; have hgX : w.heap.size ≤ gX := Nat.le_trans L.out.size heX; clear heX; have h0 : World.grownBy w W1 none := (by refine World.grownBy.trans ?_ h; repeat (first | exact gr_refl _ _ | apply gr_drewN | apply gr_drew | apply gr_alloc)); have L_ := Az.mk (gr_new L.out h0 (by first | (simp; done) | (simp; omega) | omega)); clear L; have L := L_; clear L_; clear h0 h; have X := Az.mk hbX; clear hbX; have cX0 : World.cell? W1 ⟨gX, 0, none⟩ = some (.float .f32 0) := blkCell X.out 0; have cX1 : World.cell? W1 ⟨gX, 1, none⟩ = some (.complex .f32 0 0) := blkCell X.out 1)))
  have rd := (HR.out.up L.out).2.2 (by omega)
  obtain ⟨b', off', e, hcell⟩ := rd
  injection e with e
  injection e with e1 e2
  subst e1; subst e2
  have d0 := hcell 0 _ rfl
  have d1 := hcell 1 _ rfl
  have d2 := hcell 2 _ rfl
  have d3 := hcell 3 _ rfl
  clear hcell
  simp only [Nat.add_zero] at d0
  go_wp2_with fail
  have v0 : ∀ w1, Up W1 w1 → w1.cell? ⟨b, off, none⟩ = some (.float .f32 s) := fun w1 hu => cellGr hu d0 (by simp)
  have v1 : ∀ w1, Up W1 w1 → w1.cell? ⟨b, off + 1, none⟩ = some (.float .f32 t) := fun w1 hu => cellGr hu d1 (by simp)
  have v2 : ∀ w1, Up W1 w1 → w1.cell? ⟨b, off + 2, none⟩ = some (.float .f32 u) := fun w1 hu => cellGr hu d2 (by simp)
  have v3 : ∀ w1, Up W1 w1 → w1.cell? ⟨b, off + 3, none⟩ = some (.float .f32 v) := fun w1 hu => cellGr hu d3 (by simp)
  have uX0 : ∀ w1, Up W1 w1 → w1.cell? ⟨gX, 0, none⟩ = some (.float .f32 0) := fun w1 hu => blkCell (blkGr X.out hu (by simp)) 0
  have uX1 : ∀ w1, Up W1 w1 → w1.cell? ⟨gX, 1, none⟩ = some (.complex .f32 0 0) := fun w1 hu => blkCell (blkGr X.out hu (by simp)) 1
  refine wp_region_relF (fun _ _ _ _ => True) (by kernel_rfl) (by kernel_rfl) ?_
  repeat (first | (refine lex_val' rfl ?_; apply Exists.intro; refine ⟨fun w1 hu => ?_, ?_⟩; (focus (first | (go_simp; done) | (go_simp; rfl))); refine lexK (fun K hK => ?_); go_simp; refine hK _ ?_; clear hK K))
  refine lex_nil (fun W2 h hF => ?_)
  clear uX0 uX1
  have h0 : World.grownBy W1 W2 none := (by refine World.grownBy.trans ?_ h; repeat (first | exact gr_refl _ _ | apply gr_drewN | apply gr_drew | apply gr_alloc))
  clear cX0 cX1
  have L_ := Az.mk (gr_new L.out h0 (by first | (simp; done) | (simp; omega) | omega))
  have X_ := Az.mk (blkGr X.out h0 (by first | (simp; done) | (simp; omega) | omega))
  clear L X
  have L := L_; clear L_
  have X := X_; clear X_
  clear h0 h
  clear hF
  have cX0 : World.cell? W2 ⟨gX, 0, none⟩ = some (.float .f32 0) := blkCell X.out 0
  have cX1 : World.cell? W2 ⟨gX, 1, none⟩ = some (.complex .f32 0 0) := blkCell X.out 1
  clear v0 v1 v2 v3 d0 d1 d2 d3
  go_wp2_with (first | ((with_reducible refine gateN 25 rfl ?_); go_must (refine ev_fl 25 rfl rfl rfl rfl rfl rfl ?_; intro b25 W3 hb25 h; have HF25 := Az.mk hb25; clear hb25; have h0 : World.grownBy W2 W3 none := (by refine World.grownBy.trans ?_ h; repeat (first | exact gr_refl _ _ | apply gr_drewN | apply gr_drew | apply gr_alloc)); clear cX0 cX1; have L_ := Az.mk (gr_new L.out h0 (by first | (simp; done) | (simp; omega) | omega)); have X_ := Az.mk (blkGr X.out h0 (by first | (simp; done) | (simp; omega) | omega)); clear L X; have L := L_; clear L_; have X := X_; clear X_; clear h0 h; have cX0 : World.cell? W3 ⟨gX, 0, none⟩ = some (.float .f32 0) := blkCell X.out 0; have cX1 : World.cell? W3 ⟨gX, 1, none⟩ = some (.complex .f32 0 0) := blkCell X.out 1)) | ((with_reducible refine gateN 28 rfl ?_); go_must (refine ev_fl 28 rfl rfl rfl rfl rfl rfl ?_; intro b28 W4 hb28 h; have HF28 := Az.mk hb28; clear hb28; have h0 : World.grownBy W3 W4 none := (by refine World.grownBy.trans ?_ h; repeat (first | exact gr_refl _ _ | apply gr_drewN | apply gr_drew | apply gr_alloc)); clear cX0 cX1; have L_ := Az.mk (gr_new L.out h0 (by first | (simp; done) | (simp; omega) | omega)); have X_ := Az.mk (blkGr X.out h0 (by first | (simp; done) | (simp; omega) | omega)); clear L X; have L := L_; clear L_; have X := X_; clear X_; clear h0 h; have cX0 : World.cell? W4 ⟨gX, 0, none⟩ = some (.float .f32 0) := blkCell X.out 0; have cX1 : World.cell? W4 ⟨gX, 1, none⟩ = some (.complex .f32 0 0) := blkCell X.out 1)) | ((with_reducible refine gateN 31 rfl ?_); go_must (refine ev_fl 31 rfl rfl rfl rfl rfl rfl ?_; intro b31 W5 hb31 h; have HF31 := Az.mk hb31; clear hb31; have h0 : World.grownBy W4 W5 none := (by refine World.grownBy.trans ?_ h; repeat (first | exact gr_refl _ _ | apply gr_drewN | apply gr_drew | apply gr_alloc)); clear cX0 cX1; have L_ := Az.mk (gr_new L.out h0 (by first | (simp; done) | (simp; omega) | omega)); have X_ := Az.mk (blkGr X.out h0 (by first | (simp; done) | (simp; omega) | omega)); clear L X; have L := L_; clear L_; have X := X_; clear X_; clear h0 h; have cX0 : World.cell? W5 ⟨gX, 0, none⟩ = some (.float .f32 0) := blkCell X.out 0; have cX1 : World.cell? W5 ⟨gX, 1, none⟩ = some (.complex .f32 0 0) := blkCell X.out 1)) | ((with_reducible refine gateN 34 rfl ?_); go_must (refine ev_fl 34 rfl rfl rfl rfl rfl rfl ?_; intro b34 W6 hb34 h; have HF34 := Az.mk hb34; clear hb34; have h0 : World.grownBy W5 W6 none := (by refine World.grownBy.trans ?_ h; repeat (first | exact gr_refl _ _ | apply gr_drewN | apply gr_drew | apply gr_alloc)); clear cX0 cX1; have L_ := Az.mk (gr_new L.out h0 (by first | (simp; done) | (simp; omega) | omega)); have X_ := Az.mk (blkGr X.out h0 (by first | (simp; done) | (simp; omega) | omega)); clear L X; have L := L_; clear L_; have X := X_; clear X_; clear h0 h; have cX0 : World.cell? W6 ⟨gX, 0, none⟩ = some (.float .f32 0) := blkCell X.out 0; have cX1 : World.cell? W6 ⟨gX, 1, none⟩ = some (.complex .f32 0 0) := blkCell X.out 1)) | ((with_reducible refine gateN 35 rfl ?_); go_must (refine ev_fl 35 rfl rfl rfl rfl rfl rfl ?_; intro b35 W7 hb35 h; have HF35 := Az.mk hb35; clear hb35; have h0 : World.grownBy W6 W7 none := (by refine World.grownBy.trans ?_ h; repeat (first | exact gr_refl _ _ | apply gr_drewN | apply gr_drew | apply gr_alloc)); clear cX0 cX1; have L_ := Az.mk (gr_new L.out h0 (by first | (simp; done) | (simp; omega) | omega)); have X_ := Az.mk (blkGr X.out h0 (by first | (simp; done) | (simp; omega) | omega)); clear L X; have L := L_; clear L_; have X := X_; clear X_; clear h0 h; have cX0 : World.cell? W7 ⟨gX, 0, none⟩ = some (.float .f32 0) := blkCell X.out 0; have cX1 : World.cell? W7 ⟨gX, 1, none⟩ = some (.complex .f32 0 0) := blkCell X.out 1)) | ((with_reducible refine gateN 38 rfl ?_); go_must (refine ev_fl 38 rfl rfl rfl rfl rfl rfl ?_; intro b38 W8 hb38 h; have HF38 := Az.mk hb38; clear hb38; have h0 : World.grownBy W7 W8 none := (by refine World.grownBy.trans ?_ h; repeat (first | exact gr_refl _ _ | apply gr_drewN | apply gr_drew | apply gr_alloc)); clear cX0 cX1; have L_ := Az.mk (gr_new L.out h0 (by first | (simp; done) | (simp; omega) | omega)); have X_ := Az.mk (blkGr X.out h0 (by first | (simp; done) | (simp; omega) | omega)); clear L X; have L := L_; clear L_; have X := X_; clear X_; clear h0 h; have cX0 : World.cell? W8 ⟨gX, 0, none⟩ = some (.float .f32 0) := blkCell X.out 0; have cX1 : World.cell? W8 ⟨gX, 1, none⟩ = some (.complex .f32 0 0) := blkCell X.out 1)) | ((with_reducible refine gateN 39 rfl ?_); go_must (refine ev_fl 39 rfl rfl rfl rfl rfl rfl ?_; intro b39 W9 hb39 h; have HF39 := Az.mk hb39; clear hb39; have h0 : World.grownBy W8 W9 none := (by refine World.grownBy.trans ?_ h; repeat (first | exact gr_refl _ _ | apply gr_drewN | apply gr_drew | apply gr_alloc)); clear cX0 cX1; have L_ := Az.mk (gr_new L.out h0 (by first | (simp; done) | (simp; omega) | omega)); have X_ := Az.mk (blkGr X.out h0 (by first | (simp; done) | (simp; omega) | omega)); clear L X; have L := L_; clear L_; have X := X_; clear X_; clear h0 h; have cX0 : World.cell? W9 ⟨gX, 0, none⟩ = some (.float .f32 0) := blkCell X.out 0; have cX1 : World.cell? W9 ⟨gX, 1, none⟩ = some (.complex .f32 0 0) := blkCell X.out 1)) | ((with_reducible refine gateN 45 rfl ?_); go_must (refine ev_fl 45 rfl rfl rfl rfl rfl rfl ?_; intro b45 W10 hb45 h; have HF45 := Az.mk hb45; clear hb45; have h0 : World.grownBy W9 W10 none := (by refine World.grownBy.trans ?_ h; repeat (first | exact gr_refl _ _ | apply gr_drewN | apply gr_drew | apply gr_alloc)); clear cX0 cX1; have L_ := Az.mk (gr_new L.out h0 (by first | (simp; done) | (simp; omega) | omega)); have X_ := Az.mk (blkGr X.out h0 (by first | (simp; done) | (simp; omega) | omega)); clear L X; have L := L_; clear L_; have X := X_; clear X_; clear h0 h; have cX0 : World.cell? W10 ⟨gX, 0, none⟩ = some (.float .f32 0) := blkCell X.out 0; have cX1 : World.cell? W10 ⟨gX, 1, none⟩ = some (.complex .f32 0 0) := blkCell X.out 1)) | ((with_reducible refine gateSt 4 rfl ?_); go_must (refine ev_st rfl rfl rfl (cs := #[.float .f32 b45, .complex .f32 b35 b39]) rfl rfl X.out (by kernel_rfl) rfl (by simp [Value.oneCell']) ?_; intro W11 hbX h; have h0 : World.grownBy W10 W11 (some gX) := (by refine World.grownBy.trans ?_ h; repeat (first | exact gr_refl _ _ | apply gr_drewN | apply gr_drew | apply gr_alloc)); clear cX0 cX1; have L_ := Az.mk (gr_new L.out h0 (by first | (simp; done) | (simp; omega) | omega)); clear L; have L := L_; clear L_; clear h0 h; clear X; have X := Az.mk hbX; clear hbX; have cX0 : World.cell? W11 ⟨gX, 0, none⟩ = some (.float .f32 b45) := blkCell X.out 0; have cX1 : World.cell? W11 ⟨gX, 1, none⟩ = some (.complex .f32 b35 b39) := blkCell X.out 1)))
  refine bodyPost_ret (results_c rfl _ _ gX 49 #[.float .f32 b45, .complex .f32 b35 b39] _ rfl X.out Try.underlying49 rfl (by kernel_rfl)) rfl ⟨b45, b35, b39, ?_, ?_, ?_, rfl, L.out⟩
  · rw [HF45.out, HF31.out, HF28.out, HF25.out]; rfl
  · rw [HF35.out, HF34.out]; rfl
  · rw [HF39.out, HF38.out]; rfl

set_option maxHeartbeats 1000000 in
theorem decoded_true (b off c s t u v : Nat) (w : World) (hrd : Rd w (some ⟨b, off, none⟩) 4 1 (flV [s, t, u, v])) :
    Calls Try.prog 59 #[.slice (some ⟨b, off, none⟩) 4 c, .bool true] w (RetDec w (decY (fN .f32 s) (fN .f32 t) (fN .f32 u) (fN .f32 v)) (decR (fN .f32 s) (fN .f32 u)) (decI true (fN .f32 t) (fN .f32 v))) := by
  have L := Az.mk (gr_refl w none)
  have HR := Az.mk hrd
  clear hrd
  go_enter Try.func59, Try.ntmps59
  go_wp2_with (first | ((with_reducible refine gateN 4 rfl ?_); go_must (refine ev_al 4 rfl rfl #[.float .f32 0, .complex .f32 0 0] 49 ?hr ?_; (case hr => first | (go_simp; done) | (go_simp; rfl)); intro gX heX W1 hbX h; have hgX : w.heap.size ≤ gX := Nat.le_trans L.out.size heX; clear heX; have h0 : World.grownBy w W1 none := (by refine World.grownBy.trans ?_ h; repeat (first | exact gr_refl _ _ | apply gr_drewN | apply gr_drew | apply gr_alloc)); have L_ := Az.mk (gr_new L.out h0 (by first | (simp; done) | (simp; omega) | omega)); clear L; have L := L_; clear L_; clear h0 h; have X := Az.mk hbX; clear hbX; have cX0 : World.cell? W1 ⟨gX, 0, none⟩ = some (.float .f32 0) := blkCell X.out 0; have cX1 : World.cell? W1 ⟨gX, 1, none⟩ = some (.complex .f32 0 0) := blkCell X.out 1)))
  have rd := (HR.out.up L.out).2.2 (by omega)
  obtain ⟨b', off', e, hcell⟩ := rd
  injection e with e
  injection e with e1 e2
  subst e1; subst e2
  have d0 := hcell 0 _ rfl
  have d1 := hcell 1 _ rfl
  have d2 := hcell 2 _ rfl
  have d3 := hcell 3 _ rfl
  clear hcell
  simp only [Nat.add_zero] at d0
  go_wp2_with fail
  have v0 : ∀ w1, Up W1 w1 → w1.cell? ⟨b, off, none⟩ = some (.float .f32 s) := fun w1 hu => cellGr hu d0 (by simp)
  have v1 : ∀ w1, Up W1 w1 → w1.cell? ⟨b, off + 1, none⟩ = some (.float .f32 t) := fun w1 hu => cellGr hu d1 (by simp)
  have v2 : ∀ w1, Up W1 w1 → w1.cell? ⟨b, off + 2, none⟩ = some (.float .f32 u) := fun w1 hu => cellGr hu d2 (by simp)
  have v3 : ∀ w1, Up W1 w1 → w1.cell? ⟨b, off + 3, none⟩ = some (.float .f32 v) := fun w1 hu => cellGr hu d3 (by simp)
  have uX0 : ∀ w1, Up W1 w1 → w1.cell? ⟨gX, 0, none⟩ = some (.float .f32 0) := fun w1 hu => blkCell (blkGr X.out hu (by simp)) 0
  have uX1 : ∀ w1, Up W1 w1 → w1.cell? ⟨gX, 1, none⟩ = some (.complex .f32 0 0) := fun w1 hu => blkCell (blkGr X.out hu (by simp)) 1
  refine wp_region_relF (fun _ _ _ _ => True) (by kernel_rfl) (by kernel_rfl) ?_
  repeat (first | (refine lex_val' rfl ?_; apply Exists.intro; refine ⟨fun w1 hu => ?_, ?_⟩; (focus (first | (go_simp; done) | (go_simp; rfl))); refine lexK (fun K hK => ?_); go_simp; refine hK _ ?_; clear hK K))
  refine lex_nil (fun W2 h hF => ?_)
  clear uX0 uX1
  have h0 : World.grownBy W1 W2 none := (by refine World.grownBy.trans ?_ h; repeat (first | exact gr_refl _ _ | apply gr_drewN | apply gr_drew | apply gr_alloc))
  clear cX0 cX1
  have L_ := Az.mk (gr_new L.out h0 (by first | (simp; done) | (simp; omega) | omega))
  have X_ := Az.mk (blkGr X.out h0 (by first | (simp; done) | (simp; omega) | omega))
  clear L X
  have L := L_; clear L_
  have X := X_; clear X_
  clear h0 h
  clear hF
  have cX0 : World.cell? W2 ⟨gX, 0, none⟩ = some (.float .f32 0) := blkCell X.out 0
  have cX1 : World.cell? W2 ⟨gX, 1, none⟩ = some (.complex .f32 0 0) := blkCell X.out 1
  clear v0 v1 v2 v3 d0 d1 d2 d3
  go_wp2_with (first | ((with_reducible refine gateN 25 rfl ?_); go_must (refine ev_fl 25 rfl rfl rfl rfl rfl rfl ?_; intro b25 W3 hb25 h; have HF25 := Az.mk hb25; clear hb25; have h0 : World.grownBy W2 W3 none := (by refine World.grownBy.trans ?_ h; repeat (first | exact gr_refl _ _ | apply gr_drewN | apply gr_drew | apply gr_alloc)); clear cX0 cX1; have L_ := Az.mk (gr_new L.out h0 (by first | (simp; done) | (simp; omega) | omega)); have X_ := Az.mk (blkGr X.out h0 (by first | (simp; done) | (simp; omega) | omega)); clear L X; have L := L_; clear L_; have X := X_; clear X_; clear h0 h; have cX0 : World.cell? W3 ⟨gX, 0, none⟩ = some (.float .f32 0) := blkCell X.out 0; have cX1 : World.cell? W3 ⟨gX, 1, none⟩ = some (.complex .f32 0 0) := blkCell X.out 1)) | ((with_reducible refine gateN 28 rfl ?_); go_must (refine ev_fl 28 rfl rfl rfl rfl rfl rfl ?_; intro b28 W4 hb28 h; have HF28 := Az.mk hb28; clear hb28; have h0 : World.grownBy W3 W4 none := (by refine World.grownBy.trans ?_ h; repeat (first | exact gr_refl _ _ | apply gr_drewN | apply gr_drew | apply gr_alloc)); clear cX0 cX1; have L_ := Az.mk (gr_new L.out h0 (by first | (simp; done) | (simp; omega) | omega)); have X_ := Az.mk (blkGr X.out h0 (by first | (simp; done) | (simp; omega) | omega)); clear L X; have L := L_; clear L_; have X := X_; clear X_; clear h0 h; have cX0 : World.cell? W4 ⟨gX, 0, none⟩ = some (.float .f32 0) := blkCell X.out 0; have cX1 : World.cell? W4 ⟨gX, 1, none⟩ = some (.complex .f32 0 0) := blkCell X.out 1)) | ((with_reducible refine gateN 31 rfl ?_); go_must (refine ev_fl 31 rfl rfl rfl rfl rfl rfl ?_; intro b31 W5 hb31 h; have HF31 := Az.mk hb31; clear hb31; have h0 : World.grownBy W4 W5 none := (by refine World.grownBy.trans ?_ h; repeat (first | exact gr_refl _ _ | apply gr_drewN | apply gr_drew | apply gr_alloc)); clear cX0 cX1; have L_ := Az.mk (gr_new L.out h0 (by first | (simp; done) | (simp; omega) | omega)); have X_ := Az.mk (blkGr X.out h0 (by first | (simp; done) | (simp; omega) | omega)); clear L X; have L := L_; clear L_; have X := X_; clear X_; clear h0 h; have cX0 : World.cell? W5 ⟨gX, 0, none⟩ = some (.float .f32 0) := blkCell X.out 0; have cX1 : World.cell? W5 ⟨gX, 1, none⟩ = some (.complex .f32 0 0) := blkCell X.out 1)) | ((with_reducible refine gateN 34 rfl ?_); go_must (refine ev_fl 34 rfl rfl rfl rfl rfl rfl ?_; intro b34 W6 hb34 h; have HF34 := Az.mk hb34; clear hb34; have h0 : World.grownBy W5 W6 none := (by refine World.grownBy.trans ?_ h; repeat (first | exact gr_refl _ _ | apply gr_drewN | apply gr_drew | apply gr_alloc)); clear cX0 cX1; have L_ := Az.mk (gr_new L.out h0 (by first | (simp; done) | (simp; omega) | omega)); have X_ := Az.mk (blkGr X.out h0 (by first | (simp; done) | (simp; omega) | omega)); clear L X; have L := L_; clear L_; have X := X_; clear X_; clear h0 h; have cX0 : World.cell? W6 ⟨gX, 0, none⟩ = some (.float .f32 0) := blkCell X.out 0; have cX1 : World.cell? W6 ⟨gX, 1, none⟩ = some (.complex .f32 0 0) := blkCell X.out 1)) | ((with_reducible refine gateN 35 rfl ?_); go_must (refine ev_fl 35 rfl rfl rfl rfl rfl rfl ?_; intro b35 W7 hb35 h; have HF35 := Az.mk hb35; clear hb35; have h0 : World.grownBy W6 W7 none := (by refine World.grownBy.trans ?_ h; repeat (first | exact gr_refl _ _ | apply gr_drewN | apply gr_drew | apply gr_alloc)); clear cX0 cX1; have L_ := Az.mk (gr_new L.out h0 (by first | (simp; done) | (simp; omega) | omega)); have X_ := Az.mk (blkGr X.out h0 (by first | (simp; done) | (simp; omega) | omega)); clear L X; have L := L_; clear L_; have X := X_; clear X_; clear h0 h; have cX0 : World.cell? W7 ⟨gX, 0, none⟩ = some (.float .f32 0) := blkCell X.out 0; have cX1 : World.cell? W7 ⟨gX, 1, none⟩ = some (.complex .f32 0 0) := blkCell X.out 1)) | ((with_reducible refine gateN 38 rfl ?_); go_must (refine ev_fl 38 rfl rfl rfl rfl rfl rfl ?_; intro b38 W8 hb38 h; have HF38 := Az.mk hb38; clear hb38; have h0 : World.grownBy W7 W8 none := (by refine World.grownBy.trans ?_ h; repeat (first | exact gr_refl _ _ | apply gr_drewN | apply gr_drew | apply gr_alloc)); clear cX0 cX1; have L_ := Az.mk (gr_new L.out h0 (by first | (simp; done) | (simp; omega) | omega)); have X_ := Az.mk (blkGr X.out h0 (by first | (simp; done) | (simp; omega) | omega)); clear L X; have L := L_; clear L_; have X := X_; clear X_; clear h0 h; have cX0 : World.cell? W8 ⟨gX, 0, none⟩ = some (.float .f32 0) := blkCell X.out 0; have cX1 : World.cell? W8 ⟨gX, 1, none⟩ = some (.complex .f32 0 0) := blkCell X.out 1)) | ((with_reducible refine gateN 39 rfl ?_); go_must (refine ev_fl 39 rfl rfl rfl rfl rfl rfl ?_; intro b39 W9 hb39 h; have HF39 := Az.mk hb39; clear hb39; have h0 : World.grownBy W8 W9 none := (by refine World.grownBy.trans ?_ h; repeat (first | exact gr_refl _ _ | apply gr_drewN | apply gr_drew | apply gr_alloc)); clear cX0 cX1; have L_ := Az.mk (gr_new L.out h0 (by first | (simp; done) | (simp; omega) | omega)); have X_ := Az.mk (blkGr X.out h0 (by first | (simp; done) | (simp; omega) | omega)); clear L X; have L := L_; clear L_; have X := X_; clear X_; clear h0 h; have cX0 : World.cell? W9 ⟨gX, 0, none⟩ = some (.float .f32 0) := blkCell X.out 0; have cX1 : World.cell? W9 ⟨gX, 1, none⟩ = some (.complex .f32 0 0) := blkCell X.out 1)))
  refine (conj_c _ _ _).mono ?_
  rintro e v1 ⟨p, q, hp, hq, rfl, h⟩
  have h0 : World.grownBy W9 v1 _ := (by refine World.grownBy.trans ?_ h; repeat (first | exact gr_refl _ _ | apply gr_drewN | apply gr_drew | apply gr_alloc))
  clear cX0 cX1
  have L_ := Az.mk (gr_new L.out h0 (by first | (simp; done) | (simp; omega) | omega))
  have X_ := Az.mk (blkGr X.out h0 (by first | (simp; done) | (simp; omega) | omega))
  clear L X
  have L := L_; clear L_
  have X := X_; clear X_
  clear h0 h
  have cX0 : World.cell? v1 ⟨gX, 0, none⟩ = some (.float .f32 0) := blkCell X.out 0
  have cX1 : World.cell? v1 ⟨gX, 1, none⟩ = some (.complex .f32 0 0) := blkCell X.out 1
  have HP := Az.mk hp
  have HQ := Az.mk hq
  clear hp hq
  go_wp2_with (first | ((with_reducible refine gateN 45 rfl ?_); go_must (refine ev_fl 45 rfl rfl rfl rfl rfl rfl ?_; intro b45 W10 hb45 h; have HF45 := Az.mk hb45; clear hb45; have h0 : World.grownBy v1 W10 none := (by refine World.grownBy.trans ?_ h; repeat (first | exact gr_refl _ _ | apply gr_drewN | apply gr_drew | apply gr_alloc)); clear cX0 cX1; have L_ := Az.mk (gr_new L.out h0 (by first | (simp; done) | (simp; omega) | omega)); have X_ := Az.mk (blkGr X.out h0 (by first | (simp; done) | (simp; omega) | omega)); clear L X; have L := L_; clear L_; have X := X_; clear X_; clear h0 h; have cX0 : World.cell? W10 ⟨gX, 0, none⟩ = some (.float .f32 0) := blkCell X.out 0; have cX1 : World.cell? W10 ⟨gX, 1, none⟩ = some (.complex .f32 0 0) := blkCell X.out 1)) | ((with_reducible refine gateSt 4 rfl ?_); go_must (refine ev_st rfl rfl rfl (cs := #[.float .f32 b45, .complex .f32 p q]) rfl rfl X.out (by kernel_rfl) rfl (by simp [Value.oneCell']) ?_; intro W11 hbX h; have h0 : World.grownBy W10 W11 (some gX) := (by refine World.grownBy.trans ?_ h; repeat (first | exact gr_refl _ _ | apply gr_drewN | apply gr_drew | apply gr_alloc)); clear cX0 cX1; have L_ := Az.mk (gr_new L.out h0 (by first | (simp; done) | (simp; omega) | omega)); clear L; have L := L_; clear L_; clear h0 h; clear X; have X := Az.mk hbX; clear hbX; have cX0 : World.cell? W11 ⟨gX, 0, none⟩ = some (.float .f32 b45) := blkCell X.out 0; have cX1 : World.cell? W11 ⟨gX, 1, none⟩ = some (.complex .f32 p q) := blkCell X.out 1)))
  refine bodyPost_ret (results_c rfl _ _ gX 49 #[.float .f32 b45, .complex .f32 p q] _ rfl X.out Try.underlying49 rfl (by kernel_rfl)) rfl ⟨b45, p, q, ?_, ?_, ?_, rfl, L.out⟩
  · rw [HF45.out, HF31.out, HF28.out, HF25.out]; rfl
  · rw [HP.out, HF35.out, HF34.out]; rfl
  · rw [HQ.out, HF39.out, HF38.out]; rfl
end Go.Proofs.Ytjomilloilbcgaa
