/- Contracts of laws.equals (of equal lists), impl.Transmit (where it succeeds). Conditions: as the code asks them. -/
import Derived.Test.YtjomilloilbcgaaC6
namespace Go.Proofs.Ytjomilloilbcgaa
open Go.RowKit
set_option linter.unusedVariables false
set_option linter.unusedSimpArgs false

set_option maxHeartbeats 1000000 in
theorem equals_ok (A A' : Option Addr) (n c c' : Nat) (xs ys : List Nat) (w : World) (hn : xs.length = n) (hn' : ys.length = n) (hrd : Rd w A n 1 (flV xs)) (hrd' : Rd w A' n 1 (flV ys))
    (he : ∀ j (h1 : j < xs.length) (h2 : j < ys.length), feq (fN .f32 xs[j]) (fN .f32 ys[j]) = true) :
    Calls Try.prog 24 #[.slice A n c, .slice A' n c'] w (RetBo w true) := by
  have L := Az.mk (gr_refl w none)
  have HR := Az.mk hrd
  have HR' := Az.mk hrd'
  have HN := Az.mk hn
  have HN' := Az.mk hn'
  have HE := Az.mk he
  have hmax := hrd.max
  clear hrd hrd' hn hn' he
  go_enter Try.func24, Try.ntmps24
  go_wp2_with fail
  go_loopw [5] (fun i wr => ∃ k : Nat, i = .int .i64 k ∧ k ≤ n ∧ Az (w.grownBy wr none)) (fun i _ => n - (intOf i).toNat)
  case atStart => exact ⟨0, by go_num, by omega, L⟩
  case round =>
    clear L
    obtain ⟨k, rfl, hkn, L⟩ := hrel
    by_cases hk : k < n
    · have hkc : k < xs.length := by rw [HN.out]; exact hk
      have hkc' : k < ys.length := by rw [HN'.out]; exact hk
      obtain ⟨b, off, rfl, hcell⟩ := (HR.out.up L.out).2.2 (by omega)
      obtain ⟨b', off', rfl, hcell'⟩ := (HR'.out.up L.out).2.2 (by omega)
      have d0 := Rd.flAt hcell k hkc
      have d1 := Rd.flAt hcell' k hkc'
      clear hcell hcell'
      have hq : (FloatKind.f32.format.order xs[k] ys[k] != some .eq) = false := by rw [o_ne, HE.out k hkc hkc']; rfl
      have HQ := Az.mk hq
      clear hq
      go_wp2_with fail
      have v0 : ∀ w1, Up wr w1 → w1.cell? ⟨b, off + k, none⟩ = some (.float .f32 xs[k]) := fun w1 hu => cellGr hu d0 (by simp)
      have v1 : ∀ w1, Up wr w1 → w1.cell? ⟨b', off' + k, none⟩ = some (.float .f32 ys[k]) := fun w1 hu => cellGr hu d1 (by simp)
      refine wp_region_relF (fun _ _ _ _ => True) (by kernel_rfl) (by kernel_rfl) ?_
      repeat (first | (refine lex_val' rfl ?_; apply Exists.intro; refine ⟨fun w1 hu => ?_, ?_⟩; (focus (first | (go_simp; done) | (go_simp; rfl))); refine lexK (fun K hK => ?_); go_simp; refine hK _ ?_; clear hK K))
      refine lex_nil (fun W1 h hF => ?_)
      have h0 : World.grownBy wr W1 none := (by refine World.grownBy.trans ?_ h; repeat (first | exact gr_refl _ _ | apply gr_drewN | apply gr_drew | apply gr_alloc))
      have L_ := Az.mk (gr_new L.out h0 (by first | (simp; done) | (simp; omega) | omega))
      clear L
      have L := L_; clear L_
      clear h0 h
      clear hF
      clear v0 v1 d0 d1
      rw [HQ.out]
      go_wp2_with fail
      exact ⟨⟨k + 1, by go_num, by omega, L⟩, by simp only [intOf]; omega⟩
    · go_wp2_with fail
      go_ret
      exact ⟨rfl, L.out⟩

/-- What a channel makes of four samples. -/
def txCell (A O x y s t u v : F32) : List F32 :=
  [fadd (fadd (fmul A (decY s t u v)) O) (carN 0 (timesRe (decR s u) (decI false t v) x y) (timesIm (decR s u) (decI false t v) x y)),
   fadd (fadd (fmul A (decY s t u v)) O) (carN 1 (timesRe (decR s u) (decI false t v) x y) (timesIm (decR s u) (decI false t v) x y)),
   fadd (fadd (fmul A (decY s t u v)) O) (carN 2 (timesRe (decR s u) (decI false t v) x y) (timesIm (decR s u) (decI false t v) x y)),
   fadd (fadd (fmul A (decY s t u v)) O) (carN 3 (timesRe (decR s u) (decI false t v) x y) (timesIm (decR s u) (decI false t v) x y))]
theorem txCell_take (A O x y s t u v : F32) (j : Nat) (hj : j < 4) : (txCell A O x y s t u v).take (j + 1) = (txCell A O x y s t u v).take j ++ [fadd (fadd (fmul A (decY s t u v)) O) (carN j (timesRe (decR s u) (decI false t v) x y) (timesIm (decR s u) (decI false t v) x y))] := by
  rcases (show j = 0 ∨ j = 1 ∨ j = 2 ∨ j = 3 by omega) with rfl | rfl | rfl | rfl <;> rfl
/-- .. and of the first k fours. -/
def trK (A O x y : F32) (fs : List F32) (k : Nat) : List F32 := (List.range k).flatMap fun i => txCell A O x y (fs.getD (4 * i) none) (fs.getD (4 * i + 1) none) (fs.getD (4 * i + 2) none) (fs.getD (4 * i + 3) none)
def trN (A O x y : F32) (fs : List F32) : List F32 := trK A O x y fs (fs.length / 4)
theorem trK_succ (A O x y : F32) (fs : List F32) (k : Nat) : trK A O x y fs (k + 1) = trK A O x y fs k ++ txCell A O x y (fs.getD (4 * k) none) (fs.getD (4 * k + 1) none) (fs.getD (4 * k + 2) none) (fs.getD (4 * k + 3) none) := by
  simp [trK, List.range_succ, List.flatMap_append]
theorem map_getD (xs : List Nat) (j : Nat) (hj : j < xs.length) : (xs.map (fN .f32)).getD j none = fN .f32 xs[j] := by simp [hj]
theorem Rd.four {w : World} {b off : Nat} {bs : List Nat} (h : ∀ j u, (flV bs)[j]? = some u → w.cell? ⟨b, off + j, none⟩ = some u) (m : Nat) (hm : m + 3 < bs.length) :
    Rd w (some ⟨b, off + m, none⟩) 4 1 (flV [bs[m], bs[m + 1], bs[m + 2], bs[m + 3]]) := by
  refine ⟨rfl, by omega, fun _ => ⟨b, off + m, rfl, fun j u hu => ?_⟩⟩
  have hj : j < 4 := by
    have := (List.getElem?_eq_some_iff.1 hu).1
    simpa [flV] using this
  rw [Nat.add_assoc]
  rcases (show j = 0 ∨ j = 1 ∨ j = 2 ∨ j = 3 by omega) with rfl | rfl | rfl | rfl
  · have := Rd.flAt h m (by omega); simp [flV] at hu; subst hu; exact this
  · have := Rd.flAt h (m + 1) (by omega); simp [flV] at hu; subst hu; exact this
  · have := Rd.flAt h (m + 2) (by omega); simp [flV] at hu; subst hu; exact this
  · have := Rd.flAt h (m + 3) (by omega); simp [flV] at hu; subst hu; exact this
def RetFlsT (w : World) (fs : List F32) (e : Ending) (w' : World) : Prop := ∃ v bs, bs.map (fN .f32) = fs ∧ e = .returned (.tuple #[v, .bool true]) ∧ w'.ownsRow w.heap.size 25 1 v bs.length (flV bs) ∧ w.grownBy w' none
theorem samplesOk_len {fs : List F32} (h : samplesOkN fs = true) : 4 ≤ fs.length ∧ fs.length ≤ 4096 ∧ fs.length % 4 = 0 := by
  simp only [samplesOkN, Bool.and_eq_true, decide_eq_true_eq] at h; exact ⟨h.1.1.1, h.1.1.2, h.1.2⟩
set_option maxHeartbeats 2000000 in
theorem Transmit_ok (a o x y : Nat) (A : Option Addr) (n c : Nat) (xs : List Nat) (w : World) (hn : xs.length = n) (hnc : n ≤ c) (hrd : Rd w A n 1 (flV xs)) (hch : chOkN (fN .f32 a) (fN .f32 o) (fN .f32 x) (fN .f32 y) = true)
    (hs : samplesOkN (xs.map (fN .f32)) = true) (ht : samplesOkN (trN (fN .f32 a) (fN .f32 o) (fN .f32 x) (fN .f32 y) (xs.map (fN .f32))) = true) :
    Calls Try.prog 23 #[.agg #[.float .f32 a, .float .f32 o, .complex .f32 x y], .slice A n c] w (RetFlsT w (trN (fN .f32 a) (fN .f32 o) (fN .f32 x) (fN .f32 y) (xs.map (fN .f32)))) := by
  have L := Az.mk (gr_refl w none)
  have HR := Az.mk hrd
  have HN := Az.mk hn
  have hmax := hrd.max
  have hl := samplesOk_len hs
  rw [List.length_map, hn] at hl
  obtain ⟨hl1, hl2, hl3⟩ := hl
  have HL3 := Az.mk hl3
  have HC := Az.mk hch
  have HS := Az.mk hs
  have HT := Az.mk ht
  have R := Az.mk (own_nil w w.heap.size 25 1)
  clear hrd hn hch hs ht hl3
  go_enter Try.func23, Try.ntmps23
  go_wp2_with (first | ((with_reducible refine gateN 2 rfl ?_); go_must (refine ev_al 2 rfl rfl #[.float .f32 a, .float .f32 o, .complex .f32 x y] 28 ?hr ?_; (case hr => first | (go_simp; done) | (go_simp; rfl)); intro gB heB W1 hbB h; have hgB : w.heap.size ≤ gB := Nat.le_trans L.out.size heB; have hlBR := Az.mk (own_lows R.out heB); clear heB; have h0 : World.grownBy w W1 none := (by refine World.grownBy.trans ?_ h; repeat (first | exact gr_refl _ _ | apply gr_drewN | apply gr_drew | apply gr_alloc)); have L_ := Az.mk (gr_new L.out h0 (by first | (simp; done) | (simp; omega) | omega)); have R_ := Az.mk (own_gr R.out h0 (by first | exact own_none _ | exact .inr hl?R.out)); clear L R; have L := L_; clear L_; have R := R_; clear R_; clear h0 h; have B := Az.mk hbB; clear hbB; have cB0 : World.cell? W1 ⟨gB, 0, none⟩ = some (.float .f32 a) := blkCell B.out 0; have cB1 : World.cell? W1 ⟨gB, 1, none⟩ = some (.float .f32 o) := blkCell B.out 1; have cB2 : World.cell? W1 ⟨gB, 2, none⟩ = some (.complex .f32 x y) := blkCell B.out 2)) | ((with_reducible refine gateN 12 rfl ?_); go_must (refine ev_ld 12 rfl rfl rfl (cs := #[.float .f32 a, .float .f32 o, .complex .f32 x y]) rfl B.out Try.underlying28 rfl (by kernel_rfl) ?_)))
  refine (ChannelOk_c a o x y _).mono ?_
  rintro e w2 ⟨rfl, h⟩
  have h0 : World.grownBy W1 w2 _ := (by refine World.grownBy.trans ?_ h; repeat (first | exact gr_refl _ _ | apply gr_drewN | apply gr_drew | apply gr_alloc))
  clear cB0 cB1 cB2
  have L_ := Az.mk (gr_new L.out h0 (by first | (simp; done) | (simp; omega) | omega))
  have R_ := Az.mk (own_gr R.out h0 (by first | exact own_none _ | exact .inr hl?R.out | exact .inr (own_blk R.out B.out (by decide))))
  have B_ := Az.mk (blkGr B.out h0 (by first | (simp; done) | (simp; omega) | omega))
  clear L R B
  have L := L_; clear L_
  have R := R_; clear R_
  have B := B_; clear B_
  clear h0 h
  have cB0 : World.cell? w2 ⟨gB, 0, none⟩ = some (.float .f32 a) := blkCell B.out 0
  have cB1 : World.cell? w2 ⟨gB, 1, none⟩ = some (.float .f32 o) := blkCell B.out 1
  have cB2 : World.cell? w2 ⟨gB, 2, none⟩ = some (.complex .f32 x y) := blkCell B.out 2
  rw [HC.out]
  go_wp2_with fail
  refine (SamplesOk_c A n c xs _ HN.out (HR.out.up L.out)).mono ?_
  rintro e w3 ⟨rfl, h⟩
  have h0 : World.grownBy w2 w3 _ := (by refine World.grownBy.trans ?_ h; repeat (first | exact gr_refl _ _ | apply gr_drewN | apply gr_drew | apply gr_alloc))
  clear cB0 cB1 cB2
  have L_ := Az.mk (gr_new L.out h0 (by first | (simp; done) | (simp; omega) | omega))
  have R_ := Az.mk (own_gr R.out h0 (by first | exact own_none _ | exact .inr hl?R.out | exact .inr (own_blk R.out B.out (by decide))))
  have B_ := Az.mk (blkGr B.out h0 (by first | (simp; done) | (simp; omega) | omega))
  clear L R B
  have L := L_; clear L_
  have R := R_; clear R_
  have B := B_; clear B_
  clear h0 h
  have cB0 : World.cell? w3 ⟨gB, 0, none⟩ = some (.float .f32 a) := blkCell B.out 0
  have cB1 : World.cell? w3 ⟨gB, 1, none⟩ = some (.float .f32 o) := blkCell B.out 1
  have cB2 : World.cell? w3 ⟨gB, 2, none⟩ = some (.complex .f32 x y) := blkCell B.out 2
  rw [HS.out]
  go_wp2_with fail
  go_loopw [6, 7] (fun z i wr => ∃ bs, ∃ m k : Nat, i = .int .i64 m ∧ m ≤ n ∧ m ≤ 4 * k ∧ 4 * k ≤ m ∧ bs.length ≤ 4 * k ∧ Az (bs.length = 4 * k) ∧ Az (bs.map (fN .f32) = trK (fN .f32 a) (fN .f32 o) (fN .f32 x) (fN .f32 y) (xs.map (fN .f32)) k) ∧ Az (w.grownBy wr none) ∧ Az (wr.ownsRow w.heap.size 25 1 z bs.length (flV bs)) ∧ Az (wr.heap[gB]? = some (.cells #[.float .f32 a, .float .f32 o, .complex .f32 x y] 28 (0, 0)))) (fun _ i _ => n - (intOf i).toNat)
  case atStart => exact ⟨[], 0, 0, by go_num, by omega, by omega, by omega, by simp, ⟨rfl⟩, ⟨rfl⟩, L, R, B⟩
  case round =>
    clear L R B cB0 cB1 cB2
    obtain ⟨bs, m, k, rfl, hmn, hm1, hm2, hbl, HBL, HB, L, R, B⟩ := hrel
    have hgB' : w.heap.size ≤ gB := hgB
    have cB0 : World.cell? wr ⟨gB, 0, none⟩ = some (.float .f32 a) := blkCell B.out 0
    have cB1 : World.cell? wr ⟨gB, 1, none⟩ = some (.float .f32 o) := blkCell B.out 1
    have cB2 : World.cell? wr ⟨gB, 2, none⟩ = some (.complex .f32 x y) := blkCell B.out 2
    by_cases hk : m < n
    · have hk3 : m + 3 < xs.length := by have := HN.out; have := HL3.out; omega
      obtain ⟨b, off, rfl, hcell⟩ := (HR.out.up L.out).2.2 (by omega)
      have H4 := Az.mk (Rd.four hcell m hk3)
      clear hcell
      have hk4 : m + 4 ≤ c := by have := HN.out; omega
      go_wp2_with fail
      refine (decoded_false b (off + m) (c - m) xs[m] xs[m + 1] xs[m + 2] xs[m + 3] _ H4.out).mono ?_
      rintro e v1 ⟨cy, cu, cv, h1, h2, h3, rfl, h⟩
      have h0 : World.grownBy wr v1 _ := (by refine World.grownBy.trans ?_ h; repeat (first | exact gr_refl _ _ | apply gr_drewN | apply gr_drew | apply gr_alloc))
      clear cB0 cB1 cB2
      have L_ := Az.mk (gr_new L.out h0 (by first | (simp; done) | (simp; omega) | omega))
      have R_ := Az.mk (own_gr R.out h0 (by first | exact own_none _ | exact .inr hl?R.out | exact .inr (own_blk R.out B.out (by decide))))
      have B_ := Az.mk (blkGr B.out h0 (by first | (simp; done) | (simp; omega) | omega))
      clear L R B
      have L := L_; clear L_
      have R := R_; clear R_
      have B := B_; clear B_
      clear h0 h
      have cB0 : World.cell? v1 ⟨gB, 0, none⟩ = some (.float .f32 a) := blkCell B.out 0
      have cB1 : World.cell? v1 ⟨gB, 1, none⟩ = some (.float .f32 o) := blkCell B.out 1
      have cB2 : World.cell? v1 ⟨gB, 2, none⟩ = some (.complex .f32 x y) := blkCell B.out 2
      have HD := Az.mk (And.intro h1 (And.intro h2 h3))
      clear h1 h2 h3
      go_wp2_with (first | ((with_reducible refine gateN 8 rfl ?_); go_must (refine ev_al 8 rfl rfl #[.float .f32 0, .complex .f32 0 0] 49 ?hr ?_; (case hr => first | (go_simp; done) | (go_simp; rfl)); intro gX heX W2 hbX h; have hgX : w.heap.size ≤ gX := Nat.le_trans L.out.size heX; have hlXR := Az.mk (own_lows R.out heX); have hgXB : gB < gX := Nat.lt_of_lt_of_le (blkLt B.out) heX; clear heX; have h0 : World.grownBy v1 W2 none := (by refine World.grownBy.trans ?_ h; repeat (first | exact gr_refl _ _ | apply gr_drewN | apply gr_drew | apply gr_alloc)); clear cB0 cB1 cB2; have L_ := Az.mk (gr_new L.out h0 (by first | (simp; done) | (simp; omega) | omega)); have R_ := Az.mk (own_gr R.out h0 (by first | exact own_none _ | exact .inr hl?R.out | exact .inr (own_blk R.out B.out (by decide)))); have B_ := Az.mk (blkGr B.out h0 (by first | (simp; done) | (simp; omega) | omega)); clear L R B; have L := L_; clear L_; have R := R_; clear R_; have B := B_; clear B_; clear h0 h; have X := Az.mk hbX; clear hbX; have cB0 : World.cell? W2 ⟨gB, 0, none⟩ = some (.float .f32 a) := blkCell B.out 0; have cB1 : World.cell? W2 ⟨gB, 1, none⟩ = some (.float .f32 o) := blkCell B.out 1; have cB2 : World.cell? W2 ⟨gB, 2, none⟩ = some (.complex .f32 x y) := blkCell B.out 2; have cX0 : World.cell? W2 ⟨gX, 0, none⟩ = some (.float .f32 0) := blkCell X.out 0; have cX1 : World.cell? W2 ⟨gX, 1, none⟩ = some (.complex .f32 0 0) := blkCell X.out 1)) | ((with_reducible refine gateSt 8 rfl ?_); go_must (refine ev_st rfl rfl rfl (cs := #[.float .f32 cy, .complex .f32 cu cv]) rfl rfl X.out (by kernel_rfl) rfl (by simp [Value.oneCell']) ?_; intro W3 hbX h; have h0 : World.grownBy W2 W3 (some gX) := (by refine World.grownBy.trans ?_ h; repeat (first | exact gr_refl _ _ | apply gr_drewN | apply gr_drew | apply gr_alloc)); clear cB0 cB1 cB2 cX0 cX1; have L_ := Az.mk (gr_new L.out h0 (by first | (simp; done) | (simp; omega) | omega)); have R_ := Az.mk (own_gr R.out h0 (by first | exact own_none _ | exact .inr hlXR.out | exact .inr (own_blk R.out B.out (by decide)) | exact .inr (own_blk R.out X.out (by decide)))); have B_ := Az.mk (blkGr B.out h0 (by first | (simp; done) | (simp; omega) | omega)); clear L R B; have L := L_; clear L_; have R := R_; clear R_; have B := B_; clear B_; clear h0 h; clear X; have X := Az.mk hbX; clear hbX; have cB0 : World.cell? W3 ⟨gB, 0, none⟩ = some (.float .f32 a) := blkCell B.out 0; have cB1 : World.cell? W3 ⟨gB, 1, none⟩ = some (.float .f32 o) := blkCell B.out 1; have cB2 : World.cell? W3 ⟨gB, 2, none⟩ = some (.complex .f32 x y) := blkCell B.out 2; have cX0 : World.cell? W3 ⟨gX, 0, none⟩ = some (.float .f32 cy) := blkCell X.out 0; have cX1 : World.cell? W3 ⟨gX, 1, none⟩ = some (.complex .f32 cu cv) := blkCell X.out 1)) | ((with_reducible refine gateN 36 rfl ?_); go_must (refine ev_fl 36 rfl rfl rfl rfl rfl rfl ?_; intro b36 W4 hb36 h; have HF36 := Az.mk hb36; clear hb36; have h0 : World.grownBy W3 W4 none := (by refine World.grownBy.trans ?_ h; repeat (first | exact gr_refl _ _ | apply gr_drewN | apply gr_drew | apply gr_alloc)); clear cB0 cB1 cB2 cX0 cX1; have L_ := Az.mk (gr_new L.out h0 (by first | (simp; done) | (simp; omega) | omega)); have R_ := Az.mk (own_gr R.out h0 (by first | exact own_none _ | exact .inr hl?R.out | exact .inr (own_blk R.out B.out (by decide)) | exact .inr (own_blk R.out X.out (by decide)))); have B_ := Az.mk (blkGr B.out h0 (by first | (simp; done) | (simp; omega) | omega)); have X_ := Az.mk (blkGr X.out h0 (by first | (simp; done) | (simp; omega) | omega)); clear L R B X; have L := L_; clear L_; have R := R_; clear R_; have B := B_; clear B_; have X := X_; clear X_; clear h0 h; have cB0 : World.cell? W4 ⟨gB, 0, none⟩ = some (.float .f32 a) := blkCell B.out 0; have cB1 : World.cell? W4 ⟨gB, 1, none⟩ = some (.float .f32 o) := blkCell B.out 1; have cB2 : World.cell? W4 ⟨gB, 2, none⟩ = some (.complex .f32 x y) := blkCell B.out 2; have cX0 : World.cell? W4 ⟨gX, 0, none⟩ = some (.float .f32 cy) := blkCell X.out 0; have cX1 : World.cell? W4 ⟨gX, 1, none⟩ = some (.complex .f32 cu cv) := blkCell X.out 1)) | ((with_reducible refine gateN 39 rfl ?_); go_must (refine ev_fl 39 rfl rfl rfl rfl rfl rfl ?_; intro b39 W5 hb39 h; have HF39 := Az.mk hb39; clear hb39; have h0 : World.grownBy W4 W5 none := (by refine World.grownBy.trans ?_ h; repeat (first | exact gr_refl _ _ | apply gr_drewN | apply gr_drew | apply gr_alloc)); clear cB0 cB1 cB2 cX0 cX1; have L_ := Az.mk (gr_new L.out h0 (by first | (simp; done) | (simp; omega) | omega)); have R_ := Az.mk (own_gr R.out h0 (by first | exact own_none _ | exact .inr hl?R.out | exact .inr (own_blk R.out B.out (by decide)) | exact .inr (own_blk R.out X.out (by decide)))); have B_ := Az.mk (blkGr B.out h0 (by first | (simp; done) | (simp; omega) | omega)); have X_ := Az.mk (blkGr X.out h0 (by first | (simp; done) | (simp; omega) | omega)); clear L R B X; have L := L_; clear L_; have R := R_; clear R_; have B := B_; clear B_; have X := X_; clear X_; clear h0 h; have cB0 : World.cell? W5 ⟨gB, 0, none⟩ = some (.float .f32 a) := blkCell B.out 0; have cB1 : World.cell? W5 ⟨gB, 1, none⟩ = some (.float .f32 o) := blkCell B.out 1; have cB2 : World.cell? W5 ⟨gB, 2, none⟩ = some (.complex .f32 x y) := blkCell B.out 2; have cX0 : World.cell? W5 ⟨gX, 0, none⟩ = some (.float .f32 cy) := blkCell X.out 0; have cX1 : World.cell? W5 ⟨gX, 1, none⟩ = some (.complex .f32 cu cv) := blkCell X.out 1)))
      refine (Times_c cu cv x y _).mono ?_
      rintro e v2 ⟨p, q, hp, hq, rfl, h⟩
      have h0 : World.grownBy W5 v2 _ := (by refine World.grownBy.trans ?_ h; repeat (first | exact gr_refl _ _ | apply gr_drewN | apply gr_drew | apply gr_alloc))
      clear cB0 cB1 cB2 cX0 cX1
      have L_ := Az.mk (gr_new L.out h0 (by first | (simp; done) | (simp; omega) | omega))
      have R_ := Az.mk (own_gr R.out h0 (by first | exact own_none _ | exact .inr hl?R.out | exact .inr (own_blk R.out B.out (by decide)) | exact .inr (own_blk R.out X.out (by decide))))
      have B_ := Az.mk (blkGr B.out h0 (by first | (simp; done) | (simp; omega) | omega))
      have X_ := Az.mk (blkGr X.out h0 (by first | (simp; done) | (simp; omega) | omega))
      clear L R B X
      have L := L_; clear L_
      have R := R_; clear R_
      have B := B_; clear B_
      have X := X_; clear X_
      clear h0 h
      have cB0 : World.cell? v2 ⟨gB, 0, none⟩ = some (.float .f32 a) := blkCell B.out 0
      have cB1 : World.cell? v2 ⟨gB, 1, none⟩ = some (.float .f32 o) := blkCell B.out 1
      have cB2 : World.cell? v2 ⟨gB, 2, none⟩ = some (.complex .f32 x y) := blkCell B.out 2
      have cX0 : World.cell? v2 ⟨gX, 0, none⟩ = some (.float .f32 cy) := blkCell X.out 0
      have cX1 : World.cell? v2 ⟨gX, 1, none⟩ = some (.complex .f32 cu cv) := blkCell X.out 1
      have HP := Az.mk (And.intro hp hq)
      clear hp hq
      go_wp2_with fail
      clear X cX0 cX1 cB0 cB1 cB2
      go_loopw [6, 11] (fun z i wv => ∃ bs2, ∃ j : Nat, i = .int .i64 j ∧ j ≤ 4 ∧ bs2.length ≤ 4 * k + j ∧ Az (bs2.length = 4 * k + j) ∧ Az (bs2.map (fN .f32) = trK (fN .f32 a) (fN .f32 o) (fN .f32 x) (fN .f32 y) (xs.map (fN .f32)) k ++ (txCell (fN .f32 a) (fN .f32 o) (fN .f32 x) (fN .f32 y) (fN .f32 xs[m]) (fN .f32 xs[m + 1]) (fN .f32 xs[m + 2]) (fN .f32 xs[m + 3])).take j) ∧ Az (w.grownBy wv none) ∧ Az (wv.ownsRow w.heap.size 25 1 z bs2.length (flV bs2)) ∧ Az (wv.heap[gB]? = some (.cells #[.float .f32 a, .float .f32 o, .complex .f32 x y] 28 (0, 0)))) (fun _ i _ => 4 - (intOf i).toNat)
      case atStart => exact ⟨bs, 0, by go_num, by omega, by omega, ⟨HBL.out⟩, ⟨by rw [HB.out]; simp⟩, L, R, B⟩
      case round =>
        clear L R B HBL HB hbl
        obtain ⟨bs2, j, rfl, hj4, hbl, HBL, HB, L, R, B⟩ := hrel
        by_cases hj : j < 4
        · go_wp2_with fail
          refine (Carried_c p q j (by omega) _).mono ?_
          rintro e v1 ⟨u, h1, rfl, h⟩
          have h0 : World.grownBy wr v1 _ := (by refine World.grownBy.trans ?_ h; repeat (first | exact gr_refl _ _ | apply gr_drewN | apply gr_drew | apply gr_alloc))
          have L_ := Az.mk (gr_new L.out h0 (by first | (simp; done) | (simp; omega) | omega))
          have R_ := Az.mk (own_gr R.out h0 (by first | exact own_none _ | exact .inr hl?R.out | exact .inr (own_blk R.out B.out (by decide))))
          have B_ := Az.mk (blkGr B.out h0 (by first | (simp; done) | (simp; omega) | omega))
          clear L R B
          have L := L_; clear L_
          have R := R_; clear R_
          have B := B_; clear B_
          clear h0 h
          have HU := Az.mk h1
          clear h1
          go_wp2_with (first | ((with_reducible refine gateN 54 rfl ?_); go_must (refine ev_fl 54 rfl rfl rfl rfl rfl rfl ?_; intro b54 W6 hb54 h; have HF54 := Az.mk hb54; clear hb54; have h0 : World.grownBy v1 W6 none := (by refine World.grownBy.trans ?_ h; repeat (first | exact gr_refl _ _ | apply gr_drewN | apply gr_drew | apply gr_alloc)); have L_ := Az.mk (gr_new L.out h0 (by first | (simp; done) | (simp; omega) | omega)); have R_ := Az.mk (own_gr R.out h0 (by first | exact own_none _ | exact .inr hl?R.out | exact .inr (own_blk R.out B.out (by decide)))); have B_ := Az.mk (blkGr B.out h0 (by first | (simp; done) | (simp; omega) | omega)); clear L R B; have L := L_; clear L_; have R := R_; clear R_; have B := B_; clear B_; clear h0 h)) | ((with_reducible refine gateN 55 rfl ?_); go_must (refine ev_bs 55 rfl rfl #[.float .f32 b54] 25 1 ?hr ?_; (case hr => first | (go_simp; done) | (go_simp; rfl)); intro gN heN W7 hbN h; have hgN : w.heap.size ≤ gN := Nat.le_trans L.out.size heN; have hlNR := Az.mk (own_lows R.out heN); have hgNB : gB < gN := Nat.lt_of_lt_of_le (blkLt B.out) heN; clear heN; have h0 : World.grownBy W6 W7 none := (by refine World.grownBy.trans ?_ h; repeat (first | exact gr_refl _ _ | apply gr_drewN | apply gr_drew | apply gr_alloc)); have L_ := Az.mk (gr_new L.out h0 (by first | (simp; done) | (simp; omega) | omega)); have R_ := Az.mk (own_gr R.out h0 (by first | exact own_none _ | exact .inr hl?R.out | exact .inr (own_blk R.out B.out (by decide)))); have B_ := Az.mk (blkGr B.out h0 (by first | (simp; done) | (simp; omega) | omega)); clear L R B; have L := L_; clear L_; have R := R_; clear R_; have B := B_; clear B_; clear h0 h; have N := Az.mk hbN; clear hbN; have cN0 : World.cell? W7 ⟨gN, 0, none⟩ = some (.float .f32 b54) := blkCell N.out 0)) | ((with_reducible refine gateN 56 rfl ?_); go_must (refine ev_app 56 rfl rfl rfl Try.underlying31 (z := .float .f32 0) (size := 1) (bytes := 4) (by kernel_rfl) rfl (by decide) rfl R.out rfl N.out rfl (by simp [Value.oneCell']) ?hbase ?hl ?hl2 ?_; (case hbase => have := L.out.size; omega); (case hl => omega); (case hl2 => omega); intro vR W8 hR h; have h0 : World.grownBy W7 W8 _ := (by refine World.grownBy.trans ?_ h; repeat (first | exact gr_refl _ _ | apply gr_drewN | apply gr_drew | apply gr_alloc)); clear cN0; have L_ := Az.mk (gr_new L.out h0 (fun j hj => .inl (own_base R.out j hj))); have B_ := Az.mk (blkGr B.out h0 (by first | exact fun he => own_blk R.out B.out (by decide) he.symm | exact fun he => hlBR.out he.symm | exact fun he => (by have := own_base R.out _ he.symm; omega))); clear L B; have L := L_; clear L_; have B := B_; clear B_; clear h0 h; clear R N; have R := Az.mk hR; clear hR)))
          refine ⟨⟨bs2 ++ [b54], j + 1, by go_num, by omega, by simp; omega, ⟨by have := HBL.out; simp; omega⟩, ⟨?_⟩, L, ⟨?_⟩, B⟩, by simp only [intOf]; omega⟩
          · rw [List.map_append, HB.out, txCell_take _ _ _ _ _ _ _ _ _ hj, List.append_assoc]
            simp only [List.map_cons, List.map_nil, HF54.out, HF39.out, HF36.out, HU.out, HD.out.1, HD.out.2.1, HD.out.2.2, HP.out.1, HP.out.2]
            rfl
          · rw [List.length_append, flV_snoc]; exact R.out
        · go_wp2_with fail
          have hj4 : j = 4 := by omega
          subst hj4
          refine ⟨⟨bs2, m + 4, k + 1, by go_num, by have := HN.out; omega, by omega, by omega, by omega, ⟨HBL.out⟩, ⟨?_⟩, L, R, B⟩, by simp only [intOf]; omega⟩
          have hm : 4 * k = m := by omega
          subst hm
          rw [HB.out, trK_succ, map_getD _ _ (by omega), map_getD _ _ (by omega), map_getD _ _ (by omega), map_getD _ _ (by omega)]
          rfl
    · go_wp2_with fail
      obtain ⟨A1, c1, rfl, hle, hr, _⟩ := own_rd R.out
      have HR1 := Az.mk hr
      have hkk : k = n / 4 := by have := HL3.out; omega
      have HT2 : bs.map (fN .f32) = trN (fN .f32 a) (fN .f32 o) (fN .f32 x) (fN .f32 y) (xs.map (fN .f32)) := by rw [HB.out, trN, List.length_map, HN.out, hkk]
      have HTT := Az.mk HT2
      clear HT2 hr
      clear cB0 cB1 cB2
      refine (SamplesOk_c A1 _ c1 bs _ rfl HR1.out).mono ?_
      rintro e w5 ⟨rfl, h⟩
      have h0 : World.grownBy wr w5 _ := (by refine World.grownBy.trans ?_ h; repeat (first | exact gr_refl _ _ | apply gr_drewN | apply gr_drew | apply gr_alloc))
      have L_ := Az.mk (gr_new L.out h0 (by first | (simp; done) | (simp; omega) | omega))
      have R_ := Az.mk (own_gr R.out h0 (by first | exact own_none _ | exact .inr hl?R.out | exact .inr (own_blk R.out B.out (by decide))))
      have B_ := Az.mk (blkGr B.out h0 (by first | (simp; done) | (simp; omega) | omega))
      clear L R B
      have L := L_; clear L_
      have R := R_; clear R_
      have B := B_; clear B_
      clear h0 h
      rw [HTT.out, HT.out]
      go_wp2_with fail
      go_ret2
      exact ⟨_, bs, HTT.out, rfl, R.out, L.out⟩
end Go.Proofs.Ytjomilloilbcgaa
