/- Lists of lines (rows of samples of one's own); contracts of impl.Erase and CutLines as lines use them. Conditions: what is erased or cut lies in the stream. -/
import Derived.Test.YtjomilloilbcgaaCd
namespace Go.Proofs.Ytjomilloilbcgaa
open Go.RowKit
set_option linter.unusedVariables false
set_option linter.unusedSimpArgs false

/-- Rows of samples, each a row of one's own. -/
def LinR (w : World) (base n : Nat) (vs : List Value) (ls : List (List Nat)) : Prop :=
  vs.length = ls.length ∧ ∀ r (h : r < ls.length) (h' : r < vs.length), ls[r].length = n ∧ w.ownsRow base 25 1 vs[r] n (flV ls[r])
section
variable {w w1 : World} {base n : Nat} {vs : List Value} {ls : List (List Nat)}
theorem LinR.nil (w : World) (base n : Nat) : LinR w base n [] [] := ⟨rfl, fun r h => by simp at h⟩
theorem LinR.own' (h : LinR w base n vs ls) (r : Nat) (hr : r < vs.length) : ∃ hr' : r < ls.length, w.ownsRow base 25 1 vs[r] n (flV ls[r]) := ⟨by rw [← h.1]; exact hr, (h.2 r _ hr).2⟩
theorem LinR_gr {row : Option Nat} (h : LinR w base n vs ls) (hg : w.grownBy w1 row) (hs : ∀ r (hr : r < vs.length), vs[r].ownBlock = none ∨ vs[r].ownBlock ≠ row) : LinR w1 base n vs ls :=
  ⟨h.1, fun r hr hr' => ⟨(h.2 r hr hr').1, own_gr (h.2 r hr hr').2 hg (hs r hr')⟩⟩
theorem LinR_blk (h : LinR w base n vs ls) {g : Nat} {cs : Array Value} {t : TypeId} (hb : w.heap[g]? = some (.cells cs t (0, 0))) (ht : 25 ≠ t) (r : Nat) (hr : r < vs.length) : vs[r].ownBlock = none ∨ vs[r].ownBlock ≠ some g :=
  (h.own' r hr).elim fun _ ho => .inr (own_blk ho hb ht)
theorem LinR_own (h : LinR w base n vs ls) {b' : Nat} {e' : TypeId} {size' : Nat} {v' : Value} {n' : Nat} {xs' : List Value} (h' : w.ownsRow b' e' size' v' n' xs') (hne : 25 ≠ e') (r : Nat) (hr : r < vs.length) : vs[r].ownBlock = none ∨ vs[r].ownBlock ≠ v'.ownBlock :=
  (h.own' r hr).elim fun _ ho => own_own ho h' hne
theorem LinR_lows (h : LinR w base n vs ls) {g : Nat} (hg : w.heap.size ≤ g) (r : Nat) (hr : r < vs.length) : vs[r].ownBlock = none ∨ vs[r].ownBlock ≠ some g :=
  (h.own' r hr).elim fun _ ho => .inr (own_lows ho hg)
theorem LinR.snoc (h : LinR w base n vs ls) {v : Value} {l : List Nat} (hv : w.ownsRow base 25 1 v n (flV l)) (hl : l.length = n) : LinR w base n (vs ++ [v]) (ls ++ [l]) := by
  refine ⟨by simp [h.1], fun r hr hr' => ?_⟩
  by_cases h1 : r < ls.length
  · have h2 : r < vs.length := by rw [h.1]; exact h1
    rw [List.getElem_append_left h1, List.getElem_append_left h2]
    exact h.2 r h1 h2
  · have h2 : r = ls.length := by simp at hr; omega
    subst h2
    rw [List.getElem_append_right (by omega), List.getElem_append_right (by rw [h.1]; omega)]
    simp only [h.1, Nat.sub_self, List.getElem_singleton]
    exact ⟨hl, hv⟩
theorem LinR.weak {base' : Nat} (h : LinR w base n vs ls) (hb : base' ≤ base) : LinR w base' n vs ls := ⟨h.1, fun r hr hr' => ⟨(h.2 r hr hr').1, own_weak (h.2 r hr hr').2 hb⟩⟩
theorem LinR.val (h : LinR w base n vs ls) (hn : 0 < n) {r : Nat} (hr : r < ls.length) : ∃ g c, vs[r]? = some (.slice (some ⟨g, 0, none⟩) n c) ∧ n ≤ c ∧ Rd w (some ⟨g, 0, none⟩) n 1 (flV ls[r]) ∧ ls[r].length = n := by
  have hr' : r < vs.length := by rw [h.1]; exact hr
  obtain ⟨h1, h2⟩ := h.2 r hr hr'
  obtain ⟨g, c, e, hc, _⟩ := own_slice h2 hn
  rw [e] at h2
  exact ⟨g, c, by rw [List.getElem?_eq_getElem hr', e], hc, own_rdS h2, h1⟩
end
/-- Samples of which n are 0 from a place on. -/
def eraseN (bs : List Nat) (at' n : Nat) : List Nat := bs.take at' ++ List.replicate n 0 ++ bs.drop (at' + n)
theorem eraseN_zero (bs : List Nat) (a : Nat) : eraseN bs a 0 = bs := by simp [eraseN]
theorem eraseN_len (bs : List Nat) (a n : Nat) (h : a + n ≤ bs.length) : (eraseN bs a n).length = bs.length := by simp [eraseN]; omega
theorem eraseN_get (bs : List Nat) (a n j : Nat) (h : a + n ≤ bs.length) : (eraseN bs a n)[j]? = if a ≤ j ∧ j < a + n then some 0 else bs[j]? := by
  have h1 : (bs.take a).length = a := by rw [List.length_take]; omega
  unfold eraseN
  by_cases h2 : j < a
  · rw [if_neg (by omega), List.append_assoc, List.getElem?_append_left (by omega), List.getElem?_take, if_pos h2]
  · rw [List.append_assoc, List.getElem?_append_right (by omega), h1]
    by_cases h3 : j < a + n
    · rw [if_pos (by omega), List.getElem?_append_left (by simp; omega), List.getElem?_replicate, if_pos (by omega)]
    · rw [if_neg (by omega), List.getElem?_append_right (by simp; omega), List.length_replicate, List.getElem?_drop]
      congr 1; omega
theorem eraseN_set (bs : List Nat) (a n : Nat) (h : a + n < bs.length) : (eraseN bs a n).set (a + n) 0 = eraseN bs a (n + 1) := by
  apply List.ext_getElem?
  intro j
  rw [List.getElem?_set, eraseN_get _ _ _ _ (by omega), eraseN_get _ _ _ _ (by omega), eraseN_len _ _ _ (by omega)]
  by_cases h1 : a + n = j
  · rw [if_pos h1, if_pos (by omega), if_pos (by omega)]
  · rw [if_neg h1]
    by_cases h2 : a ≤ j ∧ j < a + n
    · rw [if_pos h2, if_pos (by omega)]
    · rw [if_neg h2, if_neg (by omega)]
theorem flV_set (bs : List Nat) (i x : Nat) : (flV bs).set i (.float .f32 x) = flV (bs.set i x) := by simp [flV, List.map_set]
theorem flV_len (bs : List Nat) : (flV bs).length = bs.length := by simp [flV]
set_option maxRecDepth 8000 in
set_option maxHeartbeats 2000000 in
theorem Erase_c (b off ln c at' : Nat) (bs : List Nat) (w : World) (hn : bs.length = ln) (h20 : ln ≤ 20000) (hrd : Rd w (some ⟨b, off, none⟩) ln 1 (flV bs)) (hat : at' + 8 ≤ ln) :
    Calls Try.prog 28 #[.slice (some ⟨b, off, none⟩) ln c, .int .i64 at', .int .i64 8] w (RetBits w (eraseN bs at' 8)) := by
  have L := Az.mk (gr_refl w none)
  have HR := Az.mk hrd
  have HN := Az.mk hn
  clear hrd hn
  go_enter Try.func28, Try.ntmps28
  go_wp2_with fail
  refine (CloneFl_c b off ln c bs _ HN.out h20 HR.out).mono ?_
  rintro e w1 ⟨v1, rfl, hR, h⟩
  have h0 : World.grownBy w w1 _ := (by refine World.grownBy.trans ?_ h; repeat (first | exact gr_refl _ _ | apply gr_drewN | apply gr_drew | apply gr_alloc))
  have L_ := Az.mk (gr_new L.out h0 (by first | (simp; done) | (simp; omega) | omega))
  clear L
  have L := L_; clear L_
  clear h0 h
  have R := Az.mk hR; clear hR
  rw [HN.out] at R
  obtain ⟨g1, c1, rfl, hc1, _, _⟩ := own_slice R.out (by omega)
  go_wp2_with fail
  refine (within_c _ _ _ _).mono ?_
  rintro e w2 ⟨rfl, h⟩
  have h0 : World.grownBy w1 w2 _ := (by refine World.grownBy.trans ?_ h; repeat (first | exact gr_refl _ _ | apply gr_drewN | apply gr_drew | apply gr_alloc))
  have L_ := Az.mk (gr_new L.out h0 (by first | (simp; done) | (simp; omega) | omega))
  have R_ := Az.mk (own_gr R.out h0 (by first | exact own_none _ | exact .inr hl?R.out))
  clear L R
  have L := L_; clear L_
  have R := R_; clear R_
  clear h0 h
  have e1 : (decide ((0 : Int) ≤ 8) && decide ((8 : Int) ≤ 280)) = true := by decide
  rw [e1]
  have e2 : decide ((ln : Int) ≤ (at' : Int)) = false := by simp; omega
  go_wp2_with fail
  go_loopw [8] (fun i wr => ∃ j : Nat, i = .int .i64 ((at' + j : Nat) : Int) ∧ j ≤ 8 ∧ Az (w.grownBy wr none) ∧ Az (wr.ownsRow w.heap.size 25 1 (.slice (some ⟨g1, 0, none⟩) ln c1) ln (flV (eraseN bs at' j)))) (fun i _ => at' + 8 - (intOf i).toNat)
  case atStart => exact ⟨0, by go_num, by omega, L, ⟨by rw [eraseN_zero]; exact R.out⟩⟩
  case round =>
    clear L R
    obtain ⟨j, rfl, hj, L, R⟩ := hrel
    have hln : (at' : Int) + 8 ≤ ln := by omega
    by_cases hk : j < 8
    · have hk2 : (at' : Int) + j < (at' : Int) + 8 := by omega
      go_wp2_with (first | ((with_reducible refine gateSt 35 rfl ?_); go_must (refine ev_so1 rfl rfl rfl (i := at' + j) (v := .float .f32 0) rfl rfl R.out (by kernel_rfl) rfl (by omega) ?_; intro W1 hR h; have h0 : World.grownBy wr W1 _ := (by refine World.grownBy.trans ?_ h; repeat (first | exact gr_refl _ _ | apply gr_drewN | apply gr_drew | apply gr_alloc)); have L_ := Az.mk (gr_new L.out h0 (fun j hj => .inl (own_base R.out j hj))); clear L; have L := L_; clear L_; clear h0 h; clear R; have R := Az.mk hR; clear hR)))
      refine ⟨⟨j + 1, by go_num, by omega, L, ⟨?_⟩⟩, by simp only [intOf]; omega⟩
      have := R.out
      rw [flV_set, eraseN_set _ _ _ (by rw [HN.out]; omega)] at this; exact this
    · obtain rfl : j = 8 := by omega
      go_wp2_with fail
      go_ret
      exact ⟨_, rfl, by rw [eraseN_len _ _ _ (by rw [HN.out]; omega), HN.out]; exact R.out, L.out⟩
def cutN (bs : List Nat) (n k : Nat) : List Nat := (bs.drop k).take n
theorem cutN_len (bs : List Nat) (n k : Nat) (h : k + n ≤ bs.length) : (cutN bs n k).length = n := by simp [cutN]; omega
theorem Rd_cut {w : World} {b off ln : Nat} {bs : List Nat} (h : Rd w (some ⟨b, off, none⟩) ln 1 (flV bs)) {k n : Nat} (hk : k + n ≤ ln) (hl : bs.length = ln) : Rd w (some ⟨b, off + k, none⟩) n 1 (flV (cutN bs n k)) := by
  refine ⟨by rw [flV_len, cutN_len _ _ _ (by omega)]; omega, by have := h.2.1; omega, fun hn => ⟨b, off + k, rfl, fun j u hu => ?_⟩⟩
  obtain ⟨b', off', e, hc⟩ := h.2.2 (by omega)
  injection e with e
  injection e with e1 e2
  subst e1; subst e2
  rw [Nat.add_assoc]
  refine hc (k + j) u ?_
  unfold flV cutN at hu
  unfold flV
  rw [List.getElem?_map, List.getElem?_take] at hu
  rw [List.getElem?_map]
  split at hu
  · rw [List.getElem?_drop] at hu; exact hu
  · cases hu
def natsV (ks : List Nat) : List Int := ks.map fun (k : Nat) => (k : Int)
def RetLines (w : World) (n : Nat) (ls : List (List Nat)) (e : Ending) (w' : World) : Prop := ∃ v vs, e = .returned v ∧ w'.ownsRow w.heap.size 31 1 v ls.length vs ∧ LinR w' w.heap.size n vs ls ∧ w.grownBy w' none
set_option maxRecDepth 8000 in
set_option maxHeartbeats 2000000 in
theorem CutLines_c (b off ln c n m : Nat) (A : Option Addr) (cA : Nat) (bs : List Nat) (ks : List Nat) (w : World) (hn : bs.length = ln) (h20 : ln ≤ 20000) (hrd : Rd w (some ⟨b, off, none⟩) ln 1 (flV bs)) (hm : ks.length = m) (hrk : Rd w A m 1 (intsV (natsV ks))) (hks : ∀ k ∈ ks, k + n ≤ ln) (hn1 : 28 ≤ n) (hn2 : n ≤ 280) (hm2 : m ≤ 1000) (hlc : ln ≤ c) :
    Calls Try.prog 27 #[.slice (some ⟨b, off, none⟩) ln c, .slice A m cA, .int .i64 n] w (RetLines w n (ks.map (cutN bs n))) := by
  have L := Az.mk (gr_refl w none)
  have HR := Az.mk hrd
  have HN := Az.mk hn
  have HM := Az.mk hm
  have HRK := Az.mk hrk
  have HKS := Az.mk hks
  have O := Az.mk (own_nil w w.heap.size 31 1)
  have P := Az.mk (LinR.nil w w.heap.size n)
  clear hrd hn hm hrk hks
  go_enter Try.func27, Try.ntmps27
  go_wp2_with fail
  refine (lengthOk_c _ _).mono ?_
  rintro e w2 ⟨rfl, h⟩
  have h0 : World.grownBy w w2 _ := (by refine World.grownBy.trans ?_ h; repeat (first | exact gr_refl _ _ | apply gr_drewN | apply gr_drew | apply gr_alloc))
  have L_ := Az.mk (gr_new L.out h0 (by first | (simp; done) | (simp; omega) | omega))
  have O_ := Az.mk (own_gr O.out h0 (by first | exact own_none _ | exact .inr hl?O.out))
  have P_ := Az.mk (LinR_gr P.out h0 (by first | exact fun r hr => own_none _ | exact hl?P.out | exact LinR_own P.out O.out (by decide) | exact LinR_low HLow.out O.out))
  clear L O P
  have L := L_; clear L_
  have O := O_; clear O_
  have P := P_; clear P_
  clear h0 h
  have e1 : (decide (28 ≤ (n : Int)) && decide ((n : Int) ≤ 280)) = true := by simp; omega
  have e2 : decide (20000 < (ln : Int)) = false := by simp; omega
  rw [e1]
  go_wp2_with fail
  go_loopw [7, 20] (fun z i wr => ∃ vs, ∃ k : Nat, i = .int .i64 k ∧ k ≤ m ∧ Az (w.grownBy wr none) ∧ Az (wr.ownsRow w.heap.size 31 1 z k vs) ∧ Az (LinR wr w.heap.size n vs ((ks.take k).map (cutN bs n)))) (fun _ i _ => m - (intOf i).toNat)
  case atStart => exact ⟨[], 0, by go_num, by omega, L, O, P⟩
  case round =>
    clear L O P
    obtain ⟨vs, k, rfl, hk, L, O, P⟩ := hrel
    by_cases hkm : k < m
    · have hki : (k : Int) < m := by omega
      have hkl : k < ks.length := by rw [HM.out]; exact hkm
      obtain ⟨x, hx⟩ : ∃ x, ks[k] = x := ⟨_, rfl⟩
      have hxn : x + n ≤ ln := by rw [← hx]; exact HKS.out _ (List.getElem_mem hkl)
      obtain ⟨bA, oA, rfl, hcell⟩ := (HRK.out.up L.out).2.2 (by omega)
      have dA := hcell k (.int .i64 (x : Int)) (by rw [← hx]; simp [intsV, natsV, hkl])
      clear hcell
      go_wp2_with fail
      refine (within_c _ _ _ _).mono ?_
      rintro e v1 ⟨rfl, h⟩
      have h0 : World.grownBy wr v1 _ := (by refine World.grownBy.trans ?_ h; repeat (first | exact gr_refl _ _ | apply gr_drewN | apply gr_drew | apply gr_alloc))
      have L_ := Az.mk (gr_new L.out h0 (by first | (simp; done) | (simp; omega) | omega))
      have O_ := Az.mk (own_gr O.out h0 (by first | exact own_none _ | exact .inr hl?O.out))
      have P_ := Az.mk (LinR_gr P.out h0 (by first | exact fun r hr => own_none _ | exact hl?P.out | exact LinR_own P.out O.out (by decide) | exact LinR_low HLow.out O.out))
      clear L O P
      have L := L_; clear L_
      have O := O_; clear O_
      have P := P_; clear P_
      clear h0 h
      have e3 : (decide ((0 : Int) ≤ (x : Int)) && decide ((x : Int) ≤ (ln : Int) - n)) = true := by simp; omega
      rw [e3]
      have hxi : (x : Int) ≤ (x : Int) + n := by omega
      have hxi2 : (x : Int) + n ≤ c := by omega
      go_wp2_with fail
      have hv1 := L.out.size
      refine (CloneFl_c b (off + x) n _ (cutN bs n x) _ (cutN_len _ _ _ (by rw [HN.out]; exact hxn)) (by omega) ((Rd_cut HR.out hxn HN.out).up L.out)).mono ?_
      rintro e v2 ⟨v3, rfl, hR, h⟩
      have h0 : World.grownBy v1 v2 _ := (by refine World.grownBy.trans ?_ h; repeat (first | exact gr_refl _ _ | apply gr_drewN | apply gr_drew | apply gr_alloc))
      have L_ := Az.mk (gr_new L.out h0 (by first | (simp; done) | (simp; omega) | omega))
      have O_ := Az.mk (own_gr O.out h0 (by first | exact own_none _ | exact .inr hl?O.out))
      have P_ := Az.mk (LinR_gr P.out h0 (by first | exact fun r hr => own_none _ | exact hl?P.out | exact LinR_own P.out O.out (by decide) | exact LinR_low HLow.out O.out))
      clear L O P
      have L := L_; clear L_
      have O := O_; clear O_
      have P := P_; clear P_
      clear h0 h
      have R := Az.mk hR; clear hR
      have hcl := cutN_len bs n x (by rw [HN.out]; exact hxn)
      have R_ := Az.mk (show World.ownsRow v2 _ 25 1 v3 n (flV (cutN bs n x)) from by have := R.out; rw [hcl] at this; exact this)
      clear R
      have R := R_
      clear R_
      have HCL := Az.mk hcl
      clear hcl
      obtain ⟨g3, c3, rfl, hc3, _, _⟩ := own_slice R.out (by omega)
      go_wp2_with (first | ((with_reducible refine gateN 38 rfl ?_); go_must (refine ev_bs 38 rfl rfl #[.slice (some ⟨g3, 0, none⟩) n c3] 31 1 ?hr ?_; (case hr => first | (go_simp; done) | (go_simp; rfl)); intro gN heN W1 hbN h; have hgN : w.heap.size ≤ gN := Nat.le_trans L.out.size heN; have hlNO := Az.mk (own_lows O.out heN); have hlNP := Az.mk (LinR_lows P.out heN); have hlNR := Az.mk (own_lows R.out heN); clear heN; have h0 : World.grownBy v2 W1 none := (by refine World.grownBy.trans ?_ h; repeat (first | exact gr_refl _ _ | apply gr_drewN | apply gr_drew | apply gr_alloc)); have L_ := Az.mk (gr_new L.out h0 (by first | (simp; done) | (simp; omega) | omega)); have O_ := Az.mk (own_gr O.out h0 (by first | exact own_none _ | exact .inr hl?O.out)); have P_ := Az.mk (LinR_gr P.out h0 (by first | exact fun r hr => own_none _ | exact hl?P.out | exact LinR_own P.out O.out (by decide) | exact LinR_own P.out R.out (by decide) | exact LinR_low HLow.out O.out | exact LinR_low HLow.out R.out)); have R_ := Az.mk (own_gr R.out h0 (by first | exact own_none _ | exact .inr hl?R.out)); clear L O P R; have L := L_; clear L_; have O := O_; clear O_; have P := P_; clear P_; have R := R_; clear R_; clear h0 h; have N := Az.mk hbN; clear hbN; have cN0 : World.cell? W1 ⟨gN, 0, none⟩ = some (.slice (some ⟨g3, 0, none⟩) n c3) := blkCell N.out 0)) | ((with_reducible refine gateN 39 rfl ?_); go_must (refine ev_app 39 rfl rfl rfl Try.underlying61 (z := .slice none 0 0) (size := 1) (bytes := 24) (by kernel_rfl) rfl (by decide) rfl O.out rfl N.out rfl (by simp [Value.oneCell']) ?hbase ?hl ?hl2 ?_; (case hbase => have := L.out.size; omega); (case hl => omega); (case hl2 => omega); intro vO W2 hO h; have h0 : World.grownBy W1 W2 _ := (by refine World.grownBy.trans ?_ h; repeat (first | exact gr_refl _ _ | apply gr_drewN | apply gr_drew | apply gr_alloc)); clear cN0; have L_ := Az.mk (gr_new L.out h0 (fun j hj => .inl (own_base O.out j hj))); have P_ := Az.mk (LinR_gr P.out h0 (by first | exact fun r hr => own_none _ | exact hlOP.out | exact LinR_blk P.out N.out (by decide) | exact LinR_own P.out O.out (by decide) | exact LinR_own P.out R.out (by decide) | exact LinR_low HLow.out O.out | exact LinR_low HLow.out R.out)); have R_ := Az.mk (own_gr R.out h0 (own_own R.out O.out (by decide))); clear L P R; have L := L_; clear L_; have P := P_; clear P_; have R := R_; clear R_; clear h0 h; clear O N; have O := Az.mk hO; clear hO)))
      refine ⟨⟨vs ++ [.slice (some ⟨g3, 0, none⟩) n c3], k + 1, by go_num, by omega, L, O, ⟨?_⟩⟩, by simp only [intOf]; omega⟩
      rw [List.take_succ_eq_append_getElem hkl, hx, List.map_append, List.map_cons, List.map_nil]
      exact P.out.snoc (own_weak R.out hv1) HCL.out
    · obtain rfl : k = m := by omega
      go_wp2_with fail
      go_ret
      refine ⟨_, vs, rfl, ?_, ?_, L.out⟩
      · rw [List.length_map, HM.out]; exact O.out
      · have := P.out
        rw [List.take_of_length_le (by rw [HM.out]; exact Nat.le_refl _)] at this; exact this
end Go.Proofs.Ytjomilloilbcgaa
