/- Contracts of laws.markText, toStringS, markStringS, heldStringS, eqStringS, szStringS. No condition. -/
import Derived.Test.YtfjafeepmpnegaaDoorSs
import Derived.Test.YtfjafeepmpnegaaDoorSn
namespace Go.Proofs.YtfjafeepmpnegaaDoor
open Go.RowKit
set_option linter.unusedVariables false
set_option linter.unusedSimpArgs false

def markT (k : Nat) : Tx := 109 :: Lib.decDigits k
def marks (k n : Nat) : List Tx := (List.range n).map fun j => markT (k + j)
theorem marks_len (k n : Nat) : (marks k n).length = n := by simp [marks]
theorem marks_get {k n j : Nat} (h : j < n) : (marks k n)[j]? = some (markT (k + j)) := by simp [marks, List.getElem?_range h]
theorem markT_len {k : Nat} (h : k ≤ 9223372036854775807) : (markT k).length ≤ 21 := by
  have h1 := nDigits_le (u := k) (k := 19) (by decide) (by omega)
  unfold markT
  rw [List.length_cons, Lib.decDigits_length]
  omega
/-- A row as far as a loop has come: new in front, old behind. -/
def mix (ys xs : List Value) (j : Nat) : List Value := ys.take j ++ xs.drop j
theorem mix_zero (ys xs : List Value) : mix ys xs 0 = xs := by simp [mix]
theorem mix_all {ys xs : List Value} (h : ys.length = xs.length) : mix ys xs ys.length = ys := by unfold mix; rw [List.take_length, List.drop_of_length_le (by omega), List.append_nil]
theorem mix_set {ys xs : List Value} (hl : ys.length = xs.length) {j : Nat} {v : Value} (h : ys[j]? = some v) : (mix ys xs j).set j v = mix ys xs (j + 1) := by
  have hj := (List.getElem?_eq_some_iff.1 h).1
  unfold mix
  have hd : xs.drop j = xs[j] :: xs.drop (j + 1) := List.drop_eq_getElem_cons (by omega)
  rw [List.set_append_right _ _ (by rw [List.length_take]; omega), List.length_take, Nat.min_eq_left (by omega), Nat.sub_self, List.take_add_one, h, hd, List.set_cons_zero, List.append_assoc]
  rfl
theorem one_byteI {w : World} {g m : Nat} {e : TypeId} (hb : w.heap[g]? = some (.cells #[.int .u8 (48 + (m : Int) % 10)] e (0, 0))) : ∀ j (hj : j < [UInt8.ofNat (48 + m % 10)].length), w.cell? ((⟨g, 0, none⟩ : Addr).add j) = some (.int .u8 ([UInt8.ofNat (48 + m % 10)][j].toNat : Int)) := by
  rw [show (48 + (m : Int) % 10) = ((48 + m % 10 : Nat) : Int) by omega] at hb
  exact one_byte hb (by omega)
set_option maxRecDepth 8000 in
set_option maxHeartbeats 1000000 in
theorem markText_c (u : Nat) (hu : u ≤ 9223372036854775807) (w : World) : Calls Tryd.prog 61 #[.int .i64 u] w (RetSt w (markT u)) := by
  have L := Az.mk (gr_refl w none)
  by_cases h0 : u = 0
  · subst h0
    go_enter Tryd.func61, Tryd.ntmps61
    go_wp2_with fail
    go_ret
    exact ⟨by rw [markT, decDigits_small (by decide)]; rfl, L.out⟩
  · have hb : ¬ (u : Int) ≤ 0 := by omega
    go_enter Tryd.func61, Tryd.ntmps61
    go_wp2_with fail
    go_loopw [0, 3] (fun n s wr => ∃ m : Nat, ∃ t, n = .int .i64 m ∧ s = .string (tx t) ∧ m ≤ 9223372036854775807 ∧ t.length ≤ 100 ∧ Az (Suf u m t) ∧ Az (w.grownBy wr none)) (fun n _ _ => (intOf n).toNat)
    case atStart => exact ⟨u, [], by go_num, rfl, hu, by simp, ⟨.inr ⟨by omega, by simp⟩⟩, L⟩
    case round =>
      clear L
      obtain ⟨m, t, rfl, rfl, hm, ht, HS, L⟩ := hrel
      by_cases hm0 : m = 0
      · subst hm0
        have he : t = Lib.decDigits u := by
          rcases HS.out with ⟨_, h⟩ | ⟨h, _⟩
          · exact h
          · omega
        have HEQ := Az.mk he
        clear he
        go_wp2_with fail
        go_ret
        exact ⟨by rw [markT, ← HEQ.out]; rfl, L.out⟩
      · have hmi : 0 < (m : Int) := by omega
        go_wp2_with (first | ((with_reducible refine gateN 12 rfl ?_); go_must (refine ev_bs 12 rfl rfl #[.int .u8 (48 + (m : Int) % 10)] 5 1 ?hr ?_; (case hr => first | (go_simp; done) | (go_simp; rfl)); intro gN heN W1 hbN h; have hgN : w.heap.size ≤ gN := Nat.le_trans L.out.size heN; clear heN; have h0 : World.grownBy wr W1 none := (by refine World.grownBy.trans ?_ h; repeat (first | exact gr_refl _ _ | apply gr_drewN | apply gr_drew | apply gr_alloc)); have L_ := Az.mk (gr_new L.out h0 (by first | (simp; done) | (simp; omega) | omega)); clear L; have L := L_; clear L_; clear h0 h; have N := Az.mk hbN; clear hbN; have cN0 : World.cell? W1 ⟨gN, 0, none⟩ = some (.int .u8 (48 + (m : Int) % 10)) := blkCell N.out 0)) | ((with_reducible refine gateN 13 rfl ?_); go_must (refine ev_cb 13 rfl rfl rfl (l := [UInt8.ofNat (48 + m % 10)]) rfl rfl Tryd.underlying32 Tryd.underlying5 Tryd.underlying9 (one_byteI N.out) ?_)))
        have hs2 := HS.out.step (by omega)
        have hs3 := hs2.len
        have hs4 := nDigits_le (u := u) (k := 19) (by decide) (by omega)
        exact ⟨⟨m / 10, UInt8.ofNat (48 + m % 10) :: t, by go_num, by rw [UInt8.ofNat_add]; rfl, by omega, by omega, ⟨hs2⟩, L⟩, by simp only [intOf]; omega⟩
set_option maxRecDepth 8000 in
set_option maxHeartbeats 1000000 in
theorem toStringS_c (A : Option Addr) (n c : Nat) (fs : List Tx) (hs : n ≤ 8796093022207) (w : World) (hn : fs.length = n) (hrd : Rd w A n 1 (stV fs)) : Calls Tryd.prog 27 #[.slice A n c] w (RetOwn w fs) := by
  have L := Az.mk (gr_refl w none)
  have HR := Az.mk hrd
  have HN := Az.mk hn
  clear hrd hn
  go_enter Tryd.func27, Tryd.ntmps27
  go_wp2_with (first | ((with_reducible refine gateN 7 rfl ?_); go_must (refine ev_mk 7 rfl rfl rfl (n := n) Tryd.underlying23 (z := .string ByteArray.empty) (size := 1) (bytes := 16) (by kernel_rfl) rfl rfl ?hL ?hC (base := w.heap.size) ?hb2 ?hb3 ?hb4 ?_; (case hL => (first | rfl | (simp; done) | omega)); (case hC => (first | rfl | (simp; done) | omega)); (case hb2 => omega); (case hb3 => simp only [maxLen]; omega); (case hb4 => have := L.out.size; omega); intro gR W1 hR h; have h0 : World.grownBy w W1 none := (by refine World.grownBy.trans ?_ h; repeat (first | exact gr_refl _ _ | apply gr_drewN | apply gr_drew | apply gr_alloc)); have L_ := Az.mk (gr_new L.out h0 (by first | (simp; done) | (simp; omega) | omega)); clear L; have L := L_; clear L_; clear h0 h; have R := Az.mk hR; clear hR)))
  obtain ⟨xs, hxs⟩ : ∃ xs, (madeCells (Value.string ByteArray.empty).cells (n * 1)).toList = xs := ⟨_, rfl⟩
  rw [hxs] at R
  clear hxs
  have HXL : Az ((stV fs).length = xs.length) := ⟨by rw [R.out.1, stV_len, HN.out]; omega⟩
  go_wp2_with fail
  go_loopw [4] (fun i wr => ∃ k : Nat, i = .int .i64 k ∧ k ≤ n ∧ Az (w.grownBy wr none) ∧ Az (wr.ownsRow w.heap.size 9 1 (.slice (some ⟨gR, 0, none⟩) n n) n (mix (stV fs) xs k))) (fun i _ => n - (intOf i).toNat)
  case atStart => exact ⟨0, by go_num, by omega, L, ⟨by rw [mix_zero]; exact R.out⟩⟩
  case round =>
    clear L R
    obtain ⟨k, rfl, hk, L, R⟩ := hrel
    by_cases hkn : k < n
    · have hki : (k : Int) < n := by omega
      obtain ⟨t, ht⟩ : ∃ t, fs[k]? = some t := ⟨_, List.getElem?_eq_getElem (by rw [HN.out]; exact hkn)⟩
      obtain ⟨b, off, rfl, hcell⟩ := (HR.out.up L.out).2.2 (by omega)
      have d0 := hcell _ _ (stV_get ht)
      have HM := Az.mk (mix_set HXL.out (stV_get ht))
      clear hcell ht
      go_wp2_with (first | ((with_reducible refine gateSt 20 rfl ?_); go_must (refine ev_so1 rfl rfl rfl (i := k) (v := .string (tx t)) rfl rfl R.out (by kernel_rfl) rfl (by omega) ?_; intro W2 hR h; have h0 : World.grownBy wr W2 _ := (by refine World.grownBy.trans ?_ h; repeat (first | exact gr_refl _ _ | apply gr_drewN | apply gr_drew | apply gr_alloc)); have L_ := Az.mk (gr_new L.out h0 (by first | exact (fun j hj => .inl (own_base R.out j hj)) | exact (fun j hj => .inr (by simpa [Value.ownBlock] using hj)) | exact (fun j hj => .inr (by simpa [Value.ownBlock] using hj.symm)))); clear L; have L := L_; clear L_; clear h0 h; clear R; have R := Az.mk hR; clear hR)))
      exact ⟨⟨k + 1, by go_num, by omega, L, ⟨by rw [← HM.out]; exact R.out⟩⟩, by simp only [intOf]; omega⟩
    · obtain rfl : k = n := by omega
      go_wp2_with fail
      go_ret
      refine ⟨_, rfl, ?_, L.out⟩
      have h1 := mix_all HXL.out
      rw [stV_len, HN.out] at h1
      rw [HN.out, ← h1]
      exact R.out
set_option maxRecDepth 8000 in
set_option maxHeartbeats 1000000 in
theorem eqStringS_c (A A' : Option Addr) (n c c' : Nat) (xs : List Tx) (w : World) (hn : xs.length = n) (hrd : Rd w A n 1 (stV xs)) (hrd' : Rd w A' n 1 (stV xs)) :
    Calls Tryd.prog 28 #[.slice A n c, .slice A' n c'] w (RetBo w true) := by
  have L := Az.mk (gr_refl w none)
  have HR := Az.mk hrd
  have HR' := Az.mk hrd'
  have HN := Az.mk hn
  have hmax := hrd.max
  clear hrd hrd' hn
  go_enter Tryd.func28, Tryd.ntmps28
  go_wp2_with fail
  go_loopw [5] (fun i wr => ∃ k : Nat, i = .int .i64 k ∧ k ≤ n ∧ Az (w.grownBy wr none)) (fun i _ => n - (intOf i).toNat)
  case atStart => exact ⟨0, by go_num, by omega, L⟩
  case round =>
    clear L
    obtain ⟨k, rfl, hkn, L⟩ := hrel
    by_cases hk : k < n
    · obtain ⟨t, ht⟩ : ∃ t, xs[k]? = some t := ⟨_, List.getElem?_eq_getElem (by rw [HN.out]; exact hk)⟩
      obtain ⟨b, off, rfl, hcell⟩ := (HR.out.up L.out).2.2 (by omega)
      obtain ⟨b', off', rfl, hcell'⟩ := (HR'.out.up L.out).2.2 (by omega)
      have d0 := hcell _ _ (stV_get ht)
      have d1 := hcell' _ _ (stV_get ht)
      clear hcell hcell' ht
      go_wp2_with fail
      have v0 : ∀ w1, Up wr w1 → w1.cell? ⟨b, off + k, none⟩ = some (.string (tx t)) := fun w1 hu => cellGr hu d0 (by simp)
      have v1 : ∀ w1, Up wr w1 → w1.cell? ⟨b', off' + k, none⟩ = some (.string (tx t)) := fun w1 hu => cellGr hu d1 (by simp)
      refine wp_region_relF (fun _ _ _ _ => True) (by kernel_rfl) (by kernel_rfl) ?_
      repeat (first | (refine lex_val' rfl ?_; apply Exists.intro; refine ⟨fun w1 hu => ?_, ?_⟩; (focus (first | (go_simp; done) | (go_simp; rfl))); refine lexK (fun K hK => ?_); go_simp; refine hK _ ?_; clear hK K))
      refine lex_nil (fun W1 h hF => ?_)
      have h0 : World.grownBy wr W1 none := (by refine World.grownBy.trans ?_ h; repeat (first | exact gr_refl _ _ | apply gr_drewN | apply gr_drew | apply gr_alloc))
      have L_ := Az.mk (gr_new L.out h0 (by first | (simp; done) | (simp; omega) | omega))
      clear L
      have L := L_; clear L_
      clear h0 h
      clear hF
      clear v0 v1 d0 d1
      go_wp2_with fail
      exact ⟨⟨k + 1, by go_num, by omega, L⟩, by simp only [intOf]; omega⟩
    · go_wp2_with fail
      go_ret
      exact ⟨rfl, L.out⟩
/-- What is left of a bound. -/
def RetSz (w : World) (left : Nat) (n : Nat) (fs : List Tx) (e : Ending) (w' : World) : Prop :=
  ∃ z : Int, e = .returned (.int .i64 z) ∧ z ≤ left ∧ -1 ≤ z ∧ (0 ≤ z → n ≤ left ∧ ∀ t ∈ fs, t.length ≤ left) ∧ w.grownBy w' none
set_option maxRecDepth 8000 in
set_option maxHeartbeats 1000000 in
theorem szStringS_c (A : Option Addr) (n c : Nat) (fs : List Tx) (left : Nat) (hleft : left ≤ 1048576) (w : World) (hn : fs.length = n) (hmx : ∀ t ∈ fs, t.length ≤ 9223372036854775807) (hrd : Rd w A n 1 (stV fs)) :
    Calls Tryd.prog 25 #[.slice A n c, .int .i64 left] w (RetSz w left n fs) := by
  have L := Az.mk (gr_refl w none)
  have HR := Az.mk hrd
  have HN := Az.mk hn
  have HX := Az.mk hmx
  have hmax := hrd.max
  clear hrd hn hmx
  by_cases h0 : left < n
  · have h0i : (left : Int) - n < 0 := by omega
    go_enter Tryd.func25, Tryd.ntmps25
    go_wp2_with fail
    go_ret
    exact ⟨-1, rfl, by omega, by omega, fun h => by omega, L.out⟩
  have h0i : ¬ (left : Int) - n < 0 := by omega
  go_enter Tryd.func25, Tryd.ntmps25
  go_wp2_with fail
  go_loopw [1, 5] (fun z i wr => ∃ k : Nat, ∃ r : Nat, i = .int .i64 k ∧ z = .int .i64 r ∧ k ≤ n ∧ r ≤ left ∧ Az (∀ t ∈ fs.take k, t.length ≤ left) ∧ Az (w.grownBy wr none)) (fun _ i _ => n - (intOf i).toNat)
  case atStart => exact ⟨0, left - n, by go_num, by congr 1; omega, by omega, by omega, ⟨fun t ht => by simp at ht⟩, L⟩
  case round =>
    clear L
    obtain ⟨k, r, rfl, rfl, hk, hr, HT, L⟩ := hrel
    by_cases hkn : k < n
    · have hki : (k : Int) < n := by omega
      obtain ⟨t, ht⟩ : ∃ t, fs[k]? = some t := ⟨_, List.getElem?_eq_getElem (by rw [HN.out]; exact hkn)⟩
      have htx := HX.out t (List.mem_of_getElem? ht)
      obtain ⟨b, off, rfl, hcell⟩ := (HR.out.up L.out).2.2 (by omega)
      have d0 := hcell _ _ (stV_get ht)
      have HTK := Az.mk (show fs.take (k + 1) = fs.take k ++ [t] by rw [List.take_add_one, ht]; rfl)
      clear hcell ht
      by_cases hlt : r < t.length
      · have hlti : (r : Int) - t.length < 0 := by omega
        go_wp2_with fail
        go_ret
        exact ⟨-1, rfl, by omega, by omega, fun h => by omega, L.out⟩
      · have hlti : ¬ (r : Int) - t.length < 0 := by omega
        go_wp2_with fail
        refine ⟨⟨k + 1, r - t.length, by go_num, by congr 1; omega, by omega, by omega, ⟨fun x hx => ?_⟩, L⟩, by simp only [intOf]; omega⟩
        rw [HTK.out] at hx
        rcases List.mem_append.1 hx with h | h
        · exact HT.out x h
        · rw [List.mem_singleton.1 h]; omega
    · obtain rfl : k = n := by omega
      go_wp2_with fail
      go_ret
      refine ⟨r, rfl, by omega, by omega, fun _ => ⟨by omega, ?_⟩, L.out⟩
      have h := HT.out
      rw [List.take_of_length_le (by rw [HN.out]; exact Nat.le_refl _)] at h
      exact h
/-- Every text of a row of one's own is marked. -/
def RetMark (base : Nat) (A : Option Addr) (n c k : Nat) (w : World) (e : Ending) (w' : World) : Prop :=
  e = .returned (.int .i64 ((k + n : Nat) : Int)) ∧ w'.ownsRow base 9 1 (.slice A n c) n (stV (marks k n)) ∧ w.grownBy w' (Value.slice A n c).ownBlock
end Go.Proofs.YtfjafeepmpnegaaDoor
