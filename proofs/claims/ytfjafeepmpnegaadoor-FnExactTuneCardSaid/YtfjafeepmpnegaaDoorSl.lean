/- Contracts of spec.l01Figure, FormatInt (of no negative number), FormatFixed. No condition. -/
import Derived.Test.YtfjafeepmpnegaaDoorSk
import Derived.Laws.IdiomStrings
import Derived.Laws.Concat
namespace Go.Proofs.YtfjafeepmpnegaaDoor
open Go.RowKit
set_option linter.unusedVariables false
set_option linter.unusedSimpArgs false

section
variable {P : Program} {ops : Array Oper} {rest : List Oper} {o : Oper} {a : Act} {Q : Exit → Act → World → Prop} {W : World}
/-- 'string(b)' of bytes. -/
theorem ev_cb (N : Tmp) (hd : o.dst = some N) (hg : o.guard = none) {st dt : TypeId} {x : Operand} (hop : o.op = .convert st dt x) {ad : Addr} {m c : Nat} {l : Tx} (hx : a.eval x = .slice (some ad) m c) (hl : l.length = m) {e : TypeId}
    (hs : P.underlying st = some (.slice e)) (he : P.underlying e = some (.int .u8)) (hdt : P.underlying dt = some .string) (hc : ∀ j (hj : j < l.length), W.cell? (ad.add j) = some (.int .u8 (l[j].toNat : Int)))
    (h : wpList P ops Q rest (a.put (some N) (.string (tx l))) W) : wpList P ops Q (o :: rest) a W := by
  subst hl
  have hrun := run_convert_bytes_back (P := P) W st dt e ad c l hs he hdt hc
  refine wp_ev hg (w1 := W) (v := .string (tx l)) ?_ (by rw [hd]; exact h)
  unfold execOp
  simp [hop, hx, hrun, tx]
end
section
variable {P : Program} {ops : Array Oper} {Con : FuncId → Array Value → Value → World → Prop} {w : World} {R : Act → World → Prop} {o : Oper} {rest : List Oper} {a : Act} {F : World → Prop}
/-- Two texts, one behind the other, in a region with an open order. -/
theorem lex_sa (hw : Region.wanted o (yielded ops a.tmps) = true) {t t' : TypeId} {l r : Operand} (hop : o.op = .binOp .add t l r t') {x y : Tx} (hl : a.eval l = .string (tx x)) (hr : a.eval r = .string (tx y)) (hlen : x.length + y.length ≤ 9223372036854775807)
    (h : wpLex P ops Con w R rest (a.put o.dst (.string (tx (x ++ y)))) F) : wpLex P ops Con w R (o :: rest) a F := by
  refine lex_val' hw ⟨.string (tx (x ++ y)), fun w1 _ => ?_, h⟩
  have hrun := run_string_add_sum (P := P) (w := w1) (tx x) (tx y) (by rw [tx_size, tx_size]; exact hlen)
  rw [tx_app] at hrun
  have hq : (eqGuard .add t l r (.string (tx x)) (.string (tx y))).run P w1 = .ok () w1 := rfl
  unfold execOp
  simp [hop, hl, hr, hq, binOp, hrun, Result.andThen]
end
theorem one_byte {w : World} {g n : Nat} {e : TypeId} (hb : w.heap[g]? = some (.cells #[.int .u8 ((48 + n : Nat) : Int)] e (0, 0))) (hn : n < 10) : ∀ j (hj : j < [UInt8.ofNat (48 + n)].length), w.cell? ((⟨g, 0, none⟩ : Addr).add j) = some (.int .u8 ([UInt8.ofNat (48 + n)][j].toNat : Int)) := by
  intro j hj
  have : j = 0 := by simp at hj; omega
  subst this
  rw [addPlain, blkCell hb 0]
  simp only [List.getElem_cons_zero, dig_nat hn]; rfl
theorem l01Figure_c (d : Nat) (hd : d < 10) (w : World) : Calls Tryd.prog 66 #[.int .i64 d] w (fun e w' => e = .returned (.int .u8 ((48 + d : Nat) : Int)) ∧ w.grownBy w' none) := by
  have L := Az.mk (gr_refl w none)
  have hdi : (d : Int) < 10 := by omega
  go_enter Tryd.func66, Tryd.ntmps66
  go_wp2_with fail
  go_ret
  exact ⟨by simp, L.out⟩
/-- What is done of a numeral: the digits behind. -/
def Suf (u m : Nat) (t : Tx) : Prop := (m = 0 ∧ t = Lib.decDigits u) ∨ (0 < m ∧ Lib.decDigits u = Lib.decDigits m ++ t)
theorem Suf.step {u m : Nat} {t : Tx} (h : Suf u m t) (hm : 0 < m) : Suf u (m / 10) (UInt8.ofNat (48 + m % 10) :: t) := by
  rcases h with ⟨h, _⟩ | ⟨_, h⟩
  · omega
  · by_cases h10 : m < 10
    · refine .inl ⟨by omega, ?_⟩
      rw [h, decDigits_small h10, Nat.mod_eq_of_lt h10]; rfl
    · refine .inr ⟨by omega, ?_⟩
      rw [h, decDigits_big h10, List.append_assoc]; rfl
theorem Suf.len {u m : Nat} {t : Tx} (h : Suf u m t) : t.length ≤ Lib.nDigits u := by
  rw [← Lib.decDigits_length]
  rcases h with ⟨_, h⟩ | ⟨_, h⟩
  · rw [h]; exact Nat.le_refl _
  · rw [h, List.length_append]; omega
set_option maxRecDepth 8000 in
set_option maxHeartbeats 1000000 in
theorem sFormatInt_c (u : Nat) (hu : u ≤ 9223372036854775807) (w : World) : Calls Tryd.prog 41 #[.int .i64 u] w (RetSt w (Lib.decDigits u)) := by
  have L := Az.mk (gr_refl w none)
  by_cases h0 : u = 0
  · subst h0
    go_enter Tryd.func41, Tryd.ntmps41
    go_wp2_with fail
    go_ret
    exact ⟨by rw [decDigits_small (by decide)]; rfl, L.out⟩
  · have hb : ((u : Int) == 0) = false := by simp; omega
    go_enter Tryd.func41, Tryd.ntmps41
    go_wp2_with fail
    go_loopw [0, 4, 5] (fun n s d wr => ∃ m : Nat, ∃ t, n = .int .i64 m ∧ s = .string (tx t) ∧ m ≤ 9223372036854775807 ∧ t.length ≤ 100 ∧ Az (Suf u m t) ∧ Az (w.grownBy wr none)) (fun n _ _ _ => (intOf n).toNat)
    case atStart => exact ⟨u, [], by go_num, rfl, hu, by simp, ⟨.inr ⟨by omega, by simp⟩⟩, L⟩
    case round =>
      clear L
      obtain ⟨m, t, rfl, rfl, hm, ht, HS, L⟩ := hrel
      by_cases hm0 : m = 0
      · subst hm0
        have he : t = Lib.decDigits u := by
          rcases HS.out with ⟨_, h⟩ | ⟨h, _⟩
          · exact h
          · omega
        have HEQ := Az.mk he
        clear he
        go_wp2_with fail
        go_ret
        exact ⟨by rw [← HEQ.out]; rfl, L.out⟩
      · have hmb : ((m : Int) != 0) = true := by simp; omega
        have hmi : 0 < (m : Int) := by omega
        go_wp2_with fail
        rw [show (m : Int) % 10 = ((m % 10 : Nat) : Int) by omega]
        refine (l01Figure_c (m % 10) (by omega) _).mono ?_
        rintro e v1 ⟨rfl, h⟩
        have h0 : World.grownBy wr v1 _ := (by refine World.grownBy.trans ?_ h; repeat (first | exact gr_refl _ _ | apply gr_drewN | apply gr_drew | apply gr_alloc))
        have L_ := Az.mk (gr_new L.out h0 (by first | (simp; done) | (simp; omega) | omega))
        clear L
        have L := L_; clear L_
        clear h0 h
        go_wp2_with (first | ((with_reducible refine gateN 20 rfl ?_); go_must (refine ev_bs 20 rfl rfl #[.int .u8 ((48 + m % 10 : Nat) : Int)] 5 1 ?hr ?_; (case hr => first | (go_simp; done) | (go_simp; rfl)); intro gN heN W1 hbN h; have hgN : w.heap.size ≤ gN := Nat.le_trans L.out.size heN; clear heN; have h0 : World.grownBy v1 W1 none := (by refine World.grownBy.trans ?_ h; repeat (first | exact gr_refl _ _ | apply gr_drewN | apply gr_drew | apply gr_alloc)); have L_ := Az.mk (gr_new L.out h0 (by first | (simp; done) | (simp; omega) | omega)); clear L; have L := L_; clear L_; clear h0 h; have N := Az.mk hbN; clear hbN; have cN0 : World.cell? W1 ⟨gN, 0, none⟩ = some (.int .u8 ((48 + m % 10 : Nat) : Int)) := blkCell N.out 0)) | ((with_reducible refine gateN 21 rfl ?_); go_must (refine ev_cb 21 rfl rfl rfl (l := [UInt8.ofNat (48 + m % 10)]) rfl rfl Tryd.underlying32 Tryd.underlying5 Tryd.underlying9 (one_byte N.out (by omega)) ?_)))
        have hs2 := HS.out.step (by omega)
        have hs3 := hs2.len
        have hs4 := nDigits_le (u := u) (k := 19) (by decide) (by omega)
        exact ⟨⟨m / 10, UInt8.ofNat (48 + m % 10) :: t, by go_num, by rw [UInt8.ofNat_add]; rfl, by omega, by omega, ⟨hs2⟩, L⟩, by simp only [intOf]; omega⟩
theorem digits1000 (r : Nat) (h : r < 1000) : Lib.decDigits (1000 + r) = 49 :: pad3 r := by
  rw [decDigits_big (by omega), decDigits_big (by omega), decDigits_big (by omega), decDigits_small (by omega), pad3]
  have e1 : (1000 + r) / 10 / 10 % 10 = r / 100 := by omega
  have e2 : (1000 + r) / 10 % 10 = r / 10 % 10 := by omega
  have e3 : (1000 + r) % 10 = r % 10 := by omega
  have e4 : (1000 + r) / 10 / 10 / 10 = 1 := by omega
  rw [e1, e2, e3, e4]; rfl
@[go_sem] theorem tx_tail3 (c x y z : UInt8) : (tx [c, x, y, z]).extract 1 4 = tx [x, y, z] := tx_tail c [x, y, z]
set_option maxRecDepth 8000 in
set_option maxHeartbeats 1000000 in
theorem sFormatFixed_neg (n : Int) (hlo : -1000000000 ≤ n) (hhi : n < 0) (w : World) : Calls Tryd.prog 68 #[.int .i64 n] w (RetSt w (45 :: bodyT n.natAbs)) := by
  have L := Az.mk (gr_refl w none)
  obtain ⟨u, rfl⟩ : ∃ u : Nat, n = -(u : Int) := ⟨n.natAbs, by omega⟩
  have hna : (-(u : Int)).natAbs = u := by omega
  rw [hna]
  clear hna
  have hu : u ≤ 1000000000 := by omega
  go_enter Tryd.func68, Tryd.ntmps68
  go_wp2_with fail
  refine (l01In_c _ _ _ _).mono ?_
  rintro e w1 ⟨rfl, h⟩
  have h0 : World.grownBy w w1 _ := (by refine World.grownBy.trans ?_ h; repeat (first | exact gr_refl _ _ | apply gr_drewN | apply gr_drew | apply gr_alloc))
  have L_ := Az.mk (gr_new L.out h0 (by first | (simp; done) | (simp; omega) | omega))
  clear L
  have L := L_; clear L_
  clear h0 h
  have e1 : (decide (-1000000000 ≤ -(u : Int)) && decide (-(u : Int) ≤ 1000000000)) = true := by simp; omega
  rw [e1]
  clear e1
  go_wp2_with fail
  rw [show 1000 + (u : Int) % 1000 = ((1000 + u % 1000 : Nat) : Int) by omega]
  refine (sFormatInt_c (1000 + u % 1000) (by omega) _).mono ?_
  rintro e w2 ⟨rfl, h⟩
  have h0 : World.grownBy w1 w2 _ := (by refine World.grownBy.trans ?_ h; repeat (first | exact gr_refl _ _ | apply gr_drewN | apply gr_drew | apply gr_alloc))
  have L_ := Az.mk (gr_new L.out h0 (by first | (simp; done) | (simp; omega) | omega))
  clear L
  have L := L_; clear L_
  clear h0 h
  rw [digits1000 _ (Nat.mod_lt u (by decide))]
  obtain ⟨x, y, z, hxyz⟩ : ∃ x y z, pad3 (u % 1000) = [x, y, z] := ⟨_, _, _, rfl⟩
  rw [hxyz]
  have HX := Az.mk hxyz
  clear hxyz
  have q1 : (Lib.decDigits (u / 1000)).length ≤ 10 := by rw [Lib.decDigits_length]; exact nDigits_le (by decide) (by omega)
  go_wp2_with fail
  have hw : IntKind.i64.wrap ((u : Int) / 1000) = (u : Int) / 1000 := by rw [IntKind.wrap_i64]; omega
  refine wp_region_relF (fun _ _ v _ => v = .string (tx (Lib.decDigits (u / 1000)))) (by kernel_rfl) (by kernel_rfl) ?_
  repeat (first | ((with_reducible refine gateLexN 19 rfl ?_); go_must (refine lex_call rfl Tryd.func41 (by kernel_rfl) rfl #[.int .i64 ((u / 1000 : Nat) : Int)] rfl (by simp only [List.map_toArray, List.map_cons, List.map_nil]; rfl) (fun w1 hu => (sFormatInt_c (u / 1000) (by omega) w1).mono ?_) ?_; (rintro e w2 ⟨rfl, h⟩; exact ⟨_, rfl, h, rfl⟩); rintro v ⟨w2', rfl⟩; refine lexK (fun K hK => ?_); go_simp; refine hK _ ?_; clear hK K)) | ((with_reducible refine gateLexN 20 rfl ?_); go_must (refine lex_sa rfl rfl (x := [45]) (y := Lib.decDigits (u / 1000)) rfl rfl (by first | (simp; done) | (simp; omega) | omega) ?_; refine lexK (fun K hK => ?_); go_simp; refine hK _ ?_; clear hK K)) | ((with_reducible refine gateLexN 21 rfl ?_); go_must (refine lex_sa rfl rfl (x := (45 :: Lib.decDigits (u / 1000))) (y := [46]) rfl rfl (by first | (simp; done) | (simp; omega) | omega) ?_; refine lexK (fun K hK => ?_); go_simp; refine hK _ ?_; clear hK K)) | ((with_reducible refine gateLexN 24 rfl ?_); go_must (refine lex_sa rfl rfl (x := (45 :: (Lib.decDigits (u / 1000) ++ [46]))) (y := [x, y, z]) rfl rfl (by first | (simp; done) | (simp; omega) | omega) ?_; refine lexK (fun K hK => ?_); go_simp; refine hK _ ?_; clear hK K)) | (refine lex_val' rfl ?_; apply Exists.intro; refine ⟨fun w1 hu => ?_, ?_⟩; (focus (first | (go_simp; done) | (go_simp; rfl))); refine lexK (fun K hK => ?_); go_simp; refine hK _ ?_; clear hK K))
  refine lex_nil (fun W1 h hF => ?_)
  have h0 : World.grownBy w2 W1 none := (by refine World.grownBy.trans ?_ h; repeat (first | exact gr_refl _ _ | apply gr_drewN | apply gr_drew | apply gr_alloc))
  have L_ := Az.mk (gr_new L.out h0 (by first | (simp; done) | (simp; omega) | omega))
  clear L
  have L := L_; clear L_
  clear h0 h
  clear hF
  go_wp2_with fail
  go_ret
  refine ⟨?_, L.out⟩
  simp [bodyT, HX.out]

set_option maxRecDepth 8000 in
set_option maxHeartbeats 1000000 in
theorem sFormatFixed_pos (n : Int) (hlo : 0 ≤ n) (hhi : n ≤ 1000000000) (w : World) : Calls Tryd.prog 68 #[.int .i64 n] w (RetSt w (bodyT n.natAbs)) := by
  have L := Az.mk (gr_refl w none)
  obtain ⟨u, rfl⟩ : ∃ u : Nat, n = (u : Int) := ⟨n.natAbs, by omega⟩
  have hna : ((u : Int)).natAbs = u := by omega
  rw [hna]
  clear hna
  have hu : u ≤ 1000000000 := by omega
  go_enter Tryd.func68, Tryd.ntmps68
  go_wp2_with fail
  refine (l01In_c _ _ _ _).mono ?_
  rintro e w1 ⟨rfl, h⟩
  have h0 : World.grownBy w w1 _ := (by refine World.grownBy.trans ?_ h; repeat (first | exact gr_refl _ _ | apply gr_drewN | apply gr_drew | apply gr_alloc))
  have L_ := Az.mk (gr_new L.out h0 (by first | (simp; done) | (simp; omega) | omega))
  clear L
  have L := L_; clear L_
  clear h0 h
  have e1 : (decide (-1000000000 ≤ (u : Int)) && decide ((u : Int) ≤ 1000000000)) = true := by simp; omega
  rw [e1]
  clear e1
  go_wp2_with fail
  rw [show 1000 + (u : Int) % 1000 = ((1000 + u % 1000 : Nat) : Int) by omega]
  refine (sFormatInt_c (1000 + u % 1000) (by omega) _).mono ?_
  rintro e w2 ⟨rfl, h⟩
  have h0 : World.grownBy w1 w2 _ := (by refine World.grownBy.trans ?_ h; repeat (first | exact gr_refl _ _ | apply gr_drewN | apply gr_drew | apply gr_alloc))
  have L_ := Az.mk (gr_new L.out h0 (by first | (simp; done) | (simp; omega) | omega))
  clear L
  have L := L_; clear L_
  clear h0 h
  rw [digits1000 _ (Nat.mod_lt u (by decide))]
  obtain ⟨x, y, z, hxyz⟩ : ∃ x y z, pad3 (u % 1000) = [x, y, z] := ⟨_, _, _, rfl⟩
  rw [hxyz]
  have HX := Az.mk hxyz
  clear hxyz
  have q1 : (Lib.decDigits (u / 1000)).length ≤ 10 := by rw [Lib.decDigits_length]; exact nDigits_le (by decide) (by omega)
  go_wp2_with fail
  have hw : IntKind.i64.wrap ((u : Int) / 1000) = (u : Int) / 1000 := by rw [IntKind.wrap_i64]; omega
  refine wp_region_relF (fun _ _ v _ => v = .string (tx (Lib.decDigits (u / 1000)))) (by kernel_rfl) (by kernel_rfl) ?_
  repeat (first | ((with_reducible refine gateLexN 19 rfl ?_); go_must (refine lex_call rfl Tryd.func41 (by kernel_rfl) rfl #[.int .i64 ((u / 1000 : Nat) : Int)] rfl (by simp only [List.map_toArray, List.map_cons, List.map_nil]; rfl) (fun w1 hu => (sFormatInt_c (u / 1000) (by omega) w1).mono ?_) ?_; (rintro e w2 ⟨rfl, h⟩; exact ⟨_, rfl, h, rfl⟩); rintro v ⟨w2', rfl⟩; refine lexK (fun K hK => ?_); go_simp; refine hK _ ?_; clear hK K)) | ((with_reducible refine gateLexN 20 rfl ?_); go_must (refine lex_sa rfl rfl (x := []) (y := Lib.decDigits (u / 1000)) rfl rfl (by first | (simp; done) | (simp; omega) | omega) ?_; refine lexK (fun K hK => ?_); go_simp; refine hK _ ?_; clear hK K)) | ((with_reducible refine gateLexN 21 rfl ?_); go_must (refine lex_sa rfl rfl (x := (Lib.decDigits (u / 1000))) (y := [46]) rfl rfl (by first | (simp; done) | (simp; omega) | omega) ?_; refine lexK (fun K hK => ?_); go_simp; refine hK _ ?_; clear hK K)) | ((with_reducible refine gateLexN 24 rfl ?_); go_must (refine lex_sa rfl rfl (x := (Lib.decDigits (u / 1000) ++ [46])) (y := [x, y, z]) rfl rfl (by first | (simp; done) | (simp; omega) | omega) ?_; refine lexK (fun K hK => ?_); go_simp; refine hK _ ?_; clear hK K)) | (refine lex_val' rfl ?_; apply Exists.intro; refine ⟨fun w1 hu => ?_, ?_⟩; (focus (first | (go_simp; done) | (go_simp; rfl))); refine lexK (fun K hK => ?_); go_simp; refine hK _ ?_; clear hK K))
  refine lex_nil (fun W1 h hF => ?_)
  have h0 : World.grownBy w2 W1 none := (by refine World.grownBy.trans ?_ h; repeat (first | exact gr_refl _ _ | apply gr_drewN | apply gr_drew | apply gr_alloc))
  have L_ := Az.mk (gr_new L.out h0 (by first | (simp; done) | (simp; omega) | omega))
  clear L
  have L := L_; clear L_
  clear h0 h
  clear hF
  go_wp2_with fail
  go_ret
  refine ⟨?_, L.out⟩
  simp [bodyT, HX.out]
end Go.Proofs.YtfjafeepmpnegaaDoor
