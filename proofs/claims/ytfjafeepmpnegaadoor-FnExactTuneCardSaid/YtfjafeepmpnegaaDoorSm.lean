/- Draws of lines and of sets: contracts of spec.FormatFixed, l01Pick, l08Line, DrawTuneAll. No condition. -/
import Derived.Test.YtfjafeepmpnegaaDoorSl
import Derived.Test.YtfjafeepmpnegaaDoorD2
namespace Go.Proofs.YtfjafeepmpnegaaDoor
open Go.RowKit
set_option linter.unusedVariables false
set_option linter.unusedSimpArgs false

theorem sFormatFixed_c (n : Int) (w : World) : Calls Tryd.prog 68 #[.int .i64 n] w (RetSt w (fixedT n)) := by
  by_cases h : -1000000000 ≤ n ∧ n ≤ 1000000000
  · rcases fixedT_sign n h.1 h.2 with ⟨hn, e⟩ | ⟨hn, e⟩
    · rw [e]; exact sFormatFixed_neg n h.1 hn w
    · rw [e]; exact sFormatFixed_pos n hn h.2 w
  · have e : fixedT n = [] := by rw [fixedT, if_neg h]
    rw [e]
    have L := Az.mk (gr_refl w none)
    clear e
    go_enter Tryd.func68, Tryd.ntmps68
    go_wp2_with fail
    refine (l01In_c _ _ _ _).mono ?_
    rintro e w1 ⟨rfl, h⟩
    have h0 : World.grownBy w w1 _ := (by refine World.grownBy.trans ?_ h; repeat (first | exact gr_refl _ _ | apply gr_drewN | apply gr_drew | apply gr_alloc))
    have L_ := Az.mk (gr_new L.out h0 (by first | (simp; done) | (simp; omega) | omega))
    clear L
    have L := L_; clear L_
    clear h0 h
    have e1 : (decide (-1000000000 ≤ n) && decide (n ≤ 1000000000)) = false := by simp; omega
    rw [e1]
    clear e1
    go_wp2_with fail
    go_ret
    exact ⟨rfl, L.out⟩
theorem fixedT_len (n : Int) : (fixedT n).length ≤ 12 := by
  by_cases h : -1000000000 ≤ n ∧ n ≤ 1000000000
  · have h1 := (bodyT_len_le (u := n.natAbs) (by omega)).2
    rcases fixedT_sign n h.1 h.2 with ⟨hn, e⟩ | ⟨hn, e⟩
    · rw [e, List.length_cons]; omega
    · rw [e]; omega
  · rw [fixedT, if_neg h]; simp
theorem dec_len {u : Nat} (h : u < 1000000) : (Lib.decDigits u).length ≤ 6 := by rw [Lib.decDigits_length]; exact nDigits_le (by decide) (by omega)
/-- A drawn text. -/
def RetTx (w0 w : World) (g : Nat) (e : Ending) (w' : World) : Prop := ∃ t : Tx, t.length ≤ 600 ∧ e = .returned (.string (tx t)) ∧ Cur w0 w' g ∧ w.grownBy w' (some g)
theorem l01Pick_c (w0 w : World) (g : Nat) (ad : Addr) (n c : Nat) (hn : 0 < n) (hm : n ≤ 100) (hcell : ∀ j, j < n → ∃ t : Tx, t.length ≤ 600 ∧ w.cell? (ad.add j) = some (.string (tx t))) (hne : ad.block ≠ g) (hc : Cur w0 w g) :
    Calls Tryd.prog 78 #[.pointer (some ⟨g, 0, none⟩), .slice (some ad) n c] w (RetTx w0 w g) := by
  have HC := Az.mk hc
  have HN := Az.mk hne
  have HX := Az.mk hcell
  clear hc hne hcell
  go_enter Tryd.func78, Tryd.ntmps78
  go_wp2_with fail
  refine (l01Below_c w0 _ g n (by omega) (by omega) HC.out).mono ?_
  rintro e w1 ⟨r, h0, h1, rfl, h2, h3⟩
  have H2 := Az.mk h2
  have H3 := Az.mk h3
  clear h2 h3
  obtain ⟨t, ht, hx0⟩ := HX.out r.toNat (by omega)
  have HT := Az.mk ht
  have hx : w1.cell? (ad.add r.toNat) = some (.string (tx t)) := cellGr H3.out hx0 (by rw [addBlock]; intro he; injection he with he; exact HN.out he)
  have hr : r < n := by omega
  clear hx0 ht
  go_wp2_with fail
  go_ret
  exact ⟨t, HT.out, rfl, H2.out, H3.out⟩
set_option maxRecDepth 8000 in
set_option maxHeartbeats 2000000 in
theorem l08Line_c (w0 w : World) (g : Nat) (hc : Cur w0 w g) : Calls Tryd.prog 51 #[.pointer (some ⟨g, 0, none⟩)] w (RetTx w0 w g) := by
  have K := Az.mk hc
  have hlt := hc.lt
  have L := Az.mk (gr_refl w (some g))
  have hS := hc.below.size
  clear hc
  go_enter Tryd.func51, Tryd.ntmps51
  go_wp2_with fail
  refine (l01Below_c w0 _ g _ (by omega) (by omega) (by first | exact K.out | exact K.out.alloc _ | exact K.out.drewN _ | exact (K.out.alloc _).alloc _)).mono ?_
  rintro e w1 ⟨k, h0k, h1k, rfl, hK, h⟩
  have h0 : World.grownBy w w1 _ := (by refine World.grownBy.trans ?_ h; repeat (first | exact gr_refl _ _ | apply gr_drewN | apply gr_drew | apply gr_alloc))
  have L_ := Az.mk (gr_new L.out h0 (by first | (simp; done) | (simp; omega) | omega))
  clear L
  have L := L_; clear L_
  clear h0 h
  clear K; have K := Az.mk hK; clear hK
  rcases (show k = 0 ∨ k = 1 ∨ k = 2 ∨ k = 3 ∨ k = 4 ∨ k = 5 ∨ k = 6 ∨ k = 7 by omega) with rfl | rfl | rfl | rfl | rfl | rfl | rfl | rfl
  · have hnop := True.intro
    clear hnop h0k h1k
    go_wp2_with fail
    refine (l01Below_c w0 _ g _ (by omega) (by omega) (by first | exact K.out | exact K.out.alloc _ | exact K.out.drewN _ | exact (K.out.alloc _).alloc _)).mono ?_
    rintro e w2 ⟨x, h0x, h1x, rfl, hK, h⟩
    have h0 : World.grownBy w1 w2 _ := (by refine World.grownBy.trans ?_ h; repeat (first | exact gr_refl _ _ | apply gr_drewN | apply gr_drew | apply gr_alloc))
    have L_ := Az.mk (gr_new L.out h0 (by first | (simp; done) | (simp; omega) | omega))
    clear L
    have L := L_; clear L_
    clear h0 h
    clear K; have K := Az.mk hK; clear hK
    go_wp2_with fail
    refine (sFormatFixed_c _ _).mono ?_
    rintro e w3 ⟨rfl, h⟩
    have h0 : World.grownBy w2 w3 _ := (by refine World.grownBy.trans ?_ h; repeat (first | exact gr_refl _ _ | apply gr_drewN | apply gr_drew | apply gr_alloc))
    have K_ := Az.mk (Cur.gr K.out h0 (by first | (simp; done) | (simp; omega) | omega) (by first | (simp; done) | (simp; omega) | omega))
    have L_ := Az.mk (gr_new L.out h0 (by first | (simp; done) | (simp; omega) | omega))
    clear K L
    have K := K_; clear K_
    have L := L_; clear L_
    clear h0 h
    have q1 := fixedT_len ((125 : Int) * x)
    go_wp2_with fail
    go_ret
    exact ⟨[115, 97, 116, 117, 114, 97, 116, 105, 111, 110, 32] ++ fixedT ((125 : Int) * x), by simp only [List.length_append, List.length_cons, List.length_nil]; omega, by rw [← tx_app]; rfl, K.out, L.out⟩
  · have hnop := True.intro
    clear hnop h0k h1k
    go_wp2_with fail
    refine (l01Below_c w0 _ g _ (by omega) (by omega) (by first | exact K.out | exact K.out.alloc _ | exact K.out.drewN _ | exact (K.out.alloc _).alloc _)).mono ?_
    rintro e w2 ⟨x, h0x, h1x, rfl, hK, h⟩
    have h0 : World.grownBy w1 w2 _ := (by refine World.grownBy.trans ?_ h; repeat (first | exact gr_refl _ _ | apply gr_drewN | apply gr_drew | apply gr_alloc))
    have L_ := Az.mk (gr_new L.out h0 (by first | (simp; done) | (simp; omega) | omega))
    clear L
    have L := L_; clear L_
    clear h0 h
    clear K; have K := Az.mk hK; clear hK
    go_wp2_with fail
    refine (sFormatFixed_c _ _).mono ?_
    rintro e w3 ⟨rfl, h⟩
    have h0 : World.grownBy w2 w3 _ := (by refine World.grownBy.trans ?_ h; repeat (first | exact gr_refl _ _ | apply gr_drewN | apply gr_drew | apply gr_alloc))
    have K_ := Az.mk (Cur.gr K.out h0 (by first | (simp; done) | (simp; omega) | omega) (by first | (simp; done) | (simp; omega) | omega))
    have L_ := Az.mk (gr_new L.out h0 (by first | (simp; done) | (simp; omega) | omega))
    clear K L
    have K := K_; clear K_
    have L := L_; clear L_
    clear h0 h
    have q1 := fixedT_len ((125 : Int) * x)
    go_wp2_with fail
    go_ret
    exact ⟨[115, 97, 116, 117, 114, 97, 116, 105, 111, 110, 32] ++ fixedT ((125 : Int) * x), by simp only [List.length_append, List.length_cons, List.length_nil]; omega, by rw [← tx_app]; rfl, K.out, L.out⟩
  · have hnop := True.intro
    clear hnop h0k h1k
    go_wp2_with fail
    refine (l01Below_c w0 _ g _ (by omega) (by omega) (by first | exact K.out | exact K.out.alloc _ | exact K.out.drewN _ | exact (K.out.alloc _).alloc _)).mono ?_
    rintro e w2 ⟨x, h0x, h1x, rfl, hK, h⟩
    have h0 : World.grownBy w1 w2 _ := (by refine World.grownBy.trans ?_ h; repeat (first | exact gr_refl _ _ | apply gr_drewN | apply gr_drew | apply gr_alloc))
    have L_ := Az.mk (gr_new L.out h0 (by first | (simp; done) | (simp; omega) | omega))
    clear L
    have L := L_; clear L_
    clear h0 h
    clear K; have K := Az.mk hK; clear hK
    go_wp2_with fail
    refine (sFormatFixed_c _ _).mono ?_
    rintro e w3 ⟨rfl, h⟩
    have h0 : World.grownBy w2 w3 _ := (by refine World.grownBy.trans ?_ h; repeat (first | exact gr_refl _ _ | apply gr_drewN | apply gr_drew | apply gr_alloc))
    have K_ := Az.mk (Cur.gr K.out h0 (by first | (simp; done) | (simp; omega) | omega) (by first | (simp; done) | (simp; omega) | omega))
    have L_ := Az.mk (gr_new L.out h0 (by first | (simp; done) | (simp; omega) | omega))
    clear K L
    have K := K_; clear K_
    have L := L_; clear L_
    clear h0 h
    have q1 := fixedT_len ((-1000 : Int) * x)
    go_wp2_with fail
    go_ret
    exact ⟨[115, 108, 105, 99, 101, 32] ++ fixedT ((-1000 : Int) * x), by simp only [List.length_append, List.length_cons, List.length_nil]; omega, by rw [← tx_app]; rfl, K.out, L.out⟩
  · have hnop := True.intro
    clear hnop h0k h1k
    go_wp2_with fail
    refine (l01Below_c w0 _ g _ (by omega) (by omega) (by first | exact K.out | exact K.out.alloc _ | exact K.out.drewN _ | exact (K.out.alloc _).alloc _)).mono ?_
    rintro e w2 ⟨x, h0x, h1x, rfl, hK, h⟩
    have h0 : World.grownBy w1 w2 _ := (by refine World.grownBy.trans ?_ h; repeat (first | exact gr_refl _ _ | apply gr_drewN | apply gr_drew | apply gr_alloc))
    have L_ := Az.mk (gr_new L.out h0 (by first | (simp; done) | (simp; omega) | omega))
    clear L
    have L := L_; clear L_
    clear h0 h
    clear K; have K := Az.mk hK; clear hK
    go_wp2_with fail
    refine (sFormatFixed_c _ _).mono ?_
    rintro e w3 ⟨rfl, h⟩
    have h0 : World.grownBy w2 w3 _ := (by refine World.grownBy.trans ?_ h; repeat (first | exact gr_refl _ _ | apply gr_drewN | apply gr_drew | apply gr_alloc))
    have K_ := Az.mk (Cur.gr K.out h0 (by first | (simp; done) | (simp; omega) | omega) (by first | (simp; done) | (simp; omega) | omega))
    have L_ := Az.mk (gr_new L.out h0 (by first | (simp; done) | (simp; omega) | omega))
    clear K L
    have K := K_; clear K_
    have L := L_; clear L_
    clear h0 h
    have q1 := fixedT_len ((100 : Int) * x)
    go_wp2_with fail
    go_ret
    exact ⟨[107, 105, 108, 108, 101, 114, 32, 32] ++ fixedT ((100 : Int) * x), by simp only [List.length_append, List.length_cons, List.length_nil]; omega, by rw [← tx_app]; rfl, K.out, L.out⟩
  · have hnop := True.intro
    clear hnop h0k h1k
    go_wp2_with fail
    refine (l01Below_c w0 _ g _ (by omega) (by omega) (by first | exact K.out | exact K.out.alloc _ | exact K.out.drewN _ | exact (K.out.alloc _).alloc _)).mono ?_
    rintro e w2 ⟨x0, h0x, h1x, rfl, hK, h⟩
    have h0 : World.grownBy w1 w2 _ := (by refine World.grownBy.trans ?_ h; repeat (first | exact gr_refl _ _ | apply gr_drewN | apply gr_drew | apply gr_alloc))
    have L_ := Az.mk (gr_new L.out h0 (by first | (simp; done) | (simp; omega) | omega))
    clear L
    have L := L_; clear L_
    clear h0 h
    clear K; have K := Az.mk hK; clear hK
    obtain ⟨x, rfl⟩ : ∃ x : Nat, x0 = (x : Int) := ⟨x0.toNat, by omega⟩
    go_wp2_with fail
    refine (sFormatInt_c x (by omega) _).mono ?_
    rintro e w3 ⟨rfl, h⟩
    have h0 : World.grownBy w2 w3 _ := (by refine World.grownBy.trans ?_ h; repeat (first | exact gr_refl _ _ | apply gr_drewN | apply gr_drew | apply gr_alloc))
    have K_ := Az.mk (Cur.gr K.out h0 (by first | (simp; done) | (simp; omega) | omega) (by first | (simp; done) | (simp; omega) | omega))
    have L_ := Az.mk (gr_new L.out h0 (by first | (simp; done) | (simp; omega) | omega))
    clear K L
    have K := K_; clear K_
    have L := L_; clear L_
    clear h0 h
    have q1 := dec_len (u := x) (by omega)
    go_wp2_with fail
    refine (l01Below_c w0 _ g _ (by omega) (by omega) (by first | exact K.out | exact K.out.alloc _ | exact K.out.drewN _ | exact (K.out.alloc _).alloc _)).mono ?_
    rintro e w4 ⟨y0, h0y, h1y, rfl, hK, h⟩
    have h0 : World.grownBy w3 w4 _ := (by refine World.grownBy.trans ?_ h; repeat (first | exact gr_refl _ _ | apply gr_drewN | apply gr_drew | apply gr_alloc))
    have L_ := Az.mk (gr_new L.out h0 (by first | (simp; done) | (simp; omega) | omega))
    clear L
    have L := L_; clear L_
    clear h0 h
    clear K; have K := Az.mk hK; clear hK
    obtain ⟨y, rfl⟩ : ∃ y : Nat, y0 = (y : Int) := ⟨y0.toNat, by omega⟩
    go_wp2_with fail
    rw [show 4 * (y : Int) = ((4 * y : Nat) : Int) by omega]
    refine (sFormatInt_c (4 * y) (by omega) _).mono ?_
    rintro e w5 ⟨rfl, h⟩
    have h0 : World.grownBy w4 w5 _ := (by refine World.grownBy.trans ?_ h; repeat (first | exact gr_refl _ _ | apply gr_drewN | apply gr_drew | apply gr_alloc))
    have K_ := Az.mk (Cur.gr K.out h0 (by first | (simp; done) | (simp; omega) | omega) (by first | (simp; done) | (simp; omega) | omega))
    have L_ := Az.mk (gr_new L.out h0 (by first | (simp; done) | (simp; omega) | omega))
    clear K L
    have K := K_; clear K_
    have L := L_; clear L_
    clear h0 h
    have q2 := dec_len (u := 4 * y) (by omega)
    go_wp2_with fail
    go_ret
    exact ⟨[115, 105, 122, 101, 32] ++ Lib.decDigits x ++ [32] ++ Lib.decDigits (4 * y), by simp only [List.length_append, List.length_cons, List.length_nil]; omega, by rw [← tx_app, ← tx_app, ← tx_app]; rfl, K.out, L.out⟩
  · have hnop := True.intro
    clear hnop h0k h1k
    go_wp2_with (first | ((with_reducible refine gateN 42 rfl ?_); go_must (refine ev_bs 42 rfl rfl #[.string { data := #[] }, .string { data := #[115, 105, 122, 101, 32, 52] }, .string { data := #[115, 105, 122, 101, 32, 52, 32, 53] }, .string { data := #[115, 108, 105, 99, 101] }, .string { data := #[115, 108, 105, 99, 101, 32, 49, 48, 50, 53, 46, 48, 48, 48] }, .string { data := #[107, 105, 108, 108, 101, 114, 32, 45, 48, 46, 48, 48, 49] }, .string { data := #[115, 97, 116, 117, 114, 97, 116, 105, 111, 110, 32, 49, 54, 46, 48, 48, 49] }, .string { data := #[104, 117, 101, 32, 49, 46, 48, 48, 48] }, .string { data := #[32, 115, 108, 105, 99, 101, 32, 45, 49, 46, 48, 48, 48, 32] }, .string { data := #[107, 105, 108, 108, 101, 114, 32, 49] }, .string { data := #[115, 105, 122, 101, 32, 48, 52, 32, 52] }] 9 11 ?hr ?_; (case hr => first | (go_simp; done) | (go_simp; rfl)); intro gN heN W1 hbN h; have hgN : w.heap.size ≤ gN := Nat.le_trans L.out.size heN; have hgNK := Nat.lt_of_lt_of_le (Cur.lt K.out) heN; clear heN; have h0 : World.grownBy w1 W1 none := (by refine World.grownBy.trans ?_ h; repeat (first | exact gr_refl _ _ | apply gr_drewN | apply gr_drew | apply gr_alloc)); have K_ := Az.mk (Cur.gr K.out h0 (by first | (simp; done) | (simp; omega) | omega) (by first | (simp; done) | (simp; omega) | omega)); have L_ := Az.mk (gr_new L.out h0 (by first | (simp; done) | (simp; omega) | omega)); clear K L; have K := K_; clear K_; have L := L_; clear L_; clear h0 h; have N := Az.mk hbN; clear hbN; have cN0 : World.cell? W1 ⟨gN, 0, none⟩ = some (.string { data := #[] }) := blkCell N.out 0; have cN1 : World.cell? W1 ⟨gN, 1, none⟩ = some (.string { data := #[115, 105, 122, 101, 32, 52] }) := blkCell N.out 1; have cN2 : World.cell? W1 ⟨gN, 2, none⟩ = some (.string { data := #[115, 105, 122, 101, 32, 52, 32, 53] }) := blkCell N.out 2; have cN3 : World.cell? W1 ⟨gN, 3, none⟩ = some (.string { data := #[115, 108, 105, 99, 101] }) := blkCell N.out 3; have cN4 : World.cell? W1 ⟨gN, 4, none⟩ = some (.string { data := #[115, 108, 105, 99, 101, 32, 49, 48, 50, 53, 46, 48, 48, 48] }) := blkCell N.out 4; have cN5 : World.cell? W1 ⟨gN, 5, none⟩ = some (.string { data := #[107, 105, 108, 108, 101, 114, 32, 45, 48, 46, 48, 48, 49] }) := blkCell N.out 5; have cN6 : World.cell? W1 ⟨gN, 6, none⟩ = some (.string { data := #[115, 97, 116, 117, 114, 97, 116, 105, 111, 110, 32, 49, 54, 46, 48, 48, 49] }) := blkCell N.out 6; have cN7 : World.cell? W1 ⟨gN, 7, none⟩ = some (.string { data := #[104, 117, 101, 32, 49, 46, 48, 48, 48] }) := blkCell N.out 7; have cN8 : World.cell? W1 ⟨gN, 8, none⟩ = some (.string { data := #[32, 115, 108, 105, 99, 101, 32, 45, 49, 46, 48, 48, 48, 32] }) := blkCell N.out 8; have cN9 : World.cell? W1 ⟨gN, 9, none⟩ = some (.string { data := #[107, 105, 108, 108, 101, 114, 32, 49] }) := blkCell N.out 9; have cN10 : World.cell? W1 ⟨gN, 10, none⟩ = some (.string { data := #[115, 105, 122, 101, 32, 48, 52, 32, 52] }) := blkCell N.out 10)))
    have HC : Az (∀ j, j < 11 → ∃ t : Tx, t.length ≤ 600 ∧ (W1).cell? ((⟨gN, 0, none⟩ : Addr).add j) = some (.string (tx t))) := ⟨fun j hj => by
      rw [addAt, Nat.zero_add, blkCell N.out j]
      match j, hj with
      | 0, _ => exact ⟨[], by decide, rfl⟩
      | 1, _ => exact ⟨[115, 105, 122, 101, 32, 52], by decide, rfl⟩
      | 2, _ => exact ⟨[115, 105, 122, 101, 32, 52, 32, 53], by decide, rfl⟩
      | 3, _ => exact ⟨[115, 108, 105, 99, 101], by decide, rfl⟩
      | 4, _ => exact ⟨[115, 108, 105, 99, 101, 32, 49, 48, 50, 53, 46, 48, 48, 48], by decide, rfl⟩
      | 5, _ => exact ⟨[107, 105, 108, 108, 101, 114, 32, 45, 48, 46, 48, 48, 49], by decide, rfl⟩
      | 6, _ => exact ⟨[115, 97, 116, 117, 114, 97, 116, 105, 111, 110, 32, 49, 54, 46, 48, 48, 49], by decide, rfl⟩
      | 7, _ => exact ⟨[104, 117, 101, 32, 49, 46, 48, 48, 48], by decide, rfl⟩
      | 8, _ => exact ⟨[32, 115, 108, 105, 99, 101, 32, 45, 49, 46, 48, 48, 48, 32], by decide, rfl⟩
      | 9, _ => exact ⟨[107, 105, 108, 108, 101, 114, 32, 49], by decide, rfl⟩
      | 10, _ => exact ⟨[115, 105, 122, 101, 32, 48, 52, 32, 52], by decide, rfl⟩
      ⟩
    refine (l01Pick_c w0 _ g ⟨gN, 0, none⟩ 11 11 (by omega) (by omega) HC.out (by show gN ≠ g; omega) (by first | exact K.out | exact K.out.alloc _ | exact K.out.drewN _ | exact (K.out.alloc _).alloc _)).mono ?_
    rintro e w2 ⟨t, ht, rfl, hK, h⟩
    have h0 : World.grownBy W1 w2 _ := (by refine World.grownBy.trans ?_ h; repeat (first | exact gr_refl _ _ | apply gr_drewN | apply gr_drew | apply gr_alloc))
    clear cN0 cN1 cN2 cN3 cN4 cN5 cN6 cN7 cN8 cN9 cN10
    have L_ := Az.mk (gr_new L.out h0 (by first | (simp; done) | (simp; omega) | omega))
    have N_ := Az.mk (blkGr N.out h0 (by first | (simp; done) | (simp; omega) | omega))
    clear L N
    have L := L_; clear L_
    have N := N_; clear N_
    clear h0 h
    clear K; have K := Az.mk hK; clear hK
    have cN0 : World.cell? w2 ⟨gN, 0, none⟩ = some (.string { data := #[] }) := blkCell N.out 0
    have cN1 : World.cell? w2 ⟨gN, 1, none⟩ = some (.string { data := #[115, 105, 122, 101, 32, 52] }) := blkCell N.out 1
    have cN2 : World.cell? w2 ⟨gN, 2, none⟩ = some (.string { data := #[115, 105, 122, 101, 32, 52, 32, 53] }) := blkCell N.out 2
    have cN3 : World.cell? w2 ⟨gN, 3, none⟩ = some (.string { data := #[115, 108, 105, 99, 101] }) := blkCell N.out 3
    have cN4 : World.cell? w2 ⟨gN, 4, none⟩ = some (.string { data := #[115, 108, 105, 99, 101, 32, 49, 48, 50, 53, 46, 48, 48, 48] }) := blkCell N.out 4
    have cN5 : World.cell? w2 ⟨gN, 5, none⟩ = some (.string { data := #[107, 105, 108, 108, 101, 114, 32, 45, 48, 46, 48, 48, 49] }) := blkCell N.out 5
    have cN6 : World.cell? w2 ⟨gN, 6, none⟩ = some (.string { data := #[115, 97, 116, 117, 114, 97, 116, 105, 111, 110, 32, 49, 54, 46, 48, 48, 49] }) := blkCell N.out 6
    have cN7 : World.cell? w2 ⟨gN, 7, none⟩ = some (.string { data := #[104, 117, 101, 32, 49, 46, 48, 48, 48] }) := blkCell N.out 7
    have cN8 : World.cell? w2 ⟨gN, 8, none⟩ = some (.string { data := #[32, 115, 108, 105, 99, 101, 32, 45, 49, 46, 48, 48, 48, 32] }) := blkCell N.out 8
    have cN9 : World.cell? w2 ⟨gN, 9, none⟩ = some (.string { data := #[107, 105, 108, 108, 101, 114, 32, 49] }) := blkCell N.out 9
    have cN10 : World.cell? w2 ⟨gN, 10, none⟩ = some (.string { data := #[115, 105, 122, 101, 32, 48, 52, 32, 52] }) := blkCell N.out 10
    have HT := Az.mk ht
    clear ht
    go_wp2_with fail
    go_ret
    exact ⟨t, HT.out, rfl, K.out, L.out⟩
  · have hnop := True.intro
    clear hnop h0k h1k
    go_wp2_with fail
    refine (l01Below_c w0 _ g _ (by omega) (by omega) (by first | exact K.out | exact K.out.alloc _ | exact K.out.drewN _ | exact (K.out.alloc _).alloc _)).mono ?_
    rintro e w2 ⟨x, h0x, h1x, rfl, hK, h⟩
    have h0 : World.grownBy w1 w2 _ := (by refine World.grownBy.trans ?_ h; repeat (first | exact gr_refl _ _ | apply gr_drewN | apply gr_drew | apply gr_alloc))
    have L_ := Az.mk (gr_new L.out h0 (by first | (simp; done) | (simp; omega) | omega))
    clear L
    have L := L_; clear L_
    clear h0 h
    clear K; have K := Az.mk hK; clear hK
    go_wp2_with fail
    refine (sFormatFixed_c _ _).mono ?_
    rintro e w3 ⟨rfl, h⟩
    have h0 : World.grownBy w2 w3 _ := (by refine World.grownBy.trans ?_ h; repeat (first | exact gr_refl _ _ | apply gr_drewN | apply gr_drew | apply gr_alloc))
    have K_ := Az.mk (Cur.gr K.out h0 (by first | (simp; done) | (simp; omega) | omega) (by first | (simp; done) | (simp; omega) | omega))
    have L_ := Az.mk (gr_new L.out h0 (by first | (simp; done) | (simp; omega) | omega))
    clear K L
    have K := K_; clear K_
    have L := L_; clear L_
    clear h0 h
    have q1 := fixedT_len (x)
    go_wp2_with fail
    go_ret
    exact ⟨[115, 97, 116, 117, 114, 97, 116, 105, 111, 110, 32] ++ fixedT (x), by simp only [List.length_append, List.length_cons, List.length_nil]; omega, by rw [← tx_app]; rfl, K.out, L.out⟩
  · have hnop := True.intro
    clear hnop h0k h1k
    go_wp2_with fail
    refine (l01Below_c w0 _ g _ (by omega) (by omega) (by first | exact K.out | exact K.out.alloc _ | exact K.out.drewN _ | exact (K.out.alloc _).alloc _)).mono ?_
    rintro e w2 ⟨x, h0x, h1x, rfl, hK, h⟩
    have h0 : World.grownBy w1 w2 _ := (by refine World.grownBy.trans ?_ h; repeat (first | exact gr_refl _ _ | apply gr_drewN | apply gr_drew | apply gr_alloc))
    have L_ := Az.mk (gr_new L.out h0 (by first | (simp; done) | (simp; omega) | omega))
    clear L
    have L := L_; clear L_
    clear h0 h
    clear K; have K := Az.mk hK; clear hK
    go_wp2_with fail
    refine (sFormatFixed_c _ _).mono ?_
    rintro e w3 ⟨rfl, h⟩
    have h0 : World.grownBy w2 w3 _ := (by refine World.grownBy.trans ?_ h; repeat (first | exact gr_refl _ _ | apply gr_drewN | apply gr_drew | apply gr_alloc))
    have K_ := Az.mk (Cur.gr K.out h0 (by first | (simp; done) | (simp; omega) | omega) (by first | (simp; done) | (simp; omega) | omega))
    have L_ := Az.mk (gr_new L.out h0 (by first | (simp; done) | (simp; omega) | omega))
    clear K L
    have K := K_; clear K_
    have L := L_; clear L_
    clear h0 h
    have q1 := fixedT_len (x)
    go_wp2_with fail
    go_ret
    exact ⟨[115, 97, 116, 117, 114, 97, 116, 105, 111, 110, 32] ++ fixedT (x), by simp only [List.length_append, List.length_cons, List.length_nil]; omega, by rw [← tx_app]; rfl, K.out, L.out⟩
/-- A drawn set that is new, and lines. -/
def RetDTA (w : World) (e : Ending) (w' : World) : Prop :=
  ∃ (a b : Int) (v vl : Value) (ls : List Tx), e = .returned (.tuple #[.agg (((newM a b).getD zeroS).cs v), vl]) ∧ w'.ownsRow w.heap.size 9 1 v 0 (stV []) ∧ w'.ownsRow w.heap.size 9 1 vl ls.length (stV ls) ∧ ls.length ≤ 6 ∧ (∀ t ∈ ls, t.length ≤ 600) ∧ w.grownBy w' none
set_option maxRecDepth 8000 in
set_option maxHeartbeats 2000000 in
theorem DrawTuneAll_c (w0 w : World) (A : Option Addr) (n c : Nat) (hrd : BytesRd w0 A n) (hnc : n ≤ c) (hB : Below w0.heap.size w0 w) : Calls Tryd.prog 16 #[.slice A n c] w (RetDTA w) := by
  have L := Az.mk (gr_refl w none)
  have HR := Az.mk hrd
  have HB := Az.mk hB
  have hS := hB.size
  clear hrd hB
  go_enter Tryd.func16, Tryd.ntmps16
  go_wp2_with (first | ((with_reducible refine gateN 2 rfl ?_); go_must (refine ev_al 2 rfl rfl #[.int .i64 0, .int .i64 0, .float .f32 0, .float .f32 0, .float .f32 0, .slice none 0 0] 28 ?hr ?_; (case hr => first | (go_simp; done) | (go_simp; rfl)); intro gZ heZ W1 hbZ h; have hgZ : w.heap.size ≤ gZ := Nat.le_trans L.out.size heZ; clear heZ; have h0 : World.grownBy w W1 none := (by refine World.grownBy.trans ?_ h; repeat (first | exact gr_refl _ _ | apply gr_drewN | apply gr_drew | apply gr_alloc)); have L_ := Az.mk (gr_new L.out h0 (by first | (simp; done) | (simp; omega) | omega)); clear L; have L := L_; clear L_; clear h0 h; have Z := Az.mk hbZ; clear hbZ; have cZ0 : World.cell? W1 ⟨gZ, 0, none⟩ = some (.int .i64 0) := blkCell Z.out 0; have cZ1 : World.cell? W1 ⟨gZ, 1, none⟩ = some (.int .i64 0) := blkCell Z.out 1; have cZ2 : World.cell? W1 ⟨gZ, 2, none⟩ = some (.float .f32 0) := blkCell Z.out 2; have cZ3 : World.cell? W1 ⟨gZ, 3, none⟩ = some (.float .f32 0) := blkCell Z.out 3; have cZ4 : World.cell? W1 ⟨gZ, 4, none⟩ = some (.float .f32 0) := blkCell Z.out 4; have cZ5 : World.cell? W1 ⟨gZ, 5, none⟩ = some (.slice none 0 0) := blkCell Z.out 5)))
  have hZl := blkLt Z.out
  refine (l01New_c w0 _ A n c HR.out hnc (below_gr HB.out L.out (by omega) (by simp))).mono ?_
  rintro e w1 ⟨g, rfl, hK, hgw, h⟩
  have h0 : World.grownBy W1 w1 _ := (by refine World.grownBy.trans ?_ h; repeat (first | exact gr_refl _ _ | apply gr_drewN | apply gr_drew | apply gr_alloc))
  clear cZ0 cZ1 cZ2 cZ3 cZ4 cZ5
  have L_ := Az.mk (gr_new L.out h0 (by first | (simp; done) | (simp; omega) | omega))
  have Z_ := Az.mk (blkGr Z.out h0 (by first | (simp; done) | (simp; omega) | omega))
  clear L Z
  have L := L_; clear L_
  have Z := Z_; clear Z_
  clear h0 h
  have K := Az.mk hK; clear hK
  have cZ0 : World.cell? w1 ⟨gZ, 0, none⟩ = some (.int .i64 0) := blkCell Z.out 0
  have cZ1 : World.cell? w1 ⟨gZ, 1, none⟩ = some (.int .i64 0) := blkCell Z.out 1
  have cZ2 : World.cell? w1 ⟨gZ, 2, none⟩ = some (.float .f32 0) := blkCell Z.out 2
  have cZ3 : World.cell? w1 ⟨gZ, 3, none⟩ = some (.float .f32 0) := blkCell Z.out 3
  have cZ4 : World.cell? w1 ⟨gZ, 4, none⟩ = some (.float .f32 0) := blkCell Z.out 4
  have cZ5 : World.cell? w1 ⟨gZ, 5, none⟩ = some (.slice none 0 0) := blkCell Z.out 5
  have hgZ2 : gZ < g := Nat.lt_of_lt_of_le hZl hgw
  go_wp2_with fail
  refine (l01Below_c w0 _ g _ (by omega) (by omega) (by first | exact K.out | exact K.out.alloc _ | exact K.out.drewN _ | exact (K.out.alloc _).alloc _)).mono ?_
  rintro e w2 ⟨a0, h0a, h1a, rfl, hK, h⟩
  have h0 : World.grownBy w1 w2 _ := (by refine World.grownBy.trans ?_ h; repeat (first | exact gr_refl _ _ | apply gr_drewN | apply gr_drew | apply gr_alloc))
  clear cZ0 cZ1 cZ2 cZ3 cZ4 cZ5
  have L_ := Az.mk (gr_new L.out h0 (by first | (simp; done) | (simp; omega) | omega))
  have Z_ := Az.mk (blkGr Z.out h0 (by first | (simp; done) | (simp; omega) | omega))
  clear L Z
  have L := L_; clear L_
  have Z := Z_; clear Z_
  clear h0 h
  clear K; have K := Az.mk hK; clear hK
  have cZ0 : World.cell? w2 ⟨gZ, 0, none⟩ = some (.int .i64 0) := blkCell Z.out 0
  have cZ1 : World.cell? w2 ⟨gZ, 1, none⟩ = some (.int .i64 0) := blkCell Z.out 1
  have cZ2 : World.cell? w2 ⟨gZ, 2, none⟩ = some (.float .f32 0) := blkCell Z.out 2
  have cZ3 : World.cell? w2 ⟨gZ, 3, none⟩ = some (.float .f32 0) := blkCell Z.out 3
  have cZ4 : World.cell? w2 ⟨gZ, 4, none⟩ = some (.float .f32 0) := blkCell Z.out 4
  have cZ5 : World.cell? w2 ⟨gZ, 5, none⟩ = some (.slice none 0 0) := blkCell Z.out 5
  go_wp2_with fail
  refine (l01Below_c w0 _ g _ (by omega) (by omega) (by first | exact K.out | exact K.out.alloc _ | exact K.out.drewN _ | exact (K.out.alloc _).alloc _)).mono ?_
  rintro e w3 ⟨b0, h0b, h1b, rfl, hK, h⟩
  have h0 : World.grownBy w2 w3 _ := (by refine World.grownBy.trans ?_ h; repeat (first | exact gr_refl _ _ | apply gr_drewN | apply gr_drew | apply gr_alloc))
  clear cZ0 cZ1 cZ2 cZ3 cZ4 cZ5
  have L_ := Az.mk (gr_new L.out h0 (by first | (simp; done) | (simp; omega) | omega))
  have Z_ := Az.mk (blkGr Z.out h0 (by first | (simp; done) | (simp; omega) | omega))
  clear L Z
  have L := L_; clear L_
  have Z := Z_; clear Z_
  clear h0 h
  clear K; have K := Az.mk hK; clear hK
  have cZ0 : World.cell? w3 ⟨gZ, 0, none⟩ = some (.int .i64 0) := blkCell Z.out 0
  have cZ1 : World.cell? w3 ⟨gZ, 1, none⟩ = some (.int .i64 0) := blkCell Z.out 1
  have cZ2 : World.cell? w3 ⟨gZ, 2, none⟩ = some (.float .f32 0) := blkCell Z.out 2
  have cZ3 : World.cell? w3 ⟨gZ, 3, none⟩ = some (.float .f32 0) := blkCell Z.out 3
  have cZ4 : World.cell? w3 ⟨gZ, 4, none⟩ = some (.float .f32 0) := blkCell Z.out 4
  have cZ5 : World.cell? w3 ⟨gZ, 5, none⟩ = some (.slice none 0 0) := blkCell Z.out 5
  go_wp2_with fail
  have s3 := L.out.size
  refine (sNewSet_c (1 + a0) (4 * b0) _).mono ?_
  rintro e w4 ⟨rfl, h⟩
  have h0 : World.grownBy w3 w4 _ := (by refine World.grownBy.trans ?_ h; repeat (first | exact gr_refl _ _ | apply gr_drewN | apply gr_drew | apply gr_alloc))
  clear cZ0 cZ1 cZ2 cZ3 cZ4 cZ5
  have L_ := Az.mk (gr_new L.out h0 (by first | (simp; done) | (simp; omega) | omega))
  have Z_ := Az.mk (blkGr Z.out h0 (by first | (simp; done) | (simp; omega) | omega))
  have K_ := Az.mk (Cur.gr K.out h0 (by first | (simp; done) | (simp; omega) | omega) (by first | (simp; done) | (simp; omega) | omega))
  clear L Z K
  have L := L_; clear L_
  have Z := Z_; clear Z_
  have K := K_; clear K_
  clear h0 h
  have cZ0 : World.cell? w4 ⟨gZ, 0, none⟩ = some (.int .i64 0) := blkCell Z.out 0
  have cZ1 : World.cell? w4 ⟨gZ, 1, none⟩ = some (.int .i64 0) := blkCell Z.out 1
  have cZ2 : World.cell? w4 ⟨gZ, 2, none⟩ = some (.float .f32 0) := blkCell Z.out 2
  have cZ3 : World.cell? w4 ⟨gZ, 3, none⟩ = some (.float .f32 0) := blkCell Z.out 3
  have cZ4 : World.cell? w4 ⟨gZ, 4, none⟩ = some (.float .f32 0) := blkCell Z.out 4
  have cZ5 : World.cell? w4 ⟨gZ, 5, none⟩ = some (.slice none 0 0) := blkCell Z.out 5
  obtain ⟨q, hq⟩ : ∃ q, (newM (1 + a0) (4 * b0)).getD zeroS = q := ⟨_, rfl⟩
  have HQ := Az.mk hq
  rw [hq]
  clear hq
  go_wp2_with (first | ((with_reducible refine gateN 5 rfl ?_); go_must (refine ev_al 5 rfl rfl #[.int .i64 0, .int .i64 0, .float .f32 0, .float .f32 0, .float .f32 0, .slice none 0 0] 28 ?hr ?_; (case hr => first | (go_simp; done) | (go_simp; rfl)); intro gB heB W2 hbB h; have hgB : w.heap.size ≤ gB := Nat.le_trans L.out.size heB; have hgBZ : gZ < gB := Nat.lt_of_lt_of_le (blkLt Z.out) heB; have hgBK := Nat.lt_of_lt_of_le (Cur.lt K.out) heB; clear heB; have h0 : World.grownBy w4 W2 none := (by refine World.grownBy.trans ?_ h; repeat (first | exact gr_refl _ _ | apply gr_drewN | apply gr_drew | apply gr_alloc)); clear cZ0 cZ1 cZ2 cZ3 cZ4 cZ5; have L_ := Az.mk (gr_new L.out h0 (by first | (simp; done) | (simp; omega) | omega)); have Z_ := Az.mk (blkGr Z.out h0 (by first | (simp; done) | (simp; omega) | omega)); have K_ := Az.mk (Cur.gr K.out h0 (by first | (simp; done) | (simp; omega) | omega) (by first | (simp; done) | (simp; omega) | omega)); clear L Z K; have L := L_; clear L_; have Z := Z_; clear Z_; have K := K_; clear K_; clear h0 h; have B := Az.mk hbB; clear hbB; have cZ0 : World.cell? W2 ⟨gZ, 0, none⟩ = some (.int .i64 0) := blkCell Z.out 0; have cZ1 : World.cell? W2 ⟨gZ, 1, none⟩ = some (.int .i64 0) := blkCell Z.out 1; have cZ2 : World.cell? W2 ⟨gZ, 2, none⟩ = some (.float .f32 0) := blkCell Z.out 2; have cZ3 : World.cell? W2 ⟨gZ, 3, none⟩ = some (.float .f32 0) := blkCell Z.out 3; have cZ4 : World.cell? W2 ⟨gZ, 4, none⟩ = some (.float .f32 0) := blkCell Z.out 4; have cZ5 : World.cell? W2 ⟨gZ, 5, none⟩ = some (.slice none 0 0) := blkCell Z.out 5; have cB0 : World.cell? W2 ⟨gB, 0, none⟩ = some (.int .i64 0) := blkCell B.out 0; have cB1 : World.cell? W2 ⟨gB, 1, none⟩ = some (.int .i64 0) := blkCell B.out 1; have cB2 : World.cell? W2 ⟨gB, 2, none⟩ = some (.float .f32 0) := blkCell B.out 2; have cB3 : World.cell? W2 ⟨gB, 3, none⟩ = some (.float .f32 0) := blkCell B.out 3; have cB4 : World.cell? W2 ⟨gB, 4, none⟩ = some (.float .f32 0) := blkCell B.out 4; have cB5 : World.cell? W2 ⟨gB, 5, none⟩ = some (.slice none 0 0) := blkCell B.out 5)) | ((with_reducible refine gateSt 5 rfl ?_); go_must (refine ev_st rfl rfl rfl (cs := #[.int .i64 q.cells, .int .i64 q.rows, .float .f32 q.sl, .float .f32 q.le, .float .f32 q.sa, .slice none 0 0]) rfl rfl B.out (by kernel_rfl) rfl (by simp [Value.oneCell']) ?_; intro W3 hbB h; have h0 : World.grownBy W2 W3 (some gB) := (by refine World.grownBy.trans ?_ h; repeat (first | exact gr_refl _ _ | apply gr_drewN | apply gr_drew | apply gr_alloc)); clear cZ0 cZ1 cZ2 cZ3 cZ4 cZ5 cB0 cB1 cB2 cB3 cB4 cB5; have L_ := Az.mk (gr_new L.out h0 (by first | (simp; done) | (simp; omega) | omega)); have Z_ := Az.mk (blkGr Z.out h0 (by first | (simp; done) | (simp; omega) | omega)); have K_ := Az.mk (Cur.gr K.out h0 (by first | (simp; done) | (simp; omega) | omega) (by first | (simp; done) | (simp; omega) | omega)); clear L Z K; have L := L_; clear L_; have Z := Z_; clear Z_; have K := K_; clear K_; clear h0 h; clear B; have B := Az.mk hbB; clear hbB; have cZ0 : World.cell? W3 ⟨gZ, 0, none⟩ = some (.int .i64 0) := blkCell Z.out 0; have cZ1 : World.cell? W3 ⟨gZ, 1, none⟩ = some (.int .i64 0) := blkCell Z.out 1; have cZ2 : World.cell? W3 ⟨gZ, 2, none⟩ = some (.float .f32 0) := blkCell Z.out 2; have cZ3 : World.cell? W3 ⟨gZ, 3, none⟩ = some (.float .f32 0) := blkCell Z.out 3; have cZ4 : World.cell? W3 ⟨gZ, 4, none⟩ = some (.float .f32 0) := blkCell Z.out 4; have cZ5 : World.cell? W3 ⟨gZ, 5, none⟩ = some (.slice none 0 0) := blkCell Z.out 5; have cB0 : World.cell? W3 ⟨gB, 0, none⟩ = some (.int .i64 q.cells) := blkCell B.out 0; have cB1 : World.cell? W3 ⟨gB, 1, none⟩ = some (.int .i64 q.rows) := blkCell B.out 1; have cB2 : World.cell? W3 ⟨gB, 2, none⟩ = some (.float .f32 q.sl) := blkCell B.out 2; have cB3 : World.cell? W3 ⟨gB, 3, none⟩ = some (.float .f32 q.le) := blkCell B.out 3; have cB4 : World.cell? W3 ⟨gB, 4, none⟩ = some (.float .f32 q.sa) := blkCell B.out 4; have cB5 : World.cell? W3 ⟨gB, 5, none⟩ = some (.slice none 0 0) := blkCell B.out 5)) | ((with_reducible refine gateN 21 rfl ?_); go_must (refine ev_bs 21 rfl rfl #[] 9 0 ?hr ?_; (case hr => first | (go_simp; done) | (go_simp; rfl)); intro gU heU W4 hbU h; have hgU : w.heap.size ≤ gU := Nat.le_trans L.out.size heU; clear heU; have h0 : World.grownBy W3 W4 none := (by refine World.grownBy.trans ?_ h; repeat (first | exact gr_refl _ _ | apply gr_drewN | apply gr_drew | apply gr_alloc)); clear cZ0 cZ1 cZ2 cZ3 cZ4 cZ5 cB0 cB1 cB2 cB3 cB4 cB5; have L_ := Az.mk (gr_new L.out h0 (by first | (simp; done) | (simp; omega) | omega)); have Z_ := Az.mk (blkGr Z.out h0 (by first | (simp; done) | (simp; omega) | omega)); have K_ := Az.mk (Cur.gr K.out h0 (by first | (simp; done) | (simp; omega) | omega) (by first | (simp; done) | (simp; omega) | omega)); have B_ := Az.mk (blkGr B.out h0 (by first | (simp; done) | (simp; omega) | omega)); clear L Z K B; have L := L_; clear L_; have Z := Z_; clear Z_; have K := K_; clear K_; have B := B_; clear B_; clear h0 h; have U := Az.mk (own_empty (size := 1) hbU hgU); clear hbU; have cZ0 : World.cell? W4 ⟨gZ, 0, none⟩ = some (.int .i64 0) := blkCell Z.out 0; have cZ1 : World.cell? W4 ⟨gZ, 1, none⟩ = some (.int .i64 0) := blkCell Z.out 1; have cZ2 : World.cell? W4 ⟨gZ, 2, none⟩ = some (.float .f32 0) := blkCell Z.out 2; have cZ3 : World.cell? W4 ⟨gZ, 3, none⟩ = some (.float .f32 0) := blkCell Z.out 3; have cZ4 : World.cell? W4 ⟨gZ, 4, none⟩ = some (.float .f32 0) := blkCell Z.out 4; have cZ5 : World.cell? W4 ⟨gZ, 5, none⟩ = some (.slice none 0 0) := blkCell Z.out 5; have cB0 : World.cell? W4 ⟨gB, 0, none⟩ = some (.int .i64 q.cells) := blkCell B.out 0; have cB1 : World.cell? W4 ⟨gB, 1, none⟩ = some (.int .i64 q.rows) := blkCell B.out 1; have cB2 : World.cell? W4 ⟨gB, 2, none⟩ = some (.float .f32 q.sl) := blkCell B.out 2; have cB3 : World.cell? W4 ⟨gB, 3, none⟩ = some (.float .f32 q.le) := blkCell B.out 3; have cB4 : World.cell? W4 ⟨gB, 4, none⟩ = some (.float .f32 q.sa) := blkCell B.out 4; have cB5 : World.cell? W4 ⟨gB, 5, none⟩ = some (.slice none 0 0) := blkCell B.out 5)))
  refine (l01Below_c w0 _ g _ (by omega) (by omega) (by first | exact K.out | exact K.out.alloc _ | exact K.out.drewN _ | exact (K.out.alloc _).alloc _)).mono ?_
  rintro e w5 ⟨m0, h0m, h1m, rfl, hK, h⟩
  have h0 : World.grownBy W4 w5 _ := (by refine World.grownBy.trans ?_ h; repeat (first | exact gr_refl _ _ | apply gr_drewN | apply gr_drew | apply gr_alloc))
  clear cZ0 cZ1 cZ2 cZ3 cZ4 cZ5 cB0 cB1 cB2 cB3 cB4 cB5
  have L_ := Az.mk (gr_new L.out h0 (by first | (simp; done) | (simp; omega) | omega))
  have Z_ := Az.mk (blkGr Z.out h0 (by first | (simp; done) | (simp; omega) | omega))
  have B_ := Az.mk (blkGr B.out h0 (by first | (simp; done) | (simp; omega) | omega))
  have U_ := Az.mk (own_gr U.out h0 (by first | exact own_none _ | exact .inr hl?U.out | exact .inr (own_blk U.out Z.out (by decide)) | exact .inr (own_blk U.out B.out (by decide)) | exact .inr (own_cur U.out K.out (by decide))))
  clear L Z B U
  have L := L_; clear L_
  have Z := Z_; clear Z_
  have B := B_; clear B_
  have U := U_; clear U_
  clear h0 h
  clear K; have K := Az.mk hK; clear hK
  have cZ0 : World.cell? w5 ⟨gZ, 0, none⟩ = some (.int .i64 0) := blkCell Z.out 0
  have cZ1 : World.cell? w5 ⟨gZ, 1, none⟩ = some (.int .i64 0) := blkCell Z.out 1
  have cZ2 : World.cell? w5 ⟨gZ, 2, none⟩ = some (.float .f32 0) := blkCell Z.out 2
  have cZ3 : World.cell? w5 ⟨gZ, 3, none⟩ = some (.float .f32 0) := blkCell Z.out 3
  have cZ4 : World.cell? w5 ⟨gZ, 4, none⟩ = some (.float .f32 0) := blkCell Z.out 4
  have cZ5 : World.cell? w5 ⟨gZ, 5, none⟩ = some (.slice none 0 0) := blkCell Z.out 5
  have cB0 : World.cell? w5 ⟨gB, 0, none⟩ = some (.int .i64 q.cells) := blkCell B.out 0
  have cB1 : World.cell? w5 ⟨gB, 1, none⟩ = some (.int .i64 q.rows) := blkCell B.out 1
  have cB2 : World.cell? w5 ⟨gB, 2, none⟩ = some (.float .f32 q.sl) := blkCell B.out 2
  have cB3 : World.cell? w5 ⟨gB, 3, none⟩ = some (.float .f32 q.le) := blkCell B.out 3
  have cB4 : World.cell? w5 ⟨gB, 4, none⟩ = some (.float .f32 q.sa) := blkCell B.out 4
  have cB5 : World.cell? w5 ⟨gB, 5, none⟩ = some (.slice none 0 0) := blkCell B.out 5
  obtain ⟨m, rfl⟩ : ∃ m : Nat, m0 = (m : Int) := ⟨m0.toNat, by omega⟩
  go_wp2_with fail
  clear cB0 cB1 cB2 cB3 cB4 cB5 cZ0 cZ1 cZ2 cZ3 cZ4 cZ5
  go_loopw [7, 8] (fun z i wr => ∃ ls, ∃ k : Nat, i = .int .i64 k ∧ ls.length + k ≤ 6 ∧ Az (∀ t ∈ ls, t.length ≤ 600) ∧ Az (w.grownBy wr none) ∧ Az (Cur w0 wr g) ∧ Az (wr.heap[gB]? = some (.cells (q.cs (.slice none 0 0)) 28 (0, 0))) ∧ Az (wr.heap[gZ]? = some (.cells #[.int .i64 0, .int .i64 0, .float .f32 0, .float .f32 0, .float .f32 0, .slice none 0 0] 28 (0, 0))) ∧ Az (wr.ownsRow w.heap.size 9 1 z ls.length (stV ls))) (fun _ i _ => (intOf i).toNat)
  case atStart => exact ⟨[], m, by go_num, by simp; omega, ⟨fun t ht => by simp at ht⟩, L, K, B, Z, U⟩
  case round =>
    clear L K B Z U
    obtain ⟨ls, k, rfl, hk, HL, L, K, B, Z, U⟩ := hrel
    unfold SetV.cs at B
    have cB0 : World.cell? wr ⟨gB, 0, none⟩ = some (.int .i64 q.cells) := blkCell B.out 0
    have cB1 : World.cell? wr ⟨gB, 1, none⟩ = some (.int .i64 q.rows) := blkCell B.out 1
    have cB2 : World.cell? wr ⟨gB, 2, none⟩ = some (.float .f32 q.sl) := blkCell B.out 2
    have cB3 : World.cell? wr ⟨gB, 3, none⟩ = some (.float .f32 q.le) := blkCell B.out 3
    have cB4 : World.cell? wr ⟨gB, 4, none⟩ = some (.float .f32 q.sa) := blkCell B.out 4
    have cB5 : World.cell? wr ⟨gB, 5, none⟩ = some (.slice none 0 0) := blkCell B.out 5
    by_cases hk0 : 0 < k
    · have hki : (0 : Int) < k := by omega
      go_wp2_with fail
      refine (l08Line_c w0 _ g (by first | exact K.out | exact K.out.alloc _ | exact K.out.drewN _ | exact (K.out.alloc _).alloc _)).mono ?_
      rintro e v1 ⟨t, ht, rfl, hK, h⟩
      have h0 : World.grownBy wr v1 _ := (by refine World.grownBy.trans ?_ h; repeat (first | exact gr_refl _ _ | apply gr_drewN | apply gr_drew | apply gr_alloc))
      clear cB0 cB1 cB2 cB3 cB4 cB5
      have L_ := Az.mk (gr_new L.out h0 (by first | (simp; done) | (simp; omega) | omega))
      have B_ := Az.mk (blkGr B.out h0 (by first | (simp; done) | (simp; omega) | omega))
      have Z_ := Az.mk (blkGr Z.out h0 (by first | (simp; done) | (simp; omega) | omega))
      have U_ := Az.mk (own_gr U.out h0 (by first | exact own_none _ | exact .inr hl?U.out | exact .inr (own_blk U.out B.out (by decide)) | exact .inr (own_blk U.out Z.out (by decide)) | exact .inr (own_cur U.out K.out (by decide))))
      clear L B Z U
      have L := L_; clear L_
      have B := B_; clear B_
      have Z := Z_; clear Z_
      have U := U_; clear U_
      clear h0 h
      clear K; have K := Az.mk hK; clear hK
      have cB0 : World.cell? v1 ⟨gB, 0, none⟩ = some (.int .i64 q.cells) := blkCell B.out 0
      have cB1 : World.cell? v1 ⟨gB, 1, none⟩ = some (.int .i64 q.rows) := blkCell B.out 1
      have cB2 : World.cell? v1 ⟨gB, 2, none⟩ = some (.float .f32 q.sl) := blkCell B.out 2
      have cB3 : World.cell? v1 ⟨gB, 3, none⟩ = some (.float .f32 q.le) := blkCell B.out 3
      have cB4 : World.cell? v1 ⟨gB, 4, none⟩ = some (.float .f32 q.sa) := blkCell B.out 4
      have cB5 : World.cell? v1 ⟨gB, 5, none⟩ = some (.slice none 0 0) := blkCell B.out 5
      have HT := Az.mk ht
      clear ht
      go_wp2_with (first | ((with_reducible refine gateN 31 rfl ?_); go_must (refine ev_bs 31 rfl rfl #[.string (tx t)] 9 1 ?hr ?_; (case hr => first | (go_simp; done) | (go_simp; rfl)); intro gN heN W5 hbN h; have hgN : w.heap.size ≤ gN := Nat.le_trans L.out.size heN; have hgNK := Nat.lt_of_lt_of_le (Cur.lt K.out) heN; have hgNB : gB < gN := Nat.lt_of_lt_of_le (blkLt B.out) heN; have hgNZ : gZ < gN := Nat.lt_of_lt_of_le (blkLt Z.out) heN; have hlNU := Az.mk (own_lows U.out heN); clear heN; have h0 : World.grownBy v1 W5 none := (by refine World.grownBy.trans ?_ h; repeat (first | exact gr_refl _ _ | apply gr_drewN | apply gr_drew | apply gr_alloc)); clear cB0 cB1 cB2 cB3 cB4 cB5; have L_ := Az.mk (gr_new L.out h0 (by first | (simp; done) | (simp; omega) | omega)); have K_ := Az.mk (Cur.gr K.out h0 (by first | (simp; done) | (simp; omega) | omega) (by first | (simp; done) | (simp; omega) | omega)); have B_ := Az.mk (blkGr B.out h0 (by first | (simp; done) | (simp; omega) | omega)); have Z_ := Az.mk (blkGr Z.out h0 (by first | (simp; done) | (simp; omega) | omega)); have U_ := Az.mk (own_gr U.out h0 (by first | exact own_none _ | exact .inr hl?U.out | exact .inr (own_blk U.out B.out (by decide)) | exact .inr (own_blk U.out Z.out (by decide)) | exact .inr (own_cur U.out K.out (by decide)))); clear L K B Z U; have L := L_; clear L_; have K := K_; clear K_; have B := B_; clear B_; have Z := Z_; clear Z_; have U := U_; clear U_; clear h0 h; have N := Az.mk hbN; clear hbN; have cB0 : World.cell? W5 ⟨gB, 0, none⟩ = some (.int .i64 q.cells) := blkCell B.out 0; have cB1 : World.cell? W5 ⟨gB, 1, none⟩ = some (.int .i64 q.rows) := blkCell B.out 1; have cB2 : World.cell? W5 ⟨gB, 2, none⟩ = some (.float .f32 q.sl) := blkCell B.out 2; have cB3 : World.cell? W5 ⟨gB, 3, none⟩ = some (.float .f32 q.le) := blkCell B.out 3; have cB4 : World.cell? W5 ⟨gB, 4, none⟩ = some (.float .f32 q.sa) := blkCell B.out 4; have cB5 : World.cell? W5 ⟨gB, 5, none⟩ = some (.slice none 0 0) := blkCell B.out 5; have cN0 : World.cell? W5 ⟨gN, 0, none⟩ = some (.string (tx t)) := blkCell N.out 0)) | ((with_reducible refine gateN 32 rfl ?_); go_must (refine ev_app 32 rfl rfl rfl Tryd.underlying23 (z := .string ByteArray.empty) (size := 1) (bytes := 16) (by kernel_rfl) rfl (by decide) rfl U.out rfl N.out rfl (by simp [Value.oneCell']) ?hbase ?hl ?hl2 ?_; (case hbase => have := L.out.size; omega); (case hl => omega); (case hl2 => omega); intro vU W6 hU h; have h0 : World.grownBy W5 W6 _ := (by refine World.grownBy.trans ?_ h; repeat (first | exact gr_refl _ _ | apply gr_drewN | apply gr_drew | apply gr_alloc)); clear cB0 cB1 cB2 cB3 cB4 cB5 cN0; have L_ := Az.mk (gr_new L.out h0 (fun j hj => .inl (own_base U.out j hj))); have K_ := Az.mk (Cur.gr K.out h0 (fun he => own_cur U.out K.out (by decide) he.symm) (by first | exact fun j hj => Nat.le_trans hS (own_base U.out j hj) | exact fun j hj => Nat.le_trans hS2 (own_base U.out j hj))); have B_ := Az.mk (blkGr B.out h0 (by first | exact fun he => own_blk U.out B.out (by decide) he.symm | exact fun he => hlBU.out he.symm | exact fun he => (by have := own_base U.out _ he.symm; omega))); have Z_ := Az.mk (blkGr Z.out h0 (by first | exact fun he => own_blk U.out Z.out (by decide) he.symm | exact fun he => hlZU.out he.symm | exact fun he => (by have := own_base U.out _ he.symm; omega))); clear L K B Z; have L := L_; clear L_; have K := K_; clear K_; have B := B_; clear B_; have Z := Z_; clear Z_; clear h0 h; clear U N; have U := Az.mk hU; clear hU; have cB0 : World.cell? W6 ⟨gB, 0, none⟩ = some (.int .i64 q.cells) := blkCell B.out 0; have cB1 : World.cell? W6 ⟨gB, 1, none⟩ = some (.int .i64 q.rows) := blkCell B.out 1; have cB2 : World.cell? W6 ⟨gB, 2, none⟩ = some (.float .f32 q.sl) := blkCell B.out 2; have cB3 : World.cell? W6 ⟨gB, 3, none⟩ = some (.float .f32 q.le) := blkCell B.out 3; have cB4 : World.cell? W6 ⟨gB, 4, none⟩ = some (.float .f32 q.sa) := blkCell B.out 4; have cB5 : World.cell? W6 ⟨gB, 5, none⟩ = some (.slice none 0 0) := blkCell B.out 5)))
      refine ⟨⟨ls ++ [t], k - 1, by congr 1; omega, by simp; omega, ⟨fun x hx => ?_⟩, L, K, B, Z, ⟨by rw [stV_snoc, List.length_append]; exact U.out⟩⟩, by simp only [intOf]; omega⟩
      rcases List.mem_append.1 hx with h | h
      · exact HL.out x h
      · rw [List.mem_singleton.1 h]; exact HT.out
    · have hki : ¬ (0 : Int) < k := by omega
      go_wp2_with (first | ((with_reducible refine gateN 33 rfl ?_); go_must (refine ev_ld 33 rfl rfl rfl (cs := #[.int .i64 q.cells, .int .i64 q.rows, .float .f32 q.sl, .float .f32 q.le, .float .f32 q.sa, .slice none 0 0]) rfl B.out Tryd.underlying28 rfl (by kernel_rfl) ?_)) | ((with_reducible refine gateSt 2 rfl ?_); go_must (refine ev_st rfl rfl rfl (cs := #[.int .i64 q.cells, .int .i64 q.rows, .float .f32 q.sl, .float .f32 q.le, .float .f32 q.sa, .slice none 0 0]) rfl rfl Z.out (by kernel_rfl) rfl (by simp [Value.oneCell']) ?_; intro W7 hbZ h; have h0 : World.grownBy wr W7 (some gZ) := (by refine World.grownBy.trans ?_ h; repeat (first | exact gr_refl _ _ | apply gr_drewN | apply gr_drew | apply gr_alloc)); clear cB0 cB1 cB2 cB3 cB4 cB5; have L_ := Az.mk (gr_new L.out h0 (by first | (simp; done) | (simp; omega) | omega)); have K_ := Az.mk (Cur.gr K.out h0 (by first | (simp; done) | (simp; omega) | omega) (by first | (simp; done) | (simp; omega) | omega)); have B_ := Az.mk (blkGr B.out h0 (by first | (simp; done) | (simp; omega) | omega)); have U_ := Az.mk (own_gr U.out h0 (by first | exact own_none _ | exact .inr hlZU.out | exact .inr (own_blk U.out B.out (by decide)) | exact .inr (own_blk U.out Z.out (by decide)) | exact .inr (own_cur U.out K.out (by decide)))); clear L K B U; have L := L_; clear L_; have K := K_; clear K_; have B := B_; clear B_; have U := U_; clear U_; clear h0 h; clear Z; have Z := Az.mk hbZ; clear hbZ; have cB0 : World.cell? W7 ⟨gB, 0, none⟩ = some (.int .i64 q.cells) := blkCell B.out 0; have cB1 : World.cell? W7 ⟨gB, 1, none⟩ = some (.int .i64 q.rows) := blkCell B.out 1; have cB2 : World.cell? W7 ⟨gB, 2, none⟩ = some (.float .f32 q.sl) := blkCell B.out 2; have cB3 : World.cell? W7 ⟨gB, 3, none⟩ = some (.float .f32 q.le) := blkCell B.out 3; have cB4 : World.cell? W7 ⟨gB, 4, none⟩ = some (.float .f32 q.sa) := blkCell B.out 4; have cB5 : World.cell? W7 ⟨gB, 5, none⟩ = some (.slice none 0 0) := blkCell B.out 5; have cZ0 : World.cell? W7 ⟨gZ, 0, none⟩ = some (.int .i64 q.cells) := blkCell Z.out 0; have cZ1 : World.cell? W7 ⟨gZ, 1, none⟩ = some (.int .i64 q.rows) := blkCell Z.out 1; have cZ2 : World.cell? W7 ⟨gZ, 2, none⟩ = some (.float .f32 q.sl) := blkCell Z.out 2; have cZ3 : World.cell? W7 ⟨gZ, 3, none⟩ = some (.float .f32 q.le) := blkCell Z.out 3; have cZ4 : World.cell? W7 ⟨gZ, 4, none⟩ = some (.float .f32 q.sa) := blkCell Z.out 4; have cZ5 : World.cell? W7 ⟨gZ, 5, none⟩ = some (.slice none 0 0) := blkCell Z.out 5)))
      refine bodyPost_ret (results_ct (u := 3) rfl _ _ gZ 28 (q.cs (.slice none 0 0)) _ rfl Z.out Tryd.underlying28 rfl (by kernel_rfl)) rfl ⟨1 + a0, 4 * b0, .slice none 0 0, _, ls, ?_, own_nil _ _ _ _, U.out, by omega, HL.out, L.out⟩
      rw [HQ.out]; rfl
end Go.Proofs.YtfjafeepmpnegaaDoor
