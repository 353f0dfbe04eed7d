/- Contract of impl.FormatFixed. Condition: the library's table is there. -/
import Derived.Test.YtfjafeepmpnegaaDoorSc
namespace Go.Proofs.YtfjafeepmpnegaaDoor
open Go.RowKit
set_option linter.unusedVariables false
set_option linter.unusedSimpArgs false

def strLen : Value → Nat
  | .string s => s.size
  | _ => 0
theorem itoa_mod (u : Nat) : Lib.itoa ((u : Int) % 1000) = Lib.decDigits (u % 1000) := by rw [show (u : Int) % 1000 = ((u % 1000 : Nat) : Int) by omega, Lib.itoa_nonneg]
theorem itoa_div (u : Nat) : Lib.itoa ((u : Int) / 1000) = Lib.decDigits (u / 1000) := by rw [show (u : Int) / 1000 = ((u / 1000 : Nat) : Int) by omega, Lib.itoa_nonneg]
theorem nDigits3 {r : Nat} (h : r < 1000) : Lib.nDigits r ≤ 3 := nDigits_le (by omega) (by omega)
set_option maxHeartbeats 1000000 in
theorem FormatFixed_neg (n : Int) (hlo : -1000000000 ≤ n) (hhi : n < 0) (w : World) (hE : Env w) : Calls Tryd.prog 45 #[.int .i64 n] w (RetSt w (45 :: bodyT n.natAbs)) := by
  have L := Az.mk (gr_refl w none)
  have HE := Az.mk hE
  clear hE
  obtain ⟨u, rfl⟩ : ∃ u : Nat, n = -(u : Int) := ⟨n.natAbs, by omega⟩
  have hna : (-(u : Int)).natAbs = u := by omega
  rw [hna]
  clear hna
  have hu : u ≤ 1000000000 := by omega
  go_enter Tryd.func45, Tryd.ntmps45
  go_wp2_with fail
  refine (fixedOk_c _ _).mono ?_
  rintro e w1 ⟨rfl, h⟩
  have h0 : World.grownBy w w1 _ := (by refine World.grownBy.trans ?_ h; repeat (first | exact gr_refl _ _ | apply gr_drewN | apply gr_drew | apply gr_alloc))
  have L_ := Az.mk (gr_new L.out h0 (by first | (simp; done) | (simp; omega) | omega))
  clear L
  have L := L_; clear L_
  clear h0 h
  have e1 : (decide (-1000000000 ≤ -(u : Int)) && decide (-(u : Int) ≤ 1000000000)) = true := by simp; omega
  rw [e1]
  clear e1
  go_wp2_with fail
  refine (FormatInt_c ((u : Int) % 1000) (by omega) (by omega) _ (HE.out.gr L.out)).mono ?_
  rintro e w2 ⟨rfl, h⟩
  have h0 : World.grownBy w1 w2 _ := (by refine World.grownBy.trans ?_ h; repeat (first | exact gr_refl _ _ | apply gr_drewN | apply gr_drew | apply gr_alloc))
  have L_ := Az.mk (gr_new L.out h0 (by first | (simp; done) | (simp; omega) | omega))
  clear L
  have L := L_; clear L_
  clear h0 h
  rw [itoa_mod]
  go_wp2_with fail
  go_loopw [4] (fun z wr => ∃ j : Nat, z = .string (tx (List.replicate j 48 ++ Lib.decDigits (u % 1000))) ∧ j + Lib.nDigits (u % 1000) ≤ 3 ∧ Az (w.grownBy wr none)) (fun z _ => 3 - strLen z)
  case atStart => exact ⟨0, by simp, by have := nDigits3 (Nat.mod_lt u (show 0 < 1000 by decide)); omega, L⟩
  case round =>
    clear L
    obtain ⟨j, rfl, hj, L⟩ := hrel
    obtain ⟨m, hm⟩ : ∃ m, m = j + Lib.nDigits (u % 1000) := ⟨_, rfl⟩
    have hsz : (tx (List.replicate j 48 ++ Lib.decDigits (u % 1000))).size = m := by rw [tx_size, List.length_append, List.length_replicate, Lib.decDigits_length, hm]
    have HM := Az.mk hm
    rw [← hm] at hj
    clear hm
    by_cases h3 : m < 3
    · have h3i : (m : Int) < 3 := by omega
      go_wp2_with fail
      refine ⟨⟨j + 1, rfl, by have := HM.out; omega, L⟩, ?_⟩
      simp only [strLen, tx_size, List.length_cons, hsz]
      have := hsz
      rw [tx_size] at this
      omega
    · have h3i : ¬ (m : Int) < 3 := by omega
      go_wp2_with fail
      refine (FormatInt_c ((u : Int) / 1000) (by omega) (by omega) _ (HE.out.gr L.out)).mono ?_
      rintro e v2 ⟨rfl, h⟩
      have h0 : World.grownBy wr v2 _ := (by refine World.grownBy.trans ?_ h; repeat (first | exact gr_refl _ _ | apply gr_drewN | apply gr_drew | apply gr_alloc))
      have L_ := Az.mk (gr_new L.out h0 (by first | (simp; done) | (simp; omega) | omega))
      clear L
      have L := L_; clear L_
      clear h0 h
      rw [itoa_div]
      have q1 : (Lib.decDigits (u / 1000)).length ≤ 10 := by rw [Lib.decDigits_length]; exact nDigits_le (by decide) (by omega)
      go_wp2_with fail
      go_ret
      refine ⟨?_, L.out⟩
      have e : List.replicate j 48 ++ Lib.decDigits (u % 1000) = pad3 (u % 1000) := by
        rw [pad3_of _ (Nat.mod_lt u (by decide))]
        have := HM.out
        rw [show 3 - Lib.nDigits (u % 1000) = j by omega]
      rw [e]
      simp [bodyT]

set_option maxHeartbeats 1000000 in
theorem FormatFixed_pos (n : Int) (hlo : 0 ≤ n) (hhi : n ≤ 1000000000) (w : World) (hE : Env w) : Calls Tryd.prog 45 #[.int .i64 n] w (RetSt w (bodyT n.natAbs)) := by
  have L := Az.mk (gr_refl w none)
  have HE := Az.mk hE
  clear hE
  obtain ⟨u, rfl⟩ : ∃ u : Nat, n = (u : Int) := ⟨n.natAbs, by omega⟩
  have hna : ((u : Int)).natAbs = u := by omega
  rw [hna]
  clear hna
  have hu : u ≤ 1000000000 := by omega
  go_enter Tryd.func45, Tryd.ntmps45
  go_wp2_with fail
  refine (fixedOk_c _ _).mono ?_
  rintro e w1 ⟨rfl, h⟩
  have h0 : World.grownBy w w1 _ := (by refine World.grownBy.trans ?_ h; repeat (first | exact gr_refl _ _ | apply gr_drewN | apply gr_drew | apply gr_alloc))
  have L_ := Az.mk (gr_new L.out h0 (by first | (simp; done) | (simp; omega) | omega))
  clear L
  have L := L_; clear L_
  clear h0 h
  have e1 : (decide (-1000000000 ≤ (u : Int)) && decide ((u : Int) ≤ 1000000000)) = true := by simp; omega
  rw [e1]
  clear e1
  go_wp2_with fail
  refine (FormatInt_c ((u : Int) % 1000) (by omega) (by omega) _ (HE.out.gr L.out)).mono ?_
  rintro e w2 ⟨rfl, h⟩
  have h0 : World.grownBy w1 w2 _ := (by refine World.grownBy.trans ?_ h; repeat (first | exact gr_refl _ _ | apply gr_drewN | apply gr_drew | apply gr_alloc))
  have L_ := Az.mk (gr_new L.out h0 (by first | (simp; done) | (simp; omega) | omega))
  clear L
  have L := L_; clear L_
  clear h0 h
  rw [itoa_mod]
  go_wp2_with fail
  go_loopw [4] (fun z wr => ∃ j : Nat, z = .string (tx (List.replicate j 48 ++ Lib.decDigits (u % 1000))) ∧ j + Lib.nDigits (u % 1000) ≤ 3 ∧ Az (w.grownBy wr none)) (fun z _ => 3 - strLen z)
  case atStart => exact ⟨0, by simp, by have := nDigits3 (Nat.mod_lt u (show 0 < 1000 by decide)); omega, L⟩
  case round =>
    clear L
    obtain ⟨j, rfl, hj, L⟩ := hrel
    obtain ⟨m, hm⟩ : ∃ m, m = j + Lib.nDigits (u % 1000) := ⟨_, rfl⟩
    have hsz : (tx (List.replicate j 48 ++ Lib.decDigits (u % 1000))).size = m := by rw [tx_size, List.length_append, List.length_replicate, Lib.decDigits_length, hm]
    have HM := Az.mk hm
    rw [← hm] at hj
    clear hm
    by_cases h3 : m < 3
    · have h3i : (m : Int) < 3 := by omega
      go_wp2_with fail
      refine ⟨⟨j + 1, rfl, by have := HM.out; omega, L⟩, ?_⟩
      simp only [strLen, tx_size, List.length_cons, hsz]
      have := hsz
      rw [tx_size] at this
      omega
    · have h3i : ¬ (m : Int) < 3 := by omega
      go_wp2_with fail
      refine (FormatInt_c ((u : Int) / 1000) (by omega) (by omega) _ (HE.out.gr L.out)).mono ?_
      rintro e v2 ⟨rfl, h⟩
      have h0 : World.grownBy wr v2 _ := (by refine World.grownBy.trans ?_ h; repeat (first | exact gr_refl _ _ | apply gr_drewN | apply gr_drew | apply gr_alloc))
      have L_ := Az.mk (gr_new L.out h0 (by first | (simp; done) | (simp; omega) | omega))
      clear L
      have L := L_; clear L_
      clear h0 h
      rw [itoa_div]
      have q1 : (Lib.decDigits (u / 1000)).length ≤ 10 := by rw [Lib.decDigits_length]; exact nDigits_le (by decide) (by omega)
      go_wp2_with fail
      go_ret
      refine ⟨?_, L.out⟩
      have e : List.replicate j 48 ++ Lib.decDigits (u % 1000) = pad3 (u % 1000) := by
        rw [pad3_of _ (Nat.mod_lt u (by decide))]
        have := HM.out
        rw [show 3 - Lib.nDigits (u % 1000) = j by omega]
      rw [e]
      simp [bodyT]
theorem FormatFixed_c (n : Int) (w : World) (hE : Env w) : Calls Tryd.prog 45 #[.int .i64 n] w (RetSt w (fixedT n)) := by
  by_cases h : -1000000000 ≤ n ∧ n ≤ 1000000000
  · rcases fixedT_sign n h.1 h.2 with ⟨hn, e⟩ | ⟨hn, e⟩
    · rw [e]; exact FormatFixed_neg n h.1 hn w hE
    · rw [e]; exact FormatFixed_pos n hn h.2 w hE
  · have e : fixedT n = [] := by rw [fixedT, if_neg h]
    rw [e]
    have L := Az.mk (gr_refl w none)
    clear hE e
    go_enter Tryd.func45, Tryd.ntmps45
    go_wp2_with fail
    refine (fixedOk_c _ _).mono ?_
    rintro e w1 ⟨rfl, h⟩
    have h0 : World.grownBy w w1 _ := (by refine World.grownBy.trans ?_ h; repeat (first | exact gr_refl _ _ | apply gr_drewN | apply gr_drew | apply gr_alloc))
    have L_ := Az.mk (gr_new L.out h0 (by first | (simp; done) | (simp; omega) | omega))
    clear L
    have L := L_; clear L_
    clear h0 h
    have e1 : (decide (-1000000000 ≤ n) && decide (n ≤ 1000000000)) = false := by simp; omega
    rw [e1]
    clear e1
    go_wp2_with fail
    go_ret
    exact ⟨rfl, L.out⟩
end Go.Proofs.YtfjafeepmpnegaaDoor
