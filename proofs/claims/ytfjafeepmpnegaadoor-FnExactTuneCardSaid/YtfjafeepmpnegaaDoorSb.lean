/- Contract of impl.ParseUint. Condition: the library's table is there. -/
import Derived.Test.YtfjafeepmpnegaaDoorSa
namespace Go.Proofs.YtfjafeepmpnegaaDoor
open Go.RowKit
set_option linter.unusedVariables false
set_option linter.unusedSimpArgs false

def RetU (w : World) (o : Option Nat) (e : Ending) (w' : World) : Prop := e = .returned (.tuple #[.int .i64 ((o.getD 0 : Nat) : Int), .bool o.isSome]) ∧ w.grownBy w' none
theorem tx_get (l : Tx) (k : Nat) (h : k < (tx l).size) : (tx l)[k]'h = l[k]'(by rw [← tx_size]; exact h) := rfl
theorem val_take_lt (l : Tx) (k : Nat) (h : Digs (l.take k)) : val (l.take k) < 10 ^ k := by
  have key : ∀ (m : Tx), Digs m → val m < 10 ^ m.length := by
    intro m hd
    have : ∀ (k : Nat) (m : Tx), m.length = k → Digs m → val m < 10 ^ k := by
      intro k
      induction k with
      | zero => intro m hm _; rw [List.length_eq_zero_iff.1 hm]; simp [val]
      | succ k ih =>
        intro m hm hd
        obtain ⟨a, c, rfl⟩ : ∃ a c, m = a ++ [c] := ⟨m.dropLast, m.getLast (by intro h; subst h; simp at hm), (List.dropLast_concat_getLast _).symm⟩
        have h1 := ih a (by simpa using hm) (fun x hx => hd x (List.mem_append_left _ hx))
        have h2 := hd c (by simp)
        rw [val_snoc, Nat.pow_succ]; omega
    exact this _ m rfl hd
  exact Nat.lt_of_lt_of_le (key _ h) (Nat.pow_le_pow_right (by decide) (List.length_take_le _ _))
set_option maxHeartbeats 1000000 in
theorem ParseUint_c (l : Tx) (hl : l.length ≤ 140737488355328) (w : World) (hE : Env w) : Calls Tryd.prog 84 #[.string (tx l)] w (RetU w (uintM l)) := by
  have L := Az.mk (gr_refl w none)
  have HE := Az.mk hE
  clear hE
  have hsz := tx_size l
  by_cases h10 : 1 ≤ l.length ∧ l.length ≤ 10
  · obtain ⟨hl1, hl2⟩ := h10
    have hb : ((l.length : Int) == 0) = false := by simp; intro h; subst h; simp at hl1
    have hb2 : decide (10 < (l.length : Int)) = false := by simp; omega
    go_enter Tryd.func84, Tryd.ntmps84
    go_wp2_with fail
    go_loopw [4, 5] (fun n i wr => ∃ k v : Nat, i = .int .i64 k ∧ n = .int .i64 v ∧ k ≤ l.length ∧ v ≤ 10000000000 ∧ Az (Digs (l.take k)) ∧ Az (v = val (l.take k)) ∧ Az (w.grownBy wr none)) (fun _ i _ => l.length - (intOf i).toNat)
    case atStart => exact ⟨0, 0, by go_num, by go_num, by omega, by omega, ⟨fun c hc => by simp at hc⟩, ⟨by simp [val]⟩, L⟩
    case round =>
      clear L
      obtain ⟨k, v, rfl, rfl, hk, hv, HD, HV, L⟩ := hrel
      by_cases hkl : k < l.length
      · have hki : (k : Int) < l.length := by omega
        obtain ⟨c, hc⟩ : ∃ c, l[k] = c := ⟨_, rfl⟩
        have hg : (tx l)[k]'(by rw [tx_size]; exact hkl) = c := hc
        have hkc := Az.mk (show l[k]? = some c by rw [List.getElem?_eq_getElem hkl, hc])
        clear hc
        by_cases d1 : c.toNat < 48
        · have d1i : (c.toNat : Int) < 48 := by omega
          have hno : uintM l = none := by
            cases hp : uintM l with
            | none => rfl
            | some x =>
              have := (uintM_shape hp).2.2.1 c (List.mem_of_getElem? hkc.out)
              omega
          have HNo := Az.mk hno
          clear hno
          go_wp2_with fail
          go_ret2
          exact ⟨by rw [HNo.out]; rfl, L.out⟩
        · by_cases d2 : 57 < c.toNat
          · have d2i : 57 < (c.toNat : Int) := by omega
            have hno : uintM l = none := by
              cases hp : uintM l with
              | none => rfl
              | some x =>
                have := (uintM_shape hp).2.2.1 c (List.mem_of_getElem? hkc.out)
                omega
            have HNo := Az.mk hno
            clear hno
            go_wp2_with fail
            go_ret2
            exact ⟨by rw [HNo.out]; rfl, L.out⟩
          · have d1i : ¬ (c.toNat : Int) < 48 := by omega
            have d2i : ¬ 57 < (c.toNat : Int) := by omega
            have ht : l.take (k + 1) = l.take k ++ [c] := by rw [List.take_add_one, hkc.out]; rfl
            have hd : Digs (l.take (k + 1)) := by
              rw [ht]; intro x hx
              rcases List.mem_append.1 hx with h | h
              · exact HD.out x h
              · rw [List.mem_singleton.1 h]; omega
            have hv2 : val (l.take (k + 1)) = v * 10 + (c.toNat - 48) := by rw [ht, val_snoc, HV.out]
            have hv3 := val_take_lt l (k + 1) hd
            have hv4 : 10 ^ (k + 1) ≤ 10 ^ 10 := Nat.pow_le_pow_right (by decide) (by omega)
            have hv5 : v * 10 + (c.toNat - 48) ≤ 10000000000 := by omega
            have HD2 := Az.mk hd
            have HV2 := Az.mk hv2
            clear ht hd hv2 hv3 hv4
            go_wp2_with fail
            refine ⟨⟨k + 1, v * 10 + (c.toNat - 48), by go_num, ?_, by omega, hv5, HD2, ⟨HV2.out.symm⟩, L⟩, by simp only [intOf]; omega⟩
            congr 1; omega
      · obtain rfl : k = l.length := by omega
        have htk : l.take l.length = l := List.take_length
        rw [htk] at HD HV
        clear htk
        by_cases hm : v ≤ 1000000000
        · have hmi : ¬ (1000000000 : Int) < v := by omega
          go_wp2_with fail
          refine (FormatInt_c v (by omega) (by omega) _ (HE.out.gr L.out)).mono ?_
          rintro e w1 ⟨rfl, h⟩
          have h0 : World.grownBy wr w1 _ := (by refine World.grownBy.trans ?_ h; repeat (first | exact gr_refl _ _ | apply gr_drewN | apply gr_drew | apply gr_alloc))
          have L_ := Az.mk (gr_new L.out h0 (by first | (simp; done) | (simp; omega) | omega))
          clear L
          have L := L_; clear L_
          clear h0 h
          rw [Lib.itoa_nonneg]
          by_cases he : Lib.decDigits v = l
          · have heb : (Lib.decDigits v == l) = true := by simp [he]
            have HEQ := Az.mk he
            clear he
            go_wp2_with fail
            go_ret2
            exact ⟨by rw [uintM, ← HV.out, if_pos ⟨hm, HEQ.out⟩]; rfl, L.out⟩
          · have heb : (Lib.decDigits v == l) = false := by simp [he]
            have HEQ := Az.mk he
            clear he
            go_wp2_with fail
            go_ret2
            exact ⟨by rw [uintM, ← HV.out, if_neg (fun h => HEQ.out h.2)]; rfl, L.out⟩
        · have hmi : (1000000000 : Int) < v := by omega
          go_wp2_with fail
          go_ret2
          exact ⟨by rw [uintM, ← HV.out, if_neg (fun h => hm h.1)]; rfl, L.out⟩
  · have hno : uintM l = none := by
      cases hp : uintM l with
      | none => rfl
      | some x =>
        have h1 := uintM_shape hp
        exact absurd ⟨h1.1, h1.2.1⟩ h10
    have HNo := Az.mk hno
    clear hno
    by_cases h0 : l.length = 0
    · have hb : ((l.length : Int) == 0) = true := by simp; exact List.length_eq_zero_iff.1 h0
      clear h0
      go_enter Tryd.func84, Tryd.ntmps84
      go_wp2_with fail
      go_ret2
      exact ⟨by rw [HNo.out]; rfl, L.out⟩
    · have hb : ((l.length : Int) == 0) = false := by simp; intro h; subst h; simp at h0
      have hb2 : decide (10 < (l.length : Int)) = true := by simp; omega
      clear h0
      go_enter Tryd.func84, Tryd.ntmps84
      go_wp2_with fail
      go_ret2
      exact ⟨by rw [HNo.out]; rfl, L.out⟩
end Go.Proofs.YtfjafeepmpnegaaDoor
