/- Contracts of impl.Starts's search. UNFINISHED. -/
import Derived.Test.YtjomilloilbcgaaCa
namespace Go.Proofs.Ytjomilloilbcgaa
open Go.RowKit
set_option linter.unusedVariables false
set_option linter.unusedSimpArgs false

def nearI (t b : Int) : Bool := decide (t - 3 ≤ b) && decide (b ≤ t + 3)
set_option maxHeartbeats 1000000 in
theorem Starts1_c (gT : Nat) (t b l : Int) (ht1 : -1000000 ≤ t) (ht2 : t ≤ 1000000) (w : World) (hb : w.heap[gT]? = some (.cells #[.int .i64 t] 3 (0, 0))) :
    Calls Try.prog 68 #[.agg #[.int .i64 b, .int .i64 l], .pointer (some ⟨gT, 0, none⟩)] w (RetBo w (nearI t b)) := by
  have L := Az.mk (gr_refl w none)
  have T := Az.mk hb
  have hgT := blkLt hb
  clear hb
  have cT0 : World.cell? w ⟨gT, 0, none⟩ = some (.int .i64 t) := blkCell T.out 0
  go_enter Try.func68, Try.ntmps68
  go_wp2_with (first | ((with_reducible refine gateN 2 rfl ?_); go_must (refine ev_al 2 rfl rfl #[.int .i64 b, .int .i64 l] 99 ?hr ?_; (case hr => first | (go_simp; done) | (go_simp; rfl)); intro gB heB W1 hbB h; have hgB : w.heap.size ≤ gB := Nat.le_trans L.out.size heB; have hgBT : gT < gB := Nat.lt_of_lt_of_le (blkLt T.out) heB; clear heB; have h0 : World.grownBy w W1 none := (by refine World.grownBy.trans ?_ h; repeat (first | exact gr_refl _ _ | apply gr_drewN | apply gr_drew | apply gr_alloc)); clear cT0; have L_ := Az.mk (gr_new L.out h0 (by first | (simp; done) | (simp; omega) | omega)); have T_ := Az.mk (blkGr T.out h0 (by first | (simp; done) | (simp; omega) | omega)); clear L T; have L := L_; clear L_; have T := T_; clear T_; clear h0 h; have B := Az.mk hbB; clear hbB; have cT0 : World.cell? W1 ⟨gT, 0, none⟩ = some (.int .i64 t) := blkCell T.out 0; have cB0 : World.cell? W1 ⟨gB, 0, none⟩ = some (.int .i64 b) := blkCell B.out 0; have cB1 : World.cell? W1 ⟨gB, 1, none⟩ = some (.int .i64 l) := blkCell B.out 1)))
  refine (within_c _ _ _ _).mono ?_
  rintro e w1 ⟨rfl, h⟩
  have h0 : World.grownBy W1 w1 _ := (by refine World.grownBy.trans ?_ h; repeat (first | exact gr_refl _ _ | apply gr_drewN | apply gr_drew | apply gr_alloc))
  clear cT0 cB0 cB1
  have L_ := Az.mk (gr_new L.out h0 (by first | (simp; done) | (simp; omega) | omega))
  have T_ := Az.mk (blkGr T.out h0 (by first | (simp; done) | (simp; omega) | omega))
  have B_ := Az.mk (blkGr B.out h0 (by first | (simp; done) | (simp; omega) | omega))
  clear L T B
  have L := L_; clear L_
  have T := T_; clear T_
  have B := B_; clear B_
  clear h0 h
  have cT0 : World.cell? w1 ⟨gT, 0, none⟩ = some (.int .i64 t) := blkCell T.out 0
  have cB0 : World.cell? w1 ⟨gB, 0, none⟩ = some (.int .i64 b) := blkCell B.out 0
  have cB1 : World.cell? w1 ⟨gB, 1, none⟩ = some (.int .i64 l) := blkCell B.out 1
  go_wp2_with fail
  go_ret
  exact ⟨rfl, L.out⟩
theorem runsV_get (rs : List (Nat × Nat)) (k : Nat) (hk : k < rs.length) : (runsV rs)[k * 2]? = some (.int .i64 (rs[k].1 : Int)) ∧ (runsV rs)[k * 2 + 1]? = some (.int .i64 (rs[k].2 : Int)) := by
  induction rs generalizing k with
  | nil => simp at hk
  | cons c cs ih =>
    cases k with
    | zero => simp [runsV]
    | succ k =>
      have := ih k (by simpa using hk)
      simp only [runsV, List.flatMap_cons, List.getElem_cons_succ] at *
      rw [show (k + 1) * 2 = (k * 2) + 1 + 1 from by omega, show k * 2 + 1 + 1 + 1 = k * 2 + 1 + 1 + 1 from rfl]
      simpa using this
/-- The first run near t, or -1. -/
def FindRun (rs : List (Nat × Nat)) (t r : Int) : Prop := (r = -1 ∧ ∀ j (h : j < rs.length), nearI t (rs[j].1 : Int) = false) ∨ ∃ k, ∃ h : k < rs.length, r = (k : Int) ∧ nearI t (rs[k].1 : Int) = true ∧ ∀ j (h : j < rs.length), j < k → nearI t (rs[j].1 : Int) = false
set_option maxHeartbeats 1000000 in
theorem IndexRun_c (gT : Nat) (t : Int) (ht1 : -1000000 ≤ t) (ht2 : t ≤ 1000000) (A : Option Addr) (n c : Nat) (rs : List (Nat × Nat)) (w : World) (hn : rs.length = n) (hrd : Rd w A n 2 (runsV rs)) (hb : w.heap[gT]? = some (.cells #[.int .i64 t] 3 (0, 0))) :
    Calls Try.prog 67 #[.slice A n c, .func (.func 68) #[] #[.pointer (some ⟨gT, 0, none⟩)]] w (fun e w' => ∃ r, FindRun rs t r ∧ e = .returned (.int .i64 r) ∧ w.grownBy w' none) := by
  have L := Az.mk (gr_refl w none)
  have T := Az.mk hb
  have hgT := blkLt hb
  have HR := Az.mk hrd
  have HN := Az.mk hn
  have hmax := hrd.max
  clear hrd hn hb
  go_enter Try.func67, Try.ntmps67
  go_wp2_with fail
  go_loopw [8] (fun i wr => ∃ k : Nat, i = .int .i64 k ∧ k ≤ n ∧ Az (∀ j (hj : j < rs.length), j < k → nearI t (rs[j].1 : Int) = false) ∧ Az (w.grownBy wr none) ∧ Az (wr.heap[gT]? = some (.cells #[.int .i64 t] 3 (0, 0)))) (fun i _ => n - (intOf i).toNat)
  case atStart => exact ⟨0, by go_num, by omega, ⟨fun j hj h => by omega⟩, L, T⟩
  case round =>
    clear L T
    obtain ⟨k, rfl, hkn, HK, L, T⟩ := hrel
    by_cases hk : k < n
    · have hkc : k < rs.length := by rw [HN.out]; exact hk
      obtain ⟨b, off, rfl, hcell⟩ := (HR.out.up L.out).2.2 (by omega)
      have hc1 := hcell _ _ (runsV_get rs k hkc).1
      have hc2 := hcell _ _ (runsV_get rs k hkc).2
      rw [← Nat.add_assoc] at hc2
      clear hcell
      go_wp2_with fail
      refine (Starts1_c gT t _ _ ht1 ht2 _ T.out).mono ?_
      rintro e w1 ⟨rfl, h⟩
      have h0 : World.grownBy wr w1 _ := (by refine World.grownBy.trans ?_ h; repeat (first | exact gr_refl _ _ | apply gr_drewN | apply gr_drew | apply gr_alloc))
      have L_ := Az.mk (gr_new L.out h0 (by first | (simp; done) | (simp; omega) | omega))
      have T_ := Az.mk (blkGr T.out h0 (by first | (simp; done) | (simp; omega) | omega))
      clear L T
      have L := L_; clear L_
      have T := T_; clear T_
      clear h0 h
      cases ho : nearI t (rs[k].1 : Int) with
      | false =>
        have HO := Az.mk ho
        clear ho
        go_wp2_with fail
        refine ⟨⟨k + 1, by go_num, by omega, ⟨fun j hj h => ?_⟩, L, T⟩, by simp only [intOf]; omega⟩
        by_cases hjk : j < k
        · exact HK.out j hj hjk
        · have : j = k := by omega
          subst this
          exact HO.out
      | true =>
        have HO := Az.mk ho
        clear ho
        go_wp2_with fail
        go_ret
        exact ⟨k, .inr ⟨k, hkc, rfl, HO.out, HK.out⟩, rfl, L.out⟩
    · go_wp2_with fail
      go_ret
      exact ⟨-1, .inl ⟨rfl, fun j hj => HK.out j hj (by have := HN.out; omega)⟩, rfl, L.out⟩
end Go.Proofs.Ytjomilloilbcgaa
