/- Contracts of the library's slices.Grow, Concat (of floats) and impl.MakeLine. Conditions: as lines use them. -/
import Derived.Test.YtjomilloilbcgaaC8
import Derived.Lib.AppendZerosOnto
import Derived.Lib.Walk
namespace Go.Proofs.Ytjomilloilbcgaa
open Go.RowKit
set_option linter.unusedVariables false
set_option linter.unusedSimpArgs false

section
variable {P : Program} {ops : Array Oper} {rest : List Oper} {o : Oper} {a : Act} {Q : Exit → Act → World → Prop} {W : World}
/-- 'append(nil, make([]T, k)...)'. -/
theorem ev_gz (N : Tmp) (hd : o.dst = some N) (hg : o.guard = none) {s x : Operand} {t tn : TypeId} (ho : o.op = .call { callee := .builtin .append, args := #[s, x], argTypes := #[t, tn] })
    {e : TypeId} {z : Value} {bytes : Nat} {kn kq : IntKind} (ht : P.underlying t = some (.slice e)) (htn : P.underlying tn = some (.int kn)) (hinfo : (P.info? e).map (fun i => (i.zero, i.size, i.bytes)) = some (some z, 1, bytes)) (hz : z.cells.size = 1)
    (hs : a.eval s = .slice none 0 0) {k : Nat} (hx : a.eval x = .int kq k) (h0 : 0 < k) (hk : k * bytes ≤ 140737488355328) (hk2 : k ≤ 140737488355328)
    (h : ∀ g c w1, k ≤ c → c ≤ 9223372036854775807 → w1.ownsRow W.heap.size e 1 (.slice (some ⟨g, 0, none⟩) 0 c) 0 [] → W.grownBy w1 none → wpList P ops Q rest (a.put (some N) (.slice (some ⟨g, 0, none⟩) k c)) w1) : wpList P ops Q (o :: rest) a W := by
  obtain ⟨i, hi, hz0, hz1, hz2⟩ := info_parts hinfo
  have hrun := Lib.run_append_grow_zeros W t tn o.type e i z kq kn ht htn hi hz0 none 0 0 [] (run_firstCells_none W.drew i.size 0 0 0) k h0 (by omega) (by omega) (by omega) (by rw [hz2]; omega) (by rw [hz2]; exact growslice_fits (by omega) (by rw [Nat.zero_add]; exact hk))
  rw [Nat.zero_add] at hrun
  have hge := grownCap_ge W k 0 e
  have hle := grownCap_le_maxLen W k 0 e (by unfold maxLen; omega)
  obtain ⟨G, hG⟩ : ∃ G, G = grownCap W k 0 e := ⟨_, rfl⟩
  rw [← hG] at hrun hge hle
  refine wpList_plain hg fun K hK => ?_
  unfold Oper.wp
  simp only [execOp, ho, resolve, invoke, builtin, Sem.run_bind, Sem.run_pure, Result.andThen_ok, List.map_toArray, List.map_cons, List.map_nil, hs, hx, hrun]
  show K (a.put o.dst _) _
  rw [hd]
  refine hK _ _ (h _ G _ hge (by unfold maxLen at hle; exact hle) ⟨rfl, .inr ⟨_, G, _, rfl, Nat.le_refl _, blkNew W.drew _, Nat.zero_le _, hle, ?_, by simp⟩⟩ (gr_alloc (gr_drew (gr_refl _ _)) _))
  simp [Builtin.zeroCells, hz]; omega
end
def RetRoom (w : World) (e : Ending) (w' : World) : Prop := ∃ g c, e = .returned (.slice (some ⟨g, 0, none⟩) 0 c) ∧ w'.ownsRow w.heap.size 25 1 (.slice (some ⟨g, 0, none⟩) 0 c) 0 [] ∧ w.grownBy w' none
set_option maxRecDepth 8000 in
set_option maxHeartbeats 1000000 in
theorem GrowFl_c (n : Nat) (h0 : 0 < n) (hn : n ≤ 1000000) (w : World) : Calls Try.prog 92 #[.slice none 0 0, .int .i64 n] w (RetRoom w) := by
  have L := Az.mk (gr_refl w none)
  have hni : ¬ (n : Int) < 0 := by omega
  have hni2 : (n : Int) > 0 := by omega
  go_enter Try.func92, Try.ntmps92
  go_wp2_with ((with_reducible refine gateN 22 rfl ?_); go_must (refine ev_gz 22 rfl rfl rfl Try.underlying31 Try.underlying3 (z := .float .f32 0) (bytes := 4) (by kernel_rfl) rfl rfl (k := n) rfl h0 (by omega) (by omega) ?_; intro gR cR W1 hc1 hc2 hR h; have R := Az.mk hR; have H := Az.mk h; clear hR h))
  go_ret
  exact ⟨_, _, rfl, R.out, H.out⟩
def pre3 (n1 n2 n3 k : Nat) : Nat := if k = 0 then 0 else if k = 1 then n1 else if k = 2 then n1 + n2 else n1 + n2 + n3
def preL (l1 l2 l3 : List Nat) (k : Nat) : List Nat := if k = 0 then [] else if k = 1 then l1 else if k = 2 then l1 ++ l2 else l1 ++ l2 ++ l3
set_option maxRecDepth 8000 in
set_option maxHeartbeats 4000000 in
theorem Concat3_c (gS g1 g2 g3 n1 n2 n3 c1 c2 c3 : Nat) (l1 l2 l3 : List Nat) (w : World) (hb : w.heap[gS]? = some (.cells #[.slice (some ⟨g1, 0, none⟩) n1 c1, .slice (some ⟨g2, 0, none⟩) n2 c2, .slice (some ⟨g3, 0, none⟩) n3 c3] 31 (0, 0)))
    (h1 : Rd w (some ⟨g1, 0, none⟩) n1 1 (flV l1)) (h2 : Rd w (some ⟨g2, 0, none⟩) n2 1 (flV l2)) (h3 : Rd w (some ⟨g3, 0, none⟩) n3 1 (flV l3)) (hl1 : n1 ≤ 1000) (hl2 : n2 ≤ 1000) (hl3 : n3 ≤ 1000) (hp : 0 < n1) :
    Calls Try.prog 63 #[.slice (some ⟨gS, 0, none⟩) 3 3] w (RetBits w (l1 ++ l2 ++ l3)) := by
  have L := Az.mk (gr_refl w none)
  have S := Az.mk hb
  have hgS := blkLt hb
  have R1 := Az.mk h1
  have R2 := Az.mk h2
  have R3 := Az.mk h3
  clear hb h1 h2 h3
  have cS0 : World.cell? w ⟨gS, 0, none⟩ = some (.slice (some ⟨g1, 0, none⟩) n1 c1) := blkCell S.out 0
  have cS1 : World.cell? w ⟨gS, 1, none⟩ = some (.slice (some ⟨g2, 0, none⟩) n2 c2) := blkCell S.out 1
  have cS2 : World.cell? w ⟨gS, 2, none⟩ = some (.slice (some ⟨g3, 0, none⟩) n3 c3) := blkCell S.out 2
  go_enter Try.func63, Try.ntmps63
  go_wp2_with fail
  go_loopw [3, 11] (fun s i wr => ∃ k : Nat, i = .int .i64 k ∧ k ≤ 3 ∧ s = .int .i64 (pre3 n1 n2 n3 k) ∧ Az (w.grownBy wr none) ∧ Az (wr.heap[gS]? = some (.cells #[.slice (some ⟨g1, 0, none⟩) n1 c1, .slice (some ⟨g2, 0, none⟩) n2 c2, .slice (some ⟨g3, 0, none⟩) n3 c3] 31 (0, 0)))) (fun _ i _ => 3 - (intOf i).toNat)
  case atStart => exact ⟨0, by go_num, by omega, by simp [pre3], L, S⟩
  case round =>
    clear L S cS0 cS1 cS2
    obtain ⟨k, rfl, hk3, rfl, L, S⟩ := hrel
    have L0 := L.out.size
    have cS0 : World.cell? wr ⟨gS, 0, none⟩ = some (.slice (some ⟨g1, 0, none⟩) n1 c1) := blkCell S.out 0
    have cS1 : World.cell? wr ⟨gS, 1, none⟩ = some (.slice (some ⟨g2, 0, none⟩) n2 c2) := blkCell S.out 1
    have cS2 : World.cell? wr ⟨gS, 2, none⟩ = some (.slice (some ⟨g3, 0, none⟩) n3 c3) := blkCell S.out 2
    by_cases hk : k < 3
    · rcases (show k = 0 ∨ k = 1 ∨ k = 2 by omega) with rfl | rfl | rfl
      · simp only [pre3]
        go_wp2_with fail
        exact ⟨⟨0 + 1, by go_num, by omega, by simp [pre3], L, S⟩, by simp [intOf]⟩

      · simp only [pre3]
        go_wp2_with fail
        exact ⟨⟨1 + 1, by go_num, by omega, by simp [pre3], L, S⟩, by simp [intOf]⟩

      · simp only [pre3]
        go_wp2_with fail
        exact ⟨⟨2 + 1, by go_num, by omega, by simp [pre3], L, S⟩, by simp [intOf]⟩
    · obtain rfl : k = 3 := by omega
      simp only [pre3]
      go_wp2_with fail
      have e3 : ((n1 : Int) + n2 + n3) = ((n1 + n2 + n3 : Nat) : Int) := by omega
      rw [e3]
      clear e3
      refine (GrowFl_c (n1 + n2 + n3) (by omega) (by omega) _).mono ?_
      rintro e w1 ⟨gR, cR, rfl, hR, h⟩
      have h0 : World.grownBy wr w1 _ := (by refine World.grownBy.trans ?_ h; repeat (first | exact gr_refl _ _ | apply gr_drewN | apply gr_drew | apply gr_alloc))
      clear cS0 cS1 cS2
      have L_ := Az.mk (gr_new L.out h0 (by first | (simp; done) | (simp; omega) | omega))
      have S_ := Az.mk (blkGr S.out h0 (by first | (simp; done) | (simp; omega) | omega))
      clear L S
      have L := L_; clear L_
      have S := S_; clear S_
      clear h0 h
      have cS0 : World.cell? w1 ⟨gS, 0, none⟩ = some (.slice (some ⟨g1, 0, none⟩) n1 c1) := blkCell S.out 0
      have cS1 : World.cell? w1 ⟨gS, 1, none⟩ = some (.slice (some ⟨g2, 0, none⟩) n2 c2) := blkCell S.out 1
      have cS2 : World.cell? w1 ⟨gS, 2, none⟩ = some (.slice (some ⟨g3, 0, none⟩) n3 c3) := blkCell S.out 2
      have R := Az.mk (own_weak hR L0)
      clear hR
      go_wp2_with fail
      go_loopw [6, 27] (fun z i wr => ∃ k : Nat, i = .int .i64 k ∧ k ≤ 3 ∧ Az (w.grownBy wr none) ∧ Az (wr.heap[gS]? = some (.cells #[.slice (some ⟨g1, 0, none⟩) n1 c1, .slice (some ⟨g2, 0, none⟩) n2 c2, .slice (some ⟨g3, 0, none⟩) n3 c3] 31 (0, 0))) ∧ Az (wr.ownsRow w.heap.size 25 1 z (pre3 n1 n2 n3 k) (flV (preL l1 l2 l3 k)))) (fun _ i _ => 3 - (intOf i).toNat)
      case atStart => exact ⟨0, by go_num, by omega, L, S, R⟩
      case round =>
        clear L S R cS0 cS1 cS2
        obtain ⟨k, rfl, hk3, L, S, R⟩ := hrel
        have cS0 : World.cell? wr ⟨gS, 0, none⟩ = some (.slice (some ⟨g1, 0, none⟩) n1 c1) := blkCell S.out 0
        have cS1 : World.cell? wr ⟨gS, 1, none⟩ = some (.slice (some ⟨g2, 0, none⟩) n2 c2) := blkCell S.out 1
        have cS2 : World.cell? wr ⟨gS, 2, none⟩ = some (.slice (some ⟨g3, 0, none⟩) n3 c3) := blkCell S.out 2
        by_cases hk : k < 3
        · rcases (show k = 0 ∨ k = 1 ∨ k = 2 by omega) with rfl | rfl | rfl
          · have hnop := True.intro
            clear hnop
            have R_ := Az.mk (show World.ownsRow wr w.heap.size 25 1 _ 0 (flV []) from R.out)
            clear R
            have R := R_
            clear R_
            have cS0 : World.cell? wr ⟨gS, 0, none⟩ = some (.slice (some ⟨g1, 0, none⟩) n1 c1) := blkCell S.out 0
            have cS1 : World.cell? wr ⟨gS, 1, none⟩ = some (.slice (some ⟨g2, 0, none⟩) n2 c2) := blkCell S.out 1
            have cS2 : World.cell? wr ⟨gS, 2, none⟩ = some (.slice (some ⟨g3, 0, none⟩) n3 c3) := blkCell S.out 2
            go_wp2_with (first | ((with_reducible refine gateN 33 rfl ?_); go_must (refine ev_aps 33 rfl rfl rfl Try.underlying31 (z := .float .f32 0) (size := 1) (bytes := 4) (by kernel_rfl) rfl (by decide) rfl R.out rfl (R1.out.up L.out) (flV_one _) ?hbase ?hl ?hl2 ?_; (case hbase => have := L.out.size; omega); (case hl => omega); (case hl2 => omega); intro vR W1 hR h; have h0 : World.grownBy wr W1 _ := (by refine World.grownBy.trans ?_ h; repeat (first | exact gr_refl _ _ | apply gr_drewN | apply gr_drew | apply gr_alloc)); clear cS0 cS1 cS2; have L_ := Az.mk (gr_new L.out h0 (fun j hj => .inl (own_base R.out j hj))); have S_ := Az.mk (blkGr S.out h0 (by first | exact fun he => own_blk R.out S.out (by decide) he.symm | exact fun he => hlSR.out he.symm | exact fun he => (by have := own_base R.out _ he.symm; omega))); clear L S; have L := L_; clear L_; have S := S_; clear S_; clear h0 h; clear R; have R := Az.mk hR; clear hR; have cS0 : World.cell? W1 ⟨gS, 0, none⟩ = some (.slice (some ⟨g1, 0, none⟩) n1 c1) := blkCell S.out 0; have cS1 : World.cell? W1 ⟨gS, 1, none⟩ = some (.slice (some ⟨g2, 0, none⟩) n2 c2) := blkCell S.out 1; have cS2 : World.cell? W1 ⟨gS, 2, none⟩ = some (.slice (some ⟨g3, 0, none⟩) n3 c3) := blkCell S.out 2)))
            refine ⟨⟨0 + 1, by go_num, by omega, L, S, ⟨?_⟩⟩, by simp [intOf]⟩
            have := R.out
            simpa [pre3, preL, flV] using this

          · have hnop := True.intro
            clear hnop
            have R_ := Az.mk (show World.ownsRow wr w.heap.size 25 1 _ n1 (flV l1) from R.out)
            clear R
            have R := R_
            clear R_
            have cS0 : World.cell? wr ⟨gS, 0, none⟩ = some (.slice (some ⟨g1, 0, none⟩) n1 c1) := blkCell S.out 0
            have cS1 : World.cell? wr ⟨gS, 1, none⟩ = some (.slice (some ⟨g2, 0, none⟩) n2 c2) := blkCell S.out 1
            have cS2 : World.cell? wr ⟨gS, 2, none⟩ = some (.slice (some ⟨g3, 0, none⟩) n3 c3) := blkCell S.out 2
            go_wp2_with (first | ((with_reducible refine gateN 33 rfl ?_); go_must (refine ev_aps 33 rfl rfl rfl Try.underlying31 (z := .float .f32 0) (size := 1) (bytes := 4) (by kernel_rfl) rfl (by decide) rfl R.out rfl (R2.out.up L.out) (flV_one _) ?hbase ?hl ?hl2 ?_; (case hbase => have := L.out.size; omega); (case hl => omega); (case hl2 => omega); intro vR W2 hR h; have h0 : World.grownBy wr W2 _ := (by refine World.grownBy.trans ?_ h; repeat (first | exact gr_refl _ _ | apply gr_drewN | apply gr_drew | apply gr_alloc)); clear cS0 cS1 cS2; have L_ := Az.mk (gr_new L.out h0 (fun j hj => .inl (own_base R.out j hj))); have S_ := Az.mk (blkGr S.out h0 (by first | exact fun he => own_blk R.out S.out (by decide) he.symm | exact fun he => hlSR.out he.symm | exact fun he => (by have := own_base R.out _ he.symm; omega))); clear L S; have L := L_; clear L_; have S := S_; clear S_; clear h0 h; clear R; have R := Az.mk hR; clear hR; have cS0 : World.cell? W2 ⟨gS, 0, none⟩ = some (.slice (some ⟨g1, 0, none⟩) n1 c1) := blkCell S.out 0; have cS1 : World.cell? W2 ⟨gS, 1, none⟩ = some (.slice (some ⟨g2, 0, none⟩) n2 c2) := blkCell S.out 1; have cS2 : World.cell? W2 ⟨gS, 2, none⟩ = some (.slice (some ⟨g3, 0, none⟩) n3 c3) := blkCell S.out 2)))
            refine ⟨⟨1 + 1, by go_num, by omega, L, S, ⟨?_⟩⟩, by simp [intOf]⟩
            have := R.out
            simpa [pre3, preL, flV] using this

          · have hnop := True.intro
            clear hnop
            have R_ := Az.mk (show World.ownsRow wr w.heap.size 25 1 _ (n1 + n2) (flV (l1 ++ l2)) from R.out)
            clear R
            have R := R_
            clear R_
            have cS0 : World.cell? wr ⟨gS, 0, none⟩ = some (.slice (some ⟨g1, 0, none⟩) n1 c1) := blkCell S.out 0
            have cS1 : World.cell? wr ⟨gS, 1, none⟩ = some (.slice (some ⟨g2, 0, none⟩) n2 c2) := blkCell S.out 1
            have cS2 : World.cell? wr ⟨gS, 2, none⟩ = some (.slice (some ⟨g3, 0, none⟩) n3 c3) := blkCell S.out 2
            go_wp2_with (first | ((with_reducible refine gateN 33 rfl ?_); go_must (refine ev_aps 33 rfl rfl rfl Try.underlying31 (z := .float .f32 0) (size := 1) (bytes := 4) (by kernel_rfl) rfl (by decide) rfl R.out rfl (R3.out.up L.out) (flV_one _) ?hbase ?hl ?hl2 ?_; (case hbase => have := L.out.size; omega); (case hl => omega); (case hl2 => omega); intro vR W3 hR h; have h0 : World.grownBy wr W3 _ := (by refine World.grownBy.trans ?_ h; repeat (first | exact gr_refl _ _ | apply gr_drewN | apply gr_drew | apply gr_alloc)); clear cS0 cS1 cS2; have L_ := Az.mk (gr_new L.out h0 (fun j hj => .inl (own_base R.out j hj))); have S_ := Az.mk (blkGr S.out h0 (by first | exact fun he => own_blk R.out S.out (by decide) he.symm | exact fun he => hlSR.out he.symm | exact fun he => (by have := own_base R.out _ he.symm; omega))); clear L S; have L := L_; clear L_; have S := S_; clear S_; clear h0 h; clear R; have R := Az.mk hR; clear hR; have cS0 : World.cell? W3 ⟨gS, 0, none⟩ = some (.slice (some ⟨g1, 0, none⟩) n1 c1) := blkCell S.out 0; have cS1 : World.cell? W3 ⟨gS, 1, none⟩ = some (.slice (some ⟨g2, 0, none⟩) n2 c2) := blkCell S.out 1; have cS2 : World.cell? W3 ⟨gS, 2, none⟩ = some (.slice (some ⟨g3, 0, none⟩) n3 c3) := blkCell S.out 2)))
            refine ⟨⟨2 + 1, by go_num, by omega, L, S, ⟨?_⟩⟩, by simp [intOf]⟩
            have := R.out
            simpa [pre3, preL, flV] using this
        · obtain rfl : k = 3 := by omega
          go_wp2_with fail
          go_ret
          refine ⟨_, rfl, ?_, L.out⟩
          have := R.out
          simp only [pre3, preL] at this
          have hl : (l1 ++ l2 ++ l3).length = n1 + n2 + n3 := by have := this.1; simp [flV] at this; simp; omega
          rw [hl]
          exact this
def burstCell : Nat × Nat × Nat := (0, 3246391296, 1098907648)
def lineN (odd : Bool) (cs : Row) : List F32 := List.replicate 8 (fc 3263168512) ++ encN odd (List.replicate 4 burstCell) ++ encN odd cs
set_option maxRecDepth 8000 in
set_option maxHeartbeats 4000000 in
theorem MakeLine_c (odd : Bool) (A : Option Addr) (n c : Nat) (cs : Row) (w : World) (hn : cs.length = n) (hrd : Rd w A n 2 (cellsV cs)) (hok : rowOkI cs = true) :
    Calls Try.prog 25 #[.slice A n c, .bool odd] w (RetFls w (lineN odd cs)) := by
  have L := Az.mk (gr_refl w none)
  have HR := Az.mk hrd
  have HN := Az.mk hn
  have HOK := Az.mk hok
  have hnn : 1 ≤ n ∧ n ≤ 64 := by
    simp only [rowOkI, Bool.and_eq_true, decide_eq_true_eq] at hok; omega
  obtain ⟨hn1, hn2⟩ := hnn
  clear hrd hn hok
  go_enter Try.func25, Try.ntmps25
  go_wp2_with fail
  refine (RowOk_c A n c cs _ HN.out HR.out).mono ?_
  rintro e w1 ⟨rfl, h⟩
  have h0 : World.grownBy w w1 _ := (by refine World.grownBy.trans ?_ h; repeat (first | exact gr_refl _ _ | apply gr_drewN | apply gr_drew | apply gr_alloc))
  have L_ := Az.mk (gr_new L.out h0 (by first | (simp; done) | (simp; omega) | omega))
  clear L
  have L := L_; clear L_
  clear h0 h
  rw [HOK.out]
  go_wp2_with (first | ((with_reducible refine gateN 10 rfl ?_); go_must (refine ev_bs 10 rfl rfl #[.float .f32 3263168512] 25 1 ?hr ?_; (case hr => first | (go_simp; done) | (go_simp; rfl)); intro gX heX W1 hbX h; have hgX : w.heap.size ≤ gX := Nat.le_trans L.out.size heX; clear heX; have h0 : World.grownBy w1 W1 none := (by refine World.grownBy.trans ?_ h; repeat (first | exact gr_refl _ _ | apply gr_drewN | apply gr_drew | apply gr_alloc)); have L_ := Az.mk (gr_new L.out h0 (by first | (simp; done) | (simp; omega) | omega)); clear L; have L := L_; clear L_; clear h0 h; have X := Az.mk hbX; clear hbX; have cX0 : World.cell? W1 ⟨gX, 0, none⟩ = some (.float .f32 3263168512) := blkCell X.out 0)))
  refine (RepeatFl_c gX 3263168512 _ X.out).mono ?_
  rintro e w2 ⟨v1, rfl, hT, h⟩
  have h0 : World.grownBy W1 w2 _ := (by refine World.grownBy.trans ?_ h; repeat (first | exact gr_refl _ _ | apply gr_drewN | apply gr_drew | apply gr_alloc))
  clear cX0
  have L_ := Az.mk (gr_new L.out h0 (by first | (simp; done) | (simp; omega) | omega))
  have X_ := Az.mk (blkGr X.out h0 (by first | (simp; done) | (simp; omega) | omega))
  clear L X
  have L := L_; clear L_
  have X := X_; clear X_
  clear h0 h
  have T := Az.mk hT; clear hT
  have cX0 : World.cell? w2 ⟨gX, 0, none⟩ = some (.float .f32 3263168512) := blkCell X.out 0
  obtain ⟨g1, c1, rfl, hc1, _, _⟩ := own_slice T.out (by decide)
  go_wp2_with (first | ((with_reducible refine gateN 13 rfl ?_); go_must (refine ev_bs 13 rfl rfl #[.float .f32 0, .complex .f32 3246391296 1098907648] 49 1 ?hr ?_; (case hr => first | (go_simp; done) | (go_simp; rfl)); intro gY heY W2 hbY h; have hgY : w.heap.size ≤ gY := Nat.le_trans L.out.size heY; have hlYT := Az.mk (own_lows T.out heY); clear heY; have h0 : World.grownBy w2 W2 none := (by refine World.grownBy.trans ?_ h; repeat (first | exact gr_refl _ _ | apply gr_drewN | apply gr_drew | apply gr_alloc)); have L_ := Az.mk (gr_new L.out h0 (by first | (simp; done) | (simp; omega) | omega)); have T_ := Az.mk (own_gr T.out h0 (by first | exact own_none _ | exact .inr hl?T.out)); clear L T; have L := L_; clear L_; have T := T_; clear T_; clear h0 h; have Y := Az.mk hbY; clear hbY; have cY0 : World.cell? W2 ⟨gY, 0, none⟩ = some (.float .f32 0) := blkCell Y.out 0; have cY1 : World.cell? W2 ⟨gY, 1, none⟩ = some (.complex .f32 3246391296 1098907648) := blkCell Y.out 1)))
  refine (RepeatCell_c gY 0 3246391296 1098907648 _ Y.out).mono ?_
  rintro e w3 ⟨v2, rfl, hU, h⟩
  have h0 : World.grownBy W2 w3 _ := (by refine World.grownBy.trans ?_ h; repeat (first | exact gr_refl _ _ | apply gr_drewN | apply gr_drew | apply gr_alloc))
  clear cY0 cY1
  have L_ := Az.mk (gr_new L.out h0 (by first | (simp; done) | (simp; omega) | omega))
  have T_ := Az.mk (own_gr T.out h0 (by first | exact own_none _ | exact .inr hl?T.out | exact .inr (own_blk T.out Y.out (by decide))))
  have Y_ := Az.mk (blkGr Y.out h0 (by first | (simp; done) | (simp; omega) | omega))
  clear L T Y
  have L := L_; clear L_
  have T := T_; clear T_
  have Y := Y_; clear Y_
  clear h0 h
  have U := Az.mk hU; clear hU
  have cY0 : World.cell? w3 ⟨gY, 0, none⟩ = some (.float .f32 0) := blkCell Y.out 0
  have cY1 : World.cell? w3 ⟨gY, 1, none⟩ = some (.complex .f32 3246391296 1098907648) := blkCell Y.out 1
  obtain ⟨g2, c2, rfl, hc2, _, _⟩ := own_slice U.out (by decide)
  go_wp2_with fail
  refine (encoded_c odd (some ⟨g2, 0, none⟩) 4 c2 (List.replicate 4 burstCell) _ rfl (by omega) (own_rdS U.out)).mono ?_
  rintro e w4 ⟨v3, b3, hb3, rfl, hV, h⟩
  have h0 : World.grownBy w3 w4 _ := (by refine World.grownBy.trans ?_ h; repeat (first | exact gr_refl _ _ | apply gr_drewN | apply gr_drew | apply gr_alloc))
  have L_ := Az.mk (gr_new L.out h0 (by first | (simp; done) | (simp; omega) | omega))
  have T_ := Az.mk (own_gr T.out h0 (by first | exact own_none _ | exact .inr hl?T.out))
  have U_ := Az.mk (own_gr U.out h0 (by first | exact own_none _ | exact .inr hl?U.out))
  clear L T U
  have L := L_; clear L_
  have T := T_; clear T_
  have U := U_; clear U_
  clear h0 h
  have V := Az.mk hV; clear hV
  have HB3 := Az.mk hb3
  clear hb3
  have hl3 : b3.length = 16 := by
    have := congrArg List.length HB3.out
    rw [List.length_map, encN_len] at this; exact this
  have HL3 := Az.mk hl3
  clear hl3
  obtain ⟨g3, c3, rfl, hc3, _, _⟩ := own_slice V.out (by have := HL3.out; omega)
  go_wp2_with fail
  refine (encoded_c odd A n c cs _ HN.out (by omega) (HR.out.up L.out)).mono ?_
  rintro e w5 ⟨v4, b4, hb4, rfl, hZ, h⟩
  have h0 : World.grownBy w4 w5 _ := (by refine World.grownBy.trans ?_ h; repeat (first | exact gr_refl _ _ | apply gr_drewN | apply gr_drew | apply gr_alloc))
  have L_ := Az.mk (gr_new L.out h0 (by first | (simp; done) | (simp; omega) | omega))
  have T_ := Az.mk (own_gr T.out h0 (by first | exact own_none _ | exact .inr hl?T.out))
  have U_ := Az.mk (own_gr U.out h0 (by first | exact own_none _ | exact .inr hl?U.out))
  have V_ := Az.mk (own_gr V.out h0 (by first | exact own_none _ | exact .inr hl?V.out))
  clear L T U V
  have L := L_; clear L_
  have T := T_; clear T_
  have U := U_; clear U_
  have V := V_; clear V_
  clear h0 h
  have Z := Az.mk hZ; clear hZ
  have HB4 := Az.mk hb4
  clear hb4
  have hl4 : b4.length = 4 * n := by
    have := congrArg List.length HB4.out
    rw [List.length_map, encN_len, HN.out] at this; exact this
  have HL4 := Az.mk hl4
  clear hl4
  obtain ⟨g4, c4, rfl, hc4, _, _⟩ := own_slice Z.out (by have := HL4.out; omega)
  have hb3 : b3.length ≤ 1000 := by have := HL3.out; omega
  have hb4 : b4.length ≤ 1000 := by have := HL4.out; omega
  go_wp2_with (first | ((with_reducible refine gateN 22 rfl ?_); go_must (refine ev_bs 22 rfl rfl #[.slice (some ⟨g1, 0, none⟩) 8 c1, .slice (some ⟨g3, 0, none⟩) b3.length c3, .slice (some ⟨g4, 0, none⟩) b4.length c4] 31 3 ?hr ?_; (case hr => first | (go_simp; done) | (go_simp; rfl)); intro gS heS W3 hbS h; have hgS : w.heap.size ≤ gS := Nat.le_trans L.out.size heS; have hlST := Az.mk (own_lows T.out heS); have hlSU := Az.mk (own_lows U.out heS); have hlSV := Az.mk (own_lows V.out heS); have hlSZ := Az.mk (own_lows Z.out heS); clear heS; have h0 : World.grownBy w5 W3 none := (by refine World.grownBy.trans ?_ h; repeat (first | exact gr_refl _ _ | apply gr_drewN | apply gr_drew | apply gr_alloc)); have L_ := Az.mk (gr_new L.out h0 (by first | (simp; done) | (simp; omega) | omega)); have T_ := Az.mk (own_gr T.out h0 (by first | exact own_none _ | exact .inr hl?T.out)); have U_ := Az.mk (own_gr U.out h0 (by first | exact own_none _ | exact .inr hl?U.out)); have V_ := Az.mk (own_gr V.out h0 (by first | exact own_none _ | exact .inr hl?V.out)); have Z_ := Az.mk (own_gr Z.out h0 (by first | exact own_none _ | exact .inr hl?Z.out)); clear L T U V Z; have L := L_; clear L_; have T := T_; clear T_; have U := U_; clear U_; have V := V_; clear V_; have Z := Z_; clear Z_; clear h0 h; have S := Az.mk hbS; clear hbS; have cS0 : World.cell? W3 ⟨gS, 0, none⟩ = some (.slice (some ⟨g1, 0, none⟩) 8 c1) := blkCell S.out 0; have cS1 : World.cell? W3 ⟨gS, 1, none⟩ = some (.slice (some ⟨g3, 0, none⟩) b3.length c3) := blkCell S.out 1; have cS2 : World.cell? W3 ⟨gS, 2, none⟩ = some (.slice (some ⟨g4, 0, none⟩) b4.length c4) := blkCell S.out 2)))
  have s9 := L.out.size
  refine (Concat3_c gS g1 g3 g4 8 b3.length b4.length c1 c3 c4 (List.replicate 8 3263168512) b3 b4 _ S.out (own_rdS T.out) (own_rdS V.out) (own_rdS Z.out) (by omega) hb3 hb4 (by omega)).mono ?_
  rintro e w6 ⟨v6, rfl, hQ, h⟩
  have h0 : World.grownBy W3 w6 _ := (by refine World.grownBy.trans ?_ h; repeat (first | exact gr_refl _ _ | apply gr_drewN | apply gr_drew | apply gr_alloc))
  clear cS0 cS1 cS2
  have L_ := Az.mk (gr_new L.out h0 (by first | (simp; done) | (simp; omega) | omega))
  have T_ := Az.mk (own_gr T.out h0 (by first | exact own_none _ | exact .inr hl?T.out | exact .inr (own_blk T.out S.out (by decide))))
  have U_ := Az.mk (own_gr U.out h0 (by first | exact own_none _ | exact .inr hl?U.out | exact .inr (own_blk U.out S.out (by decide))))
  have V_ := Az.mk (own_gr V.out h0 (by first | exact own_none _ | exact .inr hl?V.out | exact .inr (own_blk V.out S.out (by decide))))
  have Z_ := Az.mk (own_gr Z.out h0 (by first | exact own_none _ | exact .inr hl?Z.out | exact .inr (own_blk Z.out S.out (by decide))))
  have S_ := Az.mk (blkGr S.out h0 (by first | (simp; done) | (simp; omega) | omega))
  clear L T U V Z S
  have L := L_; clear L_
  have T := T_; clear T_
  have U := U_; clear U_
  have V := V_; clear V_
  have Z := Z_; clear Z_
  have S := S_; clear S_
  clear h0 h
  have Q := Az.mk hQ; clear hQ
  have cS0 : World.cell? w6 ⟨gS, 0, none⟩ = some (.slice (some ⟨g1, 0, none⟩) 8 c1) := blkCell S.out 0
  have cS1 : World.cell? w6 ⟨gS, 1, none⟩ = some (.slice (some ⟨g3, 0, none⟩) b3.length c3) := blkCell S.out 1
  have cS2 : World.cell? w6 ⟨gS, 2, none⟩ = some (.slice (some ⟨g4, 0, none⟩) b4.length c4) := blkCell S.out 2
  go_wp2_with fail
  go_ret
  refine ⟨_, _, ?_, rfl, own_weak Q.out s9, L.out⟩
  rw [List.map_append, List.map_append, HB3.out, HB4.out]
  rfl
end Go.Proofs.Ytjomilloilbcgaa
