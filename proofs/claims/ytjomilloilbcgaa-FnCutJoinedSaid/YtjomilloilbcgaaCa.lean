/- Contract of impl.Lows. Condition: what is read can be read. -/
import Derived.Test.YtjomilloilbcgaaC9
namespace Go.Proofs.Ytjomilloilbcgaa
open Go.RowKit
set_option linter.unusedVariables false
set_option linter.unusedSimpArgs false

theorem Rd.flAt' {w : World} {b off : Nat} {bs : List Nat} (h : ∀ j u, (flV bs)[j]? = some u → w.cell? ⟨b, off + j, none⟩ = some u) (k : Nat) (hk : k < bs.length) : w.cell? ⟨b, off + k, none⟩ = some (.float .f32 bs[k]) := h _ _ (by simp [flV, hk])
def lowAt (sl : F32) (fs : List F32) (i : Nat) : Bool := fle (fs.getD i none) sl
def lowsStep (sl : F32) (fs : List F32) (s : List (Nat × Nat) × Nat) (i : Nat) : List (Nat × Nat) × Nat :=
  if i < fs.length ∧ lowAt sl fs i = true then (s.1, s.2 + 1) else (if 5 ≤ s.2 then s.1 ++ [(i - s.2, s.2)] else s.1, 0)
def lowsUp (sl : F32) (fs : List F32) : Nat → List (Nat × Nat) × Nat
  | 0 => ([], 0)
  | i + 1 => lowsStep sl fs (lowsUp sl fs i) i
def lowsN (sl : F32) (fs : List F32) : List (Nat × Nat) := (lowsUp sl fs (fs.length + 1)).1
theorem lows_low {sl : F32} {fs : List F32} {k m : Nat} {rs : List (Nat × Nat)} (h : lowsUp sl fs k = (rs, m)) (h1 : k < fs.length) (h2 : lowAt sl fs k = true) : lowsUp sl fs (k + 1) = (rs, m + 1) := by
  rw [lowsUp, h, lowsStep, if_pos ⟨h1, h2⟩]
theorem lows_run {sl : F32} {fs : List F32} {k m : Nat} {rs : List (Nat × Nat)} (h : lowsUp sl fs k = (rs, m)) (h1 : ¬ (k < fs.length ∧ lowAt sl fs k = true)) (h2 : 5 ≤ m) : lowsUp sl fs (k + 1) = (rs ++ [(k - m, m)], 0) := by
  rw [lowsUp, h, lowsStep, if_neg h1, if_pos h2]
theorem lows_none {sl : F32} {fs : List F32} {k m : Nat} {rs : List (Nat × Nat)} (h : lowsUp sl fs k = (rs, m)) (h1 : ¬ (k < fs.length ∧ lowAt sl fs k = true)) (h2 : ¬ 5 ≤ m) : lowsUp sl fs (k + 1) = (rs, 0) := by
  rw [lowsUp, h, lowsStep, if_neg h1, if_neg h2]
theorem map_getD0 (xs : List Nat) (j : Nat) (hj : j < xs.length) : (xs.map (fN .f32)).getD j none = fN .f32 xs[j] := by simp [hj]
def runsV (rs : List (Nat × Nat)) : List Value := rs.flatMap fun r => [.int .i64 (r.1 : Int), .int .i64 (r.2 : Int)]
theorem runsV_snoc (rs : List (Nat × Nat)) (a b : Nat) : runsV (rs ++ [(a, b)]) = runsV rs ++ [.int .i64 (a : Int), .int .i64 (b : Int)] := by simp [runsV]
def RetRuns (w : World) (rs : List (Nat × Nat)) (e : Ending) (w' : World) : Prop := ∃ v, e = .returned v ∧ w'.ownsRow w.heap.size 99 2 v rs.length (runsV rs) ∧ w.grownBy w' none
set_option maxRecDepth 8000 in
set_option maxHeartbeats 4000000 in
theorem Lows_c (A : Option Addr) (n c s : Nat) (bs : List Nat) (w : World) (hn : bs.length = n) (h20 : n ≤ 20000) (hrd : Rd w A n 1 (flV bs)) :
    Calls Try.prog 64 #[.slice A n c, .float .f32 s] w (RetRuns w (lowsN (fN .f32 s) (bs.map (fN .f32)))) := by
  have L := Az.mk (gr_refl w none)
  have HR := Az.mk hrd
  have HN := Az.mk hn
  have R := Az.mk (own_nil w w.heap.size 99 2)
  clear hrd hn
  have h20i : ¬ (n : Int) > 20000 := by omega
  go_enter Try.func64, Try.ntmps64
  go_wp2_with fail
  go_loopw [5, 6, 7] (fun z cn i wr => ∃ rs, ∃ m k : Nat, i = .int .i64 k ∧ cn = .int .i64 m ∧ k ≤ n + 1 ∧ m ≤ k ∧ rs.length ≤ k ∧ Az (lowsUp (fN .f32 s) (bs.map (fN .f32)) k = (rs, m)) ∧ Az (w.grownBy wr none) ∧ Az (wr.ownsRow w.heap.size 99 2 z rs.length (runsV rs))) (fun _ _ i _ => n + 1 - (intOf i).toNat)
  case atStart => exact ⟨[], 0, 0, by go_num, by go_num, by omega, by omega, by simp, ⟨rfl⟩, L, R⟩
  case round =>
    clear L R
    obtain ⟨rs, m, k, rfl, rfl, hk1, hmk, hrl, HU, L, R⟩ := hrel
    by_cases hk : k ≤ n
    · have hki : (k : Int) ≤ n := by omega
      by_cases hk2 : k < n
      · have hki2 : (k : Int) < n := by omega
        have hkc : k < bs.length := by rw [HN.out]; exact hk2
        obtain ⟨b, off, rfl, hcell⟩ := (HR.out.up L.out).2.2 (by omega)
        have d0 := Rd.flAt' hcell k hkc
        clear hcell
        cases hlow : fle (fN .f32 bs[k]) (fN .f32 s) with
        | true =>
          have t1 : (FloatKind.f32.format.order bs[k] s == some .lt || FloatKind.f32.format.order bs[k] s == some .eq) = true := by rw [o_le]; exact hlow
          have HL := Az.mk hlow
          clear hlow
          go_wp2_with fail
          exact ⟨⟨rs, m + 1, k + 1, by go_num, by go_num, by omega, by omega, by omega, ⟨lows_low HU.out (by rw [List.length_map, HN.out]; exact hk2) (by unfold lowAt; rw [map_getD0 _ _ hkc]; exact HL.out)⟩, L, R⟩, by simp only [intOf]; omega⟩
        | false =>
          have t1 : (FloatKind.f32.format.order bs[k] s == some .lt || FloatKind.f32.format.order bs[k] s == some .eq) = false := by rw [o_le]; exact hlow
          have HL := Az.mk hlow
          clear hlow
          by_cases hm : 5 ≤ m
          · have hmi : (5 : Int) ≤ m := by omega
            go_wp2_with (first | ((with_reducible refine gateN 39 rfl ?_); go_must (refine ev_bs 39 rfl rfl #[.int .i64 ((k : Int) - m), .int .i64 m] 99 1 ?hr ?_; (case hr => first | (go_simp; done) | (go_simp; rfl)); intro gN heN W1 hbN h; have hgN : w.heap.size ≤ gN := Nat.le_trans L.out.size heN; have hlNR := Az.mk (own_lows R.out heN); clear heN; have h0 : World.grownBy wr W1 none := (by refine World.grownBy.trans ?_ h; repeat (first | exact gr_refl _ _ | apply gr_drewN | apply gr_drew | apply gr_alloc)); have L_ := Az.mk (gr_new L.out h0 (by first | (simp; done) | (simp; omega) | omega)); have R_ := Az.mk (own_gr R.out h0 (by first | exact own_none _ | exact .inr hl?R.out)); clear L R; have L := L_; clear L_; have R := R_; clear R_; clear h0 h; have N := Az.mk hbN; clear hbN; have cN0 : World.cell? W1 ⟨gN, 0, none⟩ = some (.int .i64 ((k : Int) - m)) := blkCell N.out 0; have cN1 : World.cell? W1 ⟨gN, 1, none⟩ = some (.int .i64 m) := blkCell N.out 1)) | ((with_reducible refine gateN 40 rfl ?_); go_must (refine ev_app 40 rfl rfl rfl Try.underlying94 (z := .agg #[.int .i64 0, .int .i64 0]) (size := 2) (bytes := 16) (by kernel_rfl) rfl (by decide) rfl R.out rfl N.out rfl (by simp [Value.oneCell']) ?hbase ?hl ?hl2 ?_; (case hbase => have := L.out.size; omega); (case hl => omega); (case hl2 => omega); intro vR W2 hR h; have h0 : World.grownBy W1 W2 _ := (by refine World.grownBy.trans ?_ h; repeat (first | exact gr_refl _ _ | apply gr_drewN | apply gr_drew | apply gr_alloc)); clear cN0 cN1; have L_ := Az.mk (gr_new L.out h0 (fun j hj => .inl (own_base R.out j hj))); clear L; have L := L_; clear L_; clear h0 h; clear R N; have R := Az.mk hR; clear hR)))
            refine ⟨⟨rs ++ [(k - m, m)], 0, k + 1, by go_num, by go_num, by omega, by omega, by simp; omega, ⟨?_⟩, L, ⟨?_⟩⟩, by simp only [intOf]; omega⟩
            · exact lows_run HU.out (by intro h; unfold lowAt at h; rw [map_getD0 _ _ hkc, HL.out] at h; exact absurd h.2 (by decide)) hm
            · rw [runsV_snoc, List.length_append, show ((k - m : Nat) : Int) = (k : Int) - m by omega]; exact R.out
          · have hmi : ¬ (5 : Int) ≤ m := by omega
            go_wp2_with fail
            exact ⟨⟨rs, 0, k + 1, by go_num, by go_num, by omega, by omega, by omega, ⟨lows_none HU.out (by intro h; unfold lowAt at h; rw [map_getD0 _ _ hkc, HL.out] at h; exact absurd h.2 (by decide)) hm⟩, L, R⟩, by simp only [intOf]; omega⟩
      · have hki2 : ¬ (k : Int) < n := by omega
        have hend : ¬ (k < (bs.map (fN .f32)).length ∧ lowAt (fN .f32 s) (bs.map (fN .f32)) k = true) := by rw [List.length_map, HN.out]; intro h; omega
        have HE := Az.mk hend
        clear hend
        by_cases hm : 5 ≤ m
        · have hmi : (5 : Int) ≤ m := by omega
          go_wp2_with (first | ((with_reducible refine gateN 39 rfl ?_); go_must (refine ev_bs 39 rfl rfl #[.int .i64 ((k : Int) - m), .int .i64 m] 99 1 ?hr ?_; (case hr => first | (go_simp; done) | (go_simp; rfl)); intro gN heN W3 hbN h; have hgN : w.heap.size ≤ gN := Nat.le_trans L.out.size heN; have hlNR := Az.mk (own_lows R.out heN); clear heN; have h0 : World.grownBy wr W3 none := (by refine World.grownBy.trans ?_ h; repeat (first | exact gr_refl _ _ | apply gr_drewN | apply gr_drew | apply gr_alloc)); have L_ := Az.mk (gr_new L.out h0 (by first | (simp; done) | (simp; omega) | omega)); have R_ := Az.mk (own_gr R.out h0 (by first | exact own_none _ | exact .inr hl?R.out)); clear L R; have L := L_; clear L_; have R := R_; clear R_; clear h0 h; have N := Az.mk hbN; clear hbN; have cN0 : World.cell? W3 ⟨gN, 0, none⟩ = some (.int .i64 ((k : Int) - m)) := blkCell N.out 0; have cN1 : World.cell? W3 ⟨gN, 1, none⟩ = some (.int .i64 m) := blkCell N.out 1)) | ((with_reducible refine gateN 40 rfl ?_); go_must (refine ev_app 40 rfl rfl rfl Try.underlying94 (z := .agg #[.int .i64 0, .int .i64 0]) (size := 2) (bytes := 16) (by kernel_rfl) rfl (by decide) rfl R.out rfl N.out rfl (by simp [Value.oneCell']) ?hbase ?hl ?hl2 ?_; (case hbase => have := L.out.size; omega); (case hl => omega); (case hl2 => omega); intro vR W4 hR h; have h0 : World.grownBy W3 W4 _ := (by refine World.grownBy.trans ?_ h; repeat (first | exact gr_refl _ _ | apply gr_drewN | apply gr_drew | apply gr_alloc)); clear cN0 cN1; have L_ := Az.mk (gr_new L.out h0 (fun j hj => .inl (own_base R.out j hj))); clear L; have L := L_; clear L_; clear h0 h; clear R N; have R := Az.mk hR; clear hR)))
          refine ⟨⟨rs ++ [(k - m, m)], 0, k + 1, by go_num, by go_num, by omega, by omega, by simp; omega, ⟨?_⟩, L, ⟨?_⟩⟩, by simp only [intOf]; omega⟩
          · exact lows_run HU.out HE.out hm
          · rw [runsV_snoc, List.length_append, show ((k - m : Nat) : Int) = (k : Int) - m by omega]; exact R.out
        · have hmi : ¬ (5 : Int) ≤ m := by omega
          go_wp2_with fail
          exact ⟨⟨rs, 0, k + 1, by go_num, by go_num, by omega, by omega, by omega, ⟨lows_none HU.out HE.out hm⟩, L, R⟩, by simp only [intOf]; omega⟩
    · go_wp2_with fail
      go_ret
      obtain rfl : k = n + 1 := by omega
      refine ⟨_, rfl, ?_, L.out⟩
      have e : lowsN (fN .f32 s) (bs.map (fN .f32)) = rs := by rw [lowsN, List.length_map, HN.out, HU.out]
      rw [e]; exact R.out
end Go.Proofs.Ytjomilloilbcgaa
