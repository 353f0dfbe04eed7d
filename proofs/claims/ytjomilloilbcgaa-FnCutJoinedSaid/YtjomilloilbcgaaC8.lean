/- Contracts of the library's slices.Clone, Repeat, Concat as lines use them. Conditions: what is read is not empty. -/
import Derived.Test.YtjomilloilbcgaaC5
import Derived.Test.YtjomilloilbcgaaKe
import Derived.OwnWalk
import Derived.Lib.SliceRun
import Derived.Laws.CopyRow
import Derived.Deep.RegionLaw
namespace Go.Proofs.Ytjomilloilbcgaa
open Go.RowKit
set_option linter.unusedVariables false
set_option linter.unusedSimpArgs false

section
variable {P : Program} {ops : Array Oper} {rest : List Oper} {o : Oper} {a : Act} {Q : Exit → Act → World → Prop} {W : World}
/-- 'append(s, x..)' of what can be read. -/
theorem ev_aps (N : Tmp) (hd : o.dst = some N) (hg : o.guard = none) {s x : Operand} {t : TypeId} (ho : o.op = .call { callee := .builtin .append, args := #[s, x], argTypes := #[t, t] })
    {e : TypeId} {z : Value} {size bytes : Nat} (ht : P.underlying t = some (.slice e)) (hinfo : (P.info? e).map (fun i => (i.zero, i.size, i.bytes)) = some (some z, size, bytes)) (hz : z.cells.size = size) (hs0 : 0 < size)
    {base : Nat} {v : Value} {n : Nat} {xs : List Value} (hs : a.eval s = v) (HO : W.ownsRow base e size v n xs) {b off m c : Nat} {ys : List Value} (hx : a.eval x = .slice (some ⟨b, off, none⟩) m c) (hR : Rd W (some ⟨b, off, none⟩) m size ys)
    (h1 : ∀ u ∈ ys, u.oneCell' = true) (hbase : base ≤ W.heap.size) (hl : (n + m) * bytes ≤ 140737488355328) (hl2 : n + m ≤ 140737488355328)
    (h : ∀ v1 w1, w1.ownsRow base e size v1 (n + m) (xs ++ ys) → W.grownBy w1 v.ownBlock → wpList P ops Q rest (a.put (some N) v1) w1) : wpList P ops Q (o :: rest) a W := by
  obtain ⟨i0, hi, hzz⟩ := Option.map_eq_some_iff.1 hinfo
  simp only [Prod.mk.injEq] at hzz
  obtain ⟨hz0, hz1, hz2⟩ := hzz
  refine wpList_append_own W hg s x t ho base e i0 z size bytes ht hi hz0 hz1 hz2 hz hs0 v n xs hs HO ⟨b, off, none⟩ m c ys hx hR.len (fun j u hu => ?_) h1 (by simp only [maxLen]; omega) hl hbase ?_
  · have hm : 0 < m := by
      have hj := (List.getElem?_eq_some_iff.1 hu).1
      rw [hR.len] at hj
      cases m with
      | zero => simp at hj
      | succ m => omega
    obtain ⟨b', off', e, hc⟩ := hR.2.2 hm
    injection e with e
    injection e with e1 e2
    subst e1; subst e2
    rw [addAt]; exact hc j u hu
  · intro v1 w1 hown hgr _
    rw [hd]
    exact h v1 w1 hown hgr
theorem run_copyN (w : World) (dT sT ty elem : TypeId) (g o dLen dCap : Nat) (a : Addr) (sLen sCap size m : Nat) (cur : Array Value) (t : TypeId) (cs : List Value)
    (hu : P.underlying dT = some (.slice elem)) (hs : (P.info? elem).map (·.size) = some size)
    (hg : w.heap[g]? = some (.cells cur t (0, 0))) (hm : Nat.min sLen dLen = m) (hn : cs.length = m * size)
    (hsrc : ∀ j v, cs[j]? = some v → w.cell? (a.add j) = some v) (hfit : o + cs.length ≤ cur.size) (h1 : ∀ v ∈ cs, v.oneCell' = true) :
    (Builtin.copy_ #[dT, sT] ty #[.slice (some ⟨g, o, none⟩) dLen dCap, .slice (some a) sLen sCap]).run P w =
      .ok (goInt m) (w.setRow g (cur.toList.take o ++ cs ++ cur.toList.drop (o + cs.length)).toArray) := by
  have hl := run_loadCells_list (P := P) w a cs hsrc
  have hst := run_storeCells_at P g o t cs 0 cur w hg (by simpa using hfit) h1
  cases hq : P.info? elem with
  | none => simp [hq] at hs
  | some i =>
    have hi : i.size = size := by simpa [hq] using hs
    rw [hn] at hl
    simp [Builtin.copy_, run_underlying hu, Builtin.lenOf, Builtin.firstCells, sizeOf, typeInfo, hq, hi, hm, hl, hst]
/-- 'copy' into a row of one's own. -/
theorem wp_cp {K : Act → World → Prop} (N : Tmp) (hd : o.dst = some N) {d s : Operand} {dT sT : TypeId} (ho : o.op = .call { callee := .builtin .copy, args := #[d, s], argTypes := #[dT, sT] })
    {e : TypeId} {size : Nat} (hu : P.underlying dT = some (.slice e)) (hsz : (P.info? e).map (·.size) = some size)
    {g off dLen dCap b o2 sLen sCap : Nat} (hx : a.eval d = .slice (some ⟨g, off, none⟩) dLen dCap) (hy : a.eval s = .slice (some ⟨b, o2, none⟩) sLen sCap)
    {base n c k m : Nat} {xs cs : List Value} (HO : W.ownsRow base e size (.slice (some ⟨g, 0, none⟩) n c) k xs) (hm : Nat.min sLen dLen = m) (hn : cs.length = m * size)
    (hsrc : ∀ j v, cs[j]? = some v → W.cell? ⟨b, o2 + j, none⟩ = some v) (hfit : off + cs.length ≤ k * size) (h1 : ∀ v ∈ cs, v.oneCell' = true)
    (h : ∀ w1, w1.ownsRow base e size (.slice (some ⟨g, 0, none⟩) n c) k (xs.take off ++ cs ++ xs.drop (off + cs.length)) → W.grownBy w1 (some g) → K (a.put (some N) (.int .i64 m)) w1) : Oper.wp P o a W K Q := by
  rcases HO.2 with ⟨h1', h2'⟩ | ⟨g', cap, cur, h0, hb, hh, hk1, hk2, hk3, hk4⟩
  · cases h1'
  · injection h0 with e1 e2 e3
    injection e1 with e1
    injection e1 with e1 _ _
    subst e1; subst e2; subst e3
    have hkc : n * size ≤ cur.size := by rw [hk3]; exact Nat.mul_le_mul_right _ hk1
    have hrun := run_copyN (P := P) W dT sT o.type e g off dLen dCap ⟨b, o2, none⟩ sLen sCap size m cur e cs hu hsz hh hm hn (fun j v hv => by rw [addAt]; exact hsrc j v hv) (by omega) h1
    unfold Oper.wp
    simp only [execOp, ho, resolve, invoke, builtin, Sem.run_bind, Sem.run_pure, Result.andThen_ok, List.map_toArray, List.map_cons, List.map_nil, hx, hy, hrun]
    show K (a.put o.dst (goInt m)) _
    rw [hd]
    refine h _ ⟨?_, .inr ⟨g, c, _, rfl, hb, setRow_heap W g cur _ e _ hh, hk1, hk2, ?_, ?_⟩⟩ (gr_setRow W g _)
    · have := HO.1
      simp only [List.length_append, List.length_take, List.length_drop]; omega
    · rw [← hk3]; simp only [List.size_toArray, List.length_append, List.length_take, List.length_drop, Array.length_toList]; omega
    · have hxl := HO.1
      rw [← hk4]
      apply List.ext_getElem?
      intro j
      have hcl : cur.toList.length = cur.size := rfl
      simp only [List.getElem?_take, List.getElem?_append, List.length_append, List.length_take, List.getElem?_drop, hcl]
      repeat' split
      all_goals first | rfl | (exfalso; omega) | (congr 1; omega)
theorem ev_cp (N : Tmp) (hd : o.dst = some N) (hgd : o.guard = none) {d s : Operand} {dT sT : TypeId} (ho : o.op = .call { callee := .builtin .copy, args := #[d, s], argTypes := #[dT, sT] })
    {e : TypeId} {size : Nat} (hu : P.underlying dT = some (.slice e)) (hsz : (P.info? e).map (·.size) = some size)
    {g off dLen dCap b o2 sLen sCap : Nat} (hx : a.eval d = .slice (some ⟨g, off, none⟩) dLen dCap) (hy : a.eval s = .slice (some ⟨b, o2, none⟩) sLen sCap)
    {base n c k m : Nat} {xs cs : List Value} (HO : W.ownsRow base e size (.slice (some ⟨g, 0, none⟩) n c) k xs) (hm : Nat.min sLen dLen = m) (hn : cs.length = m * size)
    (hsrc : ∀ j v, cs[j]? = some v → W.cell? ⟨b, o2 + j, none⟩ = some v) (hfit : off + cs.length ≤ k * size) (h1 : ∀ v ∈ cs, v.oneCell' = true)
    (h : ∀ w1, w1.ownsRow base e size (.slice (some ⟨g, 0, none⟩) n c) k (xs.take off ++ cs ++ xs.drop (off + cs.length)) → W.grownBy w1 (some g) → wpList P ops Q rest (a.put (some N) (.int .i64 m)) w1) : wpList P ops Q (o :: rest) a W :=
  wpList_plain hgd fun K hK => wp_cp N hd ho hu hsz hx hy HO hm hn hsrc hfit h1 fun w1 h2 h3 => hK _ _ (h w1 h2 h3)
theorem step_cp {K : Act → World → Prop} {E : Prop} (N : Tmp) (hd : o.dst = some N) (hgd : o.guard = none) {d s : Operand} {dT sT : TypeId} (ho : o.op = .call { callee := .builtin .copy, args := #[d, s], argTypes := #[dT, sT] })
    {e : TypeId} {size : Nat} (hu : P.underlying dT = some (.slice e)) (hsz : (P.info? e).map (·.size) = some size)
    {g off dLen dCap b o2 sLen sCap : Nat} (hx : a.eval d = .slice (some ⟨g, off, none⟩) dLen dCap) (hy : a.eval s = .slice (some ⟨b, o2, none⟩) sLen sCap)
    {base n c k m : Nat} {xs cs : List Value} (HO : W.ownsRow base e size (.slice (some ⟨g, 0, none⟩) n c) k xs) (hm : Nat.min sLen dLen = m) (hn : cs.length = m * size)
    (hsrc : ∀ j v, cs[j]? = some v → W.cell? ⟨b, o2 + j, none⟩ = some v) (hfit : off + cs.length ≤ k * size) (h1 : ∀ v ∈ cs, v.oneCell' = true)
    (h : ∀ w1, w1.ownsRow base e size (.slice (some ⟨g, 0, none⟩) n c) k (xs.take off ++ cs ++ xs.drop (off + cs.length)) → W.grownBy w1 (some g) → K (a.put (some N) (.int .i64 m)) w1) : if Region.wanted o (yielded ops a.tmps) = true then Oper.wp P o a W K Q else E := by
  rw [if_pos (by simp [Region.wanted, hgd])]
  exact wp_cp N hd ho hu hsz hx hy HO hm hn hsrc hfit h1 h
/-- 'make([]T, n)'. -/
theorem ev_mk (N : Tmp) (hd : o.dst = some N) (hg : o.guard = none) {l c : Operand} {t : TypeId} (hop : o.op = Op.makeSlice t l c) {n : Nat} {e : TypeId} {z : Value} {size bytes : Nat} (ht : P.underlying t = some (.slice e))
    (hinfo : (P.info? e).map (fun i => (i.zero, i.size, i.bytes)) = some (some z, size, bytes)) {kl kc : IntKind} {L C : Int} (hl : a.eval l = .int kl L) (hc : a.eval c = .int kc C) (hL : L = (n : Int)) (hC : C = (n : Int)) {base : Nat} (b2 : bytes * n ≤ 281474976710656) (b3 : n ≤ maxLen) (b4 : base ≤ W.heap.size)
    (h : ∀ g w1, w1.ownsRow base e size (.slice (some ⟨g, 0, none⟩) n n) n (madeCells z.cells (n * size)).toList → W.grownBy w1 none → wpList P ops Q rest (a.put (some N) (.slice (some ⟨g, 0, none⟩) n n)) w1) : wpList P ops Q (o :: rest) a W := by
  obtain ⟨i, hi, hz0, hz1, hz2⟩ := info_parts hinfo
  refine wpList_make_full W hg l c t hop base e i z size ht hi hz0 hz1 kl kc L C n hl hc hL hC (by rw [hz2]; exact b2) b3 b4 fun w' h1 h2 => ?_
  rw [hd]
  exact h _ _ h1 h2
end
theorem flV_one (bs : List Nat) : ∀ u ∈ flV bs, u.oneCell' = true := by
  intro u hu
  obtain ⟨b, _, rfl⟩ := List.mem_map.1 hu
  rfl
theorem cellsV_one (cs : List (Nat × Nat × Nat)) : ∀ u ∈ cellsV cs, u.oneCell' = true := by
  intro u hu
  obtain ⟨c, _, hc⟩ := List.mem_flatMap.1 hu
  simp at hc
  rcases hc with rfl | rfl <;> rfl
/-- A list of floats of the call's own, told whole. -/
def RetBits (w : World) (bs : List Nat) (e : Ending) (w' : World) : Prop := ∃ v, e = .returned v ∧ w'.ownsRow w.heap.size 25 1 v bs.length (flV bs) ∧ w.grownBy w' none
theorem own_empty {w : World} {g : Nat} {e : TypeId} {size base : Nat} (hb : w.heap[g]? = some (.cells #[] e (0, 0))) (hbase : base ≤ g) : w.ownsRow base e size (.slice (some ⟨g, 0, none⟩) 0 0) 0 [] := own_of_blk (m := 0) hb base hbase (by simp) (by decide)
set_option maxRecDepth 8000 in
set_option maxHeartbeats 1000000 in
theorem CloneFl_c (b off n c : Nat) (bs : List Nat) (w : World) (hn : bs.length = n) (h20 : n ≤ 20000) (hrd : Rd w (some ⟨b, off, none⟩) n 1 (flV bs)) :
    Calls Try.prog 69 #[.slice (some ⟨b, off, none⟩) n c] w (RetBits w bs) := by
  have L := Az.mk (gr_refl w none)
  have HR := Az.mk hrd
  have HN := Az.mk hn
  clear hrd hn
  have q22 : ∀ (w : World) (a : Option Addr) (n c n' c' : Nat), (binOp .eql 31 (.slice a n c) (.slice none n' c')).run Try.prog w = .ok (.bool a.isNone) w := fun w a n c n' c' => Lib.run_eql_slice_nil w _ _ a n c n' c' Try.underlying31
  go_enter Try.func69, Try.ntmps69
  go_wp2_with (first | ((with_reducible refine gateN 5 rfl ?_); go_must (refine ev_bs 5 rfl rfl #[] 25 0 ?hr ?_; (case hr => first | (go_simp; done) | (go_simp; rfl)); intro gR heR W1 hbR h; have hgR : w.heap.size ≤ gR := Nat.le_trans L.out.size heR; clear heR; have h0 : World.grownBy w W1 none := (by refine World.grownBy.trans ?_ h; repeat (first | exact gr_refl _ _ | apply gr_drewN | apply gr_drew | apply gr_alloc)); have L_ := Az.mk (gr_new L.out h0 (by first | (simp; done) | (simp; omega) | omega)); clear L; have L := L_; clear L_; clear h0 h; have R := Az.mk (own_empty (size := 1) hbR hgR); clear hbR)) | ((with_reducible refine gateN 7 rfl ?_); go_must (refine ev_aps 7 rfl rfl rfl Try.underlying31 (z := .float .f32 0) (size := 1) (bytes := 4) (by kernel_rfl) rfl (by decide) rfl R.out rfl (HR.out.up L.out) (flV_one _) ?hbase ?hl ?hl2 ?_; (case hbase => have := L.out.size; omega); (case hl => omega); (case hl2 => omega); intro vR W2 hR h; have h0 : World.grownBy W1 W2 _ := (by refine World.grownBy.trans ?_ h; repeat (first | exact gr_refl _ _ | apply gr_drewN | apply gr_drew | apply gr_alloc)); have L_ := Az.mk (gr_new L.out h0 (fun j hj => .inl (own_base R.out j hj))); clear L; have L := L_; clear L_; clear h0 h; clear R; have R := Az.mk hR; clear hR)))
  go_ret
  exact ⟨_, rfl, by rw [HN.out]; have := R.out; rw [Nat.zero_add] at this; exact this, L.out⟩
theorem src_blk {w : World} {g : Nat} {t : TypeId} {cs : Array Value} (hb : w.heap[g]? = some (.cells cs t (0, 0))) : ∀ j v, cs.toList[j]? = some v → w.cell? ⟨g, 0 + j, none⟩ = some v := fun j v hv => by
  rw [Nat.zero_add, blkCell hb j]; simpa using hv
theorem src_own {w : World} {base : Nat} {e : TypeId} {size : Nat} {g n c k : Nat} {xs : List Value} (h : w.ownsRow base e size (.slice (some ⟨g, 0, none⟩) n c) k xs) (m : Nat) : ∀ j v, (xs.take m)[j]? = some v → w.cell? ⟨g, 0 + j, none⟩ = some v := fun j v hv => by
  rw [Nat.zero_add]
  refine own_cell h ?_
  rw [List.getElem?_take] at hv
  split at hv
  · exact hv
  · cases hv
theorem one_take {xs : List Value} {k b : Nat} (h : ∀ j, j < k → xs[j]? = some (.float .f32 b)) {m : Nat} (hm : m ≤ k) : ∀ u ∈ xs.take m, u.oneCell' = true := by
  intro u hu
  obtain ⟨j, hj, rfl⟩ := List.getElem_of_mem hu
  have h1 : j < m := by simp at hj; omega
  have h2 := h j (by omega)
  rw [List.getElem_take]
  rw [List.getElem?_eq_getElem (by simp at hj; omega)] at h2
  injection h2 with h2
  rw [h2]; rfl
theorem rep_step {xs : List Value} {k m b : Nat} (h : ∀ j, j < k → xs[j]? = some (.float .f32 b)) (hm : m ≤ k) (hk : k ≤ xs.length) :
    ∀ j, j < k + m → (xs.take k ++ xs.take m ++ xs.drop (k + (xs.take m).length))[j]? = some (.float .f32 b) := by
  intro j hj
  have h1 : (xs.take k).length = k := by simp; omega
  have h2 : (xs.take m).length = m := by simp; omega
  rw [List.getElem?_append_left (by rw [List.length_append]; omega)]
  by_cases h3 : j < k
  · rw [List.getElem?_append_left (by omega), List.getElem?_take, if_pos h3]; exact h j h3
  · rw [List.getElem?_append_right (by omega), h1, List.getElem?_take, if_pos (by omega)]; exact h (j - k) (by omega)
theorem Mul64_c (y : Int) (hy : y = 8 ∨ y = 4) (w : World) : Calls Try.prog 111 #[.int .u64 1, .int .u64 y] w (fun e w' => e = .returned (.tuple #[.int .u64 0, .int .u64 y]) ∧ w.grownBy w' none) := by
  have L := Az.mk (gr_refl w none)
  rcases hy with rfl | rfl
  · go_enter Try.func111, Try.ntmps111
    go_wp2_with fail
    go_ret2
    exact ⟨rfl, L.out⟩
  · go_enter Try.func111, Try.ntmps111
    go_wp2_with fail
    go_ret2
    exact ⟨rfl, L.out⟩
theorem Mul_c (y : Int) (hy : y = 8 ∨ y = 4) (w : World) : Calls Try.prog 91 #[.int .u64 1, .int .u64 y] w (fun e w' => e = .returned (.tuple #[.int .u64 0, .int .u64 y]) ∧ w.grownBy w' none) := by
  have L := Az.mk (gr_refl w none)
  have HY := Az.mk hy
  clear hy
  go_enter Try.func91, Try.ntmps91
  go_wp2_with fail
  refine (Mul64_c y HY.out _).mono ?_
  rintro e w1 ⟨rfl, h⟩
  have h0 : World.grownBy w w1 _ := (by refine World.grownBy.trans ?_ h; repeat (first | exact gr_refl _ _ | apply gr_drewN | apply gr_drew | apply gr_alloc))
  have L_ := Az.mk (gr_new L.out h0 (by first | (simp; done) | (simp; omega) | omega))
  clear L
  have L := L_; clear L_
  clear h0 h
  go_wp2_with fail
  go_ret2
  exact ⟨rfl, L.out⟩
set_option maxRecDepth 8000 in
set_option maxHeartbeats 2000000 in
theorem RepeatFl_c (gB b : Nat) (w : World) (hb : w.heap[gB]? = some (.cells #[.float .f32 b] 25 (0, 0))) :
    Calls Try.prog 61 #[.slice (some ⟨gB, 0, none⟩) 1 1, .int .i64 8] w (RetBits w (List.replicate 8 b)) := by
  have L := Az.mk (gr_refl w none)
  have B := Az.mk hb
  have hgB := blkLt hb
  clear hb
  have cB0 : World.cell? w ⟨gB, 0, none⟩ = some (.float .f32 b) := blkCell B.out 0
  go_enter Try.func61, Try.ntmps61
  go_wp2_with fail
  refine (Mul_c 8 (.inl rfl) _).mono ?_
  rintro e w1 ⟨rfl, h⟩
  have h0 : World.grownBy w w1 _ := (by refine World.grownBy.trans ?_ h; repeat (first | exact gr_refl _ _ | apply gr_drewN | apply gr_drew | apply gr_alloc))
  clear cB0
  have L_ := Az.mk (gr_new L.out h0 (by first | (simp; done) | (simp; omega) | omega))
  have B_ := Az.mk (blkGr B.out h0 (by first | (simp; done) | (simp; omega) | omega))
  clear L B
  have L := L_; clear L_
  have B := B_; clear B_
  clear h0 h
  have cB0 : World.cell? w1 ⟨gB, 0, none⟩ = some (.float .f32 b) := blkCell B.out 0
  go_wp2_with (first | ((with_reducible refine gateN 30 rfl ?_); go_must (refine ev_mk 30 rfl rfl rfl (n := 8) Try.underlying31 (z := .float .f32 0) (size := 1) (bytes := 4) (by kernel_rfl) rfl rfl ?hL ?hC (base := w.heap.size) ?hb2 ?hb3 ?hb4 ?_; (case hL => (first | rfl | (simp; done) | omega)); (case hC => (first | rfl | (simp; done) | omega)); (case hb2 => omega); (case hb3 => simp only [maxLen]; omega); (case hb4 => have := L.out.size; omega); intro gR W1 hR h; have h0 : World.grownBy w1 W1 none := (by refine World.grownBy.trans ?_ h; repeat (first | exact gr_refl _ _ | apply gr_drewN | apply gr_drew | apply gr_alloc)); clear cB0; have L_ := Az.mk (gr_new L.out h0 (by first | (simp; done) | (simp; omega) | omega)); have B_ := Az.mk (blkGr B.out h0 (by first | (simp; done) | (simp; omega) | omega)); clear L B; have L := L_; clear L_; have B := B_; clear B_; clear h0 h; have R := Az.mk hR; clear hR; have cB0 : World.cell? W1 ⟨gB, 0, none⟩ = some (.float .f32 b) := blkCell B.out 0)) | ((with_reducible refine gateN 33 rfl ?_); go_must (refine ev_cp 33 rfl rfl rfl Try.underlying31 (size := 1) (by kernel_rfl) rfl rfl R.out (m := 1) (cs := [.float .f32 b]) ?hm ?hn (src_blk B.out) ?hf (flV_one [b]) ?_; (case hm => first | exact HM.out | rfl | (simp; done) | (simp; omega) | omega); (case hn => first | rfl | (simp; done) | (simp; omega) | omega); (case hf => first | (simp; done) | (simp; omega) | omega | decide); intro W2 hR h; have h0 : World.grownBy W1 W2 _ := (by refine World.grownBy.trans ?_ h; repeat (first | exact gr_refl _ _ | apply gr_drewN | apply gr_drew | apply gr_alloc)); clear cB0; have L_ := Az.mk (gr_new L.out h0 (fun j hj => .inl (own_base R.out j hj))); have B_ := Az.mk (blkGr B.out h0 (by first | exact fun he => own_blk R.out B.out (by decide) he.symm | exact fun he => hlBR.out he.symm | exact fun he => (by have := own_base R.out _ he.symm; omega))); clear L B; have L := L_; clear L_; have B := B_; clear B_; clear h0 h; clear R; have R := Az.mk hR; clear hR; have cB0 : World.cell? W2 ⟨gB, 0, none⟩ = some (.float .f32 b) := blkCell B.out 0)))
  go_loopw [8] (fun i wr => ∃ xs, ∃ k : Nat, i = .int .i64 k ∧ 1 ≤ k ∧ k ≤ 8 ∧ Az (∀ j, j < k → xs[j]? = some (.float .f32 b)) ∧ Az (w.grownBy wr none) ∧ Az (wr.ownsRow w.heap.size 25 1 (.slice (some ⟨gR, 0, none⟩) 8 8) 8 xs)) (fun i _ => 8 - (intOf i).toNat)
  case atStart => exact ⟨_, 1, by go_num, by omega, by omega, ⟨fun j hj => by obtain rfl : j = 0 := (by omega); simp⟩, L, R⟩
  case round =>
    clear L R B cB0
    obtain ⟨xs, k, rfl, hk1, hk8, HX, L, R⟩ := hrel
    by_cases hk : k < 8
    · have hk9 : ¬ 8 = k := by omega
      have hki : (k : Int) < 8 := by omega
      have hki2 : (k : Int) ≤ 8 := by omega
      have hxl : xs.length = 8 := by have := R.out.1; omega
      have hx1 : xs.length ≤ 8 := by omega
      have hx2 : 8 ≤ xs.length := by omega
      clear hxl
      obtain ⟨m, hm⟩ : ∃ m, m = min k (8 - k) := ⟨_, rfl⟩
      have hm1 : m ≤ k := by omega
      have hm2 : m ≤ 8 - k := by omega
      have hm3 : 1 ≤ m := by omega
      have hm4 : Nat.min k (8 - k) = m := hm.symm
      have HM := Az.mk hm4
      clear hm hm4
      have hwrap : IntKind.i64.wrap ((k : Int) + m) = k + m := by rw [IntKind.wrap_i64]; omega
      go_wp2_with fail
      go_region_law (refine step_cp 45 rfl rfl rfl Try.underlying31 (size := 1) (by kernel_rfl) (g := gR) (off := k) (dLen := 8 - k) (dCap := 8 - k) (b := gR) (o2 := 0) (sLen := k) (sCap := 8) (by simp [Act.eval, Act.put]) (by simp [Act.eval, Act.put]) R.out (m := m) (cs := xs.take m) HM.out (by simp; omega) (src_own R.out _) (by simp; omega) (one_take HX.out (by omega)) ?_; intro w4 hR4 h4)
      have HR4 := Az.mk hR4
      have HG4 := Az.mk h4
      clear hR4 h4
      go_wp2_with fail
      refine ⟨?_, by simp [intOf, Act.put, hwrap]; omega⟩
      repeat apply Exists.intro
      refine ⟨?_, rfl⟩
      exact ⟨_, k + m, by go_num, by omega, by omega, ⟨rep_step (b := b) HX.out hm1 (by omega)⟩, ⟨gr_new (gr_drew L.out) HG4.out (fun j hj => .inl (own_base R.out j hj))⟩, HR4⟩
    · go_wp2_with fail
      go_ret
      obtain rfl : k = 8 := by omega
      refine ⟨_, rfl, ?_, L.out⟩
      have hx : xs = flV (List.replicate 8 b) := by
        apply List.ext_getElem?
        intro j
        by_cases hj : j < 8
        · rw [HX.out j hj, flV, List.getElem?_map, List.getElem?_replicate, if_pos hj]; rfl
        · have := R.out.1
          rw [List.getElem?_eq_none (by omega), List.getElem?_eq_none (by simp [flV]; omega)]
      rw [← hx]; exact R.out
theorem one_take2 {xs : List Value} {k y u v : Nat} (h : ∀ j, j < k * 2 → xs[j]? = some (if j % 2 = 0 then .float .f32 y else .complex .f32 u v)) {m : Nat} (hm : m ≤ k) : ∀ z ∈ xs.take (m * 2), z.oneCell' = true := by
  intro z hz
  obtain ⟨j, hj, rfl⟩ := List.getElem_of_mem hz
  have h1 : j < m * 2 := by simp at hj; omega
  have h2 := h j (by omega)
  rw [List.getElem_take]
  rw [List.getElem?_eq_getElem (by simp at hj; omega)] at h2
  injection h2 with h2
  rw [h2]
  split <;> rfl
theorem rep_step2 {xs : List Value} {k m y u v : Nat} (h : ∀ j, j < k * 2 → xs[j]? = some (if j % 2 = 0 then .float .f32 y else .complex .f32 u v)) (hm : m ≤ k) (hk : k * 2 ≤ xs.length) :
    ∀ j, j < (k + m) * 2 → (xs.take (k * 2) ++ xs.take (m * 2) ++ xs.drop (k * 2 + (xs.take (m * 2)).length))[j]? = some (if j % 2 = 0 then .float .f32 y else .complex .f32 u v) := by
  intro j hj
  have h1 : (xs.take (k * 2)).length = k * 2 := by simp; omega
  have h2 : (xs.take (m * 2)).length = m * 2 := by simp; omega
  rw [List.getElem?_append_left (by rw [List.length_append]; omega)]
  by_cases h3 : j < k * 2
  · rw [List.getElem?_append_left (by omega), List.getElem?_take, if_pos h3]; exact h j h3
  · rw [List.getElem?_append_right (by omega), h1, List.getElem?_take, if_pos (by omega), h (j - k * 2) (by omega), show (j - k * 2) % 2 = j % 2 by omega]
/-- A row of the call's own, told whole. -/
def RetCells (w : World) (cs : Row) (e : Ending) (w' : World) : Prop := ∃ v, e = .returned v ∧ w'.ownsRow w.heap.size 49 2 v cs.length (cellsV cs) ∧ w.grownBy w' none
set_option maxRecDepth 8000 in
set_option maxHeartbeats 2000000 in
theorem RepeatCell_c (gB y u v : Nat) (w : World) (hb : w.heap[gB]? = some (.cells #[.float .f32 y, .complex .f32 u v] 49 (0, 0))) :
    Calls Try.prog 62 #[.slice (some ⟨gB, 0, none⟩) 1 1, .int .i64 4] w (RetCells w (List.replicate 4 (y, u, v))) := by
  have L := Az.mk (gr_refl w none)
  have B := Az.mk hb
  have hgB := blkLt hb
  clear hb
  have cB0 : World.cell? w ⟨gB, 0, none⟩ = some (.float .f32 y) := blkCell B.out 0
  have cB1 : World.cell? w ⟨gB, 1, none⟩ = some (.complex .f32 u v) := blkCell B.out 1
  go_enter Try.func62, Try.ntmps62
  go_wp2_with fail
  refine (Mul_c 4 (.inr rfl) _).mono ?_
  rintro e w1 ⟨rfl, h⟩
  have h0 : World.grownBy w w1 _ := (by refine World.grownBy.trans ?_ h; repeat (first | exact gr_refl _ _ | apply gr_drewN | apply gr_drew | apply gr_alloc))
  clear cB0 cB1
  have L_ := Az.mk (gr_new L.out h0 (by first | (simp; done) | (simp; omega) | omega))
  have B_ := Az.mk (blkGr B.out h0 (by first | (simp; done) | (simp; omega) | omega))
  clear L B
  have L := L_; clear L_
  have B := B_; clear B_
  clear h0 h
  have cB0 : World.cell? w1 ⟨gB, 0, none⟩ = some (.float .f32 y) := blkCell B.out 0
  have cB1 : World.cell? w1 ⟨gB, 1, none⟩ = some (.complex .f32 u v) := blkCell B.out 1
  go_wp2_with (first | ((with_reducible refine gateN 30 rfl ?_); go_must (refine ev_mk 30 rfl rfl rfl (n := 4) Try.underlying40 (z := .agg #[.float .f32 0, .complex .f32 0 0]) (size := 2) (bytes := 12) (by kernel_rfl) rfl rfl ?hL ?hC (base := w.heap.size) ?hb2 ?hb3 ?hb4 ?_; (case hL => (first | rfl | (simp; done) | omega)); (case hC => (first | rfl | (simp; done) | omega)); (case hb2 => omega); (case hb3 => simp only [maxLen]; omega); (case hb4 => have := L.out.size; omega); intro gR W1 hR h; have h0 : World.grownBy w1 W1 none := (by refine World.grownBy.trans ?_ h; repeat (first | exact gr_refl _ _ | apply gr_drewN | apply gr_drew | apply gr_alloc)); clear cB0 cB1; have L_ := Az.mk (gr_new L.out h0 (by first | (simp; done) | (simp; omega) | omega)); have B_ := Az.mk (blkGr B.out h0 (by first | (simp; done) | (simp; omega) | omega)); clear L B; have L := L_; clear L_; have B := B_; clear B_; clear h0 h; have R := Az.mk hR; clear hR; have cB0 : World.cell? W1 ⟨gB, 0, none⟩ = some (.float .f32 y) := blkCell B.out 0; have cB1 : World.cell? W1 ⟨gB, 1, none⟩ = some (.complex .f32 u v) := blkCell B.out 1)) | ((with_reducible refine gateN 33 rfl ?_); go_must (refine ev_cp 33 rfl rfl rfl Try.underlying40 (size := 2) (by kernel_rfl) rfl rfl R.out (m := 1) (cs := [.float .f32 y, .complex .f32 u v]) ?hm ?hn (src_blk B.out) ?hf (cellsV_one [(y, u, v)]) ?_; (case hm => first | exact HM.out | rfl | (simp; done) | (simp; omega) | omega); (case hn => first | rfl | (simp; done) | (simp; omega) | omega); (case hf => first | (simp; done) | (simp; omega) | omega | decide); intro W2 hR h; have h0 : World.grownBy W1 W2 _ := (by refine World.grownBy.trans ?_ h; repeat (first | exact gr_refl _ _ | apply gr_drewN | apply gr_drew | apply gr_alloc)); clear cB0 cB1; have L_ := Az.mk (gr_new L.out h0 (fun j hj => .inl (own_base R.out j hj))); have B_ := Az.mk (blkGr B.out h0 (by first | exact fun he => own_blk R.out B.out (by decide) he.symm | exact fun he => hlBR.out he.symm | exact fun he => (by have := own_base R.out _ he.symm; omega))); clear L B; have L := L_; clear L_; have B := B_; clear B_; clear h0 h; clear R; have R := Az.mk hR; clear hR; have cB0 : World.cell? W2 ⟨gB, 0, none⟩ = some (.float .f32 y) := blkCell B.out 0; have cB1 : World.cell? W2 ⟨gB, 1, none⟩ = some (.complex .f32 u v) := blkCell B.out 1)))
  go_loopw [8] (fun i wr => ∃ xs, ∃ k : Nat, i = .int .i64 k ∧ 1 ≤ k ∧ k ≤ 4 ∧ Az (∀ j, j < k * 2 → xs[j]? = some (if j % 2 = 0 then .float .f32 y else .complex .f32 u v)) ∧ Az (w.grownBy wr none) ∧ Az (wr.ownsRow w.heap.size 49 2 (.slice (some ⟨gR, 0, none⟩) 4 4) 4 xs)) (fun i _ => 4 - (intOf i).toNat)
  case atStart => exact ⟨_, 1, by go_num, by omega, by omega, ⟨fun j hj => by rcases (show j = 0 ∨ j = 1 by omega) with rfl | rfl <;> simp⟩, L, R⟩
  case round =>
    clear L R B cB0
    obtain ⟨xs, k, rfl, hk1, hk8, HX, L, R⟩ := hrel
    by_cases hk : k < 4
    · have hk9 : ¬ 4 = k := by omega
      have hki : (k : Int) < 4 := by omega
      have hki2 : (k : Int) ≤ 4 := by omega
      have hxl : xs.length = 8 := by have := R.out.1; omega
      have hx1 : xs.length ≤ 8 := by omega
      have hx2 : 8 ≤ xs.length := by omega
      clear hxl
      obtain ⟨m, hm⟩ : ∃ m, m = min k (4 - k) := ⟨_, rfl⟩
      have hm1 : m ≤ k := by omega
      have hm2 : m ≤ 4 - k := by omega
      have hm3 : 1 ≤ m := by omega
      have hm4 : Nat.min k (4 - k) = m := hm.symm
      have HM := Az.mk hm4
      clear hm hm4
      have hwrap : IntKind.i64.wrap ((k : Int) + m) = k + m := by rw [IntKind.wrap_i64]; omega
      go_wp2_with fail
      go_region_law (refine step_cp 45 rfl rfl rfl Try.underlying40 (size := 2) (by kernel_rfl) (g := gR) (off := k * 2) (dLen := 4 - k) (dCap := 4 - k) (b := gR) (o2 := 0) (sLen := k) (sCap := 4) (by simp [Act.eval, Act.put]) (by simp [Act.eval, Act.put]) R.out (m := m) (cs := xs.take (m * 2)) HM.out (by simp; omega) (src_own R.out _) (by simp; omega) (one_take2 HX.out (by omega)) ?_; intro w4 hR4 h4)
      have HR4 := Az.mk hR4
      have HG4 := Az.mk h4
      clear hR4 h4
      go_wp2_with fail
      refine ⟨?_, by simp [intOf, Act.put, hwrap]; omega⟩
      repeat apply Exists.intro
      refine ⟨?_, rfl⟩
      exact ⟨_, k + m, by go_num, by omega, by omega, ⟨rep_step2 (y := y) (u := u) (v := v) HX.out hm1 (by omega)⟩, ⟨gr_new (gr_drew L.out) HG4.out (fun j hj => .inl (own_base R.out j hj))⟩, HR4⟩
    · go_wp2_with fail
      go_ret
      obtain rfl : k = 4 := by omega
      refine ⟨_, rfl, ?_, L.out⟩
      have hx : xs = cellsV (List.replicate 4 (y, u, v)) := by
        apply List.ext_getElem?
        intro j
        by_cases hj : j < 8
        · rw [HX.out j hj]; rcases (show j = 0 ∨ j = 1 ∨ j = 2 ∨ j = 3 ∨ j = 4 ∨ j = 5 ∨ j = 6 ∨ j = 7 by omega) with rfl | rfl | rfl | rfl | rfl | rfl | rfl | rfl <;> rfl
        · have := R.out.1
          rw [List.getElem?_eq_none (by omega), List.getElem?_eq_none (by rw [cellsV_len]; simp; omega)]
      rw [← hx]; exact R.out
end Go.Proofs.Ytjomilloilbcgaa
