/- Contracts of laws.big, sameTexts and sameSet of equal ones; the plain law of FnTuned. No condition. -/
import Derived.Test.YtfjafeepmpnegaaDoorSm
import Derived.Test.YtfjafeepmpnegaaDoorCt
import Derived.Test.YtfjafeepmpnegaaDoorRg
namespace Go.Proofs.YtfjafeepmpnegaaDoor
open Go.RowKit
set_option linter.unusedVariables false
set_option linter.unusedSimpArgs false

theorem big_c (A : Option Addr) (n c : Nat) (hn : n ≤ 9223372036854775807) (w : World) : Calls Tryd.prog 15 #[.slice A n c] w (RetBo w (decide (1048576 < n))) := by
  have L := Az.mk (gr_refl w none)
  go_enter Tryd.func15, Tryd.ntmps15
  go_wp2_with fail
  go_ret
  refine ⟨?_, L.out⟩
  have : decide ((1048576 : Int) < (n : Int)) = decide (1048576 < n) := by simp; omega
  rw [← this]; rfl
set_option maxHeartbeats 1000000 in
theorem sameTexts_ok (A A' : Option Addr) (n c c' : Nat) (xs : List Tx) (w : World) (hn : xs.length = n) (hrd : Rd w A n 1 (stV xs)) (hrd' : Rd w A' n 1 (stV xs)) :
    Calls Tryd.prog 32 #[.slice A n c, .slice A' n c'] w (RetBo w true) := by
  have L := Az.mk (gr_refl w none)
  have HR := Az.mk hrd
  have HR' := Az.mk hrd'
  have HN := Az.mk hn
  have hmax := hrd.max
  clear hrd hrd' hn
  go_enter Tryd.func32, Tryd.ntmps32
  go_wp2_with fail
  go_loopw [5] (fun i wr => ∃ k : Nat, i = .int .i64 k ∧ k ≤ n ∧ Az (w.grownBy wr none)) (fun i _ => n - (intOf i).toNat)
  case atStart => exact ⟨0, by go_num, by omega, L⟩
  case round =>
    clear L
    obtain ⟨k, rfl, hkn, L⟩ := hrel
    by_cases hk : k < n
    · obtain ⟨t, ht⟩ : ∃ t, xs[k]? = some t := ⟨_, List.getElem?_eq_getElem (by rw [HN.out]; exact hk)⟩
      obtain ⟨b, off, rfl, hcell⟩ := (HR.out.up L.out).2.2 (by omega)
      obtain ⟨b', off', rfl, hcell'⟩ := (HR'.out.up L.out).2.2 (by omega)
      have d0 := hcell _ _ (stV_get ht)
      have d1 := hcell' _ _ (stV_get ht)
      clear hcell hcell' ht
      go_wp2_with fail
      have v0 : ∀ w1, Up wr w1 → w1.cell? ⟨b, off + k, none⟩ = some (.string (tx t)) := fun w1 hu => cellGr hu d0 (by simp)
      have v1 : ∀ w1, Up wr w1 → w1.cell? ⟨b', off' + k, none⟩ = some (.string (tx t)) := fun w1 hu => cellGr hu d1 (by simp)
      refine wp_region_relF (fun _ _ _ _ => True) (by kernel_rfl) (by kernel_rfl) ?_
      repeat (first | (refine lex_val' rfl ?_; apply Exists.intro; refine ⟨fun w1 hu => ?_, ?_⟩; (focus (first | (go_simp; done) | (go_simp; rfl))); refine lexK (fun K hK => ?_); go_simp; refine hK _ ?_; clear hK K))
      refine lex_nil (fun W1 h hF => ?_)
      have h0 : World.grownBy wr W1 none := (by refine World.grownBy.trans ?_ h; repeat (first | exact gr_refl _ _ | apply gr_drewN | apply gr_drew | apply gr_alloc))
      have L_ := Az.mk (gr_new L.out h0 (by first | (simp; done) | (simp; omega) | omega))
      clear L
      have L := L_; clear L_
      clear h0 h
      clear hF
      clear v0 v1 d0 d1
      go_wp2_with fail
      exact ⟨⟨k + 1, by go_num, by omega, L⟩, by simp only [intOf]; omega⟩
    · go_wp2_with fail
      go_ret
      exact ⟨rfl, L.out⟩
set_option maxRecDepth 8000 in
set_option maxHeartbeats 2000000 in
theorem sameSet_ok (s : SetV) (A A' : Option Addr) (n c c' : Nat) (w : World) (hn : s.log.length = n) (hrd : Rd w A n 1 (stV s.log)) (hrd' : Rd w A' n 1 (stV s.log)) :
    Calls Tryd.prog 19 #[.agg (s.cs (.slice A n c)), .agg (s.cs (.slice A' n c'))] w (RetBo w true) := by
  have L := Az.mk (gr_refl w none)
  have HR := Az.mk hrd
  have HR' := Az.mk hrd'
  have HN := Az.mk hn
  clear hrd hrd' hn
  unfold SetV.cs
  go_enter Tryd.func19, Tryd.ntmps19
  go_wp2_with (first | ((with_reducible refine gateN 2 rfl ?_); go_must (refine ev_al 2 rfl rfl #[.int .i64 s.cells, .int .i64 s.rows, .float .f32 s.sl, .float .f32 s.le, .float .f32 s.sa, .slice A n c] 28 ?hr ?_; (case hr => first | (go_simp; done) | (go_simp; rfl)); intro gB heB W1 hbB h; have hgB : w.heap.size ≤ gB := Nat.le_trans L.out.size heB; clear heB; have h0 : World.grownBy w W1 none := (by refine World.grownBy.trans ?_ h; repeat (first | exact gr_refl _ _ | apply gr_drewN | apply gr_drew | apply gr_alloc)); have L_ := Az.mk (gr_new L.out h0 (by first | (simp; done) | (simp; omega) | omega)); clear L; have L := L_; clear L_; clear h0 h; have B := Az.mk hbB; clear hbB; have cB0 : World.cell? W1 ⟨gB, 0, none⟩ = some (.int .i64 s.cells) := blkCell B.out 0; have cB1 : World.cell? W1 ⟨gB, 1, none⟩ = some (.int .i64 s.rows) := blkCell B.out 1; have cB2 : World.cell? W1 ⟨gB, 2, none⟩ = some (.float .f32 s.sl) := blkCell B.out 2; have cB3 : World.cell? W1 ⟨gB, 3, none⟩ = some (.float .f32 s.le) := blkCell B.out 3; have cB4 : World.cell? W1 ⟨gB, 4, none⟩ = some (.float .f32 s.sa) := blkCell B.out 4; have cB5 : World.cell? W1 ⟨gB, 5, none⟩ = some (.slice A n c) := blkCell B.out 5)) | ((with_reducible refine gateN 3 rfl ?_); go_must (refine ev_al 3 rfl rfl #[.int .i64 s.cells, .int .i64 s.rows, .float .f32 s.sl, .float .f32 s.le, .float .f32 s.sa, .slice A' n c'] 28 ?hr ?_; (case hr => first | (go_simp; done) | (go_simp; rfl)); intro gD heD W2 hbD h; have hgD : w.heap.size ≤ gD := Nat.le_trans L.out.size heD; have hgDB : gB < gD := Nat.lt_of_lt_of_le (blkLt B.out) heD; clear heD; have h0 : World.grownBy W1 W2 none := (by refine World.grownBy.trans ?_ h; repeat (first | exact gr_refl _ _ | apply gr_drewN | apply gr_drew | apply gr_alloc)); clear cB0 cB1 cB2 cB3 cB4 cB5; have L_ := Az.mk (gr_new L.out h0 (by first | (simp; done) | (simp; omega) | omega)); have B_ := Az.mk (blkGr B.out h0 (by first | (simp; done) | (simp; omega) | omega)); clear L B; have L := L_; clear L_; have B := B_; clear B_; clear h0 h; have D := Az.mk hbD; clear hbD; have cB0 : World.cell? W2 ⟨gB, 0, none⟩ = some (.int .i64 s.cells) := blkCell B.out 0; have cB1 : World.cell? W2 ⟨gB, 1, none⟩ = some (.int .i64 s.rows) := blkCell B.out 1; have cB2 : World.cell? W2 ⟨gB, 2, none⟩ = some (.float .f32 s.sl) := blkCell B.out 2; have cB3 : World.cell? W2 ⟨gB, 3, none⟩ = some (.float .f32 s.le) := blkCell B.out 3; have cB4 : World.cell? W2 ⟨gB, 4, none⟩ = some (.float .f32 s.sa) := blkCell B.out 4; have cB5 : World.cell? W2 ⟨gB, 5, none⟩ = some (.slice A n c) := blkCell B.out 5; have cD0 : World.cell? W2 ⟨gD, 0, none⟩ = some (.int .i64 s.cells) := blkCell D.out 0; have cD1 : World.cell? W2 ⟨gD, 1, none⟩ = some (.int .i64 s.rows) := blkCell D.out 1; have cD2 : World.cell? W2 ⟨gD, 2, none⟩ = some (.float .f32 s.sl) := blkCell D.out 2; have cD3 : World.cell? W2 ⟨gD, 3, none⟩ = some (.float .f32 s.le) := blkCell D.out 3; have cD4 : World.cell? W2 ⟨gD, 4, none⟩ = some (.float .f32 s.sa) := blkCell D.out 4; have cD5 : World.cell? W2 ⟨gD, 5, none⟩ = some (.slice A' n c') := blkCell D.out 5)))
  refine (same32_self s.sl _).mono ?_
  rintro e w1 ⟨rfl, h⟩
  have h0 : World.grownBy W2 w1 _ := (by refine World.grownBy.trans ?_ h; repeat (first | exact gr_refl _ _ | apply gr_drewN | apply gr_drew | apply gr_alloc))
  clear cB0 cB1 cB2 cB3 cB4 cB5 cD0 cD1 cD2 cD3 cD4 cD5
  have L_ := Az.mk (gr_new L.out h0 (by first | (simp; done) | (simp; omega) | omega))
  have B_ := Az.mk (blkGr B.out h0 (by first | (simp; done) | (simp; omega) | omega))
  have D_ := Az.mk (blkGr D.out h0 (by first | (simp; done) | (simp; omega) | omega))
  clear L B D
  have L := L_; clear L_
  have B := B_; clear B_
  have D := D_; clear D_
  clear h0 h
  have cB0 : World.cell? w1 ⟨gB, 0, none⟩ = some (.int .i64 s.cells) := blkCell B.out 0
  have cB1 : World.cell? w1 ⟨gB, 1, none⟩ = some (.int .i64 s.rows) := blkCell B.out 1
  have cB2 : World.cell? w1 ⟨gB, 2, none⟩ = some (.float .f32 s.sl) := blkCell B.out 2
  have cB3 : World.cell? w1 ⟨gB, 3, none⟩ = some (.float .f32 s.le) := blkCell B.out 3
  have cB4 : World.cell? w1 ⟨gB, 4, none⟩ = some (.float .f32 s.sa) := blkCell B.out 4
  have cB5 : World.cell? w1 ⟨gB, 5, none⟩ = some (.slice A n c) := blkCell B.out 5
  have cD0 : World.cell? w1 ⟨gD, 0, none⟩ = some (.int .i64 s.cells) := blkCell D.out 0
  have cD1 : World.cell? w1 ⟨gD, 1, none⟩ = some (.int .i64 s.rows) := blkCell D.out 1
  have cD2 : World.cell? w1 ⟨gD, 2, none⟩ = some (.float .f32 s.sl) := blkCell D.out 2
  have cD3 : World.cell? w1 ⟨gD, 3, none⟩ = some (.float .f32 s.le) := blkCell D.out 3
  have cD4 : World.cell? w1 ⟨gD, 4, none⟩ = some (.float .f32 s.sa) := blkCell D.out 4
  have cD5 : World.cell? w1 ⟨gD, 5, none⟩ = some (.slice A' n c') := blkCell D.out 5
  go_wp2_with fail
  refine (same32_self s.le _).mono ?_
  rintro e w2 ⟨rfl, h⟩
  have h0 : World.grownBy w1 w2 _ := (by refine World.grownBy.trans ?_ h; repeat (first | exact gr_refl _ _ | apply gr_drewN | apply gr_drew | apply gr_alloc))
  clear cB0 cB1 cB2 cB3 cB4 cB5 cD0 cD1 cD2 cD3 cD4 cD5
  have L_ := Az.mk (gr_new L.out h0 (by first | (simp; done) | (simp; omega) | omega))
  have B_ := Az.mk (blkGr B.out h0 (by first | (simp; done) | (simp; omega) | omega))
  have D_ := Az.mk (blkGr D.out h0 (by first | (simp; done) | (simp; omega) | omega))
  clear L B D
  have L := L_; clear L_
  have B := B_; clear B_
  have D := D_; clear D_
  clear h0 h
  have cB0 : World.cell? w2 ⟨gB, 0, none⟩ = some (.int .i64 s.cells) := blkCell B.out 0
  have cB1 : World.cell? w2 ⟨gB, 1, none⟩ = some (.int .i64 s.rows) := blkCell B.out 1
  have cB2 : World.cell? w2 ⟨gB, 2, none⟩ = some (.float .f32 s.sl) := blkCell B.out 2
  have cB3 : World.cell? w2 ⟨gB, 3, none⟩ = some (.float .f32 s.le) := blkCell B.out 3
  have cB4 : World.cell? w2 ⟨gB, 4, none⟩ = some (.float .f32 s.sa) := blkCell B.out 4
  have cB5 : World.cell? w2 ⟨gB, 5, none⟩ = some (.slice A n c) := blkCell B.out 5
  have cD0 : World.cell? w2 ⟨gD, 0, none⟩ = some (.int .i64 s.cells) := blkCell D.out 0
  have cD1 : World.cell? w2 ⟨gD, 1, none⟩ = some (.int .i64 s.rows) := blkCell D.out 1
  have cD2 : World.cell? w2 ⟨gD, 2, none⟩ = some (.float .f32 s.sl) := blkCell D.out 2
  have cD3 : World.cell? w2 ⟨gD, 3, none⟩ = some (.float .f32 s.le) := blkCell D.out 3
  have cD4 : World.cell? w2 ⟨gD, 4, none⟩ = some (.float .f32 s.sa) := blkCell D.out 4
  have cD5 : World.cell? w2 ⟨gD, 5, none⟩ = some (.slice A' n c') := blkCell D.out 5
  go_wp2_with fail
  refine (same32_self s.sa _).mono ?_
  rintro e w3 ⟨rfl, h⟩
  have h0 : World.grownBy w2 w3 _ := (by refine World.grownBy.trans ?_ h; repeat (first | exact gr_refl _ _ | apply gr_drewN | apply gr_drew | apply gr_alloc))
  clear cB0 cB1 cB2 cB3 cB4 cB5 cD0 cD1 cD2 cD3 cD4 cD5
  have L_ := Az.mk (gr_new L.out h0 (by first | (simp; done) | (simp; omega) | omega))
  have B_ := Az.mk (blkGr B.out h0 (by first | (simp; done) | (simp; omega) | omega))
  have D_ := Az.mk (blkGr D.out h0 (by first | (simp; done) | (simp; omega) | omega))
  clear L B D
  have L := L_; clear L_
  have B := B_; clear B_
  have D := D_; clear D_
  clear h0 h
  have cB0 : World.cell? w3 ⟨gB, 0, none⟩ = some (.int .i64 s.cells) := blkCell B.out 0
  have cB1 : World.cell? w3 ⟨gB, 1, none⟩ = some (.int .i64 s.rows) := blkCell B.out 1
  have cB2 : World.cell? w3 ⟨gB, 2, none⟩ = some (.float .f32 s.sl) := blkCell B.out 2
  have cB3 : World.cell? w3 ⟨gB, 3, none⟩ = some (.float .f32 s.le) := blkCell B.out 3
  have cB4 : World.cell? w3 ⟨gB, 4, none⟩ = some (.float .f32 s.sa) := blkCell B.out 4
  have cB5 : World.cell? w3 ⟨gB, 5, none⟩ = some (.slice A n c) := blkCell B.out 5
  have cD0 : World.cell? w3 ⟨gD, 0, none⟩ = some (.int .i64 s.cells) := blkCell D.out 0
  have cD1 : World.cell? w3 ⟨gD, 1, none⟩ = some (.int .i64 s.rows) := blkCell D.out 1
  have cD2 : World.cell? w3 ⟨gD, 2, none⟩ = some (.float .f32 s.sl) := blkCell D.out 2
  have cD3 : World.cell? w3 ⟨gD, 3, none⟩ = some (.float .f32 s.le) := blkCell D.out 3
  have cD4 : World.cell? w3 ⟨gD, 4, none⟩ = some (.float .f32 s.sa) := blkCell D.out 4
  have cD5 : World.cell? w3 ⟨gD, 5, none⟩ = some (.slice A' n c') := blkCell D.out 5
  go_wp2_with fail
  refine (sameTexts_ok A A' n c c' s.log _ HN.out (HR.out.up L.out) (HR'.out.up L.out)).mono ?_
  rintro e w4 ⟨rfl, h⟩
  have h0 : World.grownBy w3 w4 _ := (by refine World.grownBy.trans ?_ h; repeat (first | exact gr_refl _ _ | apply gr_drewN | apply gr_drew | apply gr_alloc))
  clear cB0 cB1 cB2 cB3 cB4 cB5 cD0 cD1 cD2 cD3 cD4 cD5
  have L_ := Az.mk (gr_new L.out h0 (by first | (simp; done) | (simp; omega) | omega))
  have B_ := Az.mk (blkGr B.out h0 (by first | (simp; done) | (simp; omega) | omega))
  have D_ := Az.mk (blkGr D.out h0 (by first | (simp; done) | (simp; omega) | omega))
  clear L B D
  have L := L_; clear L_
  have B := B_; clear B_
  have D := D_; clear D_
  clear h0 h
  have cB0 : World.cell? w4 ⟨gB, 0, none⟩ = some (.int .i64 s.cells) := blkCell B.out 0
  have cB1 : World.cell? w4 ⟨gB, 1, none⟩ = some (.int .i64 s.rows) := blkCell B.out 1
  have cB2 : World.cell? w4 ⟨gB, 2, none⟩ = some (.float .f32 s.sl) := blkCell B.out 2
  have cB3 : World.cell? w4 ⟨gB, 3, none⟩ = some (.float .f32 s.le) := blkCell B.out 3
  have cB4 : World.cell? w4 ⟨gB, 4, none⟩ = some (.float .f32 s.sa) := blkCell B.out 4
  have cB5 : World.cell? w4 ⟨gB, 5, none⟩ = some (.slice A n c) := blkCell B.out 5
  have cD0 : World.cell? w4 ⟨gD, 0, none⟩ = some (.int .i64 s.cells) := blkCell D.out 0
  have cD1 : World.cell? w4 ⟨gD, 1, none⟩ = some (.int .i64 s.rows) := blkCell D.out 1
  have cD2 : World.cell? w4 ⟨gD, 2, none⟩ = some (.float .f32 s.sl) := blkCell D.out 2
  have cD3 : World.cell? w4 ⟨gD, 3, none⟩ = some (.float .f32 s.le) := blkCell D.out 3
  have cD4 : World.cell? w4 ⟨gD, 4, none⟩ = some (.float .f32 s.sa) := blkCell D.out 4
  have cD5 : World.cell? w4 ⟨gD, 5, none⟩ = some (.slice A' n c') := blkCell D.out 5
  go_wp2_with fail
  go_ret
  exact ⟨rfl, L.out⟩
/-! ### the plain law -/
theorem doneM_log {s u : SetV} {f : List Tx} (h : doneM s f = some u) : u.log = s.log := by
  match f, h with
  | [a, b], hd =>
    rw [show doneM s [a, b] = (parseM b).bind (partM s a) from rfl] at hd
    cases hp : parseM b with
    | none => rw [hp] at hd; cases hd
    | some n =>
      rw [hp] at hd
      have hd' : partM s a n = some u := hd
      unfold partM at hd'
      split at hd'
      · injection hd' with hd'; subst hd'; rfl
      · split at hd'
        · injection hd' with hd'; subst hd'; rfl
        · split at hd'
          · injection hd' with hd'; subst hd'; rfl
          · cases hd'
  | [a, b, c], hd =>
    rw [show doneM s [a, b, c] = (if a = wSize then sizeM s (uintM b) (uintM c) else none) from rfl] at hd
    split at hd
    · cases h1 : uintM b with
      | none => rw [h1] at hd; cases hd
      | some x =>
        cases h2 : uintM c with
        | none => rw [h1, h2] at hd; cases hd
        | some y => rw [h1, h2] at hd; have hd' : some ({ s with cells := x, rows := y } : SetV) = some u := hd; injection hd' with hd'; subst hd'; rfl
    · cases hd
  | [], hd => cases hd
  | [_], hd => cases hd
  | _ :: _ :: _ :: _ :: _, hd => cases hd
/-- What a command that is done is. -/
theorem tuneM_some {s t : SetV} {l : Tx} (h : tuneM s l = some t) : ∃ f u, fieldsM l = some f ∧ doneM s f = some u ∧ setOkM u = true ∧ t = { u with log := s.log ++ [Lib.join f [32]] } ∧ setOkM s = true ∧ s.log.length < 100 := by
  unfold tuneM at h
  split at h
  · rename_i hok
    cases hf : fieldsM l with
    | none => rw [hf] at h; cases h
    | some f =>
      rw [hf] at h
      simp only [Option.bind_some] at h
      cases hd : doneM s f with
      | none => rw [hd] at h; cases h
      | some u =>
        rw [hd] at h
        simp only [Option.bind_some] at h
        split at h
        · rename_i hu
          injection h with h
          exact ⟨f, u, rfl, hd, hu, by rw [← h, doneM_log hd], hok.1, hok.2⟩
        · cases h
  · cases h
theorem tuneM_again {s t : SetV} {l : Tx} (h : tuneM s l = some t) : ∃ j, t.log = s.log ++ [j] ∧ tuneM s j = some t ∧ j.length ≤ 600 := by
  obtain ⟨f, u, hf, hd, hu, rfl, hs, hl⟩ := tuneM_some h
  have hj := fieldsM_join hf
  refine ⟨_, rfl, ?_, (fieldsM_some hj).2.1⟩
  unfold tuneM
  rw [if_pos ⟨hs, hl⟩, hj]
  simp only [Option.bind_some]
  rw [hd]
  simp only [Option.bind_some]
  rw [if_pos hu, doneM_log hd]
theorem setOkM_log {u : SetV} {g : List Tx} (h : setOkM u = true) (hg : g.length ≤ 100) : setOkM { u with log := g } = true := by
  simp only [setOkM, Bool.and_eq_true, decide_eq_true_eq] at h ⊢
  exact ⟨h.1, h.2.1, h.2.2.1, h.2.2.2.1, h.2.2.2.2.1, h.2.2.2.2.2.1, h.2.2.2.2.2.2.1, h.2.2.2.2.2.2.2.1, hg⟩
/-- A set that came of commands from a new one. -/
def Came (x y : Int) (s : SetV) : Prop := setOkM s = true ∧ retuneM x y s.log = some s ∧ (∀ t ∈ s.log, t.length ≤ 600)
theorem Came.new {x y : Int} (h : setOkM (freshS x y) = true) : Came x y (freshS x y) := ⟨h, by show newM x y = _; rw [newM, if_pos h], fun t ht => by simp [freshS] at ht⟩
theorem Came.step {x y : Int} {s t : SetV} {l : Tx} (h : Came x y s) (ht : tuneM s l = some t) : Came x y t := by
  obtain ⟨j, h1, h2, h3⟩ := tuneM_again ht
  refine ⟨?_, ?_, ?_⟩
  · obtain ⟨f, u, hf, hd, hu, rfl, hs, hl⟩ := tuneM_some ht
    exact setOkM_log hu (by simp; omega)
  · rw [h1]
    unfold retuneM
    rw [List.foldl_append]
    have := h.2.1
    unfold retuneM at this
    rw [this]
    exact h2
  · rw [h1]; intro z hz
    rcases List.mem_append.1 hz with hz | hz
    · exact h.2.2 z hz
    · rw [List.mem_singleton.1 hz]; exact h3
def trues (bs : List Bool) : Nat := (bs.filter id).length
theorem trues_snoc (bs : List Bool) (b : Bool) : trues (bs ++ [b]) = trues bs + (if b then 1 else 0) := by
  unfold trues; rw [List.filter_append, List.length_append]; cases b <;> rfl
theorem all_came {x y : Int} (ls : List Tx) (p : SetV × List Bool) (h : Came x y p.1) : Came x y (ls.foldl stepM p).1 ∧ (ls.foldl stepM p).1.log.length + trues p.2 = p.1.log.length + trues (ls.foldl stepM p).2 := by
  induction ls generalizing p with
  | nil => exact ⟨h, rfl⟩
  | cons l ls ih =>
    rw [List.foldl_cons]
    cases ht : tuneM p.1 l with
    | none =>
      have e : stepM p l = (p.1, p.2 ++ [false]) := by rw [stepM, ht]; rfl
      rw [e]
      have := ih (p.1, p.2 ++ [false]) h
      refine ⟨this.1, ?_⟩
      have h2 := this.2
      rw [trues_snoc] at h2
      simpa using h2
    | some t =>
      have e : stepM p l = (t, p.2 ++ [true]) := by rw [stepM, ht]; rfl
      rw [e]
      have := ih (t, p.2 ++ [true]) (h.step ht)
      refine ⟨this.1, ?_⟩
      obtain ⟨j, hj, _⟩ := tuneM_again ht
      have h2 := this.2
      rw [trues_snoc, hj] at h2
      simp at h2; omega
theorem all_bad (ls : List Tx) (p : SetV × List Bool) (h : setOkM p.1 = false) : (ls.foldl stepM p).1 = p.1 ∧ trues (ls.foldl stepM p).2 = trues p.2 := by
  induction ls generalizing p with
  | nil => exact ⟨rfl, rfl⟩
  | cons l ls ih =>
    rw [List.foldl_cons]
    have ht : tuneM p.1 l = none := by rw [tuneM, if_neg (fun hh => by rw [h] at hh; cases hh.1)]
    have e : stepM p l = (p.1, p.2 ++ [false]) := by rw [stepM, ht]; rfl
    rw [e]
    have := ih (p.1, p.2 ++ [false]) h
    exact ⟨this.1, by rw [this.2, trues_snoc]; rfl⟩
theorem zero_bad : setOkM zeroS = false := by decide +kernel
end Go.Proofs.YtfjafeepmpnegaaDoor
