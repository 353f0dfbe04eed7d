/- Contracts of impl.TuneAll, Retune. Condition: the library's table and variable are there. -/
import Derived.Test.YtfjafeepmpnegaaDoorSi
namespace Go.Proofs.YtfjafeepmpnegaaDoor
open Go.RowKit
set_option linter.unusedVariables false
set_option linter.unusedSimpArgs false

def stepM (p : SetV × List Bool) (l : Tx) : SetV × List Bool := ((tuneM p.1 l).getD p.1, p.2 ++ [(tuneM p.1 l).isSome])
def allM (s : SetV) (ls : List Tx) : SetV × List Bool := ls.foldl stepM (s, [])
theorem allM_take (s : SetV) (ls : List Tx) (k : Nat) (t : Tx) (h : ls[k]? = some t) : allM s (ls.take (k + 1)) = stepM (allM s (ls.take k)) t := by
  unfold allM
  rw [List.take_add_one, h, List.foldl_append]; rfl
theorem allM_len (s : SetV) (ls : List Tx) : (allM s ls).2.length = ls.length := by
  have key : ∀ (ls : List Tx) (p : SetV × List Bool), (ls.foldl stepM p).2.length = p.2.length + ls.length := by
    intro ls
    induction ls with
    | nil => intro p; simp
    | cons l ls ih => intro p; rw [List.foldl_cons, ih]; simp [stepM]; omega
  rw [allM, key]; simp
def boV (bs : List Bool) : List Value := bs.map .bool
theorem boV_snoc (bs : List Bool) (b : Bool) : boV (bs ++ [b]) = boV bs ++ [.bool b] := by simp [boV]
theorem tuneM_log {s t : SetV} {l : Tx} (h : tuneM s l = some t) : t.log.length ≤ s.log.length + 1 := by
  unfold tuneM at h
  split at h
  · cases hf : fieldsM l with
    | none => rw [hf] at h; cases h
    | some f =>
      rw [hf] at h
      simp only [Option.bind_some] at h
      cases hd : doneM s f with
      | none => rw [hd] at h; cases h
      | some u =>
        rw [hd] at h
        simp only [Option.bind_some] at h
        split at h
        · injection h with h; subst h
          have : u.log = s.log := by
            match f, hd with
            | [a, b], hd =>
              rw [show doneM s [a, b] = (parseM b).bind (partM s a) from rfl] at hd
              cases hp : parseM b with
              | none => rw [hp] at hd; cases hd
              | some n =>
                rw [hp] at hd
                have hd' : partM s a n = some u := hd
                unfold partM at hd'
                split at hd'
                · injection hd' with hd'; subst hd'; rfl
                · split at hd'
                  · injection hd' with hd'; subst hd'; rfl
                  · split at hd'
                    · injection hd' with hd'; subst hd'; rfl
                    · cases hd'
            | [a, b, c], hd =>
              rw [show doneM s [a, b, c] = (if a = wSize then sizeM s (uintM b) (uintM c) else none) from rfl] at hd
              split at hd
              · cases h1 : uintM b with
                | none => rw [h1] at hd; cases hd
                | some x =>
                  cases h2 : uintM c with
                  | none => rw [h1, h2] at hd; cases hd
                  | some y => rw [h1, h2] at hd; have hd' : some ({ s with cells := x, rows := y } : SetV) = some u := hd; injection hd' with hd'; subst hd'; rfl
              · cases hd
            | [], hd => cases hd
            | [_], hd => cases hd
            | _ :: _ :: _ :: _ :: _, hd => cases hd
          simp [this]
        · cases h
  · cases h
theorem tuneD_log (s : SetV) (l : Tx) : ((tuneM s l).getD s).log.length ≤ s.log.length + 1 := by
  cases h : tuneM s l with
  | none => simp
  | some t => exact tuneM_log h
def RetAll (w : World) (p : SetV × List Bool) (e : Ending) (w' : World) : Prop :=
  ∃ v vb, e = .returned (.tuple #[.agg (p.1.cs v), vb]) ∧ w'.ownsRow w.heap.size 9 1 v p.1.log.length (stV p.1.log) ∧ w'.ownsRow w.heap.size 4 1 vb p.2.length (boV p.2) ∧ w.grownBy w' none
set_option maxRecDepth 8000 in
set_option maxHeartbeats 8000000 in
theorem TuneAll_c (s : SetV) (A : Option Addr) (n c : Nat) (AL : Option Addr) (m cL : Nat) (ls : List Tx) (hs : n ≤ 100000000) (hm : m ≤ 100000000) (hl : ∀ t ∈ ls, t.length ≤ 140737488355328) (w : World) (hE : Env w) (hrd : Sl w A n c s.log) (hrl : Sl w AL m cL ls) :
    Calls Tryd.prog 17 #[.agg (s.cs (.slice A n c)), .slice AL m cL] w (RetAll w (allM s ls)) := by
  have L := Az.mk (gr_refl w none)
  have HE := Az.mk hE
  have HR := Az.mk hrd
  have HRL := Az.mk hrl
  have HML := Az.mk hrl.len
  have HL := Az.mk hl
  have hsl : s.log.length ≤ 100000000 := by have := hrd.len; omega
  clear hE hrd hrl hl
  unfold SetV.cs
  go_enter Tryd.func17, Tryd.ntmps17
  go_wp2_with (first | ((with_reducible refine gateN 2 rfl ?_); go_must (refine ev_al 2 rfl rfl #[.int .i64 s.cells, .int .i64 s.rows, .float .f32 s.sl, .float .f32 s.le, .float .f32 s.sa, .slice A n c] 28 ?hr ?_; (case hr => first | (go_simp; done) | (go_simp; rfl)); intro gB heB W1 hbB h; have hgB : w.heap.size ≤ gB := Nat.le_trans L.out.size heB; clear heB; have h0 : World.grownBy w W1 none := (by refine World.grownBy.trans ?_ h; repeat (first | exact gr_refl _ _ | apply gr_drewN | apply gr_drew | apply gr_alloc)); have L_ := Az.mk (gr_new L.out h0 (by first | (simp; done) | (simp; omega) | omega)); clear L; have L := L_; clear L_; clear h0 h; have B := Az.mk hbB; clear hbB; have cB0 : World.cell? W1 ⟨gB, 0, none⟩ = some (.int .i64 s.cells) := blkCell B.out 0; have cB1 : World.cell? W1 ⟨gB, 1, none⟩ = some (.int .i64 s.rows) := blkCell B.out 1; have cB2 : World.cell? W1 ⟨gB, 2, none⟩ = some (.float .f32 s.sl) := blkCell B.out 2; have cB3 : World.cell? W1 ⟨gB, 3, none⟩ = some (.float .f32 s.le) := blkCell B.out 3; have cB4 : World.cell? W1 ⟨gB, 4, none⟩ = some (.float .f32 s.sa) := blkCell B.out 4; have cB5 : World.cell? W1 ⟨gB, 5, none⟩ = some (.slice A n c) := blkCell B.out 5)) | ((with_reducible refine gateN 4 rfl ?_); go_must (refine ev_al 4 rfl rfl #[.int .i64 0, .int .i64 0, .float .f32 0, .float .f32 0, .float .f32 0, .slice none 0 0] 28 ?hr ?_; (case hr => first | (go_simp; done) | (go_simp; rfl)); intro gZ heZ W2 hbZ h; have hgZ : w.heap.size ≤ gZ := Nat.le_trans L.out.size heZ; have hgZB : gB < gZ := Nat.lt_of_lt_of_le (blkLt B.out) heZ; clear heZ; have h0 : World.grownBy W1 W2 none := (by refine World.grownBy.trans ?_ h; repeat (first | exact gr_refl _ _ | apply gr_drewN | apply gr_drew | apply gr_alloc)); clear cB0 cB1 cB2 cB3 cB4 cB5; have L_ := Az.mk (gr_new L.out h0 (by first | (simp; done) | (simp; omega) | omega)); have B_ := Az.mk (blkGr B.out h0 (by first | (simp; done) | (simp; omega) | omega)); clear L B; have L := L_; clear L_; have B := B_; clear B_; clear h0 h; have Z := Az.mk hbZ; clear hbZ; have cB0 : World.cell? W2 ⟨gB, 0, none⟩ = some (.int .i64 s.cells) := blkCell B.out 0; have cB1 : World.cell? W2 ⟨gB, 1, none⟩ = some (.int .i64 s.rows) := blkCell B.out 1; have cB2 : World.cell? W2 ⟨gB, 2, none⟩ = some (.float .f32 s.sl) := blkCell B.out 2; have cB3 : World.cell? W2 ⟨gB, 3, none⟩ = some (.float .f32 s.le) := blkCell B.out 3; have cB4 : World.cell? W2 ⟨gB, 4, none⟩ = some (.float .f32 s.sa) := blkCell B.out 4; have cB5 : World.cell? W2 ⟨gB, 5, none⟩ = some (.slice A n c) := blkCell B.out 5; have cZ0 : World.cell? W2 ⟨gZ, 0, none⟩ = some (.int .i64 0) := blkCell Z.out 0; have cZ1 : World.cell? W2 ⟨gZ, 1, none⟩ = some (.int .i64 0) := blkCell Z.out 1; have cZ2 : World.cell? W2 ⟨gZ, 2, none⟩ = some (.float .f32 0) := blkCell Z.out 2; have cZ3 : World.cell? W2 ⟨gZ, 3, none⟩ = some (.float .f32 0) := blkCell Z.out 3; have cZ4 : World.cell? W2 ⟨gZ, 4, none⟩ = some (.float .f32 0) := blkCell Z.out 4; have cZ5 : World.cell? W2 ⟨gZ, 5, none⟩ = some (.slice none 0 0) := blkCell Z.out 5)) | ((with_reducible refine gateN 11 rfl ?_); go_must (refine ev_ld 11 rfl rfl rfl (cs := #[.int .i64 s.cells, .int .i64 s.rows, .float .f32 s.sl, .float .f32 s.le, .float .f32 s.sa, .slice A n c]) rfl B.out Tryd.underlying28 rfl (by kernel_rfl) ?_)))
  have s1 := L.out.size
  refine (copySet_c s A n c (by omega) _ (HR.out.up L.out)).mono ?_
  rintro e w1 ⟨v1, rfl, hR, h⟩
  have h0 : World.grownBy W2 w1 _ := (by refine World.grownBy.trans ?_ h; repeat (first | exact gr_refl _ _ | apply gr_drewN | apply gr_drew | apply gr_alloc))
  clear cB0 cB1 cB2 cB3 cB4 cB5 cZ0 cZ1 cZ2 cZ3 cZ4 cZ5
  have L_ := Az.mk (gr_new L.out h0 (by first | (simp; done) | (simp; omega) | omega))
  have B_ := Az.mk (blkGr B.out h0 (by first | (simp; done) | (simp; omega) | omega))
  have Z_ := Az.mk (blkGr Z.out h0 (by first | (simp; done) | (simp; omega) | omega))
  clear L B Z
  have L := L_; clear L_
  have B := B_; clear B_
  have Z := Z_; clear Z_
  clear h0 h
  have cB0 : World.cell? w1 ⟨gB, 0, none⟩ = some (.int .i64 s.cells) := blkCell B.out 0
  have cB1 : World.cell? w1 ⟨gB, 1, none⟩ = some (.int .i64 s.rows) := blkCell B.out 1
  have cB2 : World.cell? w1 ⟨gB, 2, none⟩ = some (.float .f32 s.sl) := blkCell B.out 2
  have cB3 : World.cell? w1 ⟨gB, 3, none⟩ = some (.float .f32 s.le) := blkCell B.out 3
  have cB4 : World.cell? w1 ⟨gB, 4, none⟩ = some (.float .f32 s.sa) := blkCell B.out 4
  have cB5 : World.cell? w1 ⟨gB, 5, none⟩ = some (.slice A n c) := blkCell B.out 5
  have cZ0 : World.cell? w1 ⟨gZ, 0, none⟩ = some (.int .i64 0) := blkCell Z.out 0
  have cZ1 : World.cell? w1 ⟨gZ, 1, none⟩ = some (.int .i64 0) := blkCell Z.out 1
  have cZ2 : World.cell? w1 ⟨gZ, 2, none⟩ = some (.float .f32 0) := blkCell Z.out 2
  have cZ3 : World.cell? w1 ⟨gZ, 3, none⟩ = some (.float .f32 0) := blkCell Z.out 3
  have cZ4 : World.cell? w1 ⟨gZ, 4, none⟩ = some (.float .f32 0) := blkCell Z.out 4
  have cZ5 : World.cell? w1 ⟨gZ, 5, none⟩ = some (.slice none 0 0) := blkCell Z.out 5
  have R := Az.mk (own_weak hR s1)
  clear hR
  obtain ⟨A1, c1, rfl, hS1⟩ := own_sl R.out
  clear hS1
  go_wp2_with (first | ((with_reducible refine gateSt 2 rfl ?_); go_must (refine ev_st rfl rfl rfl (cs := #[.int .i64 s.cells, .int .i64 s.rows, .float .f32 s.sl, .float .f32 s.le, .float .f32 s.sa, .slice A1 s.log.length c1]) rfl rfl B.out (by kernel_rfl) rfl (by simp [Value.oneCell']) ?_; intro W3 hbB h; have h0 : World.grownBy w1 W3 (some gB) := (by refine World.grownBy.trans ?_ h; repeat (first | exact gr_refl _ _ | apply gr_drewN | apply gr_drew | apply gr_alloc)); clear cB0 cB1 cB2 cB3 cB4 cB5 cZ0 cZ1 cZ2 cZ3 cZ4 cZ5; have L_ := Az.mk (gr_new L.out h0 (by first | (simp; done) | (simp; omega) | omega)); have Z_ := Az.mk (blkGr Z.out h0 (by first | (simp; done) | (simp; omega) | omega)); have R_ := Az.mk (own_gr R.out h0 (by first | exact own_none _ | exact .inr hlBR.out | exact .inr (own_blk R.out B.out (by decide)) | exact .inr (own_blk R.out Z.out (by decide)))); clear L Z R; have L := L_; clear L_; have Z := Z_; clear Z_; have R := R_; clear R_; clear h0 h; clear B; have B := Az.mk hbB; clear hbB; have cB0 : World.cell? W3 ⟨gB, 0, none⟩ = some (.int .i64 s.cells) := blkCell B.out 0; have cB1 : World.cell? W3 ⟨gB, 1, none⟩ = some (.int .i64 s.rows) := blkCell B.out 1; have cB2 : World.cell? W3 ⟨gB, 2, none⟩ = some (.float .f32 s.sl) := blkCell B.out 2; have cB3 : World.cell? W3 ⟨gB, 3, none⟩ = some (.float .f32 s.le) := blkCell B.out 3; have cB4 : World.cell? W3 ⟨gB, 4, none⟩ = some (.float .f32 s.sa) := blkCell B.out 4; have cB5 : World.cell? W3 ⟨gB, 5, none⟩ = some (.slice A1 s.log.length c1) := blkCell B.out 5; have cZ0 : World.cell? W3 ⟨gZ, 0, none⟩ = some (.int .i64 0) := blkCell Z.out 0; have cZ1 : World.cell? W3 ⟨gZ, 1, none⟩ = some (.int .i64 0) := blkCell Z.out 1; have cZ2 : World.cell? W3 ⟨gZ, 2, none⟩ = some (.float .f32 0) := blkCell Z.out 2; have cZ3 : World.cell? W3 ⟨gZ, 3, none⟩ = some (.float .f32 0) := blkCell Z.out 3; have cZ4 : World.cell? W3 ⟨gZ, 4, none⟩ = some (.float .f32 0) := blkCell Z.out 4; have cZ5 : World.cell? W3 ⟨gZ, 5, none⟩ = some (.slice none 0 0) := blkCell Z.out 5)))
  have U := Az.mk (own_nil w1 w.heap.size 4 1)
  have U_ := Az.mk (own_nil W3 w.heap.size 4 1)
  clear U
  have U := U_
  clear U_
  clear cB0 cB1 cB2 cB3 cB4 cB5 cZ0 cZ1 cZ2 cZ3 cZ4 cZ5
  go_loopw [6, 15] (fun z i wr => ∃ p, ∃ k : Nat, ∃ v, i = .int .i64 k ∧ k ≤ m ∧ p.1.log.length ≤ 100000000 + k ∧ p.2.length ≤ 100000000 ∧ Az (p = allM s (ls.take k)) ∧ Az (w.grownBy wr none) ∧ Az (wr.heap[gB]? = some (.cells (p.1.cs v) 28 (0, 0))) ∧ Az (wr.heap[gZ]? = some (.cells #[.int .i64 0, .int .i64 0, .float .f32 0, .float .f32 0, .float .f32 0, .slice none 0 0] 28 (0, 0))) ∧ Az (wr.ownsRow w.heap.size 9 1 v p.1.log.length (stV p.1.log)) ∧ Az (wr.ownsRow w.heap.size 4 1 z p.2.length (boV p.2))) (fun _ i _ => m - (intOf i).toNat)
  case atStart => exact ⟨(s, []), 0, _, by go_num, by omega, by omega, by simp, ⟨by simp [allM]⟩, L, B, Z, R, U⟩
  case round =>
    clear L B Z R U
    obtain ⟨p, k, v, rfl, hk, hpl, hpb, HP, L, B, Z, R, U⟩ := hrel
    obtain ⟨A3, c3, rfl, _⟩ := own_sl R.out
    unfold SetV.cs at B
    have cB0 : World.cell? wr ⟨gB, 0, none⟩ = some (.int .i64 p.1.cells) := blkCell B.out 0
    have cB1 : World.cell? wr ⟨gB, 1, none⟩ = some (.int .i64 p.1.rows) := blkCell B.out 1
    have cB2 : World.cell? wr ⟨gB, 2, none⟩ = some (.float .f32 p.1.sl) := blkCell B.out 2
    have cB3 : World.cell? wr ⟨gB, 3, none⟩ = some (.float .f32 p.1.le) := blkCell B.out 3
    have cB4 : World.cell? wr ⟨gB, 4, none⟩ = some (.float .f32 p.1.sa) := blkCell B.out 4
    have cB5 : World.cell? wr ⟨gB, 5, none⟩ = some (.slice A3 p.1.log.length c3) := blkCell B.out 5
    by_cases hkm : k < m
    · have hki : (k : Int) < m := by omega
      obtain ⟨b, off, rfl, hcell⟩ := HRL.out.1.2.2 (by omega)
      obtain ⟨t, ht⟩ : ∃ t, ls[k]? = some t := ⟨_, List.getElem?_eq_getElem (by rw [HML.out]; exact hkm)⟩
      have HD := Az.mk (hcell k _ (stV_get ht))
      have HTL := Az.mk (HL.out t (List.mem_of_getElem? ht))
      have HK := Az.mk (allM_take s ls k t ht)
      clear hcell ht
      have dl := cellGr L.out HD.out (by simp)
      go_wp2_with (first | ((with_reducible refine gateN 20 rfl ?_); go_must (refine ev_ld 20 rfl rfl rfl (cs := #[.int .i64 p.1.cells, .int .i64 p.1.rows, .float .f32 p.1.sl, .float .f32 p.1.le, .float .f32 p.1.sa, .slice A3 p.1.log.length c3]) rfl B.out Tryd.underlying28 rfl (by kernel_rfl) ?_)))
      have s4 := L.out.size
      refine (Tune_c p.1 A3 p.1.log.length c3 t (by omega) HTL.out _ (HE.out.gr L.out) (own_slS R.out)).mono ?_
      rintro e w2 ⟨v2, rfl, hR2, h⟩
      have h0 : World.grownBy wr w2 _ := (by refine World.grownBy.trans ?_ h; repeat (first | exact gr_refl _ _ | apply gr_drewN | apply gr_drew | apply gr_alloc))
      clear cB0 cB1 cB2 cB3 cB4 cB5 dl
      have L_ := Az.mk (gr_new L.out h0 (by first | (simp; done) | (simp; omega) | omega))
      have B_ := Az.mk (blkGr B.out h0 (by first | (simp; done) | (simp; omega) | omega))
      have Z_ := Az.mk (blkGr Z.out h0 (by first | (simp; done) | (simp; omega) | omega))
      have R_ := Az.mk (own_gr R.out h0 (by first | exact own_none _ | exact .inr hl?R.out | exact .inr (own_blk R.out B.out (by decide)) | exact .inr (own_blk R.out Z.out (by decide))))
      have U_ := Az.mk (own_gr U.out h0 (by first | exact own_none _ | exact .inr hl?U.out | exact .inr (own_blk U.out B.out (by decide)) | exact .inr (own_blk U.out Z.out (by decide))))
      clear L B Z R U
      have L := L_; clear L_
      have B := B_; clear B_
      have Z := Z_; clear Z_
      have R := R_; clear R_
      have U := U_; clear U_
      clear h0 h
      have dl := cellGr L.out HD.out (by simp)
      have cB0 : World.cell? w2 ⟨gB, 0, none⟩ = some (.int .i64 p.1.cells) := blkCell B.out 0
      have cB1 : World.cell? w2 ⟨gB, 1, none⟩ = some (.int .i64 p.1.rows) := blkCell B.out 1
      have cB2 : World.cell? w2 ⟨gB, 2, none⟩ = some (.float .f32 p.1.sl) := blkCell B.out 2
      have cB3 : World.cell? w2 ⟨gB, 3, none⟩ = some (.float .f32 p.1.le) := blkCell B.out 3
      have cB4 : World.cell? w2 ⟨gB, 4, none⟩ = some (.float .f32 p.1.sa) := blkCell B.out 4
      have cB5 : World.cell? w2 ⟨gB, 5, none⟩ = some (.slice A3 p.1.log.length c3) := blkCell B.out 5
      have HST : Az (stepM p t = ((tuneM p.1 t).getD p.1, p.2 ++ [(tuneM p.1 t).isSome])) := ⟨rfl⟩
      have hlog := tuneD_log p.1 t
      obtain ⟨q, hq⟩ : ∃ q, (tuneM p.1 t).getD p.1 = q := ⟨_, rfl⟩
      obtain ⟨ok, hok⟩ : ∃ ok, (tuneM p.1 t).isSome = ok := ⟨_, rfl⟩
      rw [hq] at hR2 hlog HST
      rw [hok] at HST
      rw [hq, hok]
      clear hq hok
      have R2 := Az.mk (own_weak hR2 s4)
      clear hR2 R
      obtain ⟨A5, c5, rfl, _⟩ := own_sl R2.out
      clear dl
      go_wp2_with (first | ((with_reducible refine gateN 9 rfl ?_); go_must (refine ev_al 9 rfl rfl #[.int .i64 0, .int .i64 0, .float .f32 0, .float .f32 0, .float .f32 0, .slice none 0 0] 28 ?hr ?_; (case hr => first | (go_simp; done) | (go_simp; rfl)); intro gX heX W4 hbX h; have hgX : w.heap.size ≤ gX := Nat.le_trans L.out.size heX; have hgXB : gB < gX := Nat.lt_of_lt_of_le (blkLt B.out) heX; have hgXZ : gZ < gX := Nat.lt_of_lt_of_le (blkLt Z.out) heX; have hlXU := Az.mk (own_lows U.out heX); have hlXR2 := Az.mk (own_lows R2.out heX); clear heX; have h0 : World.grownBy w2 W4 none := (by refine World.grownBy.trans ?_ h; repeat (first | exact gr_refl _ _ | apply gr_drewN | apply gr_drew | apply gr_alloc)); clear cB0 cB1 cB2 cB3 cB4 cB5; have L_ := Az.mk (gr_new L.out h0 (by first | (simp; done) | (simp; omega) | omega)); have B_ := Az.mk (blkGr B.out h0 (by first | (simp; done) | (simp; omega) | omega)); have Z_ := Az.mk (blkGr Z.out h0 (by first | (simp; done) | (simp; omega) | omega)); have U_ := Az.mk (own_gr U.out h0 (by first | exact own_none _ | exact .inr hl?U.out | exact .inr (own_blk U.out B.out (by decide)) | exact .inr (own_blk U.out Z.out (by decide)))); have R2_ := Az.mk (own_gr R2.out h0 (by first | exact own_none _ | exact .inr hl?R2.out | exact .inr (own_blk R2.out B.out (by decide)) | exact .inr (own_blk R2.out Z.out (by decide)))); clear L B Z U R2; have L := L_; clear L_; have B := B_; clear B_; have Z := Z_; clear Z_; have U := U_; clear U_; have R2 := R2_; clear R2_; clear h0 h; have X := Az.mk hbX; clear hbX; have cB0 : World.cell? W4 ⟨gB, 0, none⟩ = some (.int .i64 p.1.cells) := blkCell B.out 0; have cB1 : World.cell? W4 ⟨gB, 1, none⟩ = some (.int .i64 p.1.rows) := blkCell B.out 1; have cB2 : World.cell? W4 ⟨gB, 2, none⟩ = some (.float .f32 p.1.sl) := blkCell B.out 2; have cB3 : World.cell? W4 ⟨gB, 3, none⟩ = some (.float .f32 p.1.le) := blkCell B.out 3; have cB4 : World.cell? W4 ⟨gB, 4, none⟩ = some (.float .f32 p.1.sa) := blkCell B.out 4; have cB5 : World.cell? W4 ⟨gB, 5, none⟩ = some (.slice A3 p.1.log.length c3) := blkCell B.out 5; have cX0 : World.cell? W4 ⟨gX, 0, none⟩ = some (.int .i64 0) := blkCell X.out 0; have cX1 : World.cell? W4 ⟨gX, 1, none⟩ = some (.int .i64 0) := blkCell X.out 1; have cX2 : World.cell? W4 ⟨gX, 2, none⟩ = some (.float .f32 0) := blkCell X.out 2; have cX3 : World.cell? W4 ⟨gX, 3, none⟩ = some (.float .f32 0) := blkCell X.out 3; have cX4 : World.cell? W4 ⟨gX, 4, none⟩ = some (.float .f32 0) := blkCell X.out 4; have cX5 : World.cell? W4 ⟨gX, 5, none⟩ = some (.slice none 0 0) := blkCell X.out 5)) | ((with_reducible refine gateSt 9 rfl ?_); go_must (refine ev_st rfl rfl rfl (cs := #[.int .i64 q.cells, .int .i64 q.rows, .float .f32 q.sl, .float .f32 q.le, .float .f32 q.sa, .slice A5 q.log.length c5]) rfl rfl X.out (by kernel_rfl) rfl (by simp [Value.oneCell']) ?_; intro W5 hbX h; have h0 : World.grownBy W4 W5 (some gX) := (by refine World.grownBy.trans ?_ h; repeat (first | exact gr_refl _ _ | apply gr_drewN | apply gr_drew | apply gr_alloc)); clear cB0 cB1 cB2 cB3 cB4 cB5 cX0 cX1 cX2 cX3 cX4 cX5; have L_ := Az.mk (gr_new L.out h0 (by first | (simp; done) | (simp; omega) | omega)); have B_ := Az.mk (blkGr B.out h0 (by first | (simp; done) | (simp; omega) | omega)); have Z_ := Az.mk (blkGr Z.out h0 (by first | (simp; done) | (simp; omega) | omega)); have U_ := Az.mk (own_gr U.out h0 (by first | exact own_none _ | exact .inr hlXU.out | exact .inr (own_blk U.out B.out (by decide)) | exact .inr (own_blk U.out Z.out (by decide)) | exact .inr (own_blk U.out X.out (by decide)))); have R2_ := Az.mk (own_gr R2.out h0 (by first | exact own_none _ | exact .inr hlXR2.out | exact .inr (own_blk R2.out B.out (by decide)) | exact .inr (own_blk R2.out Z.out (by decide)) | exact .inr (own_blk R2.out X.out (by decide)))); clear L B Z U R2; have L := L_; clear L_; have B := B_; clear B_; have Z := Z_; clear Z_; have U := U_; clear U_; have R2 := R2_; clear R2_; clear h0 h; clear X; have X := Az.mk hbX; clear hbX; have cB0 : World.cell? W5 ⟨gB, 0, none⟩ = some (.int .i64 p.1.cells) := blkCell B.out 0; have cB1 : World.cell? W5 ⟨gB, 1, none⟩ = some (.int .i64 p.1.rows) := blkCell B.out 1; have cB2 : World.cell? W5 ⟨gB, 2, none⟩ = some (.float .f32 p.1.sl) := blkCell B.out 2; have cB3 : World.cell? W5 ⟨gB, 3, none⟩ = some (.float .f32 p.1.le) := blkCell B.out 3; have cB4 : World.cell? W5 ⟨gB, 4, none⟩ = some (.float .f32 p.1.sa) := blkCell B.out 4; have cB5 : World.cell? W5 ⟨gB, 5, none⟩ = some (.slice A3 p.1.log.length c3) := blkCell B.out 5; have cX0 : World.cell? W5 ⟨gX, 0, none⟩ = some (.int .i64 q.cells) := blkCell X.out 0; have cX1 : World.cell? W5 ⟨gX, 1, none⟩ = some (.int .i64 q.rows) := blkCell X.out 1; have cX2 : World.cell? W5 ⟨gX, 2, none⟩ = some (.float .f32 q.sl) := blkCell X.out 2; have cX3 : World.cell? W5 ⟨gX, 3, none⟩ = some (.float .f32 q.le) := blkCell X.out 3; have cX4 : World.cell? W5 ⟨gX, 4, none⟩ = some (.float .f32 q.sa) := blkCell X.out 4; have cX5 : World.cell? W5 ⟨gX, 5, none⟩ = some (.slice A5 q.log.length c5) := blkCell X.out 5)) | ((with_reducible refine gateN 25 rfl ?_); go_must (refine ev_ld 25 rfl rfl rfl (cs := #[.int .i64 q.cells, .int .i64 q.rows, .float .f32 q.sl, .float .f32 q.le, .float .f32 q.sa, .slice A5 q.log.length c5]) rfl X.out Tryd.underlying28 rfl (by kernel_rfl) ?_)) | ((with_reducible refine gateSt 2 rfl ?_); go_must (refine ev_st rfl rfl rfl (cs := #[.int .i64 q.cells, .int .i64 q.rows, .float .f32 q.sl, .float .f32 q.le, .float .f32 q.sa, .slice A5 q.log.length c5]) rfl rfl B.out (by kernel_rfl) rfl (by simp [Value.oneCell']) ?_; intro W6 hbB h; have h0 : World.grownBy W5 W6 (some gB) := (by refine World.grownBy.trans ?_ h; repeat (first | exact gr_refl _ _ | apply gr_drewN | apply gr_drew | apply gr_alloc)); clear cB0 cB1 cB2 cB3 cB4 cB5 cX0 cX1 cX2 cX3 cX4 cX5; have L_ := Az.mk (gr_new L.out h0 (by first | (simp; done) | (simp; omega) | omega)); have Z_ := Az.mk (blkGr Z.out h0 (by first | (simp; done) | (simp; omega) | omega)); have U_ := Az.mk (own_gr U.out h0 (by first | exact own_none _ | exact .inr hlBU.out | exact .inr (own_blk U.out B.out (by decide)) | exact .inr (own_blk U.out Z.out (by decide)) | exact .inr (own_blk U.out X.out (by decide)))); have R2_ := Az.mk (own_gr R2.out h0 (by first | exact own_none _ | exact .inr hlBR2.out | exact .inr (own_blk R2.out B.out (by decide)) | exact .inr (own_blk R2.out Z.out (by decide)) | exact .inr (own_blk R2.out X.out (by decide)))); have X_ := Az.mk (blkGr X.out h0 (by first | (simp; done) | (simp; omega) | omega)); clear L Z U R2 X; have L := L_; clear L_; have Z := Z_; clear Z_; have U := U_; clear U_; have R2 := R2_; clear R2_; have X := X_; clear X_; clear h0 h; clear B; have B := Az.mk hbB; clear hbB; have cB0 : World.cell? W6 ⟨gB, 0, none⟩ = some (.int .i64 q.cells) := blkCell B.out 0; have cB1 : World.cell? W6 ⟨gB, 1, none⟩ = some (.int .i64 q.rows) := blkCell B.out 1; have cB2 : World.cell? W6 ⟨gB, 2, none⟩ = some (.float .f32 q.sl) := blkCell B.out 2; have cB3 : World.cell? W6 ⟨gB, 3, none⟩ = some (.float .f32 q.le) := blkCell B.out 3; have cB4 : World.cell? W6 ⟨gB, 4, none⟩ = some (.float .f32 q.sa) := blkCell B.out 4; have cB5 : World.cell? W6 ⟨gB, 5, none⟩ = some (.slice A5 q.log.length c5) := blkCell B.out 5; have cX0 : World.cell? W6 ⟨gX, 0, none⟩ = some (.int .i64 q.cells) := blkCell X.out 0; have cX1 : World.cell? W6 ⟨gX, 1, none⟩ = some (.int .i64 q.rows) := blkCell X.out 1; have cX2 : World.cell? W6 ⟨gX, 2, none⟩ = some (.float .f32 q.sl) := blkCell X.out 2; have cX3 : World.cell? W6 ⟨gX, 3, none⟩ = some (.float .f32 q.le) := blkCell X.out 3; have cX4 : World.cell? W6 ⟨gX, 4, none⟩ = some (.float .f32 q.sa) := blkCell X.out 4; have cX5 : World.cell? W6 ⟨gX, 5, none⟩ = some (.slice A5 q.log.length c5) := blkCell X.out 5)) | ((with_reducible refine gateN 28 rfl ?_); go_must (refine ev_bs 28 rfl rfl #[.bool ok] 4 1 ?hr ?_; (case hr => first | (go_simp; done) | (go_simp; rfl)); intro gN heN W7 hbN h; have hgN : w.heap.size ≤ gN := Nat.le_trans L.out.size heN; have hgNB : gB < gN := Nat.lt_of_lt_of_le (blkLt B.out) heN; have hgNZ : gZ < gN := Nat.lt_of_lt_of_le (blkLt Z.out) heN; have hlNU := Az.mk (own_lows U.out heN); have hlNR2 := Az.mk (own_lows R2.out heN); have hgNX : gX < gN := Nat.lt_of_lt_of_le (blkLt X.out) heN; clear heN; have h0 : World.grownBy W6 W7 none := (by refine World.grownBy.trans ?_ h; repeat (first | exact gr_refl _ _ | apply gr_drewN | apply gr_drew | apply gr_alloc)); clear cB0 cB1 cB2 cB3 cB4 cB5 cX0 cX1 cX2 cX3 cX4 cX5; have L_ := Az.mk (gr_new L.out h0 (by first | (simp; done) | (simp; omega) | omega)); have B_ := Az.mk (blkGr B.out h0 (by first | (simp; done) | (simp; omega) | omega)); have Z_ := Az.mk (blkGr Z.out h0 (by first | (simp; done) | (simp; omega) | omega)); have U_ := Az.mk (own_gr U.out h0 (by first | exact own_none _ | exact .inr hl?U.out | exact .inr (own_blk U.out B.out (by decide)) | exact .inr (own_blk U.out Z.out (by decide)) | exact .inr (own_blk U.out X.out (by decide)))); have R2_ := Az.mk (own_gr R2.out h0 (by first | exact own_none _ | exact .inr hl?R2.out | exact .inr (own_blk R2.out B.out (by decide)) | exact .inr (own_blk R2.out Z.out (by decide)) | exact .inr (own_blk R2.out X.out (by decide)))); have X_ := Az.mk (blkGr X.out h0 (by first | (simp; done) | (simp; omega) | omega)); clear L B Z U R2 X; have L := L_; clear L_; have B := B_; clear B_; have Z := Z_; clear Z_; have U := U_; clear U_; have R2 := R2_; clear R2_; have X := X_; clear X_; clear h0 h; have N := Az.mk hbN; clear hbN; have cB0 : World.cell? W7 ⟨gB, 0, none⟩ = some (.int .i64 q.cells) := blkCell B.out 0; have cB1 : World.cell? W7 ⟨gB, 1, none⟩ = some (.int .i64 q.rows) := blkCell B.out 1; have cB2 : World.cell? W7 ⟨gB, 2, none⟩ = some (.float .f32 q.sl) := blkCell B.out 2; have cB3 : World.cell? W7 ⟨gB, 3, none⟩ = some (.float .f32 q.le) := blkCell B.out 3; have cB4 : World.cell? W7 ⟨gB, 4, none⟩ = some (.float .f32 q.sa) := blkCell B.out 4; have cB5 : World.cell? W7 ⟨gB, 5, none⟩ = some (.slice A5 q.log.length c5) := blkCell B.out 5; have cX0 : World.cell? W7 ⟨gX, 0, none⟩ = some (.int .i64 q.cells) := blkCell X.out 0; have cX1 : World.cell? W7 ⟨gX, 1, none⟩ = some (.int .i64 q.rows) := blkCell X.out 1; have cX2 : World.cell? W7 ⟨gX, 2, none⟩ = some (.float .f32 q.sl) := blkCell X.out 2; have cX3 : World.cell? W7 ⟨gX, 3, none⟩ = some (.float .f32 q.le) := blkCell X.out 3; have cX4 : World.cell? W7 ⟨gX, 4, none⟩ = some (.float .f32 q.sa) := blkCell X.out 4; have cX5 : World.cell? W7 ⟨gX, 5, none⟩ = some (.slice A5 q.log.length c5) := blkCell X.out 5; have cN0 : World.cell? W7 ⟨gN, 0, none⟩ = some (.bool ok) := blkCell N.out 0)) | ((with_reducible refine gateN 29 rfl ?_); go_must (refine ev_app 29 rfl rfl rfl Tryd.underlying36 (z := .bool false) (size := 1) (bytes := 1) (by kernel_rfl) rfl (by decide) rfl U.out rfl N.out rfl (by simp [Value.oneCell']) ?hbase ?hl ?hl2 ?_; (case hbase => have := L.out.size; omega); (case hl => omega); (case hl2 => omega); intro vU W8 hU h; have h0 : World.grownBy W7 W8 _ := (by refine World.grownBy.trans ?_ h; repeat (first | exact gr_refl _ _ | apply gr_drewN | apply gr_drew | apply gr_alloc)); clear cB0 cB1 cB2 cB3 cB4 cB5 cX0 cX1 cX2 cX3 cX4 cX5 cN0; have L_ := Az.mk (gr_new L.out h0 (fun j hj => .inl (own_base U.out j hj))); have B_ := Az.mk (blkGr B.out h0 (by first | exact fun he => own_blk U.out B.out (by decide) he.symm | exact fun he => hlBU.out he.symm | exact fun he => (by have := own_base U.out _ he.symm; omega))); have Z_ := Az.mk (blkGr Z.out h0 (by first | exact fun he => own_blk U.out Z.out (by decide) he.symm | exact fun he => hlZU.out he.symm | exact fun he => (by have := own_base U.out _ he.symm; omega))); have R2_ := Az.mk (own_gr R2.out h0 (own_own R2.out U.out (by decide))); have X_ := Az.mk (blkGr X.out h0 (by first | exact fun he => own_blk U.out X.out (by decide) he.symm | exact fun he => hlXU.out he.symm | exact fun he => (by have := own_base U.out _ he.symm; omega))); clear L B Z R2 X; have L := L_; clear L_; have B := B_; clear B_; have Z := Z_; clear Z_; have R2 := R2_; clear R2_; have X := X_; clear X_; clear h0 h; clear U N; have U := Az.mk hU; clear hU; have cB0 : World.cell? W8 ⟨gB, 0, none⟩ = some (.int .i64 q.cells) := blkCell B.out 0; have cB1 : World.cell? W8 ⟨gB, 1, none⟩ = some (.int .i64 q.rows) := blkCell B.out 1; have cB2 : World.cell? W8 ⟨gB, 2, none⟩ = some (.float .f32 q.sl) := blkCell B.out 2; have cB3 : World.cell? W8 ⟨gB, 3, none⟩ = some (.float .f32 q.le) := blkCell B.out 3; have cB4 : World.cell? W8 ⟨gB, 4, none⟩ = some (.float .f32 q.sa) := blkCell B.out 4; have cB5 : World.cell? W8 ⟨gB, 5, none⟩ = some (.slice A5 q.log.length c5) := blkCell B.out 5; have cX0 : World.cell? W8 ⟨gX, 0, none⟩ = some (.int .i64 q.cells) := blkCell X.out 0; have cX1 : World.cell? W8 ⟨gX, 1, none⟩ = some (.int .i64 q.rows) := blkCell X.out 1; have cX2 : World.cell? W8 ⟨gX, 2, none⟩ = some (.float .f32 q.sl) := blkCell X.out 2; have cX3 : World.cell? W8 ⟨gX, 3, none⟩ = some (.float .f32 q.le) := blkCell X.out 3; have cX4 : World.cell? W8 ⟨gX, 4, none⟩ = some (.float .f32 q.sa) := blkCell X.out 4; have cX5 : World.cell? W8 ⟨gX, 5, none⟩ = some (.slice A5 q.log.length c5) := blkCell X.out 5)))
      refine ⟨⟨(q, p.2 ++ [ok]), k + 1, .slice A5 q.log.length c5, by go_num, by omega, by simp only []; omega, by have := allM_len s (ls.take k); rw [← HP.out, List.length_take] at this; simp; omega, ⟨?_⟩, L, B, Z, R2, ⟨?_⟩⟩, by simp only [intOf]; omega⟩
      · rw [HK.out, ← HP.out, HST.out]
      · rw [List.length_append, boV_snoc]; exact U.out
    · obtain rfl : k = m := by omega
      have hpa : p = allM s ls := by rw [HP.out, List.take_of_length_le (by rw [HML.out]; exact Nat.le_refl _)]
      have HPA := Az.mk hpa
      clear hpa
      go_wp2_with (first | ((with_reducible refine gateN 31 rfl ?_); go_must (refine ev_ld 31 rfl rfl rfl (cs := #[.int .i64 p.1.cells, .int .i64 p.1.rows, .float .f32 p.1.sl, .float .f32 p.1.le, .float .f32 p.1.sa, .slice A3 p.1.log.length c3]) rfl B.out Tryd.underlying28 rfl (by kernel_rfl) ?_)) | ((with_reducible refine gateSt 4 rfl ?_); go_must (refine ev_st rfl rfl rfl (cs := #[.int .i64 p.1.cells, .int .i64 p.1.rows, .float .f32 p.1.sl, .float .f32 p.1.le, .float .f32 p.1.sa, .slice A3 p.1.log.length c3]) rfl rfl Z.out (by kernel_rfl) rfl (by simp [Value.oneCell']) ?_; intro W9 hbZ h; have h0 : World.grownBy wr W9 (some gZ) := (by refine World.grownBy.trans ?_ h; repeat (first | exact gr_refl _ _ | apply gr_drewN | apply gr_drew | apply gr_alloc)); clear cB0 cB1 cB2 cB3 cB4 cB5; have L_ := Az.mk (gr_new L.out h0 (by first | (simp; done) | (simp; omega) | omega)); have B_ := Az.mk (blkGr B.out h0 (by first | (simp; done) | (simp; omega) | omega)); have R_ := Az.mk (own_gr R.out h0 (by first | exact own_none _ | exact .inr hlZR.out | exact .inr (own_blk R.out B.out (by decide)) | exact .inr (own_blk R.out Z.out (by decide)))); have U_ := Az.mk (own_gr U.out h0 (by first | exact own_none _ | exact .inr hlZU.out | exact .inr (own_blk U.out B.out (by decide)) | exact .inr (own_blk U.out Z.out (by decide)))); clear L B R U; have L := L_; clear L_; have B := B_; clear B_; have R := R_; clear R_; have U := U_; clear U_; clear h0 h; clear Z; have Z := Az.mk hbZ; clear hbZ; have cB0 : World.cell? W9 ⟨gB, 0, none⟩ = some (.int .i64 p.1.cells) := blkCell B.out 0; have cB1 : World.cell? W9 ⟨gB, 1, none⟩ = some (.int .i64 p.1.rows) := blkCell B.out 1; have cB2 : World.cell? W9 ⟨gB, 2, none⟩ = some (.float .f32 p.1.sl) := blkCell B.out 2; have cB3 : World.cell? W9 ⟨gB, 3, none⟩ = some (.float .f32 p.1.le) := blkCell B.out 3; have cB4 : World.cell? W9 ⟨gB, 4, none⟩ = some (.float .f32 p.1.sa) := blkCell B.out 4; have cB5 : World.cell? W9 ⟨gB, 5, none⟩ = some (.slice A3 p.1.log.length c3) := blkCell B.out 5; have cZ0 : World.cell? W9 ⟨gZ, 0, none⟩ = some (.int .i64 p.1.cells) := blkCell Z.out 0; have cZ1 : World.cell? W9 ⟨gZ, 1, none⟩ = some (.int .i64 p.1.rows) := blkCell Z.out 1; have cZ2 : World.cell? W9 ⟨gZ, 2, none⟩ = some (.float .f32 p.1.sl) := blkCell Z.out 2; have cZ3 : World.cell? W9 ⟨gZ, 3, none⟩ = some (.float .f32 p.1.le) := blkCell Z.out 3; have cZ4 : World.cell? W9 ⟨gZ, 4, none⟩ = some (.float .f32 p.1.sa) := blkCell Z.out 4; have cZ5 : World.cell? W9 ⟨gZ, 5, none⟩ = some (.slice A3 p.1.log.length c3) := blkCell Z.out 5)))
      refine bodyPost_ret (results_ct (u := 5) rfl _ _ gZ 28 (p.1.cs (.slice A3 p.1.log.length c3)) _ rfl Z.out Tryd.underlying28 rfl (by kernel_rfl)) rfl ⟨.slice A3 p.1.log.length c3, u6, ?_, ?_, ?_, L.out⟩
      · rw [← HPA.out]; rfl
      · rw [← HPA.out]; exact R.out
      · rw [← HPA.out]; exact U.out
/-- The log, done again. -/
def retuneM (x y : Int) (ls : List Tx) : Option SetV := ls.foldl (fun o l => o.bind fun s => tuneM s l) (newM x y)
theorem retuneM_take (x y : Int) (ls : List Tx) (k : Nat) (t : Tx) (h : ls[k]? = some t) : retuneM x y (ls.take (k + 1)) = (retuneM x y (ls.take k)).bind fun s => tuneM s t := by
  unfold retuneM
  rw [List.take_add_one, h, List.foldl_append]; rfl
theorem newM_log {x y : Int} : ((newM x y).getD zeroS).log = [] := by
  unfold newM
  split <;> rfl
set_option maxRecDepth 8000 in
set_option maxHeartbeats 8000000 in
theorem Retune_c (x y : Int) (AL : Option Addr) (m cL : Nat) (ls : List Tx) (hm : m ≤ 100000000) (hl : ∀ t ∈ ls, t.length ≤ 140737488355328) (w : World) (hE : Env w) (hrl : Sl w AL m cL ls) :
    Calls Tryd.prog 20 #[.int .i64 x, .int .i64 y, .slice AL m cL] w (RetSetO w (retuneM x y ls)) := by
  have L := Az.mk (gr_refl w none)
  have HE := Az.mk hE
  have HRL := Az.mk hrl
  have HML := Az.mk hrl.len
  have HL := Az.mk hl
  clear hE hrl hl
  go_enter Tryd.func20, Tryd.ntmps20
  go_wp2_with (first | ((with_reducible refine gateN 6 rfl ?_); go_must (refine ev_al 6 rfl rfl #[.int .i64 0, .int .i64 0, .float .f32 0, .float .f32 0, .float .f32 0, .slice none 0 0] 28 ?hr ?_; (case hr => first | (go_simp; done) | (go_simp; rfl)); intro gZ heZ W1 hbZ h; have hgZ : w.heap.size ≤ gZ := Nat.le_trans L.out.size heZ; clear heZ; have h0 : World.grownBy w W1 none := (by refine World.grownBy.trans ?_ h; repeat (first | exact gr_refl _ _ | apply gr_drewN | apply gr_drew | apply gr_alloc)); have L_ := Az.mk (gr_new L.out h0 (by first | (simp; done) | (simp; omega) | omega)); clear L; have L := L_; clear L_; clear h0 h; have Z := Az.mk hbZ; clear hbZ; have cZ0 : World.cell? W1 ⟨gZ, 0, none⟩ = some (.int .i64 0) := blkCell Z.out 0; have cZ1 : World.cell? W1 ⟨gZ, 1, none⟩ = some (.int .i64 0) := blkCell Z.out 1; have cZ2 : World.cell? W1 ⟨gZ, 2, none⟩ = some (.float .f32 0) := blkCell Z.out 2; have cZ3 : World.cell? W1 ⟨gZ, 3, none⟩ = some (.float .f32 0) := blkCell Z.out 3; have cZ4 : World.cell? W1 ⟨gZ, 4, none⟩ = some (.float .f32 0) := blkCell Z.out 4; have cZ5 : World.cell? W1 ⟨gZ, 5, none⟩ = some (.slice none 0 0) := blkCell Z.out 5)))
  have s1 := L.out.size
  refine (NewSet_c x y _).mono ?_
  rintro e w1 ⟨v1, rfl, hR, h⟩
  have h0 : World.grownBy W1 w1 _ := (by refine World.grownBy.trans ?_ h; repeat (first | exact gr_refl _ _ | apply gr_drewN | apply gr_drew | apply gr_alloc))
  clear cZ0 cZ1 cZ2 cZ3 cZ4 cZ5
  have L_ := Az.mk (gr_new L.out h0 (by first | (simp; done) | (simp; omega) | omega))
  have Z_ := Az.mk (blkGr Z.out h0 (by first | (simp; done) | (simp; omega) | omega))
  clear L Z
  have L := L_; clear L_
  have Z := Z_; clear Z_
  clear h0 h
  have cZ0 : World.cell? w1 ⟨gZ, 0, none⟩ = some (.int .i64 0) := blkCell Z.out 0
  have cZ1 : World.cell? w1 ⟨gZ, 1, none⟩ = some (.int .i64 0) := blkCell Z.out 1
  have cZ2 : World.cell? w1 ⟨gZ, 2, none⟩ = some (.float .f32 0) := blkCell Z.out 2
  have cZ3 : World.cell? w1 ⟨gZ, 3, none⟩ = some (.float .f32 0) := blkCell Z.out 3
  have cZ4 : World.cell? w1 ⟨gZ, 4, none⟩ = some (.float .f32 0) := blkCell Z.out 4
  have cZ5 : World.cell? w1 ⟨gZ, 5, none⟩ = some (.slice none 0 0) := blkCell Z.out 5
  have hnl := newM_log (x := x) (y := y)
  have HO0 : Az (retuneM x y [] = newM x y) := ⟨rfl⟩
  obtain ⟨q, hq⟩ : ∃ q, (newM x y).getD zeroS = q := ⟨_, rfl⟩
  obtain ⟨ok, hok⟩ : ∃ ok, (newM x y).isSome = ok := ⟨_, rfl⟩
  have HO1 : Az (retuneM x y (ls.take 0) = if ok then some q else none) := ⟨by
    show newM x y = _
    subst hq; subst hok
    cases newM x y <;> rfl⟩
  rw [hq] at hR hnl
  rw [hq, hok]
  clear hq hok HO0
  have R := Az.mk (own_weak hR s1)
  clear hR
  obtain ⟨A1, c1, rfl, _⟩ := own_sl R.out
  have HQ0 := Az.mk (show q.log.length = 0 by rw [hnl]; rfl)
  clear hnl
  go_wp2_with (first | ((with_reducible refine gateN 8 rfl ?_); go_must (refine ev_al 8 rfl rfl #[.int .i64 0, .int .i64 0, .float .f32 0, .float .f32 0, .float .f32 0, .slice none 0 0] 28 ?hr ?_; (case hr => first | (go_simp; done) | (go_simp; rfl)); intro gB heB W2 hbB h; have hgB : w.heap.size ≤ gB := Nat.le_trans L.out.size heB; have hgBZ : gZ < gB := Nat.lt_of_lt_of_le (blkLt Z.out) heB; have hlBR := Az.mk (own_lows R.out heB); clear heB; have h0 : World.grownBy w1 W2 none := (by refine World.grownBy.trans ?_ h; repeat (first | exact gr_refl _ _ | apply gr_drewN | apply gr_drew | apply gr_alloc)); clear cZ0 cZ1 cZ2 cZ3 cZ4 cZ5; have L_ := Az.mk (gr_new L.out h0 (by first | (simp; done) | (simp; omega) | omega)); have Z_ := Az.mk (blkGr Z.out h0 (by first | (simp; done) | (simp; omega) | omega)); have R_ := Az.mk (own_gr R.out h0 (by first | exact own_none _ | exact .inr hl?R.out | exact .inr (own_blk R.out Z.out (by decide)))); clear L Z R; have L := L_; clear L_; have Z := Z_; clear Z_; have R := R_; clear R_; clear h0 h; have B := Az.mk hbB; clear hbB; have cZ0 : World.cell? W2 ⟨gZ, 0, none⟩ = some (.int .i64 0) := blkCell Z.out 0; have cZ1 : World.cell? W2 ⟨gZ, 1, none⟩ = some (.int .i64 0) := blkCell Z.out 1; have cZ2 : World.cell? W2 ⟨gZ, 2, none⟩ = some (.float .f32 0) := blkCell Z.out 2; have cZ3 : World.cell? W2 ⟨gZ, 3, none⟩ = some (.float .f32 0) := blkCell Z.out 3; have cZ4 : World.cell? W2 ⟨gZ, 4, none⟩ = some (.float .f32 0) := blkCell Z.out 4; have cZ5 : World.cell? W2 ⟨gZ, 5, none⟩ = some (.slice none 0 0) := blkCell Z.out 5; have cB0 : World.cell? W2 ⟨gB, 0, none⟩ = some (.int .i64 0) := blkCell B.out 0; have cB1 : World.cell? W2 ⟨gB, 1, none⟩ = some (.int .i64 0) := blkCell B.out 1; have cB2 : World.cell? W2 ⟨gB, 2, none⟩ = some (.float .f32 0) := blkCell B.out 2; have cB3 : World.cell? W2 ⟨gB, 3, none⟩ = some (.float .f32 0) := blkCell B.out 3; have cB4 : World.cell? W2 ⟨gB, 4, none⟩ = some (.float .f32 0) := blkCell B.out 4; have cB5 : World.cell? W2 ⟨gB, 5, none⟩ = some (.slice none 0 0) := blkCell B.out 5)) | ((with_reducible refine gateSt 8 rfl ?_); go_must (refine ev_st rfl rfl rfl (cs := #[.int .i64 q.cells, .int .i64 q.rows, .float .f32 q.sl, .float .f32 q.le, .float .f32 q.sa, .slice A1 q.log.length c1]) rfl rfl B.out (by kernel_rfl) rfl (by simp [Value.oneCell']) ?_; intro W3 hbB h; have h0 : World.grownBy W2 W3 (some gB) := (by refine World.grownBy.trans ?_ h; repeat (first | exact gr_refl _ _ | apply gr_drewN | apply gr_drew | apply gr_alloc)); clear cZ0 cZ1 cZ2 cZ3 cZ4 cZ5 cB0 cB1 cB2 cB3 cB4 cB5; have L_ := Az.mk (gr_new L.out h0 (by first | (simp; done) | (simp; omega) | omega)); have Z_ := Az.mk (blkGr Z.out h0 (by first | (simp; done) | (simp; omega) | omega)); have R_ := Az.mk (own_gr R.out h0 (by first | exact own_none _ | exact .inr hlBR.out | exact .inr (own_blk R.out Z.out (by decide)) | exact .inr (own_blk R.out B.out (by decide)))); clear L Z R; have L := L_; clear L_; have Z := Z_; clear Z_; have R := R_; clear R_; clear h0 h; clear B; have B := Az.mk hbB; clear hbB; have cZ0 : World.cell? W3 ⟨gZ, 0, none⟩ = some (.int .i64 0) := blkCell Z.out 0; have cZ1 : World.cell? W3 ⟨gZ, 1, none⟩ = some (.int .i64 0) := blkCell Z.out 1; have cZ2 : World.cell? W3 ⟨gZ, 2, none⟩ = some (.float .f32 0) := blkCell Z.out 2; have cZ3 : World.cell? W3 ⟨gZ, 3, none⟩ = some (.float .f32 0) := blkCell Z.out 3; have cZ4 : World.cell? W3 ⟨gZ, 4, none⟩ = some (.float .f32 0) := blkCell Z.out 4; have cZ5 : World.cell? W3 ⟨gZ, 5, none⟩ = some (.slice none 0 0) := blkCell Z.out 5; have cB0 : World.cell? W3 ⟨gB, 0, none⟩ = some (.int .i64 q.cells) := blkCell B.out 0; have cB1 : World.cell? W3 ⟨gB, 1, none⟩ = some (.int .i64 q.rows) := blkCell B.out 1; have cB2 : World.cell? W3 ⟨gB, 2, none⟩ = some (.float .f32 q.sl) := blkCell B.out 2; have cB3 : World.cell? W3 ⟨gB, 3, none⟩ = some (.float .f32 q.le) := blkCell B.out 3; have cB4 : World.cell? W3 ⟨gB, 4, none⟩ = some (.float .f32 q.sa) := blkCell B.out 4; have cB5 : World.cell? W3 ⟨gB, 5, none⟩ = some (.slice A1 q.log.length c1) := blkCell B.out 5)))
  clear cB0 cB1 cB2 cB3 cB4 cB5 cZ0 cZ1 cZ2 cZ3 cZ4 cZ5
  go_loopw [9, 20] (fun z i wr => ∃ q, ∃ k : Nat, ∃ ok : Bool, ∃ v, i = .int .i64 k ∧ z = .bool ok ∧ k ≤ m ∧ q.log.length ≤ k ∧ Az (retuneM x y (ls.take k) = if ok then some q else none) ∧ Az (w.grownBy wr none) ∧ Az (wr.heap[gB]? = some (.cells (q.cs v) 28 (0, 0))) ∧ Az (wr.heap[gZ]? = some (.cells #[.int .i64 0, .int .i64 0, .float .f32 0, .float .f32 0, .float .f32 0, .slice none 0 0] 28 (0, 0))) ∧ Az (wr.ownsRow w.heap.size 9 1 v q.log.length (stV q.log))) (fun _ i _ => m - (intOf i).toNat)
  case atStart => exact ⟨q, 0, ok, _, by go_num, rfl, by omega, by have := HQ0.out; omega, HO1, L, B, Z, R⟩
  case round =>
    clear L B Z R HO1 HQ0
    obtain ⟨q, k, ok, v, rfl, rfl, hk, hql, HO, L, B, Z, R⟩ := hrel
    obtain ⟨A3, c3, rfl, _⟩ := own_sl R.out
    unfold SetV.cs at B
    have cB0 : World.cell? wr ⟨gB, 0, none⟩ = some (.int .i64 q.cells) := blkCell B.out 0
    have cB1 : World.cell? wr ⟨gB, 1, none⟩ = some (.int .i64 q.rows) := blkCell B.out 1
    have cB2 : World.cell? wr ⟨gB, 2, none⟩ = some (.float .f32 q.sl) := blkCell B.out 2
    have cB3 : World.cell? wr ⟨gB, 3, none⟩ = some (.float .f32 q.le) := blkCell B.out 3
    have cB4 : World.cell? wr ⟨gB, 4, none⟩ = some (.float .f32 q.sa) := blkCell B.out 4
    have cB5 : World.cell? wr ⟨gB, 5, none⟩ = some (.slice A3 q.log.length c3) := blkCell B.out 5
    by_cases hkm : k < m
    · have hki : (k : Int) < m := by omega
      obtain ⟨b, off, rfl, hcell⟩ := HRL.out.1.2.2 (by omega)
      obtain ⟨t, ht⟩ : ∃ t, ls[k]? = some t := ⟨_, List.getElem?_eq_getElem (by rw [HML.out]; exact hkm)⟩
      have HD := Az.mk (hcell k _ (stV_get ht))
      have HTL := Az.mk (HL.out t (List.mem_of_getElem? ht))
      have HK := Az.mk (retuneM_take x y ls k t ht)
      clear hcell ht
      cases ok with
      | false =>
        have dl := cellGr L.out HD.out (by simp)
        go_wp2_with fail
        refine ⟨⟨q, k + 1, false, .slice A3 q.log.length c3, by go_num, rfl, by omega, by omega, ⟨?_⟩, L, B, Z, R⟩, by simp only [intOf]; omega⟩
        rw [HK.out, HO.out]; rfl
      | true =>
        have dl := cellGr L.out HD.out (by simp)
        go_wp2_with (first | ((with_reducible refine gateN 26 rfl ?_); go_must (refine ev_ld 26 rfl rfl rfl (cs := #[.int .i64 q.cells, .int .i64 q.rows, .float .f32 q.sl, .float .f32 q.le, .float .f32 q.sa, .slice A3 q.log.length c3]) rfl B.out Tryd.underlying28 rfl (by kernel_rfl) ?_)))
        have s4 := L.out.size
        refine (Tune_c q A3 q.log.length c3 t (by omega) HTL.out _ (HE.out.gr L.out) (own_slS R.out)).mono ?_
        rintro e w2 ⟨v2, rfl, hR2, h⟩
        have h0 : World.grownBy wr w2 _ := (by refine World.grownBy.trans ?_ h; repeat (first | exact gr_refl _ _ | apply gr_drewN | apply gr_drew | apply gr_alloc))
        clear cB0 cB1 cB2 cB3 cB4 cB5 dl
        have L_ := Az.mk (gr_new L.out h0 (by first | (simp; done) | (simp; omega) | omega))
        have B_ := Az.mk (blkGr B.out h0 (by first | (simp; done) | (simp; omega) | omega))
        have Z_ := Az.mk (blkGr Z.out h0 (by first | (simp; done) | (simp; omega) | omega))
        have R_ := Az.mk (own_gr R.out h0 (by first | exact own_none _ | exact .inr hl?R.out | exact .inr (own_blk R.out B.out (by decide)) | exact .inr (own_blk R.out Z.out (by decide))))
        clear L B Z R
        have L := L_; clear L_
        have B := B_; clear B_
        have Z := Z_; clear Z_
        have R := R_; clear R_
        clear h0 h
        have dl := cellGr L.out HD.out (by simp)
        have cB0 : World.cell? w2 ⟨gB, 0, none⟩ = some (.int .i64 q.cells) := blkCell B.out 0
        have cB1 : World.cell? w2 ⟨gB, 1, none⟩ = some (.int .i64 q.rows) := blkCell B.out 1
        have cB2 : World.cell? w2 ⟨gB, 2, none⟩ = some (.float .f32 q.sl) := blkCell B.out 2
        have cB3 : World.cell? w2 ⟨gB, 3, none⟩ = some (.float .f32 q.le) := blkCell B.out 3
        have cB4 : World.cell? w2 ⟨gB, 4, none⟩ = some (.float .f32 q.sa) := blkCell B.out 4
        have cB5 : World.cell? w2 ⟨gB, 5, none⟩ = some (.slice A3 q.log.length c3) := blkCell B.out 5
        have hlog := tuneD_log q t
        obtain ⟨r, hr⟩ : ∃ r, (tuneM q t).getD q = r := ⟨_, rfl⟩
        obtain ⟨ok, hok⟩ : ∃ ok, (tuneM q t).isSome = ok := ⟨_, rfl⟩
        have HN : Az (retuneM x y (ls.take (k + 1)) = if ok then some r else none) := ⟨by
          rw [HK.out, HO.out]
          show tuneM q t = _
          subst hr; subst hok
          cases tuneM q t <;> rfl⟩
        rw [hr] at hR2 hlog
        rw [hr, hok]
        clear hr hok
        have R2 := Az.mk (own_weak hR2 s4)
        clear hR2 R
        obtain ⟨A5, c5, rfl, _⟩ := own_sl R2.out
        clear dl
        go_wp2_with (first | ((with_reducible refine gateSt 8 rfl ?_); go_must (refine ev_st rfl rfl rfl (cs := #[.int .i64 r.cells, .int .i64 r.rows, .float .f32 r.sl, .float .f32 r.le, .float .f32 r.sa, .slice A5 r.log.length c5]) rfl rfl B.out (by kernel_rfl) rfl (by simp [Value.oneCell']) ?_; intro W4 hbB h; have h0 : World.grownBy w2 W4 (some gB) := (by refine World.grownBy.trans ?_ h; repeat (first | exact gr_refl _ _ | apply gr_drewN | apply gr_drew | apply gr_alloc)); clear cB0 cB1 cB2 cB3 cB4 cB5; have L_ := Az.mk (gr_new L.out h0 (by first | (simp; done) | (simp; omega) | omega)); have Z_ := Az.mk (blkGr Z.out h0 (by first | (simp; done) | (simp; omega) | omega)); have R2_ := Az.mk (own_gr R2.out h0 (by first | exact own_none _ | exact .inr hlBR2.out | exact .inr (own_blk R2.out B.out (by decide)) | exact .inr (own_blk R2.out Z.out (by decide)))); clear L Z R2; have L := L_; clear L_; have Z := Z_; clear Z_; have R2 := R2_; clear R2_; clear h0 h; clear B; have B := Az.mk hbB; clear hbB; have cB0 : World.cell? W4 ⟨gB, 0, none⟩ = some (.int .i64 r.cells) := blkCell B.out 0; have cB1 : World.cell? W4 ⟨gB, 1, none⟩ = some (.int .i64 r.rows) := blkCell B.out 1; have cB2 : World.cell? W4 ⟨gB, 2, none⟩ = some (.float .f32 r.sl) := blkCell B.out 2; have cB3 : World.cell? W4 ⟨gB, 3, none⟩ = some (.float .f32 r.le) := blkCell B.out 3; have cB4 : World.cell? W4 ⟨gB, 4, none⟩ = some (.float .f32 r.sa) := blkCell B.out 4; have cB5 : World.cell? W4 ⟨gB, 5, none⟩ = some (.slice A5 r.log.length c5) := blkCell B.out 5)))
        refine ⟨⟨r, k + 1, ok, .slice A5 r.log.length c5, by go_num, rfl, by omega, by omega, HN, L, B, Z, R2⟩, by simp only [intOf]; omega⟩
    · obtain rfl : k = m := by omega
      have hpa : retuneM x y ls = if ok then some q else none := by rw [← HO.out, List.take_of_length_le (by rw [HML.out]; exact Nat.le_refl _)]
      have HPA := Az.mk hpa
      clear hpa
      cases ok with
      | false =>
        go_wp2_with (first | ((with_reducible refine gateSt 6 rfl ?_); go_must (refine ev_st rfl rfl rfl (cs := #[.int .i64 0, .int .i64 0, .float .f32 0, .float .f32 0, .float .f32 0, .slice none 0 0]) rfl rfl Z.out (by kernel_rfl) rfl (by simp [Value.oneCell']) ?_; intro W5 hbZ h; have h0 : World.grownBy wr W5 (some gZ) := (by refine World.grownBy.trans ?_ h; repeat (first | exact gr_refl _ _ | apply gr_drewN | apply gr_drew | apply gr_alloc)); clear cB0 cB1 cB2 cB3 cB4 cB5; have L_ := Az.mk (gr_new L.out h0 (by first | (simp; done) | (simp; omega) | omega)); have B_ := Az.mk (blkGr B.out h0 (by first | (simp; done) | (simp; omega) | omega)); have R_ := Az.mk (own_gr R.out h0 (by first | exact own_none _ | exact .inr hlZR.out | exact .inr (own_blk R.out B.out (by decide)) | exact .inr (own_blk R.out Z.out (by decide)))); clear L B R; have L := L_; clear L_; have B := B_; clear B_; have R := R_; clear R_; clear h0 h; clear Z; have Z := Az.mk hbZ; clear hbZ; have cB0 : World.cell? W5 ⟨gB, 0, none⟩ = some (.int .i64 q.cells) := blkCell B.out 0; have cB1 : World.cell? W5 ⟨gB, 1, none⟩ = some (.int .i64 q.rows) := blkCell B.out 1; have cB2 : World.cell? W5 ⟨gB, 2, none⟩ = some (.float .f32 q.sl) := blkCell B.out 2; have cB3 : World.cell? W5 ⟨gB, 3, none⟩ = some (.float .f32 q.le) := blkCell B.out 3; have cB4 : World.cell? W5 ⟨gB, 4, none⟩ = some (.float .f32 q.sa) := blkCell B.out 4; have cB5 : World.cell? W5 ⟨gB, 5, none⟩ = some (.slice A3 q.log.length c3) := blkCell B.out 5; have cZ0 : World.cell? W5 ⟨gZ, 0, none⟩ = some (.int .i64 0) := blkCell Z.out 0; have cZ1 : World.cell? W5 ⟨gZ, 1, none⟩ = some (.int .i64 0) := blkCell Z.out 1; have cZ2 : World.cell? W5 ⟨gZ, 2, none⟩ = some (.float .f32 0) := blkCell Z.out 2; have cZ3 : World.cell? W5 ⟨gZ, 3, none⟩ = some (.float .f32 0) := blkCell Z.out 3; have cZ4 : World.cell? W5 ⟨gZ, 4, none⟩ = some (.float .f32 0) := blkCell Z.out 4; have cZ5 : World.cell? W5 ⟨gZ, 5, none⟩ = some (.slice none 0 0) := blkCell Z.out 5)))
        refine bodyPost_ret (results_ct (u := 7) rfl _ _ gZ 28 (zeroS.cs (.slice none 0 0)) _ rfl Z.out Tryd.underlying28 rfl (by kernel_rfl)) rfl ⟨.slice none 0 0, ?_, ?_, L.out⟩
        · rw [HPA.out]; rfl
        · rw [HPA.out]; exact own_nil _ _ _ _
      | true =>
        go_wp2_with (first | ((with_reducible refine gateN 35 rfl ?_); go_must (refine ev_ld 35 rfl rfl rfl (cs := #[.int .i64 q.cells, .int .i64 q.rows, .float .f32 q.sl, .float .f32 q.le, .float .f32 q.sa, .slice A3 q.log.length c3]) rfl B.out Tryd.underlying28 rfl (by kernel_rfl) ?_)) | ((with_reducible refine gateSt 6 rfl ?_); go_must (refine ev_st rfl rfl rfl (cs := #[.int .i64 q.cells, .int .i64 q.rows, .float .f32 q.sl, .float .f32 q.le, .float .f32 q.sa, .slice A3 q.log.length c3]) rfl rfl Z.out (by kernel_rfl) rfl (by simp [Value.oneCell']) ?_; intro W6 hbZ h; have h0 : World.grownBy wr W6 (some gZ) := (by refine World.grownBy.trans ?_ h; repeat (first | exact gr_refl _ _ | apply gr_drewN | apply gr_drew | apply gr_alloc)); clear cB0 cB1 cB2 cB3 cB4 cB5; have L_ := Az.mk (gr_new L.out h0 (by first | (simp; done) | (simp; omega) | omega)); have B_ := Az.mk (blkGr B.out h0 (by first | (simp; done) | (simp; omega) | omega)); have R_ := Az.mk (own_gr R.out h0 (by first | exact own_none _ | exact .inr hlZR.out | exact .inr (own_blk R.out B.out (by decide)) | exact .inr (own_blk R.out Z.out (by decide)))); clear L B R; have L := L_; clear L_; have B := B_; clear B_; have R := R_; clear R_; clear h0 h; clear Z; have Z := Az.mk hbZ; clear hbZ; have cB0 : World.cell? W6 ⟨gB, 0, none⟩ = some (.int .i64 q.cells) := blkCell B.out 0; have cB1 : World.cell? W6 ⟨gB, 1, none⟩ = some (.int .i64 q.rows) := blkCell B.out 1; have cB2 : World.cell? W6 ⟨gB, 2, none⟩ = some (.float .f32 q.sl) := blkCell B.out 2; have cB3 : World.cell? W6 ⟨gB, 3, none⟩ = some (.float .f32 q.le) := blkCell B.out 3; have cB4 : World.cell? W6 ⟨gB, 4, none⟩ = some (.float .f32 q.sa) := blkCell B.out 4; have cB5 : World.cell? W6 ⟨gB, 5, none⟩ = some (.slice A3 q.log.length c3) := blkCell B.out 5; have cZ0 : World.cell? W6 ⟨gZ, 0, none⟩ = some (.int .i64 q.cells) := blkCell Z.out 0; have cZ1 : World.cell? W6 ⟨gZ, 1, none⟩ = some (.int .i64 q.rows) := blkCell Z.out 1; have cZ2 : World.cell? W6 ⟨gZ, 2, none⟩ = some (.float .f32 q.sl) := blkCell Z.out 2; have cZ3 : World.cell? W6 ⟨gZ, 3, none⟩ = some (.float .f32 q.le) := blkCell Z.out 3; have cZ4 : World.cell? W6 ⟨gZ, 4, none⟩ = some (.float .f32 q.sa) := blkCell Z.out 4; have cZ5 : World.cell? W6 ⟨gZ, 5, none⟩ = some (.slice A3 q.log.length c3) := blkCell Z.out 5)))
        refine bodyPost_ret (results_ct (u := 7) rfl _ _ gZ 28 (q.cs (.slice A3 q.log.length c3)) _ rfl Z.out Tryd.underlying28 rfl (by kernel_rfl)) rfl ⟨.slice A3 q.log.length c3, ?_, ?_, L.out⟩
        · rw [HPA.out]; rfl
        · rw [HPA.out]; exact R.out
end Go.Proofs.YtfjafeepmpnegaaDoor
