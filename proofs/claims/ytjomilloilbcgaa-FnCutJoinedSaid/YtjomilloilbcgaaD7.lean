/- Draws of rows: contracts of spec.l02Plain, DrawPlainRow. No condition. -/
import Derived.Test.YtjomilloilbcgaaKd
import Derived.Test.YtjomilloilbcgaaD5
namespace Go.Proofs.Ytjomilloilbcgaa
open Go.RowKit
set_option linter.unusedVariables false
set_option linter.unusedSimpArgs false

/-- A cell of sixteenths. -/
def PlainCell (c : Nat × Nat × Nat) : Prop := ∃ k p q : Int, -1024 ≤ k ∧ k ≤ 1024 ∧ -512 ≤ p ∧ p ≤ 512 ∧ -512 ≤ q ∧ q ≤ 512 ∧ Q (fN .f32 c.1) (k * 256) ∧ Q (fN .f32 c.2.1) (p * 256) ∧ Q (fN .f32 c.2.2) (q * 256)
def RetPCell (w0 w : World) (g : Nat) (e : Ending) (w' : World) : Prop := ∃ y u v : Nat, PlainCell (y, u, v) ∧ e = .returned (.agg #[.float .f32 y, .complex .f32 u v]) ∧ Cur w0 w' g ∧ w.grownBy w' (some g)
theorem sixteenth {n : Int} {b : Nat} (h1 : -2048 ≤ n) (h2 : n ≤ 2048) (h : fN .f32 b = fop .quo .f32 (fN .f32 (floatOfInt .f32 n)) (fN .f32 1098907648)) : Q (fN .f32 b) (n * 256) := by
  rw [h]; exact Q_div (Q_ofInt n (by omega) (by omega)) (Q_mk 1098907648 false 8388608 130 (65536) (by decide +kernel) (by decide +kernel)) (by decide) (by omega) (by omega) (by omega)
set_option maxHeartbeats 1000000 in
theorem l02Plain_c (w0 w : World) (g : Nat) (hc : Cur w0 w g) : Calls Try.prog 57 #[.pointer (some ⟨g, 0, none⟩)] w (RetPCell w0 w g) := by
  have K := Az.mk hc
  have hlt := hc.lt
  have L := Az.mk (gr_refl w (some g))
  have hS := hc.below.size
  clear hc
  go_enter Try.func57, Try.ntmps57
  go_wp2_with (first | ((with_reducible refine gateN 2 rfl ?_); go_must (refine ev_al 2 rfl rfl #[.float .f32 0, .complex .f32 0 0] 49 ?hr ?_; (case hr => first | (go_simp; done) | (go_simp; rfl)); intro gR heR W1 hbR h; have hgR : w.heap.size ≤ gR := Nat.le_trans L.out.size heR; have hgRK := Nat.lt_of_lt_of_le (Cur.lt K.out) heR; clear heR; have h0 : World.grownBy w W1 none := (by refine World.grownBy.trans ?_ h; repeat (first | exact gr_refl _ _ | apply gr_drewN | apply gr_drew | apply gr_alloc)); have K_ := Az.mk (Cur.gr K.out h0 (by first | (simp; done) | (simp; omega) | omega) (by first | (simp; done) | (simp; omega) | omega)); have L_ := Az.mk (gr_new L.out h0 (by first | (simp; done) | (simp; omega) | omega)); clear K L; have K := K_; clear K_; have L := L_; clear L_; clear h0 h; have R := Az.mk hbR; clear hbR; have cR0 : World.cell? W1 ⟨gR, 0, none⟩ = some (.float .f32 0) := blkCell R.out 0; have cR1 : World.cell? W1 ⟨gR, 1, none⟩ = some (.complex .f32 0 0) := blkCell R.out 1)))
  refine (l01Below_c w0 _ g _ (by omega) (by omega) (by first | exact K.out | exact K.out.alloc _ | exact K.out.drewN _ | exact (K.out.alloc _).alloc _)).mono ?_
  rintro e w1 ⟨k, h01, h11, rfl, hK, h⟩
  have h0 : World.grownBy W1 w1 _ := (by refine World.grownBy.trans ?_ h; repeat (first | exact gr_refl _ _ | apply gr_drewN | apply gr_drew | apply gr_alloc))
  clear cR0 cR1
  have L_ := Az.mk (gr_new L.out h0 (by first | (simp; done) | (simp; omega) | omega))
  have R_ := Az.mk (blkGr R.out h0 (by first | (simp; done) | (simp; omega) | omega))
  clear L R
  have L := L_; clear L_
  have R := R_; clear R_
  clear h0 h
  clear K; have K := Az.mk hK; clear hK
  have cR0 : World.cell? w1 ⟨gR, 0, none⟩ = some (.float .f32 0) := blkCell R.out 0
  have cR1 : World.cell? w1 ⟨gR, 1, none⟩ = some (.complex .f32 0 0) := blkCell R.out 1
  go_wp2_with (first | ((with_reducible refine gateN 9 rfl ?_); go_must (refine ev_fl 9 rfl rfl rfl rfl rfl rfl ?_; intro b9 W2 hb9 h; have HF9 := Az.mk hb9; clear hb9; have h0 : World.grownBy w1 W2 none := (by refine World.grownBy.trans ?_ h; repeat (first | exact gr_refl _ _ | apply gr_drewN | apply gr_drew | apply gr_alloc)); clear cR0 cR1; have K_ := Az.mk (Cur.gr K.out h0 (by first | (simp; done) | (simp; omega) | omega) (by first | (simp; done) | (simp; omega) | omega)); have L_ := Az.mk (gr_new L.out h0 (by first | (simp; done) | (simp; omega) | omega)); have R_ := Az.mk (blkGr R.out h0 (by first | (simp; done) | (simp; omega) | omega)); clear K L R; have K := K_; clear K_; have L := L_; clear L_; have R := R_; clear R_; clear h0 h; have cR0 : World.cell? W2 ⟨gR, 0, none⟩ = some (.float .f32 0) := blkCell R.out 0; have cR1 : World.cell? W2 ⟨gR, 1, none⟩ = some (.complex .f32 0 0) := blkCell R.out 1)))
  refine (l01Below_c w0 _ g _ (by omega) (by omega) (by first | exact K.out | exact K.out.alloc _ | exact K.out.drewN _ | exact (K.out.alloc _).alloc _)).mono ?_
  rintro e w2 ⟨p, h02, h12, rfl, hK, h⟩
  have h0 : World.grownBy W2 w2 _ := (by refine World.grownBy.trans ?_ h; repeat (first | exact gr_refl _ _ | apply gr_drewN | apply gr_drew | apply gr_alloc))
  clear cR0 cR1
  have L_ := Az.mk (gr_new L.out h0 (by first | (simp; done) | (simp; omega) | omega))
  have R_ := Az.mk (blkGr R.out h0 (by first | (simp; done) | (simp; omega) | omega))
  clear L R
  have L := L_; clear L_
  have R := R_; clear R_
  clear h0 h
  clear K; have K := Az.mk hK; clear hK
  have cR0 : World.cell? w2 ⟨gR, 0, none⟩ = some (.float .f32 0) := blkCell R.out 0
  have cR1 : World.cell? w2 ⟨gR, 1, none⟩ = some (.complex .f32 0 0) := blkCell R.out 1
  go_wp2_with (first | ((with_reducible refine gateN 14 rfl ?_); go_must (refine ev_fl 14 rfl rfl rfl rfl rfl rfl ?_; intro b14 W3 hb14 h; have HF14 := Az.mk hb14; clear hb14; have h0 : World.grownBy w2 W3 none := (by refine World.grownBy.trans ?_ h; repeat (first | exact gr_refl _ _ | apply gr_drewN | apply gr_drew | apply gr_alloc)); clear cR0 cR1; have K_ := Az.mk (Cur.gr K.out h0 (by first | (simp; done) | (simp; omega) | omega) (by first | (simp; done) | (simp; omega) | omega)); have L_ := Az.mk (gr_new L.out h0 (by first | (simp; done) | (simp; omega) | omega)); have R_ := Az.mk (blkGr R.out h0 (by first | (simp; done) | (simp; omega) | omega)); clear K L R; have K := K_; clear K_; have L := L_; clear L_; have R := R_; clear R_; clear h0 h; have cR0 : World.cell? W3 ⟨gR, 0, none⟩ = some (.float .f32 0) := blkCell R.out 0; have cR1 : World.cell? W3 ⟨gR, 1, none⟩ = some (.complex .f32 0 0) := blkCell R.out 1)))
  refine (l01Below_c w0 _ g _ (by omega) (by omega) (by first | exact K.out | exact K.out.alloc _ | exact K.out.drewN _ | exact (K.out.alloc _).alloc _)).mono ?_
  rintro e w3 ⟨q, h03, h13, rfl, hK, h⟩
  have h0 : World.grownBy W3 w3 _ := (by refine World.grownBy.trans ?_ h; repeat (first | exact gr_refl _ _ | apply gr_drewN | apply gr_drew | apply gr_alloc))
  clear cR0 cR1
  have L_ := Az.mk (gr_new L.out h0 (by first | (simp; done) | (simp; omega) | omega))
  have R_ := Az.mk (blkGr R.out h0 (by first | (simp; done) | (simp; omega) | omega))
  clear L R
  have L := L_; clear L_
  have R := R_; clear R_
  clear h0 h
  clear K; have K := Az.mk hK; clear hK
  have cR0 : World.cell? w3 ⟨gR, 0, none⟩ = some (.float .f32 0) := blkCell R.out 0
  have cR1 : World.cell? w3 ⟨gR, 1, none⟩ = some (.complex .f32 0 0) := blkCell R.out 1
  go_wp2_with (first | ((with_reducible refine gateN 21 rfl ?_); go_must (refine ev_fl 21 rfl rfl rfl rfl rfl rfl ?_; intro b21 W4 hb21 h; have HF21 := Az.mk hb21; clear hb21; have h0 : World.grownBy w3 W4 none := (by refine World.grownBy.trans ?_ h; repeat (first | exact gr_refl _ _ | apply gr_drewN | apply gr_drew | apply gr_alloc)); clear cR0 cR1; have K_ := Az.mk (Cur.gr K.out h0 (by first | (simp; done) | (simp; omega) | omega) (by first | (simp; done) | (simp; omega) | omega)); have L_ := Az.mk (gr_new L.out h0 (by first | (simp; done) | (simp; omega) | omega)); have R_ := Az.mk (blkGr R.out h0 (by first | (simp; done) | (simp; omega) | omega)); clear K L R; have K := K_; clear K_; have L := L_; clear L_; have R := R_; clear R_; clear h0 h; have cR0 : World.cell? W4 ⟨gR, 0, none⟩ = some (.float .f32 0) := blkCell R.out 0; have cR1 : World.cell? W4 ⟨gR, 1, none⟩ = some (.complex .f32 0 0) := blkCell R.out 1)) | ((with_reducible refine gateSt 2 rfl ?_); go_must (refine ev_st rfl rfl rfl (cs := #[.float .f32 b9, .complex .f32 b14 b21]) rfl rfl R.out (by kernel_rfl) rfl (by simp [Value.oneCell']) ?_; intro W5 hbR h; have h0 : World.grownBy W4 W5 (some gR) := (by refine World.grownBy.trans ?_ h; repeat (first | exact gr_refl _ _ | apply gr_drewN | apply gr_drew | apply gr_alloc)); clear cR0 cR1; have K_ := Az.mk (Cur.gr K.out h0 (by first | (simp; done) | (simp; omega) | omega) (by first | (simp; done) | (simp; omega) | omega)); have L_ := Az.mk (gr_new L.out h0 (by first | (simp; done) | (simp; omega) | omega)); clear K L; have K := K_; clear K_; have L := L_; clear L_; clear h0 h; clear R; have R := Az.mk hbR; clear hbR; have cR0 : World.cell? W5 ⟨gR, 0, none⟩ = some (.float .f32 b9) := blkCell R.out 0; have cR1 : World.cell? W5 ⟨gR, 1, none⟩ = some (.complex .f32 b14 b21) := blkCell R.out 1)))
  refine bodyPost_ret (results_c rfl _ _ gR 49 #[.float .f32 b9, .complex .f32 b14 b21] _ rfl R.out Try.underlying49 rfl (by kernel_rfl)) rfl ⟨b9, b14, b21, ⟨k - 1024, p - 512, q - 512, by omega, by omega, by omega, by omega, by omega, by omega, ?_, ?_, ?_⟩, rfl, K.out, L.out⟩
  · exact sixteenth (by omega) (by omega) HF9.out
  · exact sixteenth (by omega) (by omega) HF14.out
  · exact sixteenth (by omega) (by omega) HF21.out

/-- The cells of a row. -/
def cellsV (cs : List (Nat × Nat × Nat)) : List Value := cs.flatMap fun c => [.float .f32 c.1, .complex .f32 c.2.1 c.2.2]
theorem cellsV_len (cs : List (Nat × Nat × Nat)) : (cellsV cs).length = cs.length * 2 := by
  induction cs with
  | nil => rfl
  | cons c cs ih => simp only [cellsV, List.flatMap_cons, List.length_append, List.length_cons, List.length_nil] at *; omega
theorem cellsV_snoc (cs : List (Nat × Nat × Nat)) (y u v : Nat) : cellsV (cs ++ [(y, u, v)]) = cellsV cs ++ [.float .f32 y, .complex .f32 u v] := by simp [cellsV]
def RetPRow (w : World) (e : Ending) (w' : World) : Prop := ∃ v cs, 1 ≤ cs.length ∧ cs.length ≤ 6 ∧ (∀ c ∈ cs, PlainCell c) ∧ e = .returned v ∧ w'.ownsRow w.heap.size 49 2 v cs.length (cellsV cs) ∧ w.grownBy w' none
set_option maxHeartbeats 1000000 in
theorem DrawPlainRow_c (w0 w : World) (A : Option Addr) (n c : Nat) (hrd : BytesRd w0 A n) (hnc : n ≤ c) (hB : Below w0.heap.size w0 w) : Calls Try.prog 22 #[.slice A n c] w (RetPRow w) := by
  have L := Az.mk (gr_refl w none)
  have HR := Az.mk hrd
  have HB := Az.mk hB
  have hS := hB.size
  clear hrd hB
  go_enter Try.func22, Try.ntmps22
  go_wp2_with fail
  refine (l01New_c w0 _ A n c HR.out hnc HB.out).mono ?_
  rintro e w1 ⟨g, rfl, hK, hgw, h⟩
  have h0 : World.grownBy w w1 _ := (by refine World.grownBy.trans ?_ h; repeat (first | exact gr_refl _ _ | apply gr_drewN | apply gr_drew | apply gr_alloc))
  have L_ := Az.mk (gr_new L.out h0 (by first | (simp; done) | (simp; omega) | omega))
  clear L
  have L := L_; clear L_
  clear h0 h
  have K := Az.mk hK; clear hK
  go_wp2_with (first | ((with_reducible refine gateN 8 rfl ?_); go_must (refine ev_bs 8 rfl rfl #[] 49 0 ?hr ?_; (case hr => first | (go_simp; done) | (go_simp; rfl)); intro gR heR W1 hbR h; have hgR : w.heap.size ≤ gR := Nat.le_trans L.out.size heR; have hgRK := Nat.lt_of_lt_of_le (Cur.lt K.out) heR; clear heR; have h0 : World.grownBy w1 W1 none := (by refine World.grownBy.trans ?_ h; repeat (first | exact gr_refl _ _ | apply gr_drewN | apply gr_drew | apply gr_alloc)); have L_ := Az.mk (gr_new L.out h0 (by first | (simp; done) | (simp; omega) | omega)); have K_ := Az.mk (Cur.gr K.out h0 (by first | (simp; done) | (simp; omega) | omega) (by first | (simp; done) | (simp; omega) | omega)); clear L K; have L := L_; clear L_; have K := K_; clear K_; clear h0 h; have R := Az.mk hbR; clear hbR)))
  have R_ := Az.mk (own_of_blk (size := 2) (m := 0) R.out w.heap.size hgR rfl (by decide))
  clear R
  have R := R_
  clear R_
  refine (l01Below_c w0 _ g _ (by omega) (by omega) (by first | exact K.out | exact K.out.alloc _ | exact K.out.drewN _ | exact (K.out.alloc _).alloc _)).mono ?_
  rintro e w2 ⟨k0, h0k, h1k, rfl, hK, h⟩
  have h0 : World.grownBy W1 w2 _ := (by refine World.grownBy.trans ?_ h; repeat (first | exact gr_refl _ _ | apply gr_drewN | apply gr_drew | apply gr_alloc))
  have L_ := Az.mk (gr_new L.out h0 (by first | (simp; done) | (simp; omega) | omega))
  have R_ := Az.mk (own_gr R.out h0 (by first | exact own_none _ | exact .inr hl?R.out | exact .inr (own_cur R.out K.out (by decide))))
  clear L R
  have L := L_; clear L_
  have R := R_; clear R_
  clear h0 h
  clear K; have K := Az.mk hK; clear hK
  obtain ⟨k, rfl⟩ : ∃ k : Nat, k0 = (k : Int) := ⟨k0.toNat, by omega⟩
  go_wp2_with fail
  go_loopw [4, 5] (fun o i wr => ∃ cs, ∃ k : Nat, i = .int .i64 k ∧ cs.length + k ≤ 6 ∧ 1 ≤ cs.length + k ∧ Az (∀ c ∈ cs, PlainCell c) ∧ Az (w.grownBy wr none) ∧ Az (Cur w0 wr g) ∧ Az (wr.ownsRow w.heap.size 49 2 o cs.length (cellsV cs))) (fun _ i _ => (intOf i).toNat)
  case atStart => exact ⟨[], 1 + k, by go_num, by simp; omega, by simp, ⟨fun c hc => by simp at hc⟩, L, K, R⟩
  case round =>
    clear L K R
    obtain ⟨cs, k, rfl, h6, h1, HC, L, K, R⟩ := hrel
    by_cases hk : 0 < k
    · have hk' : (0 : Int) < k := by omega
      go_wp2_with fail
      refine (l02Plain_c w0 _ g (by first | exact K.out | exact K.out.alloc _ | exact K.out.drewN _ | exact (K.out.alloc _).alloc _)).mono ?_
      rintro e v1 ⟨y, u, x, hpc, rfl, hK, h⟩
      have h0 : World.grownBy wr v1 _ := (by refine World.grownBy.trans ?_ h; repeat (first | exact gr_refl _ _ | apply gr_drewN | apply gr_drew | apply gr_alloc))
      have L_ := Az.mk (gr_new L.out h0 (by first | (simp; done) | (simp; omega) | omega))
      have R_ := Az.mk (own_gr R.out h0 (by first | exact own_none _ | exact .inr hl?R.out | exact .inr (own_cur R.out K.out (by decide))))
      clear L R
      have L := L_; clear L_
      have R := R_; clear R_
      clear h0 h
      clear K; have K := Az.mk hK; clear hK
      have HP := Az.mk hpc
      clear hpc
      go_wp2_with (first | ((with_reducible refine gateN 19 rfl ?_); go_must (refine ev_bs 19 rfl rfl #[.float .f32 y, .complex .f32 u x] 49 1 ?hr ?_; (case hr => first | (go_simp; done) | (go_simp; rfl)); intro gN heN W2 hbN h; have hgN : w.heap.size ≤ gN := Nat.le_trans L.out.size heN; have hgNK := Nat.lt_of_lt_of_le (Cur.lt K.out) heN; have hlNR := Az.mk (own_lows R.out heN); clear heN; have h0 : World.grownBy v1 W2 none := (by refine World.grownBy.trans ?_ h; repeat (first | exact gr_refl _ _ | apply gr_drewN | apply gr_drew | apply gr_alloc)); have L_ := Az.mk (gr_new L.out h0 (by first | (simp; done) | (simp; omega) | omega)); have K_ := Az.mk (Cur.gr K.out h0 (by first | (simp; done) | (simp; omega) | omega) (by first | (simp; done) | (simp; omega) | omega)); have R_ := Az.mk (own_gr R.out h0 (by first | exact own_none _ | exact .inr hl?R.out | exact .inr (own_cur R.out K.out (by decide)))); clear L K R; have L := L_; clear L_; have K := K_; clear K_; have R := R_; clear R_; clear h0 h; have N := Az.mk hbN; clear hbN; have cN0 : World.cell? W2 ⟨gN, 0, none⟩ = some (.float .f32 y) := blkCell N.out 0; have cN1 : World.cell? W2 ⟨gN, 1, none⟩ = some (.complex .f32 u x) := blkCell N.out 1)) | ((with_reducible refine gateN 20 rfl ?_); go_must (refine ev_app 20 rfl rfl rfl Try.underlying40 (z := .agg #[.float .f32 0, .complex .f32 0 0]) (size := 2) (bytes := 12) (by kernel_rfl) rfl (by decide) rfl R.out rfl N.out rfl (by simp [Value.oneCell']) ?hbase ?hl ?hl2 ?_; (case hbase => have := L.out.size; omega); (case hl => omega); (case hl2 => omega); intro vR W3 hR h; have h0 : World.grownBy W2 W3 _ := (by refine World.grownBy.trans ?_ h; repeat (first | exact gr_refl _ _ | apply gr_drewN | apply gr_drew | apply gr_alloc)); clear cN0 cN1; have L_ := Az.mk (gr_new L.out h0 (fun j hj => .inl (own_base R.out j hj))); have K_ := Az.mk (Cur.gr K.out h0 (fun he => own_cur R.out K.out (by decide) he.symm) (by first | exact fun j hj => Nat.le_trans hS (own_base R.out j hj) | exact fun j hj => Nat.le_trans hS2 (own_base R.out j hj))); clear L K; have L := L_; clear L_; have K := K_; clear K_; clear h0 h; clear R N; have R := Az.mk hR; clear hR)))
      refine ⟨⟨cs ++ [(y, u, x)], k - 1, by congr 1; omega, by simp; omega, by simp; omega, ⟨fun c hc => ?_⟩, L, K, ⟨?_⟩⟩, by simp [intOf]; omega⟩
      · rcases List.mem_append.1 hc with h | h
        · exact HC.out c h
        · rw [List.mem_singleton.1 h]; exact HP.out
      · rw [List.length_append, cellsV_snoc]; exact R.out
    · have hk' : ¬ (0 : Int) < k := by omega
      go_wp2_with fail
      go_ret
      exact ⟨_, cs, by omega, by omega, HC.out, rfl, R.out, L.out⟩
end Go.Proofs.Ytjomilloilbcgaa
