/- Contracts of laws.markStringS, heldStringS. No condition. -/
import Derived.Test.YtfjafeepmpnegaaDoorLa
namespace Go.Proofs.YtfjafeepmpnegaaDoor
open Go.RowKit
set_option linter.unusedVariables false
set_option linter.unusedSimpArgs false

set_option maxRecDepth 8000 in
set_option maxHeartbeats 1000000 in
theorem markStringS_c (base : Nat) (A : Option Addr) (n c k : Nat) (fs : List Tx) (hk : k ≤ 1000000000000) (hn : n ≤ 1000000000000) (hfs : fs.length = n) (w : World) (ho : w.ownsRow base 9 1 (.slice A n c) n (stV fs)) :
    Calls Tryd.prog 29 #[.slice A n c, .int .i64 k] w (RetMark base A n c k w) := by
  have R := Az.mk ho
  by_cases h0 : n = 0
  · subst h0
    have hf : fs = [] := List.length_eq_zero_iff.1 hfs
    have HF := Az.mk hf
    clear hf ho
    have L := Az.mk (gr_refl w (Value.slice A 0 c).ownBlock)
    go_enter Tryd.func29, Tryd.ntmps29
    go_wp2_with fail
    go_loopw [1, 5] (fun z i wr => z = .int .i64 k ∧ i = .int .i64 0 ∧ wr = w) (fun _ _ _ => 0)
    case atStart => exact ⟨rfl, rfl, rfl⟩
    case round =>
      obtain ⟨rfl, rfl, rfl⟩ := hrel
      go_wp2_with fail
      go_ret
      exact ⟨rfl, by have h := R.out; rw [HF.out] at h; exact h, L.out⟩
  · obtain ⟨g, c', hgF, hcF, hgF2, hgF3⟩ := own_slice ho (by omega)
    injection hgF with e1 e2 e3
    subst e1
    subst e3
    clear ho
    have L := Az.mk (gr_refl w (some g))
    have HXL : Az ((stV (marks k n)).length = (stV fs).length) := ⟨by rw [stV_len, stV_len, marks_len, hfs]⟩
    obtain ⟨xs, hxs⟩ : ∃ xs, stV fs = xs := ⟨_, rfl⟩
    rw [hxs] at R HXL
    clear hxs hfs
    go_enter Tryd.func29, Tryd.ntmps29
    go_wp2_with fail
    go_loopw [1, 5] (fun z i wr => ∃ j : Nat, i = .int .i64 j ∧ z = .int .i64 ((k + j : Nat) : Int) ∧ j ≤ n ∧ Az (w.grownBy wr (some g)) ∧ Az (wr.ownsRow base 9 1 (.slice (some ⟨g, 0, none⟩) n c) n (mix (stV (marks k n)) xs j))) (fun _ i _ => n - (intOf i).toNat)
    case atStart => exact ⟨0, by go_num, by rw [Nat.add_zero], by omega, L, ⟨by rw [mix_zero]; exact R.out⟩⟩
    case round =>
      clear L R
      obtain ⟨j, rfl, rfl, hj, L, R⟩ := hrel
      by_cases hjn : j < n
      · have hji : (j : Int) < n := by omega
        have HM := Az.mk (mix_set HXL.out (stV_get (marks_get (k := k) hjn)))
        go_wp2_with fail
        refine (markText_c (k + j) (by omega) _).mono ?_
        rintro e w1 ⟨rfl, h⟩
        have h0 : World.grownBy wr w1 _ := (by refine World.grownBy.trans ?_ h; repeat (first | exact gr_refl _ _ | apply gr_drewN | apply gr_drew | apply gr_alloc))
        have L_ := Az.mk (gr_new L.out h0 (by first | (simp; done) | (simp; omega) | omega))
        have R_ := Az.mk (own_gr R.out h0 (by first | exact own_none _ | exact .inr hl?R.out))
        clear L R
        have L := L_; clear L_
        have R := R_; clear R_
        clear h0 h
        go_wp2_with (first | ((with_reducible refine gateSt 16 rfl ?_); go_must (refine ev_so1 rfl rfl rfl (i := j) (v := .string (tx (markT (k + j)))) rfl rfl R.out (by kernel_rfl) rfl (by omega) ?_; intro W1 hR h; have h0 : World.grownBy w1 W1 _ := (by refine World.grownBy.trans ?_ h; repeat (first | exact gr_refl _ _ | apply gr_drewN | apply gr_drew | apply gr_alloc)); have L_ := Az.mk (gr_new L.out h0 (by first | exact (fun j hj => .inl (own_base R.out j hj)) | exact (fun j hj => .inr (by simpa [Value.ownBlock] using hj)) | exact (fun j hj => .inr (by simpa [Value.ownBlock] using hj.symm)))); clear L; have L := L_; clear L_; clear h0 h; clear R; have R := Az.mk hR; clear hR)))
        exact ⟨⟨j + 1, by go_num, by first | rfl | (congr 1; done) | (congr 1; omega), by omega, L, ⟨by rw [← HM.out]; exact R.out⟩⟩, by simp only [intOf]; omega⟩
      · obtain rfl : j = n := by omega
        go_wp2_with fail
        go_ret
        refine ⟨rfl, ?_, L.out⟩
        have h1 := mix_all HXL.out
        rw [stV_len, marks_len] at h1
        rw [← h1]
        exact R.out
set_option maxRecDepth 8000 in
set_option maxHeartbeats 1000000 in
theorem heldStringS_c (A : Option Addr) (n c k : Nat) (hk : k ≤ 1000000000000) (hn : n ≤ 1000000000000) (w : World) (hrd : Rd w A n 1 (stV (marks k n))) :
    Calls Tryd.prog 60 #[.slice A n c, .int .i64 k] w (fun e w' => e = .returned (.int .i64 ((k + n : Nat) : Int)) ∧ w.grownBy w' none) := by
  have L := Az.mk (gr_refl w none)
  have HR := Az.mk hrd
  clear hrd
  go_enter Tryd.func60, Tryd.ntmps60
  go_wp2_with fail
  go_loopw [1, 5] (fun z i wr => ∃ j : Nat, i = .int .i64 j ∧ z = .int .i64 ((k + j : Nat) : Int) ∧ j ≤ n ∧ Az (w.grownBy wr none)) (fun _ i _ => n - (intOf i).toNat)
  case atStart => exact ⟨0, by go_num, by rw [Nat.add_zero], by omega, L⟩
  case round =>
    clear L
    obtain ⟨j, rfl, rfl, hj, L⟩ := hrel
    by_cases hjn : j < n
    · have hji : (j : Int) < n := by omega
      obtain ⟨b, off, rfl, hcell⟩ := (HR.out.up L.out).2.2 (by omega)
      have d0 := hcell _ _ (stV_get (marks_get (k := k) hjn))
      clear hcell
      go_wp2_with fail
      have v0 : ∀ w1, Up wr w1 → w1.cell? ⟨b, off + j, none⟩ = some (.string (tx (markT (k + j)))) := fun w1 hu => cellGr hu d0 (by simp)
      refine wp_region_relF (fun _ _ v _ => v = .string (tx (markT (k + j)))) (by kernel_rfl) (by kernel_rfl) ?_
      repeat (first | ((with_reducible refine gateLexN 17 rfl ?_); go_must (refine lex_call rfl Tryd.func61 (by kernel_rfl) rfl #[.int .i64 ((k + j : Nat) : Int)] rfl (by simp only [List.map_toArray, List.map_cons, List.map_nil]; rfl) (fun w1 hu => (markText_c (k + j) (by omega) w1).mono ?_) ?_; (rintro e w2 ⟨rfl, h⟩; exact ⟨_, rfl, h, rfl⟩); rintro v ⟨w2', rfl⟩; refine lexK (fun K hK => ?_); go_simp; refine hK _ ?_; clear hK K)) | (refine lex_val' rfl ?_; apply Exists.intro; refine ⟨fun w1 hu => ?_, ?_⟩; (focus (first | (go_simp; done) | (go_simp; rfl))); refine lexK (fun K hK => ?_); go_simp; refine hK _ ?_; clear hK K))
      refine lex_nil (fun W1 h hF => ?_)
      have h0 : World.grownBy wr W1 none := (by refine World.grownBy.trans ?_ h; repeat (first | exact gr_refl _ _ | apply gr_drewN | apply gr_drew | apply gr_alloc))
      have L_ := Az.mk (gr_new L.out h0 (by first | (simp; done) | (simp; omega) | omega))
      clear L
      have L := L_; clear L_
      clear h0 h
      clear hF
      clear d0
      go_wp2_with fail
      exact ⟨⟨j + 1, by go_num, by first | rfl | (congr 1; done) | (congr 1; omega), by omega, L⟩, by simp only [intOf]; omega⟩
    · obtain rfl : j = n := by omega
      go_wp2_with fail
      go_ret
      exact ⟨rfl, L.out⟩
end Go.Proofs.YtfjafeepmpnegaaDoor
