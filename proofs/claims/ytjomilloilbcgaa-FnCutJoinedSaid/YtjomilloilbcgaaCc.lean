/- Contracts of laws.sameInts (of equal lists), impl.lengthOk. No condition. -/
import Derived.Test.YtjomilloilbcgaaCb
namespace Go.Proofs.Ytjomilloilbcgaa
open Go.RowKit
set_option linter.unusedVariables false
set_option linter.unusedSimpArgs false

def intsV (is : List Int) : List Value := is.map (.int .i64)
theorem intsV_get (is : List Int) (k : Nat) (hk : k < is.length) : (intsV is)[k]? = some (.int .i64 is[k]) := by simp [intsV, hk]
theorem intsV_snoc (is : List Int) (i : Int) : intsV (is ++ [i]) = intsV is ++ [.int .i64 i] := by simp [intsV]
theorem lengthOk_c (n : Int) (w : World) : Calls Try.prog 65 #[.int .i64 n] w (RetBo w (decide (28 ≤ n) && decide (n ≤ 280))) := by
  have L := Az.mk (gr_refl w none)
  go_enter Try.func65, Try.ntmps65
  go_wp2_with fail
  refine (within_c _ _ _ _).mono ?_
  rintro e w1 ⟨rfl, h⟩
  have h0 : World.grownBy w w1 _ := (by refine World.grownBy.trans ?_ h; repeat (first | exact gr_refl _ _ | apply gr_drewN | apply gr_drew | apply gr_alloc))
  have L_ := Az.mk (gr_new L.out h0 (by first | (simp; done) | (simp; omega) | omega))
  clear L
  have L := L_; clear L_
  clear h0 h
  go_wp2_with fail
  go_ret
  exact ⟨rfl, L.out⟩
set_option maxHeartbeats 1000000 in
theorem sameInts_ok (A A' : Option Addr) (n c c' : Nat) (xs : List Int) (w : World) (hn : xs.length = n) (hrd : Rd w A n 1 (intsV xs)) (hrd' : Rd w A' n 1 (intsV xs)) :
    Calls Try.prog 29 #[.slice A n c, .slice A' n c'] w (RetBo w true) := by
  have L := Az.mk (gr_refl w none)
  have HR := Az.mk hrd
  have HR' := Az.mk hrd'
  have HN := Az.mk hn
  have hmax := hrd.max
  clear hrd hrd' hn
  go_enter Try.func29, Try.ntmps29
  go_wp2_with fail
  go_loopw [5] (fun i wr => ∃ k : Nat, i = .int .i64 k ∧ k ≤ n ∧ Az (w.grownBy wr none)) (fun i _ => n - (intOf i).toNat)
  case atStart => exact ⟨0, by go_num, by omega, L⟩
  case round =>
    clear L
    obtain ⟨k, rfl, hkn, L⟩ := hrel
    by_cases hk : k < n
    · have hkc : k < xs.length := by rw [HN.out]; exact hk
      obtain ⟨b, off, rfl, hcell⟩ := (HR.out.up L.out).2.2 (by omega)
      obtain ⟨b', off', rfl, hcell'⟩ := (HR'.out.up L.out).2.2 (by omega)
      have d0 := hcell _ _ (intsV_get xs k hkc)
      have d1 := hcell' _ _ (intsV_get xs k hkc)
      clear hcell hcell'
      go_wp2_with fail
      have v0 : ∀ w1, Up wr w1 → w1.cell? ⟨b, off + k, none⟩ = some (.int .i64 xs[k]) := fun w1 hu => cellGr hu d0 (by simp)
      have v1 : ∀ w1, Up wr w1 → w1.cell? ⟨b', off' + k, none⟩ = some (.int .i64 xs[k]) := fun w1 hu => cellGr hu d1 (by simp)
      refine wp_region_relF (fun _ _ _ _ => True) (by kernel_rfl) (by kernel_rfl) ?_
      repeat (first | (refine lex_val' rfl ?_; apply Exists.intro; refine ⟨fun w1 hu => ?_, ?_⟩; (focus (first | (go_simp; done) | (go_simp; rfl))); refine lexK (fun K hK => ?_); go_simp; refine hK _ ?_; clear hK K))
      refine lex_nil (fun W1 h hF => ?_)
      have h0 : World.grownBy wr W1 none := (by refine World.grownBy.trans ?_ h; repeat (first | exact gr_refl _ _ | apply gr_drewN | apply gr_drew | apply gr_alloc))
      have L_ := Az.mk (gr_new L.out h0 (by first | (simp; done) | (simp; omega) | omega))
      clear L
      have L := L_; clear L_
      clear h0 h
      clear hF
      clear v0 v1 d0 d1
      go_wp2_with fail
      exact ⟨⟨k + 1, by go_num, by omega, L⟩, by simp only [intOf]; omega⟩
    · go_wp2_with fail
      go_ret
      exact ⟨rfl, L.out⟩
end Go.Proofs.Ytjomilloilbcgaa
