/- Contract of laws.sameSamples of equal lists. No condition. -/
import Derived.Test.YtjomilloilbcgaaCe
import Derived.Test.YtjomilloilbcgaaCs
import Derived.Test.YtjomilloilbcgaaM5
namespace Go.Proofs.Ytjomilloilbcgaa
open Go.RowKit
set_option linter.unusedVariables false
set_option linter.unusedSimpArgs false

set_option maxHeartbeats 1000000 in
theorem sameSamples_ok (A A' : Option Addr) (n c c' : Nat) (xs : List Nat) (w : World) (hn : xs.length = n) (hrd : Rd w A n 1 (flV xs)) (hrd' : Rd w A' n 1 (flV xs)) :
    Calls Try.prog 30 #[.slice A n c, .slice A' n c'] w (RetBo w true) := by
  have L := Az.mk (gr_refl w none)
  have HR := Az.mk hrd
  have HR' := Az.mk hrd'
  have HN := Az.mk hn
  have hmax := hrd.max
  clear hrd hrd' hn
  go_enter Try.func30, Try.ntmps30
  go_wp2_with fail
  go_loopw [5] (fun i wr => ∃ k : Nat, i = .int .i64 k ∧ k ≤ n ∧ Az (w.grownBy wr none)) (fun i _ => n - (intOf i).toNat)
  case atStart => exact ⟨0, by go_num, by omega, L⟩
  case round =>
    clear L
    obtain ⟨k, rfl, hkn, L⟩ := hrel
    by_cases hk : k < n
    · have hkc : k < xs.length := by rw [HN.out]; exact hk
      obtain ⟨b, off, rfl, hcell⟩ := (HR.out.up L.out).2.2 (by omega)
      obtain ⟨b', off', rfl, hcell'⟩ := (HR'.out.up L.out).2.2 (by omega)
      have d0 := Rd.flAt' hcell k hkc
      have d1 := Rd.flAt' hcell' k hkc
      clear hcell hcell'
      go_wp2_with fail
      have v0 : ∀ w1, Up wr w1 → w1.cell? ⟨b, off + k, none⟩ = some (.float .f32 xs[k]) := fun w1 hu => cellGr hu d0 (by simp)
      have v1 : ∀ w1, Up wr w1 → w1.cell? ⟨b', off' + k, none⟩ = some (.float .f32 xs[k]) := fun w1 hu => cellGr hu d1 (by simp)
      refine wp_region_relF (fun _ _ v _ => v = .bool true) (by kernel_rfl) (by kernel_rfl) ?_
      repeat (first | ((with_reducible refine gateLexN 25 rfl ?_); go_must (refine lex_call rfl Try.func70 (by kernel_rfl) rfl #[.float .f32 xs[k], .float .f32 xs[k]] rfl (by simp only [List.map_toArray, List.map_cons, List.map_nil]; rfl) (fun w1 hu => (same32_self xs[k] w1).mono ?_) ?_; (rintro e w2 ⟨rfl, h⟩; exact ⟨_, rfl, h, rfl⟩); rintro v ⟨w2, rfl⟩; refine lexK (fun K hK => ?_); go_simp; refine hK _ ?_; clear hK K)) | (refine lex_val' rfl ?_; apply Exists.intro; refine ⟨fun w1 hu => ?_, ?_⟩; (focus (first | (go_simp; done) | (go_simp; rfl))); refine lexK (fun K hK => ?_); go_simp; refine hK _ ?_; clear hK K))
      refine lex_nil (fun W1 h hF => ?_)
      have h0 : World.grownBy wr W1 none := (by refine World.grownBy.trans ?_ h; repeat (first | exact gr_refl _ _ | apply gr_drewN | apply gr_drew | apply gr_alloc))
      have L_ := Az.mk (gr_new L.out h0 (by first | (simp; done) | (simp; omega) | omega))
      clear L
      have L := L_; clear L_
      clear h0 h
      clear hF
      clear v0 v1 d0 d1
      go_wp2_with fail
      exact ⟨⟨k + 1, by go_num, by omega, L⟩, by simp only [intOf]; omega⟩
    · go_wp2_with fail
      go_ret
      exact ⟨rfl, L.out⟩
end Go.Proofs.Ytjomilloilbcgaa
