/- Draws of floats: contracts of spec.l01PickInt, l01Odd, l02Level, l01Real. No condition. -/
import Derived.Test.YtfjafeepmpnegaaDoorD1
namespace Go.Proofs.YtfjafeepmpnegaaDoor
open Go.RowKit
set_option linter.unusedVariables false
set_option linter.unusedSimpArgs false

def RetPick (w0 w : World) (g : Nat) (xs : List Int) (e : Ending) (w' : World) : Prop := ∃ r : Int, r ∈ xs ∧ e = .returned (.int .i64 r) ∧ Cur w0 w' g ∧ w.grownBy w' (some g)
theorem l01PickInt_c (w0 w : World) (g : Nat) (ad : Addr) (n c : Nat) (xs : List Int) (hl : xs.length = n) (hn : 0 < n) (hm : n ≤ 1000) (hcell : ∀ j, j < n → w.cell? (ad.add j) = some (.int .i64 (xs.getD j 0))) (hne : ad.block ≠ g) (hc : Cur w0 w g) :
    Calls Tryd.prog 99 #[.pointer (some ⟨g, 0, none⟩), .slice (some ad) n c] w (RetPick w0 w g xs) := by
  have HC := Az.mk hc
  have HN := Az.mk hne
  have HX := Az.mk hcell
  have HL := Az.mk hl
  clear hc hne hcell hl
  go_enter Tryd.func99, Tryd.ntmps99
  go_wp2_with fail
  refine (l01Below_c w0 _ g n (by omega) (by omega) HC.out).mono ?_
  rintro e w1 ⟨r, h0, h1, rfl, h2, h3⟩
  have H2 := Az.mk h2
  have H3 := Az.mk h3
  clear h2 h3
  have hx : w1.cell? (ad.add r.toNat) = some (.int .i64 (xs.getD r.toNat 0)) := cellGr H3.out (HX.out r.toNat (by omega)) (by rw [addBlock]; intro he; injection he with he; exact HN.out he)
  have hr : r < n := by omega
  go_wp2
  go_ret
  refine ⟨_, ?_, rfl, H2.out, H3.out⟩
  have hlt : r.toNat < xs.length := by rw [HL.out]; omega
  rw [List.getElem?_eq_getElem hlt]
  exact List.getElem_mem hlt

/-- What a draw of a float leaves. -/
def RetF (k : FloatKind) (w0 w : World) (g : Nat) (e : Ending) (w' : World) : Prop := ∃ b : Nat, e = .returned (.float k b) ∧ Cur w0 w' g ∧ w.grownBy w' (some g)
set_option maxHeartbeats 1000000 in
theorem l01Odd_c (w0 w : World) (g : Nat) (hc : Cur w0 w g) : Calls Tryd.prog 88 #[.pointer (some ⟨g, 0, none⟩)] w (RetF .f64 w0 w g) := by
  have HC := Az.mk hc
  clear hc
  go_enter Tryd.func88, Tryd.ntmps88
  go_wp2_with fail
  refine (l01Below_c w0 _ g 2 (by omega) (by omega) HC.out).mono ?_
  rintro e w1 ⟨r1, h01, h11, rfl, h2, h3⟩
  have K1 := Az.mk h2
  have L1 := Az.mk h3
  clear h2 h3
  go_wp2_with fail
  refine (l01Below_c w0 _ g 8 (by omega) (by omega) K1.out).mono ?_
  rintro e w2 ⟨r2, h02, h12, rfl, h2, h3⟩
  have K2 := Az.mk h2
  have L2 := Az.mk h3
  clear h2 h3
  go_wp2_with (first | ((with_reducible refine gateN 14 rfl ?_); refine wp_fl 14 rfl rfl rfl rfl rfl rfl ?_; intro b14 n14 hb14; have HF14 := Az.mk hb14; clear hb14) | ((with_reducible refine gateN 18 rfl ?_); refine wp_fl 18 rfl rfl rfl rfl rfl rfl ?_; intro b18 n18 hb18; have HF18 := Az.mk hb18; clear hb18) | ((with_reducible refine gateN 22 rfl ?_); refine wp_fl 22 rfl rfl rfl rfl rfl rfl ?_; intro b22 n22 hb22; have HF22 := Az.mk hb22; clear hb22))
  all_goals go_ret
  all_goals refine ⟨_, rfl, ?_, ?_⟩
  all_goals first | exact K2.out | exact K2.out.drewN _ | exact L1.out.trans L2.out | exact gr_drewN (L1.out.trans L2.out) _
end Go.Proofs.YtfjafeepmpnegaaDoor
