/- What a set and a slice of texts that came in read as. No condition. -/
import Derived.Test.YtfjafeepmpnegaaDoorLc
import Derived.SliceStrings
import Derived.WideShapes
import Derived.ChangeArms
import Derived.RowKit
namespace Go.Proofs.YtfjafeepmpnegaaDoor
open Go.RowKit Go.WideShapes Go.ChangeShapes
set_option linter.unusedVariables false
set_option linter.unusedSimpArgs false

section
variable {H : Type} {enc : TypeId × Value → H} {P : Program} {w : World} {base : Nat} {spare : Nat → Bool} {held : Bool} {fuel : Nat} {t : TypeId} {cs : List Value} {x : DataW H × List MemPlace}
theorem trod_fl {k : FloatKind} (ht : P.underlying t = some (.float k)) (h : DataW.trod enc P w base spare held fuel t cs = some x) : ∃ b, cs = [.float k b] := by
  cases fuel with
  | zero => simp [DataW.trod] at h
  | succ n =>
    unfold DataW.trod at h
    rw [ht] at h
    split at h <;> simp_all
theorem cell_spot {a : Addr} {v : Value} (h : w.cell? a = some v) : a.spot = none := by
  unfold World.cell? at h
  split at h
  · split at h
    · cases h
    · rename_i hs
      simpa using hs
  · cases h
theorem texts_read {e : TypeId} {v : Value} (ht : P.underlying t = some (.slice e)) (he : P.underlying e = some .string) (hc : P.cellsOf e = 1) (h : DataW.trod enc P w base (fun _ => spare 0) held fuel t [v] = some x) :
    ∃ A n c fs, v = .slice A n c ∧ n ≤ c ∧ fs.length = n ∧ (∀ t ∈ fs, t.length ≤ 9223372036854775807) ∧ Rd w A n 1 (stV fs) := by
  rcases open_strings ht he hc h with ⟨h1, _⟩ | ⟨a, len, cap, ss, h1, _, hl, hm, hlen, _, hcell, hsz⟩
  · injection h1 with h1 _
    exact ⟨none, 0, 0, [], h1, by omega, rfl, fun t ht => by simp at ht, rfl, by omega, fun h => by omega⟩
  · injection h1 with h1 _
    have hss : len ≤ ss.length := by rw [hlen]; split <;> omega
    have hmx : cap ≤ 9223372036854775807 := by unfold maxLen at hm; omega
    refine ⟨some a, len, cap, (ss.take len).map fun b => b.data.toList, h1, hl, by simp; omega, fun t ht => ?_, ?_, by omega, fun h0 => ?_⟩
    · obtain ⟨b, hb, rfl⟩ := List.mem_map.1 ht
      have h2 := hsz b (List.mem_of_mem_take hb)
      have h3 : b.data.toList.length = b.size := rfl
      unfold maxLen at h2
      omega
    · rw [stV_len, List.length_map, List.length_take]; omega
    · have hs := cell_spot (hcell 0 (by omega))
      have ha : a = ⟨a.block, a.off, none⟩ := by
        obtain ⟨b, o, s⟩ := a
        have : s = none := hs
        subst this; rfl
      refine ⟨a.block, a.off, congrArg some ha, fun j u hu => ?_⟩
      have hj : j < len := by
        have := (List.getElem?_eq_some_iff.1 hu).1
        rw [stV_len, List.length_map, List.length_take] at this
        omega
      have hg : ss[j]? = some ss[j] := List.getElem?_eq_getElem (by omega)
      have h2 := hcell j (by omega)
      rw [List.getD_eq_getElem?_getD, hg] at h2
      have h2' : w.cell? (a.add j) = some (.string ss[j]) := h2
      have h3 : a.add j = ⟨a.block, a.off + j, none⟩ := by rw [ha]; rw [addAt]
      rw [h3] at h2'
      simp only [stV, List.map_map, List.getElem?_map, List.getElem?_take, if_pos hj, hg, Option.map_some, Function.comp] at hu
      injection hu with hu
      rw [← hu, tx_of]
      exact h2'
end
theorem cells3 : Tryd.prog.cellsOf 3 = 1 := by kernel_rfl
theorem cells22 : Tryd.prog.cellsOf 22 = 1 := by kernel_rfl
theorem cells23 : Tryd.prog.cellsOf 23 = 1 := by kernel_rfl
theorem cells9 : Tryd.prog.cellsOf 9 = 1 := by kernel_rfl
theorem cells25 : Tryd.prog.cellsOf 25 = 6 := by kernel_rfl
set_option maxRecDepth 8000 in
theorem set_read {H : Type} {enc : TypeId × Value → H} {W : World} {base b0 : Nat} {r : Reach} {sp : Bool} {held : Bool} {v : Value} {d : DataW H} {p : List MemPlace} (hval : Value.okWide Tryd.prog W r base 25 v)
    (h0 : DataW.Trod enc Tryd.prog W b0 (fun _ => sp) held 25 v d p) :
    ∃ (s : SetV) (A : Option Addr) (n c : Nat), v = .agg (s.cs (.slice A n c)) ∧ n ≤ c ∧ s.log.length = n ∧ (∀ t ∈ s.log, t.length ≤ 9223372036854775807) ∧ Rd W A n 1 (stV s.log) := by
  obtain ⟨cs, rfl, hsz⟩ := okWide_struct Tryd.underlying25 hval
  rw [cells25] at hsz
  obtain ⟨fuel, hf⟩ := h0
  obtain ⟨xs, m, _, _, hl, hlen, hfs⟩ := DataW.trod_struct Tryd.underlying25 hf
  obtain ⟨l⟩ := cs
  match l, hsz, hfs with
  | [c0, c1, c2, c3, c4, c5], _, hfs =>
    match xs, hlen, hfs with
    | [y0, y1, y2, y3, y4, y5], _, hfs =>
      have f0 : DataW.trod enc Tryd.prog W b0 (fun _ => sp) held m 3 [c0] = some y0 := by
        have h : DataW.trod enc Tryd.prog W b0 (fun _ => sp) held m 3 (([c0, c1, c2, c3, c4, c5].drop 0).take (Tryd.prog.cellsOf 3)) = some y0 := hfs 0 _ rfl
        rw [cells3] at h
        exact h
      have f1 : DataW.trod enc Tryd.prog W b0 (fun _ => sp) held m 3 [c1] = some y1 := by
        have h : DataW.trod enc Tryd.prog W b0 (fun _ => sp) held m 3 (([c0, c1, c2, c3, c4, c5].drop 1).take (Tryd.prog.cellsOf 3)) = some y1 := hfs 1 _ rfl
        rw [cells3] at h
        exact h
      have f2 : DataW.trod enc Tryd.prog W b0 (fun _ => sp) held m 22 [c2] = some y2 := by
        have h : DataW.trod enc Tryd.prog W b0 (fun _ => sp) held m 22 (([c0, c1, c2, c3, c4, c5].drop 2).take (Tryd.prog.cellsOf 22)) = some y2 := hfs 2 _ rfl
        rw [cells22] at h
        exact h
      have f3 : DataW.trod enc Tryd.prog W b0 (fun _ => sp) held m 22 [c3] = some y3 := by
        have h : DataW.trod enc Tryd.prog W b0 (fun _ => sp) held m 22 (([c0, c1, c2, c3, c4, c5].drop 3).take (Tryd.prog.cellsOf 22)) = some y3 := hfs 3 _ rfl
        rw [cells22] at h
        exact h
      have f4 : DataW.trod enc Tryd.prog W b0 (fun _ => sp) held m 22 [c4] = some y4 := by
        have h : DataW.trod enc Tryd.prog W b0 (fun _ => sp) held m 22 (([c0, c1, c2, c3, c4, c5].drop 4).take (Tryd.prog.cellsOf 22)) = some y4 := hfs 4 _ rfl
        rw [cells22] at h
        exact h
      have f5 : DataW.trod enc Tryd.prog W b0 (fun _ => sp) held m 23 [c5] = some y5 := by
        have h : DataW.trod enc Tryd.prog W b0 (fun _ => sp) held m 23 (([c0, c1, c2, c3, c4, c5].drop 5).take (Tryd.prog.cellsOf 23)) = some y5 := hfs 5 _ rfl
        rw [cells23] at h
        exact h
      obtain ⟨n0, e0, _, _⟩ := DataW.trod_int Tryd.underlying3 f0
      obtain ⟨n1, e1, _, _⟩ := DataW.trod_int Tryd.underlying3 f1
      obtain ⟨n2, e2⟩ := trod_fl Tryd.underlying22 f2
      obtain ⟨n3, e3⟩ := trod_fl Tryd.underlying22 f3
      obtain ⟨n4, e4⟩ := trod_fl Tryd.underlying22 f4
      obtain ⟨A, n, c, fs, e5, h1, h2, h3, h4⟩ := texts_read (spare := fun _ => sp) Tryd.underlying23 Tryd.underlying9 cells9 f5
      simp at e0 e1 e2 e3 e4
      subst e0; subst e1; subst e2; subst e3; subst e4; subst e5
      exact ⟨⟨n0, n1, n2, n3, n4, fs⟩, A, n, c, rfl, h1, h2, h3, h4⟩
end Go.Proofs.YtfjafeepmpnegaaDoor
