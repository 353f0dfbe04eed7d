/- Contracts of impl.samplesBounded, SamplesOk, laws.equals. No condition. -/
import Derived.Test.YtjomilloilbcgaaC5
namespace Go.Proofs.Ytjomilloilbcgaa
open Go.RowKit
set_option linter.unusedVariables false
set_option linter.unusedSimpArgs false

def sampleOk (x : F32) : Bool := fle (amountN x) (fc 1149239296)
def okS (b : Nat) : Bool := sampleOk (fN .f32 b)
theorem flV_len (bs : List Nat) : (flV bs).length = bs.length := by simp [flV]
theorem flV_get (bs : List Nat) (k : Nat) (hk : k < bs.length) : (flV bs)[k]? = some (.float .f32 bs[k]) := by simp [flV, hk]
theorem Rd.flAt {w : World} {b off : Nat} {bs : List Nat} (h : ∀ j u, (flV bs)[j]? = some u → w.cell? ⟨b, off + j, none⟩ = some u) (k : Nat) (hk : k < bs.length) : w.cell? ⟨b, off + k, none⟩ = some (.float .f32 bs[k]) := h _ _ (flV_get bs k hk)

set_option maxHeartbeats 1000000 in
theorem samplesBounded1_c (x : Nat) (w : World) : Calls Try.prog 109 #[.float .f32 x] w (RetBo w (!sampleOk (fN .f32 x))) := by
  have L := Az.mk (gr_refl w none)
  go_enter Try.func109, Try.ntmps109
  go_wp2_with fail
  refine (amount_c x _).mono ?_
  rintro e w1 ⟨b3, hb3, rfl, h⟩
  have h0 : World.grownBy w w1 _ := (by refine World.grownBy.trans ?_ h; repeat (first | exact gr_refl _ _ | apply gr_drewN | apply gr_drew | apply gr_alloc))
  have L_ := Az.mk (gr_new L.out h0 (by first | (simp; done) | (simp; omega) | omega))
  clear L
  have L := L_; clear L_
  clear h0 h
  have HB3 := Az.mk hb3
  clear hb3
  go_wp2_with fail
  go_ret
  refine ⟨?_, L.out⟩
  have e : (FloatKind.f32.format.order b3 1149239296 == some .lt || FloatKind.f32.format.order b3 1149239296 == some .eq) = sampleOk (fN .f32 x) := by rw [o_le, HB3.out]; rfl
  rw [← e, Bool.not_or]
  rfl

set_option maxHeartbeats 1000000 in
theorem IndexFl_c (A : Option Addr) (n c : Nat) (cs : List Nat) (w : World) (hn : cs.length = n) (hrd : Rd w A n 1 (flV cs)) :
    Calls Try.prog 125 #[.slice A n c, .func (.func 109) #[] #[]] w (RetIdx w (!(cs.all okS))) := by
  have L := Az.mk (gr_refl w none)
  have HR := Az.mk hrd
  have HN := Az.mk hn
  have hmax := hrd.max
  clear hrd hn
  go_enter Try.func125, Try.ntmps125
  go_wp2_with fail
  go_loopw [8] (fun i wr => ∃ k : Nat, i = .int .i64 k ∧ k ≤ n ∧ Az (∀ j (hj : j < cs.length), j < k → okS cs[j] = true) ∧ Az (w.grownBy wr none)) (fun i _ => n - (intOf i).toNat)
  case atStart => exact ⟨0, by go_num, by omega, ⟨fun j hj h => by omega⟩, L⟩
  case round =>
    clear L
    obtain ⟨k, rfl, hkn, HK, L⟩ := hrel
    by_cases hk : k < n
    · have hkc : k < cs.length := by rw [HN.out]; exact hk
      obtain ⟨b, off, rfl, hcell⟩ := (HR.out.up L.out).2.2 (by omega)
      have hc1 := Rd.flAt hcell k hkc
      clear hcell
      go_wp2_with fail
      refine (samplesBounded1_c _ _).mono ?_
      rintro e w1 ⟨rfl, h⟩
      have h0 : World.grownBy wr w1 _ := (by refine World.grownBy.trans ?_ h; repeat (first | exact gr_refl _ _ | apply gr_drewN | apply gr_drew | apply gr_alloc))
      have L_ := Az.mk (gr_new L.out h0 (by first | (simp; done) | (simp; omega) | omega))
      clear L
      have L := L_; clear L_
      clear h0 h
      by_cases ho : okS cs[k] = true
      · have ho' : sampleOk (fN .f32 cs[k]) = true := ho
        have HO := Az.mk ho
        rw [ho']
        go_wp2_with fail
        refine ⟨⟨k + 1, by go_num, by omega, ⟨fun j hj h => ?_⟩, L⟩, by simp only [intOf]; omega⟩
        by_cases hjk : j < k
        · exact HK.out j hj hjk
        · have : j = k := by omega
          subst this
          exact HO.out
      · have ho' : sampleOk (fN .f32 cs[k]) = false := by simpa [okS] using ho
        rw [ho']
        go_wp2_with fail
        go_ret
        have hall : cs.all okS = false := by
          cases h : cs.all okS with
          | false => rfl
          | true => exact absurd (List.all_eq_true.1 h cs[k] (List.getElem_mem hkc)) ho
        exact ⟨k, by rw [hall]; simp, rfl, L.out⟩
    · have hall : cs.all okS = true := by
        rw [List.all_eq_true]; intro c hc
        obtain ⟨j, hj, rfl⟩ := List.getElem_of_mem hc
        exact HK.out j hj (by have := HN.out; omega)
      go_wp2_with fail
      go_ret
      exact ⟨-1, by rw [hall]; rfl, rfl, L.out⟩
set_option maxHeartbeats 1000000 in
theorem ContainsFl_c (A : Option Addr) (n c : Nat) (cs : List Nat) (w : World) (hn : cs.length = n) (hrd : Rd w A n 1 (flV cs)) :
    Calls Try.prog 108 #[.slice A n c, .func (.func 109) #[] #[]] w (RetBo w (!(cs.all okS))) := by
  have L := Az.mk (gr_refl w none)
  have HR := Az.mk hrd
  have HN := Az.mk hn
  clear hrd hn
  go_enter Try.func108, Try.ntmps108
  go_wp2_with fail
  refine (IndexFl_c A n c cs _ HN.out HR.out).mono ?_
  rintro e w1 ⟨r, hr, rfl, h⟩
  have h0 : World.grownBy w w1 _ := (by refine World.grownBy.trans ?_ h; repeat (first | exact gr_refl _ _ | apply gr_drewN | apply gr_drew | apply gr_alloc))
  have L_ := Az.mk (gr_new L.out h0 (by first | (simp; done) | (simp; omega) | omega))
  clear L
  have L := L_; clear L_
  clear h0 h
  have HI := Az.mk hr
  clear hr
  go_wp2_with fail
  go_ret
  exact ⟨by rw [HI.out]; rfl, L.out⟩
set_option maxHeartbeats 1000000 in
theorem samplesBounded_c (A : Option Addr) (n c : Nat) (cs : List Nat) (w : World) (hn : cs.length = n) (hrd : Rd w A n 1 (flV cs)) : Calls Try.prog 89 #[.slice A n c] w (RetBo w (cs.all okS)) := by
  have L := Az.mk (gr_refl w none)
  have HR := Az.mk hrd
  have HN := Az.mk hn
  clear hrd hn
  go_enter Try.func89, Try.ntmps89
  go_wp2_with fail
  refine (ContainsFl_c A n c cs _ HN.out HR.out).mono ?_
  rintro e w1 ⟨rfl, h⟩
  have h0 : World.grownBy w w1 _ := (by refine World.grownBy.trans ?_ h; repeat (first | exact gr_refl _ _ | apply gr_drewN | apply gr_drew | apply gr_alloc))
  have L_ := Az.mk (gr_new L.out h0 (by first | (simp; done) | (simp; omega) | omega))
  clear L
  have L := L_; clear L_
  clear h0 h
  go_wp2_with fail
  go_ret
  exact ⟨by simp, L.out⟩
def samplesOkN (fs : List F32) : Bool := ((decide (4 ≤ fs.length) && decide (fs.length ≤ 4096)) && decide (fs.length % 4 = 0)) && fs.all sampleOk
set_option maxHeartbeats 1000000 in
theorem SamplesOk_c (A : Option Addr) (n c : Nat) (cs : List Nat) (w : World) (hn : cs.length = n) (hrd : Rd w A n 1 (flV cs)) : Calls Try.prog 58 #[.slice A n c] w (RetBo w (samplesOkN (cs.map (fN .f32)))) := by
  have L := Az.mk (gr_refl w none)
  have HR := Az.mk hrd
  have HN := Az.mk hn
  have hmax := hrd.max
  clear hrd hn
  go_enter Try.func58, Try.ntmps58
  go_wp2_with fail
  refine (within_c _ _ _ _).mono ?_
  rintro e w1 ⟨rfl, h⟩
  have h0 : World.grownBy w w1 _ := (by refine World.grownBy.trans ?_ h; repeat (first | exact gr_refl _ _ | apply gr_drewN | apply gr_drew | apply gr_alloc))
  have L_ := Az.mk (gr_new L.out h0 (by first | (simp; done) | (simp; omega) | omega))
  clear L
  have L := L_; clear L_
  clear h0 h
  by_cases hk : 4 ≤ n ∧ n ≤ 4096
  · have e1 : (decide ((4 : Int) ≤ n) && decide ((n : Int) ≤ 4096)) = true := by simp; omega
    rw [e1]
    by_cases hm : n % 4 = 0
    · have hm' : ((n : Int) % 4) = 0 := by omega
      go_wp2_with fail
      refine (samplesBounded_c A n c cs _ HN.out (HR.out.up L.out)).mono ?_
      rintro e w2 ⟨rfl, h⟩
      have h0 : World.grownBy w1 w2 _ := (by refine World.grownBy.trans ?_ h; repeat (first | exact gr_refl _ _ | apply gr_drewN | apply gr_drew | apply gr_alloc))
      have L_ := Az.mk (gr_new L.out h0 (by first | (simp; done) | (simp; omega) | omega))
      clear L
      have L := L_; clear L_
      clear h0 h
      go_wp2_with fail
      go_ret
      refine ⟨?_, L.out⟩
      have := HN.out
      have e2 : decide (4 ≤ cs.length) = true := by simp; omega
      have e3 : decide (cs.length ≤ 4096) = true := by simp; omega
      have e4 : decide (cs.length % 4 = 0) = true := by simp; omega
      have e5 : (cs.map (fN .f32)).all sampleOk = cs.all okS := by rw [List.all_map]; rfl
      rw [samplesOkN, e5, List.length_map, e2, e3, e4]
      rfl
    · have hm' : (((n : Int) % 4) == 0) = false := by simp; omega
      go_wp2_with fail
      go_ret
      refine ⟨?_, L.out⟩
      have := HN.out
      have e4 : decide (cs.length % 4 = 0) = false := by simp; omega
      rw [samplesOkN, List.length_map, e4, Bool.and_false, Bool.false_and]
      rfl
  · have e1 : (decide ((4 : Int) ≤ n) && decide ((n : Int) ≤ 4096)) = false := by simp; omega
    rw [e1]
    go_wp2_with fail
    go_ret
    refine ⟨?_, L.out⟩
    have e2 : (decide (4 ≤ cs.length) && decide (cs.length ≤ 4096)) = false := by have := HN.out; simp; omega
    simp [samplesOkN, e2]
end Go.Proofs.Ytjomilloilbcgaa
