/- Words about slices: what is read, what the call owns, append. No condition. -/
import Derived.Test.YtfjafeepmpnegaaDoorRg
import Derived.Test.YtfjafeepmpnegaaDoorCu
import Derived.Laws.AppendOwn
namespace Go.Proofs.YtfjafeepmpnegaaDoor
open Go.RowKit
set_option linter.unusedVariables false
set_option linter.unusedSimpArgs false

/-- A slice of n elements of sz cells that reads as these cells. -/
def Rd (w : World) (A : Option Addr) (n sz : Nat) (xs : List Value) : Prop :=
  xs.length = n * sz ∧ n ≤ 9223372036854775807 ∧ (0 < n → ∃ b off, A = some ⟨b, off, none⟩ ∧ ∀ j u, xs[j]? = some u → w.cell? ⟨b, off + j, none⟩ = some u)
theorem Rd.up {w w1 : World} {A : Option Addr} {n sz : Nat} {xs : List Value} (h : Rd w A n sz xs) (hg : w.grownBy w1 none) : Rd w1 A n sz xs :=
  ⟨h.1, h.2.1, fun hn => by
    obtain ⟨b, off, e, hc⟩ := h.2.2 hn
    exact ⟨b, off, e, fun j u hu => cellGr hg (hc j u hu) (by simp)⟩⟩
theorem Rd.len {w : World} {A : Option Addr} {n sz : Nat} {xs : List Value} (h : Rd w A n sz xs) : xs.length = n * sz := h.1
theorem Rd.max {w : World} {A : Option Addr} {n sz : Nat} {xs : List Value} (h : Rd w A n sz xs) : n ≤ 9223372036854775807 := h.2.1
theorem Rd.nil (w : World) (sz : Nat) : Rd w none 0 sz [] := ⟨by simp, by omega, fun h => by omega⟩

theorem own_nil (w : World) (base : Nat) (e : TypeId) (size : Nat) : w.ownsRow base e size (.slice none 0 0) 0 [] := ⟨by simp, .inl ⟨rfl, rfl⟩⟩
theorem own_gr {w w1 : World} {base : Nat} {e : TypeId} {size : Nat} {v : Value} {n : Nat} {xs : List Value} {row : Option Nat} (h : w.ownsRow base e size v n xs) (hg : w.grownBy w1 row) (hne : v.ownBlock = none ∨ v.ownBlock ≠ row) : w1.ownsRow base e size v n xs := h.kept hg hne
theorem own_none (v : Value) : v.ownBlock = none ∨ v.ownBlock ≠ none := by cases v.ownBlock <;> simp
theorem own_base {w : World} {base : Nat} {e : TypeId} {size : Nat} {v : Value} {n : Nat} {xs : List Value} (h : w.ownsRow base e size v n xs) (k : Nat) (hk : v.ownBlock = some k) : base ≤ k := (h.lt k hk).1
theorem own_weak {w : World} {base base' : Nat} {e : TypeId} {size : Nat} {v : Value} {n : Nat} {xs : List Value} (h : w.ownsRow base e size v n xs) (hb : base' ≤ base) : w.ownsRow base' e size v n xs := by
  refine ⟨h.1, ?_⟩
  rcases h.2 with h1 | ⟨g, cap, cur, h1, h2, h3⟩
  · exact .inl h1
  · exact .inr ⟨g, cap, cur, h1, Nat.le_trans hb h2, h3⟩
theorem own_blk {w : World} {base : Nat} {e t : TypeId} {size : Nat} {v : Value} {n g : Nat} {xs : List Value} {cs : Array Value} {fr : Nat × Nat} (h : w.ownsRow base e size v n xs) (hg : w.heap[g]? = some (.cells cs t fr)) (hne : e ≠ t) : v.ownBlock ≠ some g := by
  intro hk
  rcases h.2 with ⟨rfl, _⟩ | ⟨g', cap, cur, rfl, hb, hh, _⟩
  · simp [Value.ownBlock] at hk
  · have : g' = g := by simpa [Value.ownBlock] using hk
    subst this
    rw [hh] at hg
    injection hg with hg
    injection hg with _ h2
    exact hne h2
theorem own_cur {w0 w : World} {base : Nat} {e : TypeId} {size : Nat} {v : Value} {n g : Nat} {xs : List Value} (h : w.ownsRow base e size v n xs) (hk : Cur w0 w g) (hne : e ≠ 93) : v.ownBlock ≠ some g := by
  obtain ⟨_, _, A, n, c, i, q, _, _, _, _, hb⟩ := hk
  exact own_blk h hb hne
theorem own_own {w : World} {base base' : Nat} {e e' : TypeId} {size size' : Nat} {v v' : Value} {n n' : Nat} {xs xs' : List Value} (h : w.ownsRow base e size v n xs) (h' : w.ownsRow base' e' size' v' n' xs') (hne : e ≠ e') : v.ownBlock = none ∨ v.ownBlock ≠ v'.ownBlock := by
  rcases h.2 with ⟨rfl, _⟩ | ⟨g, cap, cur, rfl, hb, hh, _⟩
  · exact .inl rfl
  · refine .inr fun hk => ?_
    exact own_blk h' hh (fun e => hne e.symm) hk.symm
theorem own_lows {w : World} {base : Nat} {e : TypeId} {size : Nat} {v : Value} {n : Nat} {xs : List Value} (h : w.ownsRow base e size v n xs) {g : Nat} (hg : w.heap.size ≤ g) : v.ownBlock ≠ some g := fun hk => by
  have := (h.lt g hk).2; omega
theorem addPlain (g j : Nat) : (⟨g, 0, none⟩ : Addr).add j = ⟨g, j, none⟩ := by rw [addAt, Nat.zero_add]
theorem own_rd {w : World} {base : Nat} {e : TypeId} {size : Nat} {v : Value} {n : Nat} {xs : List Value} (h : w.ownsRow base e size v n xs) : ∃ A c, v = .slice A n c ∧ n ≤ c ∧ Rd w A n size xs ∧ (∀ ad, A = some ad → base ≤ ad.block) := by
  have h0 := h
  rcases h.2 with ⟨rfl, rfl⟩ | ⟨g, cap, cur, rfl, hb, hh, h1, h2, h3, h4⟩
  · exact ⟨none, 0, rfl, Nat.le_refl _, ⟨h.1, by omega, fun hn => by omega⟩, fun ad h => by cases h⟩
  · refine ⟨_, cap, rfl, h1, ⟨h.1, ?_, fun _ => ⟨g, 0, rfl, fun j u hu => by have := h0.cells (g := g) rfl j u hu; rw [addPlain] at this; rw [Nat.zero_add]; exact this⟩⟩, fun ad h => by injection h with h; subst h; exact hb⟩
    simp only [maxLen] at h2; omega
/-- A block of one's own is a slice of one's own. -/
theorem own_of_blk {w : World} {g : Nat} {e : TypeId} {cs : Array Value} {size m : Nat} (hb : w.heap[g]? = some (.cells cs e (0, 0))) (base : Nat) (hbase : base ≤ g) (hm : cs.size = m * size) (hmax : m ≤ maxLen) : w.ownsRow base e size (.slice (some ⟨g, 0, none⟩) m m) m cs.toList :=
  ⟨by simp [hm], .inr ⟨g, m, cs, rfl, hbase, hb, Nat.le_refl _, hmax, hm, List.take_of_length_le (by simp [hm])⟩⟩

section
variable {P : Program} {ops : Array Oper} {rest : List Oper} {o : Oper} {a : Act} {Q : Exit → Act → World → Prop} {W : World}
/-- 'append(s, x..)' of a literal. -/
theorem ev_app (N : Tmp) (hd : o.dst = some N) (hg : o.guard = none) {s x : Operand} {t : TypeId} (ho : o.op = .call { callee := .builtin .append, args := #[s, x], argTypes := #[t, t] })
    {e : TypeId} {z : Value} {size bytes : Nat} (ht : P.underlying t = some (.slice e)) (hinfo : (P.info? e).map (fun i => (i.zero, i.size, i.bytes)) = some (some z, size, bytes)) (hz : z.cells.size = size) (hs0 : 0 < size)
    {base : Nat} {v : Value} {n : Nat} {xs : List Value} (hs : a.eval s = v) (HO : W.ownsRow base e size v n xs) {g m : Nat} {cs : Array Value} (hx : a.eval x = .slice (some ⟨g, 0, none⟩) m m) (hb : W.heap[g]? = some (.cells cs e (0, 0))) (hm : cs.size = m * size)
    (h1 : cs.all (·.oneCell') = true) (hbase : base ≤ W.heap.size) (hl : (n + m) * bytes ≤ 140737488355328) (hl2 : n + m ≤ 140737488355328)
    (h : ∀ v1 w1, w1.ownsRow base e size v1 (n + m) (xs ++ cs.toList) → W.grownBy w1 v.ownBlock → wpList P ops Q rest (a.put (some N) v1) w1) : wpList P ops Q (o :: rest) a W := by
  obtain ⟨i0, hi, hzz⟩ := Option.map_eq_some_iff.1 hinfo
  simp only [Prod.mk.injEq] at hzz
  obtain ⟨hz0, hz1, hz2⟩ := hzz
  refine wpList_append_own W hg s x t ho base e i0 z size bytes ht hi hz0 hz1 hz2 hz hs0 v n xs hs HO ⟨g, 0, none⟩ m m cs.toList hx (by simp [hm]) (fun j u hu => ?_) (fun u hu => ?_) (by simp only [maxLen]; omega) hl hbase ?_
  · rw [addPlain, blkCell hb j]; simpa using hu
  · exact (Array.all_eq_true_iff_forall_mem.1 h1) u (by simpa using hu)
  · intro v1 w1 hown hgr _
    rw [hd]
    exact h v1 w1 hown hgr
end
section
variable {P : Program} {ops : Array Oper} {Con : FuncId → Array Value → Value → World → Prop} {w : World} {R : Act → World → Prop} {o : Oper} {rest : List Oper} {a : Act} {F : World → Prop}
/-- A literal slice, in a region with an open order. -/
theorem lex_bs (hw : Region.wanted o (yielded ops a.tmps) = true) (cs : Array Value) (t : TypeId) (m : Nat) (hrun : ∀ w1, Up w w1 → (execOp a.eval o).run P w1 = .ok (.value (.slice (some ⟨w1.heap.size, 0, none⟩) m m)) (w1.alloc (.cells cs t (0, 0))))
    (h : ∀ g, w.heap.size ≤ g → wpLex P ops Con w R rest (a.put o.dst (.slice (some ⟨g, 0, none⟩) m m)) (fun w' => F w' ∧ w'.heap[g]? = some (.cells cs t (0, 0)))) : wpLex P ops Con w R (o :: rest) a F := by
  show LeadsOn P ops Con w o a F _
  unfold LeadsOn
  rw [if_pos hw]
  refine ⟨fun w1 hu => by rw [hrun w1 hu]; exact gr_alloc (gr_refl _ _) _, fun v hv => ?_⟩
  obtain ⟨w', w1, w2, h1, h2, _, _⟩ := hv
  rw [hrun w1 h1] at h2
  obtain ⟨rfl, _⟩ := h2
  refine wpLex_mono _ _ _ _ (fun w3 hf => ⟨hf.1, ?_⟩) (h w1.heap.size h1.size)
  obtain ⟨x1, x2, y1, y2, _, y4⟩ := hf.2
  rw [hrun x1 y1] at y2
  obtain ⟨e1, rfl⟩ := y2
  injection e1 with e1 _ _
  injection e1 with e1
  injection e1 with e1
  rw [e1]
  exact blkGr (blkNew x1 _) y4 (by simp)
end
end Go.Proofs.YtfjafeepmpnegaaDoor
