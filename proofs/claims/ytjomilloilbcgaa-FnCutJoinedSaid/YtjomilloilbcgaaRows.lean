/-
  No cell of these rows narrows 'for every input' (looked for: loops, veiled, ifaces, maps, wideKeys, modest, calm, conditions, laid).
  DERIVED. THE GIVEN ROWS OF THIS SEAT. 5 by the template 'for every input the law returns true; each argument reads behind the call as it read before'; 0 by the template 'total and deterministic' (their statements: YtjomilloilbcgaaTotals.lean).
  GIVEN WITH THE SEED: the statements are not yours to turn. If you find one false, say at which input.
  Laid BY PROGRAM, IN A SANDBOX (cutbox-rows.mjs): the forced cells as the released guide's own fill.sh prints them over the translation f15d7b9baad22b18… (all of the seat's roots in one cut). By AI agents, Wed Nov 11 2026. No macro, syntax, notation, axiom, sorry.
-/
import Derived.Test.YtjomilloilbcgaaChecked
import GoSem.Claim
import GoSem.ClaimJoined
import GoSem.ClaimMapViews
import Derived.JoinedTies
import Derived.KernelRfl
namespace Go.Proofs.Ytjomilloilbcgaa
/- THE CELL 'sum', in the pinned program and in every row, IS THE sha256 OF THE DUMP (.gsa) THAT YtjomilloilbcgaaProg.lean LOADS. Nothing in Lean hashes anything: it is a label: what it is worth is what the hold of that sum in a sandbox is worth. -/
noncomputable def Try.pinned : Pinned := { name := "ytjomilloilbcgaa", sum := "f15d7b9baad22b18db313d8ff505a48b528ee18246be3e6140b4910f76dc7b71", checked := Try.checked }
namespace Rows
def none {H : Type} : Left H := { results := [], args := [] }

/-- 'laws.FnTop': WHATEVER THE INPUT: true; the input reads as it did. -/
def fnTopSpec : ChangeSpec := { name := "fnTop", fn := fun _ => fun
  | [d] => { results := [.lit (.bool true)], args := [d] }
  | _ => none }
def fnTopRow : OpenClaim := { program := "ytjomilloilbcgaa", sum := "f15d7b9baad22b18db313d8ff505a48b528ee18246be3e6140b4910f76dc7b71", func := "loop.example/g03326/laws.FnTop", spec := "fnTop", unfollowed := true, recurses := true, apart := false }
def FnTopSaid : Prop := fnTopRow.holds Try.pinned (OpenSpec.ofChange fnTopSpec)

/-- ITS FALSE NEIGHBOUR: 'it returns false'. Refute it at one input. -/
def fnTopWrong : ChangeSpec := { name := "fnTop", fn := fun _ => fun
  | [d] => { results := [.lit (.bool false)], args := [d] }
  | _ => none }
def FnTopWrongFalsely : Prop := fnTopRow.holds Try.pinned (OpenSpec.ofChange fnTopWrong)

/-- 'laws.FnTimes': WHATEVER THE INPUT: true; the input reads as it did. -/
def fnTimesSpec : ChangeSpec := { name := "fnTimes", fn := fun _ => fun
  | [d] => { results := [.lit (.bool true)], args := [d] }
  | _ => none }
def fnTimesRow : OpenClaim := { program := "ytjomilloilbcgaa", sum := "f15d7b9baad22b18db313d8ff505a48b528ee18246be3e6140b4910f76dc7b71", func := "loop.example/g03326/laws.FnTimes", spec := "fnTimes", apart := false }
def FnTimesSaid : Prop := fnTimesRow.holds Try.pinned (OpenSpec.ofChange fnTimesSpec)

/-- ITS FALSE NEIGHBOUR: 'it returns false'. Refute it at one input. -/
def fnTimesWrong : ChangeSpec := { name := "fnTimes", fn := fun _ => fun
  | [d] => { results := [.lit (.bool false)], args := [d] }
  | _ => none }
def FnTimesWrongFalsely : Prop := fnTimesRow.holds Try.pinned (OpenSpec.ofChange fnTimesWrong)

/-- 'laws.FnChained': WHATEVER THE INPUT: true; the input reads as it did. -/
def fnChainedSpec : ChangeSpec := { name := "fnChained", fn := fun _ => fun
  | [d] => { results := [.lit (.bool true)], args := [d] }
  | _ => none }
def fnChainedRow : OpenClaim := { program := "ytjomilloilbcgaa", sum := "f15d7b9baad22b18db313d8ff505a48b528ee18246be3e6140b4910f76dc7b71", func := "loop.example/g03326/laws.FnChained", spec := "fnChained", unfollowed := true, recurses := true, apart := false }
def FnChainedSaid : Prop := fnChainedRow.holds Try.pinned (OpenSpec.ofChange fnChainedSpec)

/-- ITS FALSE NEIGHBOUR: 'it returns false'. Refute it at one input. -/
def fnChainedWrong : ChangeSpec := { name := "fnChained", fn := fun _ => fun
  | [d] => { results := [.lit (.bool false)], args := [d] }
  | _ => none }
def FnChainedWrongFalsely : Prop := fnChainedRow.holds Try.pinned (OpenSpec.ofChange fnChainedWrong)

/-- 'laws.FnCutJoined': WHATEVER THE INPUT: true; the input reads as it did. -/
def fnCutJoinedSpec : ChangeSpec := { name := "fnCutJoined", fn := fun _ => fun
  | [d] => { results := [.lit (.bool true)], args := [d] }
  | _ => none }
def fnCutJoinedRow : OpenClaim := { program := "ytjomilloilbcgaa", sum := "f15d7b9baad22b18db313d8ff505a48b528ee18246be3e6140b4910f76dc7b71", func := "loop.example/g03326/laws.FnCutJoined", spec := "fnCutJoined", unfollowed := true, recurses := true, apart := false }
def FnCutJoinedSaid : Prop := fnCutJoinedRow.holds Try.pinned (OpenSpec.ofChange fnCutJoinedSpec)

/-- ITS FALSE NEIGHBOUR: 'it returns false'. Refute it at one input. -/
def fnCutJoinedWrong : ChangeSpec := { name := "fnCutJoined", fn := fun _ => fun
  | [d] => { results := [.lit (.bool false)], args := [d] }
  | _ => none }
def FnCutJoinedWrongFalsely : Prop := fnCutJoinedRow.holds Try.pinned (OpenSpec.ofChange fnCutJoinedWrong)

/-- 'laws.FnSaturated': WHATEVER THE INPUT: true; the input reads as it did. -/
def fnSaturatedSpec : ChangeSpec := { name := "fnSaturated", fn := fun _ => fun
  | [d] => { results := [.lit (.bool true)], args := [d] }
  | _ => none }
def fnSaturatedRow : OpenClaim := { program := "ytjomilloilbcgaa", sum := "f15d7b9baad22b18db313d8ff505a48b528ee18246be3e6140b4910f76dc7b71", func := "loop.example/g03326/laws.FnSaturated", spec := "fnSaturated", unfollowed := true, recurses := true, apart := false }
def FnSaturatedSaid : Prop := fnSaturatedRow.holds Try.pinned (OpenSpec.ofChange fnSaturatedSpec)

/-- ITS FALSE NEIGHBOUR: 'it returns false'. Refute it at one input. -/
def fnSaturatedWrong : ChangeSpec := { name := "fnSaturated", fn := fun _ => fun
  | [d] => { results := [.lit (.bool false)], args := [d] }
  | _ => none }
def FnSaturatedWrongFalsely : Prop := fnSaturatedRow.holds Try.pinned (OpenSpec.ofChange fnSaturatedWrong)

/- THE SECOND FORM. 'bulk': how many values and letters a reading holds, each counted each time it is reached (what is shared counts as often as it is met; a slice's spare places count too). A statement '..UptoSaid' is the law's where the arguments, and the package variables that the reading takes, are together of bulk at most 1048576: NARROWER than '..Said'. Prove '..Said' where nothing that the law and all that it calls make is longer than what came in: it says more and counts as full. Else prove '..UptoSaid'. A law counts once. -/
mutual
def uptoBulk {H : Type} : DataW H → Nat
  | .lit (.string bytes) => bytes.length + 1
  | .lit _ => 1
  | .nil => 1
  | .ptr d => uptoBulk d + 1
  | .slice elems spare => uptoBulkAll elems + uptoBulkAll spare + 1
  | .agg parts => uptoBulkAll parts + 1
  | .iface _ d => uptoBulk d + 1
  | .map entries => uptoBulkEntries entries + 1
  | .held _ => 1
def uptoBulkAll {H : Type} : List (DataW H) → Nat
  | [] => 0
  | d :: r => uptoBulk d + uptoBulkAll r
def uptoBulkEntries {H : Type} : List (Lit × DataW H) → Nat
  | [] => 0
  | x :: r => uptoBulkEntry x + uptoBulkEntries r
def uptoBulkEntry {H : Type} : Lit × DataW H → Nat
  | (.string bytes, d) => bytes.length + uptoBulk d + 1
  | (_, d) => uptoBulk d + 1
 end
def uptoSmall : (H : Type) → List (DataW H) → Bool := fun _ ds => decide (uptoBulkAll ds ≤ 1048576)
def OpenSpec.upto (s : _root_.Go.ChangeSpec) : _root_.Go.OpenSpec := { _root_.Go.OpenSpec.ofChange s with cond := some uptoSmall }

/-- 'laws.FnTop', WHERE WHAT IT READS IS OF BULK AT MOST 1048576: true; the input reads as it did. -/
def fnTopUptoRow : OpenClaim := { program := "ytjomilloilbcgaa", sum := "f15d7b9baad22b18db313d8ff505a48b528ee18246be3e6140b4910f76dc7b71", func := "loop.example/g03326/laws.FnTop", spec := "fnTop", unfollowed := true, recurses := true, apart := false, narrowed := true }
def FnTopUptoSaid : Prop := fnTopUptoRow.holds Try.pinned (OpenSpec.upto fnTopSpec)

/-- 'laws.FnTimes', WHERE WHAT IT READS IS OF BULK AT MOST 1048576: true; the input reads as it did. -/
def fnTimesUptoRow : OpenClaim := { program := "ytjomilloilbcgaa", sum := "f15d7b9baad22b18db313d8ff505a48b528ee18246be3e6140b4910f76dc7b71", func := "loop.example/g03326/laws.FnTimes", spec := "fnTimes", apart := false, narrowed := true }
def FnTimesUptoSaid : Prop := fnTimesUptoRow.holds Try.pinned (OpenSpec.upto fnTimesSpec)

/-- 'laws.FnChained', WHERE WHAT IT READS IS OF BULK AT MOST 1048576: true; the input reads as it did. -/
def fnChainedUptoRow : OpenClaim := { program := "ytjomilloilbcgaa", sum := "f15d7b9baad22b18db313d8ff505a48b528ee18246be3e6140b4910f76dc7b71", func := "loop.example/g03326/laws.FnChained", spec := "fnChained", unfollowed := true, recurses := true, apart := false, narrowed := true }
def FnChainedUptoSaid : Prop := fnChainedUptoRow.holds Try.pinned (OpenSpec.upto fnChainedSpec)

/-- 'laws.FnCutJoined', WHERE WHAT IT READS IS OF BULK AT MOST 1048576: true; the input reads as it did. -/
def fnCutJoinedUptoRow : OpenClaim := { program := "ytjomilloilbcgaa", sum := "f15d7b9baad22b18db313d8ff505a48b528ee18246be3e6140b4910f76dc7b71", func := "loop.example/g03326/laws.FnCutJoined", spec := "fnCutJoined", unfollowed := true, recurses := true, apart := false, narrowed := true }
def FnCutJoinedUptoSaid : Prop := fnCutJoinedUptoRow.holds Try.pinned (OpenSpec.upto fnCutJoinedSpec)

/-- 'laws.FnSaturated', WHERE WHAT IT READS IS OF BULK AT MOST 1048576: true; the input reads as it did. -/
def fnSaturatedUptoRow : OpenClaim := { program := "ytjomilloilbcgaa", sum := "f15d7b9baad22b18db313d8ff505a48b528ee18246be3e6140b4910f76dc7b71", func := "loop.example/g03326/laws.FnSaturated", spec := "fnSaturated", unfollowed := true, recurses := true, apart := false, narrowed := true }
def FnSaturatedUptoSaid : Prop := fnSaturatedUptoRow.holds Try.pinned (OpenSpec.upto fnSaturatedSpec)

end Rows
end Go.Proofs.Ytjomilloilbcgaa
