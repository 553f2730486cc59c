/-
  No cell of these rows narrows 'for every input' (looked for: loops, veiled, ifaces, maps, wideKeys, modest, calm, conditions, laid).
  DERIVED. THE GIVEN ROWS OF THIS SEAT. 9 by the template 'for every input the law returns true; each argument reads behind the call as it read before'; 0 by the template 'total and deterministic' (their statements: YtbfejakbaijmhaaTotals.lean).
  GIVEN WITH THE SEED: the statements are not yours to turn. If you find one false, say at which input.
  Laid BY PROGRAM, IN A SANDBOX (cutbox-rows.mjs): the forced cells as the released guide's own fill.sh prints them over the translation b0c461782e85c988… (all of the seat's roots in one cut). By AI agents, Wed Nov 11 2026. No macro, syntax, notation, axiom, sorry.
-/
import Derived.Test.YtbfejakbaijmhaaChecked
import GoSem.Claim
import GoSem.ClaimJoined
import GoSem.ClaimMapViews
import Derived.JoinedTies
import Derived.KernelRfl
namespace Go.Proofs.Ytbfejakbaijmhaa
/- THE CELL 'sum', in the pinned program and in every row, IS THE sha256 OF THE DUMP (.gsa) THAT YtbfejakbaijmhaaProg.lean LOADS. Nothing in Lean hashes anything: it is a label: what it is worth is what the hold of that sum in a sandbox is worth. -/
noncomputable def Try.pinned : Pinned := { name := "ytbfejakbaijmhaa", sum := "b0c461782e85c988a1404d0b1fbcce814f63deb5d4404e82dc6d64b46a7d5452", checked := Try.checked }
namespace Rows
def none {H : Type} : Left H := { results := [], args := [] }

/-- 'laws.FnExactProductComponents': WHATEVER THE INPUT: true; the input reads as it did. -/
def fnExactProductComponentsSpec : ChangeSpec := { name := "fnExactProductComponents", fn := fun _ => fun
  | [d1, d2] => { results := [.lit (.bool true)], args := [d1, d2] }
  | _ => none }
def fnExactProductComponentsRow : OpenClaim := { program := "ytbfejakbaijmhaa", sum := "b0c461782e85c988a1404d0b1fbcce814f63deb5d4404e82dc6d64b46a7d5452", func := "loop.example/g01922/laws.FnExactProductComponents", spec := "fnExactProductComponents", recurses := true, apart := false }
def FnExactProductComponentsSaid : Prop := fnExactProductComponentsRow.holds Try.pinned (OpenSpec.ofChange fnExactProductComponentsSpec)

/-- ITS FALSE NEIGHBOUR: 'it returns false'. Refute it at one input. -/
def fnExactProductComponentsWrong : ChangeSpec := { name := "fnExactProductComponents", fn := fun _ => fun
  | [d1, d2] => { results := [.lit (.bool false)], args := [d1, d2] }
  | _ => none }
def FnExactProductComponentsWrongFalsely : Prop := fnExactProductComponentsRow.holds Try.pinned (OpenSpec.ofChange fnExactProductComponentsWrong)

/-- 'laws.FnExactAnswersByComponents': WHATEVER THE INPUT: true; the input reads as it did. -/
def fnExactAnswersByComponentsSpec : ChangeSpec := { name := "fnExactAnswersByComponents", fn := fun _ => fun
  | [d1, d2] => { results := [.lit (.bool true)], args := [d1, d2] }
  | _ => none }
def fnExactAnswersByComponentsRow : OpenClaim := { program := "ytbfejakbaijmhaa", sum := "b0c461782e85c988a1404d0b1fbcce814f63deb5d4404e82dc6d64b46a7d5452", func := "loop.example/g01922/laws.FnExactAnswersByComponents", spec := "fnExactAnswersByComponents", recurses := true, apart := false }
def FnExactAnswersByComponentsSaid : Prop := fnExactAnswersByComponentsRow.holds Try.pinned (OpenSpec.ofChange fnExactAnswersByComponentsSpec)

/-- ITS FALSE NEIGHBOUR: 'it returns false'. Refute it at one input. -/
def fnExactAnswersByComponentsWrong : ChangeSpec := { name := "fnExactAnswersByComponents", fn := fun _ => fun
  | [d1, d2] => { results := [.lit (.bool false)], args := [d1, d2] }
  | _ => none }
def FnExactAnswersByComponentsWrongFalsely : Prop := fnExactAnswersByComponentsRow.holds Try.pinned (OpenSpec.ofChange fnExactAnswersByComponentsWrong)

/-- 'laws.FnExactHasInfiniteWalks': WHATEVER THE INPUT: true; the input reads as it did. -/
def fnExactHasInfiniteWalksSpec : ChangeSpec := { name := "fnExactHasInfiniteWalks", fn := fun _ => fun
  | [d1, d2, d3, d4] => { results := [.lit (.bool true)], args := [d1, d2, d3, d4] }
  | _ => none }
def fnExactHasInfiniteWalksRow : OpenClaim := { program := "ytbfejakbaijmhaa", sum := "b0c461782e85c988a1404d0b1fbcce814f63deb5d4404e82dc6d64b46a7d5452", func := "loop.example/g01922/laws.FnExactHasInfiniteWalks", spec := "fnExactHasInfiniteWalks", unfollowed := true, recurses := true, apart := false }
def FnExactHasInfiniteWalksSaid : Prop := fnExactHasInfiniteWalksRow.holds Try.pinned (OpenSpec.ofChange fnExactHasInfiniteWalksSpec)

/-- ITS FALSE NEIGHBOUR: 'it returns false'. Refute it at one input. -/
def fnExactHasInfiniteWalksWrong : ChangeSpec := { name := "fnExactHasInfiniteWalks", fn := fun _ => fun
  | [d1, d2, d3, d4] => { results := [.lit (.bool false)], args := [d1, d2, d3, d4] }
  | _ => none }
def FnExactHasInfiniteWalksWrongFalsely : Prop := fnExactHasInfiniteWalksRow.holds Try.pinned (OpenSpec.ofChange fnExactHasInfiniteWalksWrong)

/-- 'laws.FnExactComponentOrder': WHATEVER THE INPUT: true; the input reads as it did. -/
def fnExactComponentOrderSpec : ChangeSpec := { name := "fnExactComponentOrder", fn := fun _ => fun
  | [d1, d2] => { results := [.lit (.bool true)], args := [d1, d2] }
  | _ => none }
def fnExactComponentOrderRow : OpenClaim := { program := "ytbfejakbaijmhaa", sum := "b0c461782e85c988a1404d0b1fbcce814f63deb5d4404e82dc6d64b46a7d5452", func := "loop.example/g01922/laws.FnExactComponentOrder", spec := "fnExactComponentOrder", unfollowed := true, recurses := true, apart := false }
def FnExactComponentOrderSaid : Prop := fnExactComponentOrderRow.holds Try.pinned (OpenSpec.ofChange fnExactComponentOrderSpec)

/-- ITS FALSE NEIGHBOUR: 'it returns false'. Refute it at one input. -/
def fnExactComponentOrderWrong : ChangeSpec := { name := "fnExactComponentOrder", fn := fun _ => fun
  | [d1, d2] => { results := [.lit (.bool false)], args := [d1, d2] }
  | _ => none }
def FnExactComponentOrderWrongFalsely : Prop := fnExactComponentOrderRow.holds Try.pinned (OpenSpec.ofChange fnExactComponentOrderWrong)

/-- 'laws.FnExactIsRefutation': WHATEVER THE INPUT: true; the input reads as it did. -/
def fnExactIsRefutationSpec : ChangeSpec := { name := "fnExactIsRefutation", fn := fun _ => fun
  | [d1, d2, d3, d4, d5] => { results := [.lit (.bool true)], args := [d1, d2, d3, d4, d5] }
  | _ => none }
def fnExactIsRefutationRow : OpenClaim := { program := "ytbfejakbaijmhaa", sum := "b0c461782e85c988a1404d0b1fbcce814f63deb5d4404e82dc6d64b46a7d5452", func := "loop.example/g01922/laws.FnExactIsRefutation", spec := "fnExactIsRefutation", unfollowed := true, recurses := true, apart := false }
def FnExactIsRefutationSaid : Prop := fnExactIsRefutationRow.holds Try.pinned (OpenSpec.ofChange fnExactIsRefutationSpec)

/-- ITS FALSE NEIGHBOUR: 'it returns false'. Refute it at one input. -/
def fnExactIsRefutationWrong : ChangeSpec := { name := "fnExactIsRefutation", fn := fun _ => fun
  | [d1, d2, d3, d4, d5] => { results := [.lit (.bool false)], args := [d1, d2, d3, d4, d5] }
  | _ => none }
def FnExactIsRefutationWrongFalsely : Prop := fnExactIsRefutationRow.holds Try.pinned (OpenSpec.ofChange fnExactIsRefutationWrong)

/-- 'laws.FnExactHoldsOnLine': WHATEVER THE INPUT: true; the input reads as it did. -/
def fnExactHoldsOnLineSpec : ChangeSpec := { name := "fnExactHoldsOnLine", fn := fun _ => fun
  | [d1, d2] => { results := [.lit (.bool true)], args := [d1, d2] }
  | _ => none }
def fnExactHoldsOnLineRow : OpenClaim := { program := "ytbfejakbaijmhaa", sum := "b0c461782e85c988a1404d0b1fbcce814f63deb5d4404e82dc6d64b46a7d5452", func := "loop.example/g01922/laws.FnExactHoldsOnLine", spec := "fnExactHoldsOnLine", unfollowed := true, recurses := true, apart := false }
def FnExactHoldsOnLineSaid : Prop := fnExactHoldsOnLineRow.holds Try.pinned (OpenSpec.ofChange fnExactHoldsOnLineSpec)

/-- ITS FALSE NEIGHBOUR: 'it returns false'. Refute it at one input. -/
def fnExactHoldsOnLineWrong : ChangeSpec := { name := "fnExactHoldsOnLine", fn := fun _ => fun
  | [d1, d2] => { results := [.lit (.bool false)], args := [d1, d2] }
  | _ => none }
def FnExactHoldsOnLineWrongFalsely : Prop := fnExactHoldsOnLineRow.holds Try.pinned (OpenSpec.ofChange fnExactHoldsOnLineWrong)

/-- 'laws.FnExactCheapestWitness': WHATEVER THE INPUT: true; the input reads as it did. -/
def fnExactCheapestWitnessSpec : ChangeSpec := { name := "fnExactCheapestWitness", fn := fun _ => fun
  | [d1, d2, d3, d4, d5] => { results := [.lit (.bool true)], args := [d1, d2, d3, d4, d5] }
  | _ => none }
def fnExactCheapestWitnessRow : OpenClaim := { program := "ytbfejakbaijmhaa", sum := "b0c461782e85c988a1404d0b1fbcce814f63deb5d4404e82dc6d64b46a7d5452", func := "loop.example/g01922/laws.FnExactCheapestWitness", spec := "fnExactCheapestWitness", apart := false }
def FnExactCheapestWitnessSaid : Prop := fnExactCheapestWitnessRow.holds Try.pinned (OpenSpec.ofChange fnExactCheapestWitnessSpec)

/-- ITS FALSE NEIGHBOUR: 'it returns false'. Refute it at one input. -/
def fnExactCheapestWitnessWrong : ChangeSpec := { name := "fnExactCheapestWitness", fn := fun _ => fun
  | [d1, d2, d3, d4, d5] => { results := [.lit (.bool false)], args := [d1, d2, d3, d4, d5] }
  | _ => none }
def FnExactCheapestWitnessWrongFalsely : Prop := fnExactCheapestWitnessRow.holds Try.pinned (OpenSpec.ofChange fnExactCheapestWitnessWrong)

/-- 'laws.FnExactConditionedAnswers': WHATEVER THE INPUT: true; the input reads as it did. -/
def fnExactConditionedAnswersSpec : ChangeSpec := { name := "fnExactConditionedAnswers", fn := fun _ => fun
  | [d1, d2, d3] => { results := [.lit (.bool true)], args := [d1, d2, d3] }
  | _ => none }
def fnExactConditionedAnswersRow : OpenClaim := { program := "ytbfejakbaijmhaa", sum := "b0c461782e85c988a1404d0b1fbcce814f63deb5d4404e82dc6d64b46a7d5452", func := "loop.example/g01922/laws.FnExactConditionedAnswers", spec := "fnExactConditionedAnswers", unfollowed := true, recurses := true, apart := false }
def FnExactConditionedAnswersSaid : Prop := fnExactConditionedAnswersRow.holds Try.pinned (OpenSpec.ofChange fnExactConditionedAnswersSpec)

/-- ITS FALSE NEIGHBOUR: 'it returns false'. Refute it at one input. -/
def fnExactConditionedAnswersWrong : ChangeSpec := { name := "fnExactConditionedAnswers", fn := fun _ => fun
  | [d1, d2, d3] => { results := [.lit (.bool false)], args := [d1, d2, d3] }
  | _ => none }
def FnExactConditionedAnswersWrongFalsely : Prop := fnExactConditionedAnswersRow.holds Try.pinned (OpenSpec.ofChange fnExactConditionedAnswersWrong)

/-- 'laws.FnExactProjectBindings': WHATEVER THE INPUT: true; the input reads as it did. -/
def fnExactProjectBindingsSpec : ChangeSpec := { name := "fnExactProjectBindings", fn := fun _ => fun
  | [d1, d2] => { results := [.lit (.bool true)], args := [d1, d2] }
  | _ => none }
def fnExactProjectBindingsRow : OpenClaim := { program := "ytbfejakbaijmhaa", sum := "b0c461782e85c988a1404d0b1fbcce814f63deb5d4404e82dc6d64b46a7d5452", func := "loop.example/g01922/laws.FnExactProjectBindings", spec := "fnExactProjectBindings", unfollowed := true, recurses := true, apart := false }
def FnExactProjectBindingsSaid : Prop := fnExactProjectBindingsRow.holds Try.pinned (OpenSpec.ofChange fnExactProjectBindingsSpec)

/-- ITS FALSE NEIGHBOUR: 'it returns false'. Refute it at one input. -/
def fnExactProjectBindingsWrong : ChangeSpec := { name := "fnExactProjectBindings", fn := fun _ => fun
  | [d1, d2] => { results := [.lit (.bool false)], args := [d1, d2] }
  | _ => none }
def FnExactProjectBindingsWrongFalsely : Prop := fnExactProjectBindingsRow.holds Try.pinned (OpenSpec.ofChange fnExactProjectBindingsWrong)

/- THE SECOND FORM. 'bulk': how many values and letters a reading holds, each counted each time it is reached (what is shared counts as often as it is met; a slice's spare places count too). A statement '..UptoSaid' is the law's where the arguments, and the package variables that the reading takes, are together of bulk at most 1048576: NARROWER than '..Said'. Prove '..Said' where nothing that the law and all that it calls make is longer than what came in: it says more and counts as full. Else prove '..UptoSaid'. A law counts once. -/
mutual
def uptoBulk {H : Type} : DataW H → Nat
  | .lit (.string bytes) => bytes.length + 1
  | .lit _ => 1
  | .nil => 1
  | .ptr d => uptoBulk d + 1
  | .slice elems spare => uptoBulkAll elems + uptoBulkAll spare + 1
  | .agg parts => uptoBulkAll parts + 1
  | .iface _ d => uptoBulk d + 1
  | .map entries => uptoBulkEntries entries + 1
  | .held _ => 1
def uptoBulkAll {H : Type} : List (DataW H) → Nat
  | [] => 0
  | d :: r => uptoBulk d + uptoBulkAll r
def uptoBulkEntries {H : Type} : List (Lit × DataW H) → Nat
  | [] => 0
  | x :: r => uptoBulkEntry x + uptoBulkEntries r
def uptoBulkEntry {H : Type} : Lit × DataW H → Nat
  | (.string bytes, d) => bytes.length + uptoBulk d + 1
  | (_, d) => uptoBulk d + 1
 end
def uptoSmall : (H : Type) → List (DataW H) → Bool := fun _ ds => decide (uptoBulkAll ds ≤ 1048576)
def OpenSpec.upto (s : _root_.Go.ChangeSpec) : _root_.Go.OpenSpec := { _root_.Go.OpenSpec.ofChange s with cond := some uptoSmall }

/-- 'laws.FnExactProductComponents', WHERE WHAT IT READS IS OF BULK AT MOST 1048576: true; the input reads as it did. -/
def fnExactProductComponentsUptoRow : OpenClaim := { program := "ytbfejakbaijmhaa", sum := "b0c461782e85c988a1404d0b1fbcce814f63deb5d4404e82dc6d64b46a7d5452", func := "loop.example/g01922/laws.FnExactProductComponents", spec := "fnExactProductComponents", recurses := true, apart := false, narrowed := true }
def FnExactProductComponentsUptoSaid : Prop := fnExactProductComponentsUptoRow.holds Try.pinned (OpenSpec.upto fnExactProductComponentsSpec)

/-- 'laws.FnExactAnswersByComponents', WHERE WHAT IT READS IS OF BULK AT MOST 1048576: true; the input reads as it did. -/
def fnExactAnswersByComponentsUptoRow : OpenClaim := { program := "ytbfejakbaijmhaa", sum := "b0c461782e85c988a1404d0b1fbcce814f63deb5d4404e82dc6d64b46a7d5452", func := "loop.example/g01922/laws.FnExactAnswersByComponents", spec := "fnExactAnswersByComponents", recurses := true, apart := false, narrowed := true }
def FnExactAnswersByComponentsUptoSaid : Prop := fnExactAnswersByComponentsUptoRow.holds Try.pinned (OpenSpec.upto fnExactAnswersByComponentsSpec)

/-- 'laws.FnExactHasInfiniteWalks', WHERE WHAT IT READS IS OF BULK AT MOST 1048576: true; the input reads as it did. -/
def fnExactHasInfiniteWalksUptoRow : OpenClaim := { program := "ytbfejakbaijmhaa", sum := "b0c461782e85c988a1404d0b1fbcce814f63deb5d4404e82dc6d64b46a7d5452", func := "loop.example/g01922/laws.FnExactHasInfiniteWalks", spec := "fnExactHasInfiniteWalks", unfollowed := true, recurses := true, apart := false, narrowed := true }
def FnExactHasInfiniteWalksUptoSaid : Prop := fnExactHasInfiniteWalksUptoRow.holds Try.pinned (OpenSpec.upto fnExactHasInfiniteWalksSpec)

/-- 'laws.FnExactComponentOrder', WHERE WHAT IT READS IS OF BULK AT MOST 1048576: true; the input reads as it did. -/
def fnExactComponentOrderUptoRow : OpenClaim := { program := "ytbfejakbaijmhaa", sum := "b0c461782e85c988a1404d0b1fbcce814f63deb5d4404e82dc6d64b46a7d5452", func := "loop.example/g01922/laws.FnExactComponentOrder", spec := "fnExactComponentOrder", unfollowed := true, recurses := true, apart := false, narrowed := true }
def FnExactComponentOrderUptoSaid : Prop := fnExactComponentOrderUptoRow.holds Try.pinned (OpenSpec.upto fnExactComponentOrderSpec)

/-- 'laws.FnExactIsRefutation', WHERE WHAT IT READS IS OF BULK AT MOST 1048576: true; the input reads as it did. -/
def fnExactIsRefutationUptoRow : OpenClaim := { program := "ytbfejakbaijmhaa", sum := "b0c461782e85c988a1404d0b1fbcce814f63deb5d4404e82dc6d64b46a7d5452", func := "loop.example/g01922/laws.FnExactIsRefutation", spec := "fnExactIsRefutation", unfollowed := true, recurses := true, apart := false, narrowed := true }
def FnExactIsRefutationUptoSaid : Prop := fnExactIsRefutationUptoRow.holds Try.pinned (OpenSpec.upto fnExactIsRefutationSpec)

/-- 'laws.FnExactHoldsOnLine', WHERE WHAT IT READS IS OF BULK AT MOST 1048576: true; the input reads as it did. -/
def fnExactHoldsOnLineUptoRow : OpenClaim := { program := "ytbfejakbaijmhaa", sum := "b0c461782e85c988a1404d0b1fbcce814f63deb5d4404e82dc6d64b46a7d5452", func := "loop.example/g01922/laws.FnExactHoldsOnLine", spec := "fnExactHoldsOnLine", unfollowed := true, recurses := true, apart := false, narrowed := true }
def FnExactHoldsOnLineUptoSaid : Prop := fnExactHoldsOnLineUptoRow.holds Try.pinned (OpenSpec.upto fnExactHoldsOnLineSpec)

/-- 'laws.FnExactCheapestWitness', WHERE WHAT IT READS IS OF BULK AT MOST 1048576: true; the input reads as it did. -/
def fnExactCheapestWitnessUptoRow : OpenClaim := { program := "ytbfejakbaijmhaa", sum := "b0c461782e85c988a1404d0b1fbcce814f63deb5d4404e82dc6d64b46a7d5452", func := "loop.example/g01922/laws.FnExactCheapestWitness", spec := "fnExactCheapestWitness", apart := false, narrowed := true }
def FnExactCheapestWitnessUptoSaid : Prop := fnExactCheapestWitnessUptoRow.holds Try.pinned (OpenSpec.upto fnExactCheapestWitnessSpec)

/-- 'laws.FnExactConditionedAnswers', WHERE WHAT IT READS IS OF BULK AT MOST 1048576: true; the input reads as it did. -/
def fnExactConditionedAnswersUptoRow : OpenClaim := { program := "ytbfejakbaijmhaa", sum := "b0c461782e85c988a1404d0b1fbcce814f63deb5d4404e82dc6d64b46a7d5452", func := "loop.example/g01922/laws.FnExactConditionedAnswers", spec := "fnExactConditionedAnswers", unfollowed := true, recurses := true, apart := false, narrowed := true }
def FnExactConditionedAnswersUptoSaid : Prop := fnExactConditionedAnswersUptoRow.holds Try.pinned (OpenSpec.upto fnExactConditionedAnswersSpec)

/-- 'laws.FnExactProjectBindings', WHERE WHAT IT READS IS OF BULK AT MOST 1048576: true; the input reads as it did. -/
def fnExactProjectBindingsUptoRow : OpenClaim := { program := "ytbfejakbaijmhaa", sum := "b0c461782e85c988a1404d0b1fbcce814f63deb5d4404e82dc6d64b46a7d5452", func := "loop.example/g01922/laws.FnExactProjectBindings", spec := "fnExactProjectBindings", unfollowed := true, recurses := true, apart := false, narrowed := true }
def FnExactProjectBindingsUptoSaid : Prop := fnExactProjectBindingsUptoRow.holds Try.pinned (OpenSpec.upto fnExactProjectBindingsSpec)

end Rows
end Go.Proofs.Ytbfejakbaijmhaa
