/-
  No cell of these rows narrows 'for every input' (looked for: loops, veiled, ifaces, maps, wideKeys, modest, calm, conditions, laid).
  DERIVED. THE GIVEN ROWS OF THIS SEAT. 11 by the template 'for every input the law returns true; each argument reads behind the call as it read before'; 0 by the template 'total and deterministic' (their statements: YtocnceglpkobaaaTotals.lean).
  GIVEN WITH THE SEED: the statements are not yours to turn. If you find one false, say at which input.
  Laid BY PROGRAM, IN A SANDBOX (cutbox-rows.mjs): the forced cells as the released guide's own fill.sh prints them over the translation 003dd1c43b466883… (all of the seat's roots in one cut). By AI agents, Wed Nov 11 2026. No macro, syntax, notation, axiom, sorry.
-/
import Derived.Test.YtocnceglpkobaaaChecked
import GoSem.Claim
import GoSem.ClaimJoined
import GoSem.ClaimMapViews
import Derived.JoinedTies
import Derived.KernelRfl
namespace Go.Proofs.Ytocnceglpkobaaa
/- THE CELL 'sum', in the pinned program and in every row, IS THE sha256 OF THE DUMP (.gsa) THAT YtocnceglpkobaaaProg.lean LOADS. Nothing in Lean hashes anything: it is a label: what it is worth is what the hold of that sum in a sandbox is worth. -/
noncomputable def Try.pinned : Pinned := { name := "ytocnceglpkobaaa", sum := "003dd1c43b466883dc50d60fd2c2ca572371679f33a88346c3ec43b947f73427", checked := Try.checked }
namespace Rows
def none {H : Type} : Left H := { results := [], args := [] }

/-- 'laws.FnExactCheapestCost': WHATEVER THE INPUT: true; the input reads as it did. -/
def fnExactCheapestCostSpec : ChangeSpec := { name := "fnExactCheapestCost", fn := fun _ => fun
  | [d1, d2, d3, d4, d5] => { results := [.lit (.bool true)], args := [d1, d2, d3, d4, d5] }
  | _ => none }
def fnExactCheapestCostRow : OpenClaim := { program := "ytocnceglpkobaaa", sum := "003dd1c43b466883dc50d60fd2c2ca572371679f33a88346c3ec43b947f73427", func := "loop.example/g01922/laws.FnExactCheapestCost", spec := "fnExactCheapestCost", plainKeys := false, apart := false }
def FnExactCheapestCostSaid : Prop := fnExactCheapestCostRow.holds Try.pinned (OpenSpec.ofChange fnExactCheapestCostSpec)

/-- ITS FALSE NEIGHBOUR: 'it returns false'. Refute it at one input. -/
def fnExactCheapestCostWrong : ChangeSpec := { name := "fnExactCheapestCost", fn := fun _ => fun
  | [d1, d2, d3, d4, d5] => { results := [.lit (.bool false)], args := [d1, d2, d3, d4, d5] }
  | _ => none }
def FnExactCheapestCostWrongFalsely : Prop := fnExactCheapestCostRow.holds Try.pinned (OpenSpec.ofChange fnExactCheapestCostWrong)

/-- 'laws.FnExactProjectBindings': WHATEVER THE INPUT: true; the input reads as it did. -/
def fnExactProjectBindingsSpec : ChangeSpec := { name := "fnExactProjectBindings", fn := fun _ => fun
  | [d1, d2] => { results := [.lit (.bool true)], args := [d1, d2] }
  | _ => none }
def fnExactProjectBindingsRow : OpenClaim := { program := "ytocnceglpkobaaa", sum := "003dd1c43b466883dc50d60fd2c2ca572371679f33a88346c3ec43b947f73427", func := "loop.example/g01922/laws.FnExactProjectBindings", spec := "fnExactProjectBindings", unfollowed := true, recurses := true, plainKeys := false, apart := false }
def FnExactProjectBindingsSaid : Prop := fnExactProjectBindingsRow.holds Try.pinned (OpenSpec.ofChange fnExactProjectBindingsSpec)

/-- ITS FALSE NEIGHBOUR: 'it returns false'. Refute it at one input. -/
def fnExactProjectBindingsWrong : ChangeSpec := { name := "fnExactProjectBindings", fn := fun _ => fun
  | [d1, d2] => { results := [.lit (.bool false)], args := [d1, d2] }
  | _ => none }
def FnExactProjectBindingsWrongFalsely : Prop := fnExactProjectBindingsRow.holds Try.pinned (OpenSpec.ofChange fnExactProjectBindingsWrong)

/-- 'laws.FnExactCheapestAnswer': WHATEVER THE INPUT: true; the input reads as it did. -/
def fnExactCheapestAnswerSpec : ChangeSpec := { name := "fnExactCheapestAnswer", fn := fun _ => fun
  | [d1, d2, d3, d4] => { results := [.lit (.bool true)], args := [d1, d2, d3, d4] }
  | _ => none }
def fnExactCheapestAnswerRow : OpenClaim := { program := "ytocnceglpkobaaa", sum := "003dd1c43b466883dc50d60fd2c2ca572371679f33a88346c3ec43b947f73427", func := "loop.example/g01922/laws.FnExactCheapestAnswer", spec := "fnExactCheapestAnswer", plainKeys := false, apart := false }
def FnExactCheapestAnswerSaid : Prop := fnExactCheapestAnswerRow.holds Try.pinned (OpenSpec.ofChange fnExactCheapestAnswerSpec)

/-- ITS FALSE NEIGHBOUR: 'it returns false'. Refute it at one input. -/
def fnExactCheapestAnswerWrong : ChangeSpec := { name := "fnExactCheapestAnswer", fn := fun _ => fun
  | [d1, d2, d3, d4] => { results := [.lit (.bool false)], args := [d1, d2, d3, d4] }
  | _ => none }
def FnExactCheapestAnswerWrongFalsely : Prop := fnExactCheapestAnswerRow.holds Try.pinned (OpenSpec.ofChange fnExactCheapestAnswerWrong)

/-- 'laws.FnExactIsValidView': WHATEVER THE INPUT: true; the input reads as it did. -/
def fnExactIsValidViewSpec : ChangeSpec := { name := "fnExactIsValidView", fn := fun _ => fun
  | [d1, d2] => { results := [.lit (.bool true)], args := [d1, d2] }
  | _ => none }
def fnExactIsValidViewRow : OpenClaim := { program := "ytocnceglpkobaaa", sum := "003dd1c43b466883dc50d60fd2c2ca572371679f33a88346c3ec43b947f73427", func := "loop.example/g01922/laws.FnExactIsValidView", spec := "fnExactIsValidView", unfollowed := true, recurses := true, plainKeys := false, apart := false }
def FnExactIsValidViewSaid : Prop := fnExactIsValidViewRow.holds Try.pinned (OpenSpec.ofChange fnExactIsValidViewSpec)

/-- ITS FALSE NEIGHBOUR: 'it returns false'. Refute it at one input. -/
def fnExactIsValidViewWrong : ChangeSpec := { name := "fnExactIsValidView", fn := fun _ => fun
  | [d1, d2] => { results := [.lit (.bool false)], args := [d1, d2] }
  | _ => none }
def FnExactIsValidViewWrongFalsely : Prop := fnExactIsValidViewRow.holds Try.pinned (OpenSpec.ofChange fnExactIsValidViewWrong)

/-- 'laws.FnExactBuildView': WHATEVER THE INPUT: true; the input reads as it did. -/
def fnExactBuildViewSpec : ChangeSpec := { name := "fnExactBuildView", fn := fun _ => fun
  | [d1, d2, d3] => { results := [.lit (.bool true)], args := [d1, d2, d3] }
  | _ => none }
def fnExactBuildViewRow : OpenClaim := { program := "ytocnceglpkobaaa", sum := "003dd1c43b466883dc50d60fd2c2ca572371679f33a88346c3ec43b947f73427", func := "loop.example/g01922/laws.FnExactBuildView", spec := "fnExactBuildView", plainKeys := false, apart := false }
def FnExactBuildViewSaid : Prop := fnExactBuildViewRow.holds Try.pinned (OpenSpec.ofChange fnExactBuildViewSpec)

/-- ITS FALSE NEIGHBOUR: 'it returns false'. Refute it at one input. -/
def fnExactBuildViewWrong : ChangeSpec := { name := "fnExactBuildView", fn := fun _ => fun
  | [d1, d2, d3] => { results := [.lit (.bool false)], args := [d1, d2, d3] }
  | _ => none }
def FnExactBuildViewWrongFalsely : Prop := fnExactBuildViewRow.holds Try.pinned (OpenSpec.ofChange fnExactBuildViewWrong)

/-- 'laws.FnExactConditionedAnswers': WHATEVER THE INPUT: true; the input reads as it did. -/
def fnExactConditionedAnswersSpec : ChangeSpec := { name := "fnExactConditionedAnswers", fn := fun _ => fun
  | [d1, d2, d3] => { results := [.lit (.bool true)], args := [d1, d2, d3] }
  | _ => none }
def fnExactConditionedAnswersRow : OpenClaim := { program := "ytocnceglpkobaaa", sum := "003dd1c43b466883dc50d60fd2c2ca572371679f33a88346c3ec43b947f73427", func := "loop.example/g01922/laws.FnExactConditionedAnswers", spec := "fnExactConditionedAnswers", unfollowed := true, recurses := true, plainKeys := false, apart := false }
def FnExactConditionedAnswersSaid : Prop := fnExactConditionedAnswersRow.holds Try.pinned (OpenSpec.ofChange fnExactConditionedAnswersSpec)

/-- ITS FALSE NEIGHBOUR: 'it returns false'. Refute it at one input. -/
def fnExactConditionedAnswersWrong : ChangeSpec := { name := "fnExactConditionedAnswers", fn := fun _ => fun
  | [d1, d2, d3] => { results := [.lit (.bool false)], args := [d1, d2, d3] }
  | _ => none }
def FnExactConditionedAnswersWrongFalsely : Prop := fnExactConditionedAnswersRow.holds Try.pinned (OpenSpec.ofChange fnExactConditionedAnswersWrong)

/-- 'laws.FnExactConditionedWitness': WHATEVER THE INPUT: true; the input reads as it did. -/
def fnExactConditionedWitnessSpec : ChangeSpec := { name := "fnExactConditionedWitness", fn := fun _ => fun
  | [d1, d2, d3, d4, d5] => { results := [.lit (.bool true)], args := [d1, d2, d3, d4, d5] }
  | _ => none }
def fnExactConditionedWitnessRow : OpenClaim := { program := "ytocnceglpkobaaa", sum := "003dd1c43b466883dc50d60fd2c2ca572371679f33a88346c3ec43b947f73427", func := "loop.example/g01922/laws.FnExactConditionedWitness", spec := "fnExactConditionedWitness", unfollowed := true, recurses := true, plainKeys := false, apart := false }
def FnExactConditionedWitnessSaid : Prop := fnExactConditionedWitnessRow.holds Try.pinned (OpenSpec.ofChange fnExactConditionedWitnessSpec)

/-- ITS FALSE NEIGHBOUR: 'it returns false'. Refute it at one input. -/
def fnExactConditionedWitnessWrong : ChangeSpec := { name := "fnExactConditionedWitness", fn := fun _ => fun
  | [d1, d2, d3, d4, d5] => { results := [.lit (.bool false)], args := [d1, d2, d3, d4, d5] }
  | _ => none }
def FnExactConditionedWitnessWrongFalsely : Prop := fnExactConditionedWitnessRow.holds Try.pinned (OpenSpec.ofChange fnExactConditionedWitnessWrong)

/-- 'laws.FnExactOrphanedBy': WHATEVER THE INPUT: true; the input reads as it did. -/
def fnExactOrphanedBySpec : ChangeSpec := { name := "fnExactOrphanedBy", fn := fun _ => fun
  | [d1, d2, d3] => { results := [.lit (.bool true)], args := [d1, d2, d3] }
  | _ => none }
def fnExactOrphanedByRow : OpenClaim := { program := "ytocnceglpkobaaa", sum := "003dd1c43b466883dc50d60fd2c2ca572371679f33a88346c3ec43b947f73427", func := "loop.example/g01922/laws.FnExactOrphanedBy", spec := "fnExactOrphanedBy", unfollowed := true, recurses := true, plainKeys := false, apart := false }
def FnExactOrphanedBySaid : Prop := fnExactOrphanedByRow.holds Try.pinned (OpenSpec.ofChange fnExactOrphanedBySpec)

/-- ITS FALSE NEIGHBOUR: 'it returns false'. Refute it at one input. -/
def fnExactOrphanedByWrong : ChangeSpec := { name := "fnExactOrphanedBy", fn := fun _ => fun
  | [d1, d2, d3] => { results := [.lit (.bool false)], args := [d1, d2, d3] }
  | _ => none }
def FnExactOrphanedByWrongFalsely : Prop := fnExactOrphanedByRow.holds Try.pinned (OpenSpec.ofChange fnExactOrphanedByWrong)

/-- 'laws.FnExactViewAfterDelete': WHATEVER THE INPUT: true; the input reads as it did. -/
def fnExactViewAfterDeleteSpec : ChangeSpec := { name := "fnExactViewAfterDelete", fn := fun _ => fun
  | [d1, d2, d3] => { results := [.lit (.bool true)], args := [d1, d2, d3] }
  | _ => none }
def fnExactViewAfterDeleteRow : OpenClaim := { program := "ytocnceglpkobaaa", sum := "003dd1c43b466883dc50d60fd2c2ca572371679f33a88346c3ec43b947f73427", func := "loop.example/g01922/laws.FnExactViewAfterDelete", spec := "fnExactViewAfterDelete", unfollowed := true, recurses := true, plainKeys := false, apart := false }
def FnExactViewAfterDeleteSaid : Prop := fnExactViewAfterDeleteRow.holds Try.pinned (OpenSpec.ofChange fnExactViewAfterDeleteSpec)

/-- ITS FALSE NEIGHBOUR: 'it returns false'. Refute it at one input. -/
def fnExactViewAfterDeleteWrong : ChangeSpec := { name := "fnExactViewAfterDelete", fn := fun _ => fun
  | [d1, d2, d3] => { results := [.lit (.bool false)], args := [d1, d2, d3] }
  | _ => none }
def FnExactViewAfterDeleteWrongFalsely : Prop := fnExactViewAfterDeleteRow.holds Try.pinned (OpenSpec.ofChange fnExactViewAfterDeleteWrong)

/-- 'laws.FnExactIsCyclicComponent': WHATEVER THE INPUT: true; the input reads as it did. -/
def fnExactIsCyclicComponentSpec : ChangeSpec := { name := "fnExactIsCyclicComponent", fn := fun _ => fun
  | [d1, d2, d3] => { results := [.lit (.bool true)], args := [d1, d2, d3] }
  | _ => none }
def fnExactIsCyclicComponentRow : OpenClaim := { program := "ytocnceglpkobaaa", sum := "003dd1c43b466883dc50d60fd2c2ca572371679f33a88346c3ec43b947f73427", func := "loop.example/g01922/laws.FnExactIsCyclicComponent", spec := "fnExactIsCyclicComponent", recurses := true, plainKeys := false, apart := false }
def FnExactIsCyclicComponentSaid : Prop := fnExactIsCyclicComponentRow.holds Try.pinned (OpenSpec.ofChange fnExactIsCyclicComponentSpec)

/-- ITS FALSE NEIGHBOUR: 'it returns false'. Refute it at one input. -/
def fnExactIsCyclicComponentWrong : ChangeSpec := { name := "fnExactIsCyclicComponent", fn := fun _ => fun
  | [d1, d2, d3] => { results := [.lit (.bool false)], args := [d1, d2, d3] }
  | _ => none }
def FnExactIsCyclicComponentWrongFalsely : Prop := fnExactIsCyclicComponentRow.holds Try.pinned (OpenSpec.ofChange fnExactIsCyclicComponentWrong)

/-- 'laws.FnExactComponentCount': WHATEVER THE INPUT: true; the input reads as it did. -/
def fnExactComponentCountSpec : ChangeSpec := { name := "fnExactComponentCount", fn := fun _ => fun
  | [d1, d2] => { results := [.lit (.bool true)], args := [d1, d2] }
  | _ => none }
def fnExactComponentCountRow : OpenClaim := { program := "ytocnceglpkobaaa", sum := "003dd1c43b466883dc50d60fd2c2ca572371679f33a88346c3ec43b947f73427", func := "loop.example/g01922/laws.FnExactComponentCount", spec := "fnExactComponentCount", recurses := true, plainKeys := false, apart := false }
def FnExactComponentCountSaid : Prop := fnExactComponentCountRow.holds Try.pinned (OpenSpec.ofChange fnExactComponentCountSpec)

/-- ITS FALSE NEIGHBOUR: 'it returns false'. Refute it at one input. -/
def fnExactComponentCountWrong : ChangeSpec := { name := "fnExactComponentCount", fn := fun _ => fun
  | [d1, d2] => { results := [.lit (.bool false)], args := [d1, d2] }
  | _ => none }
def FnExactComponentCountWrongFalsely : Prop := fnExactComponentCountRow.holds Try.pinned (OpenSpec.ofChange fnExactComponentCountWrong)

/- THE SECOND FORM. 'bulk': how many values and letters a reading holds, each counted each time it is reached (what is shared counts as often as it is met; a slice's spare places count too). A statement '..UptoSaid' is the law's where the arguments, and the package variables that the reading takes, are together of bulk at most 1048576: NARROWER than '..Said'. Prove '..Said' where nothing that the law and all that it calls make is longer than what came in: it says more and counts as full. Else prove '..UptoSaid'. A law counts once. -/
mutual
def uptoBulk {H : Type} : DataW H → Nat
  | .lit (.string bytes) => bytes.length + 1
  | .lit _ => 1
  | .nil => 1
  | .ptr d => uptoBulk d + 1
  | .slice elems spare => uptoBulkAll elems + uptoBulkAll spare + 1
  | .agg parts => uptoBulkAll parts + 1
  | .iface _ d => uptoBulk d + 1
  | .map entries => uptoBulkEntries entries + 1
  | .held _ => 1
def uptoBulkAll {H : Type} : List (DataW H) → Nat
  | [] => 0
  | d :: r => uptoBulk d + uptoBulkAll r
def uptoBulkEntries {H : Type} : List (Lit × DataW H) → Nat
  | [] => 0
  | x :: r => uptoBulkEntry x + uptoBulkEntries r
def uptoBulkEntry {H : Type} : Lit × DataW H → Nat
  | (.string bytes, d) => bytes.length + uptoBulk d + 1
  | (_, d) => uptoBulk d + 1
 end
def uptoSmall : (H : Type) → List (DataW H) → Bool := fun _ ds => decide (uptoBulkAll ds ≤ 1048576)
def OpenSpec.upto (s : _root_.Go.ChangeSpec) : _root_.Go.OpenSpec := { _root_.Go.OpenSpec.ofChange s with cond := some uptoSmall }

/-- 'laws.FnExactCheapestCost', WHERE WHAT IT READS IS OF BULK AT MOST 1048576: true; the input reads as it did. -/
def fnExactCheapestCostUptoRow : OpenClaim := { program := "ytocnceglpkobaaa", sum := "003dd1c43b466883dc50d60fd2c2ca572371679f33a88346c3ec43b947f73427", func := "loop.example/g01922/laws.FnExactCheapestCost", spec := "fnExactCheapestCost", plainKeys := false, apart := false, narrowed := true }
def FnExactCheapestCostUptoSaid : Prop := fnExactCheapestCostUptoRow.holds Try.pinned (OpenSpec.upto fnExactCheapestCostSpec)

/-- 'laws.FnExactProjectBindings', WHERE WHAT IT READS IS OF BULK AT MOST 1048576: true; the input reads as it did. -/
def fnExactProjectBindingsUptoRow : OpenClaim := { program := "ytocnceglpkobaaa", sum := "003dd1c43b466883dc50d60fd2c2ca572371679f33a88346c3ec43b947f73427", func := "loop.example/g01922/laws.FnExactProjectBindings", spec := "fnExactProjectBindings", unfollowed := true, recurses := true, plainKeys := false, apart := false, narrowed := true }
def FnExactProjectBindingsUptoSaid : Prop := fnExactProjectBindingsUptoRow.holds Try.pinned (OpenSpec.upto fnExactProjectBindingsSpec)

/-- 'laws.FnExactCheapestAnswer', WHERE WHAT IT READS IS OF BULK AT MOST 1048576: true; the input reads as it did. -/
def fnExactCheapestAnswerUptoRow : OpenClaim := { program := "ytocnceglpkobaaa", sum := "003dd1c43b466883dc50d60fd2c2ca572371679f33a88346c3ec43b947f73427", func := "loop.example/g01922/laws.FnExactCheapestAnswer", spec := "fnExactCheapestAnswer", plainKeys := false, apart := false, narrowed := true }
def FnExactCheapestAnswerUptoSaid : Prop := fnExactCheapestAnswerUptoRow.holds Try.pinned (OpenSpec.upto fnExactCheapestAnswerSpec)

/-- 'laws.FnExactIsValidView', WHERE WHAT IT READS IS OF BULK AT MOST 1048576: true; the input reads as it did. -/
def fnExactIsValidViewUptoRow : OpenClaim := { program := "ytocnceglpkobaaa", sum := "003dd1c43b466883dc50d60fd2c2ca572371679f33a88346c3ec43b947f73427", func := "loop.example/g01922/laws.FnExactIsValidView", spec := "fnExactIsValidView", unfollowed := true, recurses := true, plainKeys := false, apart := false, narrowed := true }
def FnExactIsValidViewUptoSaid : Prop := fnExactIsValidViewUptoRow.holds Try.pinned (OpenSpec.upto fnExactIsValidViewSpec)

/-- 'laws.FnExactBuildView', WHERE WHAT IT READS IS OF BULK AT MOST 1048576: true; the input reads as it did. -/
def fnExactBuildViewUptoRow : OpenClaim := { program := "ytocnceglpkobaaa", sum := "003dd1c43b466883dc50d60fd2c2ca572371679f33a88346c3ec43b947f73427", func := "loop.example/g01922/laws.FnExactBuildView", spec := "fnExactBuildView", plainKeys := false, apart := false, narrowed := true }
def FnExactBuildViewUptoSaid : Prop := fnExactBuildViewUptoRow.holds Try.pinned (OpenSpec.upto fnExactBuildViewSpec)

/-- 'laws.FnExactConditionedAnswers', WHERE WHAT IT READS IS OF BULK AT MOST 1048576: true; the input reads as it did. -/
def fnExactConditionedAnswersUptoRow : OpenClaim := { program := "ytocnceglpkobaaa", sum := "003dd1c43b466883dc50d60fd2c2ca572371679f33a88346c3ec43b947f73427", func := "loop.example/g01922/laws.FnExactConditionedAnswers", spec := "fnExactConditionedAnswers", unfollowed := true, recurses := true, plainKeys := false, apart := false, narrowed := true }
def FnExactConditionedAnswersUptoSaid : Prop := fnExactConditionedAnswersUptoRow.holds Try.pinned (OpenSpec.upto fnExactConditionedAnswersSpec)

/-- 'laws.FnExactConditionedWitness', WHERE WHAT IT READS IS OF BULK AT MOST 1048576: true; the input reads as it did. -/
def fnExactConditionedWitnessUptoRow : OpenClaim := { program := "ytocnceglpkobaaa", sum := "003dd1c43b466883dc50d60fd2c2ca572371679f33a88346c3ec43b947f73427", func := "loop.example/g01922/laws.FnExactConditionedWitness", spec := "fnExactConditionedWitness", unfollowed := true, recurses := true, plainKeys := false, apart := false, narrowed := true }
def FnExactConditionedWitnessUptoSaid : Prop := fnExactConditionedWitnessUptoRow.holds Try.pinned (OpenSpec.upto fnExactConditionedWitnessSpec)

/-- 'laws.FnExactOrphanedBy', WHERE WHAT IT READS IS OF BULK AT MOST 1048576: true; the input reads as it did. -/
def fnExactOrphanedByUptoRow : OpenClaim := { program := "ytocnceglpkobaaa", sum := "003dd1c43b466883dc50d60fd2c2ca572371679f33a88346c3ec43b947f73427", func := "loop.example/g01922/laws.FnExactOrphanedBy", spec := "fnExactOrphanedBy", unfollowed := true, recurses := true, plainKeys := false, apart := false, narrowed := true }
def FnExactOrphanedByUptoSaid : Prop := fnExactOrphanedByUptoRow.holds Try.pinned (OpenSpec.upto fnExactOrphanedBySpec)

/-- 'laws.FnExactViewAfterDelete', WHERE WHAT IT READS IS OF BULK AT MOST 1048576: true; the input reads as it did. -/
def fnExactViewAfterDeleteUptoRow : OpenClaim := { program := "ytocnceglpkobaaa", sum := "003dd1c43b466883dc50d60fd2c2ca572371679f33a88346c3ec43b947f73427", func := "loop.example/g01922/laws.FnExactViewAfterDelete", spec := "fnExactViewAfterDelete", unfollowed := true, recurses := true, plainKeys := false, apart := false, narrowed := true }
def FnExactViewAfterDeleteUptoSaid : Prop := fnExactViewAfterDeleteUptoRow.holds Try.pinned (OpenSpec.upto fnExactViewAfterDeleteSpec)

/-- 'laws.FnExactIsCyclicComponent', WHERE WHAT IT READS IS OF BULK AT MOST 1048576: true; the input reads as it did. -/
def fnExactIsCyclicComponentUptoRow : OpenClaim := { program := "ytocnceglpkobaaa", sum := "003dd1c43b466883dc50d60fd2c2ca572371679f33a88346c3ec43b947f73427", func := "loop.example/g01922/laws.FnExactIsCyclicComponent", spec := "fnExactIsCyclicComponent", recurses := true, plainKeys := false, apart := false, narrowed := true }
def FnExactIsCyclicComponentUptoSaid : Prop := fnExactIsCyclicComponentUptoRow.holds Try.pinned (OpenSpec.upto fnExactIsCyclicComponentSpec)

/-- 'laws.FnExactComponentCount', WHERE WHAT IT READS IS OF BULK AT MOST 1048576: true; the input reads as it did. -/
def fnExactComponentCountUptoRow : OpenClaim := { program := "ytocnceglpkobaaa", sum := "003dd1c43b466883dc50d60fd2c2ca572371679f33a88346c3ec43b947f73427", func := "loop.example/g01922/laws.FnExactComponentCount", spec := "fnExactComponentCount", recurses := true, plainKeys := false, apart := false, narrowed := true }
def FnExactComponentCountUptoSaid : Prop := fnExactComponentCountUptoRow.holds Try.pinned (OpenSpec.upto fnExactComponentCountSpec)

end Rows
end Go.Proofs.Ytocnceglpkobaaa
