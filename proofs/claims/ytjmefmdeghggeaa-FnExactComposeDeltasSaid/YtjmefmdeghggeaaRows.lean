/-
  No cell of these rows narrows 'for every input' (looked for: loops, veiled, ifaces, maps, wideKeys, modest, calm, conditions, laid).
  DERIVED. THE GIVEN ROWS OF THIS SEAT. 12 by the template 'for every input the law returns true; each argument reads behind the call as it read before'; 0 by the template 'total and deterministic' (their statements: YtjmefmdeghggeaaTotals.lean).
  GIVEN WITH THE SEED: the statements are not yours to turn. If you find one false, say at which input.
  Laid BY PROGRAM, IN A SANDBOX (cutbox-rows.mjs): the forced cells as the released guide's own fill.sh prints them over the translation ea4d056a8c2cfbc2… (all of the seat's roots in one cut). By AI agents, Wed Nov 11 2026. No macro, syntax, notation, axiom, sorry.
-/
import Derived.Test.YtjmefmdeghggeaaChecked
import GoSem.Claim
import GoSem.ClaimJoined
import GoSem.ClaimMapViews
import Derived.JoinedTies
import Derived.KernelRfl
namespace Go.Proofs.Ytjmefmdeghggeaa
/- THE CELL 'sum', in the pinned program and in every row, IS THE sha256 OF THE DUMP (.gsa) THAT YtjmefmdeghggeaaProg.lean LOADS. Nothing in Lean hashes anything: it is a label: what it is worth is what the hold of that sum in a sandbox is worth. -/
noncomputable def Try.pinned : Pinned := { name := "ytjmefmdeghggeaa", sum := "ea4d056a8c2cfbc264600221f72b770ab130691f5773a7bfd03dc410179551f1", checked := Try.checked }
namespace Rows
def none {H : Type} : Left H := { results := [], args := [] }

/-- 'laws.FnExactSimplifyExpr': WHATEVER THE INPUT: true; the input reads as it did. -/
def fnExactSimplifyExprSpec : ChangeSpec := { name := "fnExactSimplifyExpr", fn := fun _ => fun
  | [d] => { results := [.lit (.bool true)], args := [d] }
  | _ => none }
def fnExactSimplifyExprRow : OpenClaim := { program := "ytjmefmdeghggeaa", sum := "ea4d056a8c2cfbc264600221f72b770ab130691f5773a7bfd03dc410179551f1", func := "loop.example/g01922/laws.FnExactSimplifyExpr", spec := "fnExactSimplifyExpr", recurses := true, apart := false }
def FnExactSimplifyExprSaid : Prop := fnExactSimplifyExprRow.holds Try.pinned (OpenSpec.ofChange fnExactSimplifyExprSpec)

/-- ITS FALSE NEIGHBOUR: 'it returns false'. Refute it at one input. -/
def fnExactSimplifyExprWrong : ChangeSpec := { name := "fnExactSimplifyExpr", fn := fun _ => fun
  | [d] => { results := [.lit (.bool false)], args := [d] }
  | _ => none }
def FnExactSimplifyExprWrongFalsely : Prop := fnExactSimplifyExprRow.holds Try.pinned (OpenSpec.ofChange fnExactSimplifyExprWrong)

/-- 'laws.FnExactDeltaBetween': WHATEVER THE INPUT: true; the input reads as it did. -/
def fnExactDeltaBetweenSpec : ChangeSpec := { name := "fnExactDeltaBetween", fn := fun _ => fun
  | [d1, d2] => { results := [.lit (.bool true)], args := [d1, d2] }
  | _ => none }
def fnExactDeltaBetweenRow : OpenClaim := { program := "ytjmefmdeghggeaa", sum := "ea4d056a8c2cfbc264600221f72b770ab130691f5773a7bfd03dc410179551f1", func := "loop.example/g01922/laws.FnExactDeltaBetween", spec := "fnExactDeltaBetween", unfollowed := true, recurses := true, apart := false }
def FnExactDeltaBetweenSaid : Prop := fnExactDeltaBetweenRow.holds Try.pinned (OpenSpec.ofChange fnExactDeltaBetweenSpec)

/-- ITS FALSE NEIGHBOUR: 'it returns false'. Refute it at one input. -/
def fnExactDeltaBetweenWrong : ChangeSpec := { name := "fnExactDeltaBetween", fn := fun _ => fun
  | [d1, d2] => { results := [.lit (.bool false)], args := [d1, d2] }
  | _ => none }
def FnExactDeltaBetweenWrongFalsely : Prop := fnExactDeltaBetweenRow.holds Try.pinned (OpenSpec.ofChange fnExactDeltaBetweenWrong)

/-- 'laws.FnExactProjectBindings': WHATEVER THE INPUT: true; the input reads as it did. -/
def fnExactProjectBindingsSpec : ChangeSpec := { name := "fnExactProjectBindings", fn := fun _ => fun
  | [d1, d2] => { results := [.lit (.bool true)], args := [d1, d2] }
  | _ => none }
def fnExactProjectBindingsRow : OpenClaim := { program := "ytjmefmdeghggeaa", sum := "ea4d056a8c2cfbc264600221f72b770ab130691f5773a7bfd03dc410179551f1", func := "loop.example/g01922/laws.FnExactProjectBindings", spec := "fnExactProjectBindings", unfollowed := true, recurses := true, apart := false }
def FnExactProjectBindingsSaid : Prop := fnExactProjectBindingsRow.holds Try.pinned (OpenSpec.ofChange fnExactProjectBindingsSpec)

/-- ITS FALSE NEIGHBOUR: 'it returns false'. Refute it at one input. -/
def fnExactProjectBindingsWrong : ChangeSpec := { name := "fnExactProjectBindings", fn := fun _ => fun
  | [d1, d2] => { results := [.lit (.bool false)], args := [d1, d2] }
  | _ => none }
def FnExactProjectBindingsWrongFalsely : Prop := fnExactProjectBindingsRow.holds Try.pinned (OpenSpec.ofChange fnExactProjectBindingsWrong)

/-- 'laws.FnExactApplyDelta': WHATEVER THE INPUT: true; the input reads as it did. -/
def fnExactApplyDeltaSpec : ChangeSpec := { name := "fnExactApplyDelta", fn := fun _ => fun
  | [d1, d2] => { results := [.lit (.bool true)], args := [d1, d2] }
  | _ => none }
def fnExactApplyDeltaRow : OpenClaim := { program := "ytjmefmdeghggeaa", sum := "ea4d056a8c2cfbc264600221f72b770ab130691f5773a7bfd03dc410179551f1", func := "loop.example/g01922/laws.FnExactApplyDelta", spec := "fnExactApplyDelta", unfollowed := true, recurses := true, apart := false }
def FnExactApplyDeltaSaid : Prop := fnExactApplyDeltaRow.holds Try.pinned (OpenSpec.ofChange fnExactApplyDeltaSpec)

/-- ITS FALSE NEIGHBOUR: 'it returns false'. Refute it at one input. -/
def fnExactApplyDeltaWrong : ChangeSpec := { name := "fnExactApplyDelta", fn := fun _ => fun
  | [d1, d2] => { results := [.lit (.bool false)], args := [d1, d2] }
  | _ => none }
def FnExactApplyDeltaWrongFalsely : Prop := fnExactApplyDeltaRow.holds Try.pinned (OpenSpec.ofChange fnExactApplyDeltaWrong)

/-- 'laws.FnExactComposeDeltas': WHATEVER THE INPUT: true; the input reads as it did. -/
def fnExactComposeDeltasSpec : ChangeSpec := { name := "fnExactComposeDeltas", fn := fun _ => fun
  | [d1, d2] => { results := [.lit (.bool true)], args := [d1, d2] }
  | _ => none }
def fnExactComposeDeltasRow : OpenClaim := { program := "ytjmefmdeghggeaa", sum := "ea4d056a8c2cfbc264600221f72b770ab130691f5773a7bfd03dc410179551f1", func := "loop.example/g01922/laws.FnExactComposeDeltas", spec := "fnExactComposeDeltas", unfollowed := true, recurses := true, apart := false }
def FnExactComposeDeltasSaid : Prop := fnExactComposeDeltasRow.holds Try.pinned (OpenSpec.ofChange fnExactComposeDeltasSpec)

/-- ITS FALSE NEIGHBOUR: 'it returns false'. Refute it at one input. -/
def fnExactComposeDeltasWrong : ChangeSpec := { name := "fnExactComposeDeltas", fn := fun _ => fun
  | [d1, d2] => { results := [.lit (.bool false)], args := [d1, d2] }
  | _ => none }
def FnExactComposeDeltasWrongFalsely : Prop := fnExactComposeDeltasRow.holds Try.pinned (OpenSpec.ofChange fnExactComposeDeltasWrong)

/-- 'laws.FnExactCheapestCost': WHATEVER THE INPUT: true; the input reads as it did. -/
def fnExactCheapestCostSpec : ChangeSpec := { name := "fnExactCheapestCost", fn := fun _ => fun
  | [d1, d2, d3, d4, d5] => { results := [.lit (.bool true)], args := [d1, d2, d3, d4, d5] }
  | _ => none }
def fnExactCheapestCostRow : OpenClaim := { program := "ytjmefmdeghggeaa", sum := "ea4d056a8c2cfbc264600221f72b770ab130691f5773a7bfd03dc410179551f1", func := "loop.example/g01922/laws.FnExactCheapestCost", spec := "fnExactCheapestCost", apart := false }
def FnExactCheapestCostSaid : Prop := fnExactCheapestCostRow.holds Try.pinned (OpenSpec.ofChange fnExactCheapestCostSpec)

/-- ITS FALSE NEIGHBOUR: 'it returns false'. Refute it at one input. -/
def fnExactCheapestCostWrong : ChangeSpec := { name := "fnExactCheapestCost", fn := fun _ => fun
  | [d1, d2, d3, d4, d5] => { results := [.lit (.bool false)], args := [d1, d2, d3, d4, d5] }
  | _ => none }
def FnExactCheapestCostWrongFalsely : Prop := fnExactCheapestCostRow.holds Try.pinned (OpenSpec.ofChange fnExactCheapestCostWrong)

/-- 'laws.FnExactCheapestAnswer': WHATEVER THE INPUT: true; the input reads as it did. -/
def fnExactCheapestAnswerSpec : ChangeSpec := { name := "fnExactCheapestAnswer", fn := fun _ => fun
  | [d1, d2, d3, d4] => { results := [.lit (.bool true)], args := [d1, d2, d3, d4] }
  | _ => none }
def fnExactCheapestAnswerRow : OpenClaim := { program := "ytjmefmdeghggeaa", sum := "ea4d056a8c2cfbc264600221f72b770ab130691f5773a7bfd03dc410179551f1", func := "loop.example/g01922/laws.FnExactCheapestAnswer", spec := "fnExactCheapestAnswer", apart := false }
def FnExactCheapestAnswerSaid : Prop := fnExactCheapestAnswerRow.holds Try.pinned (OpenSpec.ofChange fnExactCheapestAnswerSpec)

/-- ITS FALSE NEIGHBOUR: 'it returns false'. Refute it at one input. -/
def fnExactCheapestAnswerWrong : ChangeSpec := { name := "fnExactCheapestAnswer", fn := fun _ => fun
  | [d1, d2, d3, d4] => { results := [.lit (.bool false)], args := [d1, d2, d3, d4] }
  | _ => none }
def FnExactCheapestAnswerWrongFalsely : Prop := fnExactCheapestAnswerRow.holds Try.pinned (OpenSpec.ofChange fnExactCheapestAnswerWrong)

/-- 'laws.FnExactIsValidView': WHATEVER THE INPUT: true; the input reads as it did. -/
def fnExactIsValidViewSpec : ChangeSpec := { name := "fnExactIsValidView", fn := fun _ => fun
  | [d1, d2] => { results := [.lit (.bool true)], args := [d1, d2] }
  | _ => none }
def fnExactIsValidViewRow : OpenClaim := { program := "ytjmefmdeghggeaa", sum := "ea4d056a8c2cfbc264600221f72b770ab130691f5773a7bfd03dc410179551f1", func := "loop.example/g01922/laws.FnExactIsValidView", spec := "fnExactIsValidView", unfollowed := true, recurses := true, apart := false }
def FnExactIsValidViewSaid : Prop := fnExactIsValidViewRow.holds Try.pinned (OpenSpec.ofChange fnExactIsValidViewSpec)

/-- ITS FALSE NEIGHBOUR: 'it returns false'. Refute it at one input. -/
def fnExactIsValidViewWrong : ChangeSpec := { name := "fnExactIsValidView", fn := fun _ => fun
  | [d1, d2] => { results := [.lit (.bool false)], args := [d1, d2] }
  | _ => none }
def FnExactIsValidViewWrongFalsely : Prop := fnExactIsValidViewRow.holds Try.pinned (OpenSpec.ofChange fnExactIsValidViewWrong)

/-- 'laws.FnExactBuildView': WHATEVER THE INPUT: true; the input reads as it did. -/
def fnExactBuildViewSpec : ChangeSpec := { name := "fnExactBuildView", fn := fun _ => fun
  | [d1, d2, d3] => { results := [.lit (.bool true)], args := [d1, d2, d3] }
  | _ => none }
def fnExactBuildViewRow : OpenClaim := { program := "ytjmefmdeghggeaa", sum := "ea4d056a8c2cfbc264600221f72b770ab130691f5773a7bfd03dc410179551f1", func := "loop.example/g01922/laws.FnExactBuildView", spec := "fnExactBuildView", apart := false }
def FnExactBuildViewSaid : Prop := fnExactBuildViewRow.holds Try.pinned (OpenSpec.ofChange fnExactBuildViewSpec)

/-- ITS FALSE NEIGHBOUR: 'it returns false'. Refute it at one input. -/
def fnExactBuildViewWrong : ChangeSpec := { name := "fnExactBuildView", fn := fun _ => fun
  | [d1, d2, d3] => { results := [.lit (.bool false)], args := [d1, d2, d3] }
  | _ => none }
def FnExactBuildViewWrongFalsely : Prop := fnExactBuildViewRow.holds Try.pinned (OpenSpec.ofChange fnExactBuildViewWrong)

/-- 'laws.FnExactConditionedAnswers': WHATEVER THE INPUT: true; the input reads as it did. -/
def fnExactConditionedAnswersSpec : ChangeSpec := { name := "fnExactConditionedAnswers", fn := fun _ => fun
  | [d1, d2, d3] => { results := [.lit (.bool true)], args := [d1, d2, d3] }
  | _ => none }
def fnExactConditionedAnswersRow : OpenClaim := { program := "ytjmefmdeghggeaa", sum := "ea4d056a8c2cfbc264600221f72b770ab130691f5773a7bfd03dc410179551f1", func := "loop.example/g01922/laws.FnExactConditionedAnswers", spec := "fnExactConditionedAnswers", unfollowed := true, recurses := true, apart := false }
def FnExactConditionedAnswersSaid : Prop := fnExactConditionedAnswersRow.holds Try.pinned (OpenSpec.ofChange fnExactConditionedAnswersSpec)

/-- ITS FALSE NEIGHBOUR: 'it returns false'. Refute it at one input. -/
def fnExactConditionedAnswersWrong : ChangeSpec := { name := "fnExactConditionedAnswers", fn := fun _ => fun
  | [d1, d2, d3] => { results := [.lit (.bool false)], args := [d1, d2, d3] }
  | _ => none }
def FnExactConditionedAnswersWrongFalsely : Prop := fnExactConditionedAnswersRow.holds Try.pinned (OpenSpec.ofChange fnExactConditionedAnswersWrong)

/-- 'laws.FnExactIsCyclicComponent': WHATEVER THE INPUT: true; the input reads as it did. -/
def fnExactIsCyclicComponentSpec : ChangeSpec := { name := "fnExactIsCyclicComponent", fn := fun _ => fun
  | [d1, d2, d3] => { results := [.lit (.bool true)], args := [d1, d2, d3] }
  | _ => none }
def fnExactIsCyclicComponentRow : OpenClaim := { program := "ytjmefmdeghggeaa", sum := "ea4d056a8c2cfbc264600221f72b770ab130691f5773a7bfd03dc410179551f1", func := "loop.example/g01922/laws.FnExactIsCyclicComponent", spec := "fnExactIsCyclicComponent", recurses := true, apart := false }
def FnExactIsCyclicComponentSaid : Prop := fnExactIsCyclicComponentRow.holds Try.pinned (OpenSpec.ofChange fnExactIsCyclicComponentSpec)

/-- ITS FALSE NEIGHBOUR: 'it returns false'. Refute it at one input. -/
def fnExactIsCyclicComponentWrong : ChangeSpec := { name := "fnExactIsCyclicComponent", fn := fun _ => fun
  | [d1, d2, d3] => { results := [.lit (.bool false)], args := [d1, d2, d3] }
  | _ => none }
def FnExactIsCyclicComponentWrongFalsely : Prop := fnExactIsCyclicComponentRow.holds Try.pinned (OpenSpec.ofChange fnExactIsCyclicComponentWrong)

/-- 'laws.FnExactComponentCount': WHATEVER THE INPUT: true; the input reads as it did. -/
def fnExactComponentCountSpec : ChangeSpec := { name := "fnExactComponentCount", fn := fun _ => fun
  | [d1, d2] => { results := [.lit (.bool true)], args := [d1, d2] }
  | _ => none }
def fnExactComponentCountRow : OpenClaim := { program := "ytjmefmdeghggeaa", sum := "ea4d056a8c2cfbc264600221f72b770ab130691f5773a7bfd03dc410179551f1", func := "loop.example/g01922/laws.FnExactComponentCount", spec := "fnExactComponentCount", recurses := true, apart := false }
def FnExactComponentCountSaid : Prop := fnExactComponentCountRow.holds Try.pinned (OpenSpec.ofChange fnExactComponentCountSpec)

/-- ITS FALSE NEIGHBOUR: 'it returns false'. Refute it at one input. -/
def fnExactComponentCountWrong : ChangeSpec := { name := "fnExactComponentCount", fn := fun _ => fun
  | [d1, d2] => { results := [.lit (.bool false)], args := [d1, d2] }
  | _ => none }
def FnExactComponentCountWrongFalsely : Prop := fnExactComponentCountRow.holds Try.pinned (OpenSpec.ofChange fnExactComponentCountWrong)

/- THE SECOND FORM. 'bulk': how many values and letters a reading holds, each counted each time it is reached (what is shared counts as often as it is met; a slice's spare places count too). A statement '..UptoSaid' is the law's where the arguments, and the package variables that the reading takes, are together of bulk at most 1048576: NARROWER than '..Said'. Prove '..Said' where nothing that the law and all that it calls make is longer than what came in: it says more and counts as full. Else prove '..UptoSaid'. A law counts once. -/
mutual
def uptoBulk {H : Type} : DataW H → Nat
  | .lit (.string bytes) => bytes.length + 1
  | .lit _ => 1
  | .nil => 1
  | .ptr d => uptoBulk d + 1
  | .slice elems spare => uptoBulkAll elems + uptoBulkAll spare + 1
  | .agg parts => uptoBulkAll parts + 1
  | .iface _ d => uptoBulk d + 1
  | .map entries => uptoBulkEntries entries + 1
  | .held _ => 1
def uptoBulkAll {H : Type} : List (DataW H) → Nat
  | [] => 0
  | d :: r => uptoBulk d + uptoBulkAll r
def uptoBulkEntries {H : Type} : List (Lit × DataW H) → Nat
  | [] => 0
  | x :: r => uptoBulkEntry x + uptoBulkEntries r
def uptoBulkEntry {H : Type} : Lit × DataW H → Nat
  | (.string bytes, d) => bytes.length + uptoBulk d + 1
  | (_, d) => uptoBulk d + 1
 end
def uptoSmall : (H : Type) → List (DataW H) → Bool := fun _ ds => decide (uptoBulkAll ds ≤ 1048576)
def OpenSpec.upto (s : _root_.Go.ChangeSpec) : _root_.Go.OpenSpec := { _root_.Go.OpenSpec.ofChange s with cond := some uptoSmall }

/-- 'laws.FnExactSimplifyExpr', WHERE WHAT IT READS IS OF BULK AT MOST 1048576: true; the input reads as it did. -/
def fnExactSimplifyExprUptoRow : OpenClaim := { program := "ytjmefmdeghggeaa", sum := "ea4d056a8c2cfbc264600221f72b770ab130691f5773a7bfd03dc410179551f1", func := "loop.example/g01922/laws.FnExactSimplifyExpr", spec := "fnExactSimplifyExpr", recurses := true, apart := false, narrowed := true }
def FnExactSimplifyExprUptoSaid : Prop := fnExactSimplifyExprUptoRow.holds Try.pinned (OpenSpec.upto fnExactSimplifyExprSpec)

/-- 'laws.FnExactDeltaBetween', WHERE WHAT IT READS IS OF BULK AT MOST 1048576: true; the input reads as it did. -/
def fnExactDeltaBetweenUptoRow : OpenClaim := { program := "ytjmefmdeghggeaa", sum := "ea4d056a8c2cfbc264600221f72b770ab130691f5773a7bfd03dc410179551f1", func := "loop.example/g01922/laws.FnExactDeltaBetween", spec := "fnExactDeltaBetween", unfollowed := true, recurses := true, apart := false, narrowed := true }
def FnExactDeltaBetweenUptoSaid : Prop := fnExactDeltaBetweenUptoRow.holds Try.pinned (OpenSpec.upto fnExactDeltaBetweenSpec)

/-- 'laws.FnExactProjectBindings', WHERE WHAT IT READS IS OF BULK AT MOST 1048576: true; the input reads as it did. -/
def fnExactProjectBindingsUptoRow : OpenClaim := { program := "ytjmefmdeghggeaa", sum := "ea4d056a8c2cfbc264600221f72b770ab130691f5773a7bfd03dc410179551f1", func := "loop.example/g01922/laws.FnExactProjectBindings", spec := "fnExactProjectBindings", unfollowed := true, recurses := true, apart := false, narrowed := true }
def FnExactProjectBindingsUptoSaid : Prop := fnExactProjectBindingsUptoRow.holds Try.pinned (OpenSpec.upto fnExactProjectBindingsSpec)

/-- 'laws.FnExactApplyDelta', WHERE WHAT IT READS IS OF BULK AT MOST 1048576: true; the input reads as it did. -/
def fnExactApplyDeltaUptoRow : OpenClaim := { program := "ytjmefmdeghggeaa", sum := "ea4d056a8c2cfbc264600221f72b770ab130691f5773a7bfd03dc410179551f1", func := "loop.example/g01922/laws.FnExactApplyDelta", spec := "fnExactApplyDelta", unfollowed := true, recurses := true, apart := false, narrowed := true }
def FnExactApplyDeltaUptoSaid : Prop := fnExactApplyDeltaUptoRow.holds Try.pinned (OpenSpec.upto fnExactApplyDeltaSpec)

/-- 'laws.FnExactComposeDeltas', WHERE WHAT IT READS IS OF BULK AT MOST 1048576: true; the input reads as it did. -/
def fnExactComposeDeltasUptoRow : OpenClaim := { program := "ytjmefmdeghggeaa", sum := "ea4d056a8c2cfbc264600221f72b770ab130691f5773a7bfd03dc410179551f1", func := "loop.example/g01922/laws.FnExactComposeDeltas", spec := "fnExactComposeDeltas", unfollowed := true, recurses := true, apart := false, narrowed := true }
def FnExactComposeDeltasUptoSaid : Prop := fnExactComposeDeltasUptoRow.holds Try.pinned (OpenSpec.upto fnExactComposeDeltasSpec)

/-- 'laws.FnExactCheapestCost', WHERE WHAT IT READS IS OF BULK AT MOST 1048576: true; the input reads as it did. -/
def fnExactCheapestCostUptoRow : OpenClaim := { program := "ytjmefmdeghggeaa", sum := "ea4d056a8c2cfbc264600221f72b770ab130691f5773a7bfd03dc410179551f1", func := "loop.example/g01922/laws.FnExactCheapestCost", spec := "fnExactCheapestCost", apart := false, narrowed := true }
def FnExactCheapestCostUptoSaid : Prop := fnExactCheapestCostUptoRow.holds Try.pinned (OpenSpec.upto fnExactCheapestCostSpec)

/-- 'laws.FnExactCheapestAnswer', WHERE WHAT IT READS IS OF BULK AT MOST 1048576: true; the input reads as it did. -/
def fnExactCheapestAnswerUptoRow : OpenClaim := { program := "ytjmefmdeghggeaa", sum := "ea4d056a8c2cfbc264600221f72b770ab130691f5773a7bfd03dc410179551f1", func := "loop.example/g01922/laws.FnExactCheapestAnswer", spec := "fnExactCheapestAnswer", apart := false, narrowed := true }
def FnExactCheapestAnswerUptoSaid : Prop := fnExactCheapestAnswerUptoRow.holds Try.pinned (OpenSpec.upto fnExactCheapestAnswerSpec)

/-- 'laws.FnExactIsValidView', WHERE WHAT IT READS IS OF BULK AT MOST 1048576: true; the input reads as it did. -/
def fnExactIsValidViewUptoRow : OpenClaim := { program := "ytjmefmdeghggeaa", sum := "ea4d056a8c2cfbc264600221f72b770ab130691f5773a7bfd03dc410179551f1", func := "loop.example/g01922/laws.FnExactIsValidView", spec := "fnExactIsValidView", unfollowed := true, recurses := true, apart := false, narrowed := true }
def FnExactIsValidViewUptoSaid : Prop := fnExactIsValidViewUptoRow.holds Try.pinned (OpenSpec.upto fnExactIsValidViewSpec)

/-- 'laws.FnExactBuildView', WHERE WHAT IT READS IS OF BULK AT MOST 1048576: true; the input reads as it did. -/
def fnExactBuildViewUptoRow : OpenClaim := { program := "ytjmefmdeghggeaa", sum := "ea4d056a8c2cfbc264600221f72b770ab130691f5773a7bfd03dc410179551f1", func := "loop.example/g01922/laws.FnExactBuildView", spec := "fnExactBuildView", apart := false, narrowed := true }
def FnExactBuildViewUptoSaid : Prop := fnExactBuildViewUptoRow.holds Try.pinned (OpenSpec.upto fnExactBuildViewSpec)

/-- 'laws.FnExactConditionedAnswers', WHERE WHAT IT READS IS OF BULK AT MOST 1048576: true; the input reads as it did. -/
def fnExactConditionedAnswersUptoRow : OpenClaim := { program := "ytjmefmdeghggeaa", sum := "ea4d056a8c2cfbc264600221f72b770ab130691f5773a7bfd03dc410179551f1", func := "loop.example/g01922/laws.FnExactConditionedAnswers", spec := "fnExactConditionedAnswers", unfollowed := true, recurses := true, apart := false, narrowed := true }
def FnExactConditionedAnswersUptoSaid : Prop := fnExactConditionedAnswersUptoRow.holds Try.pinned (OpenSpec.upto fnExactConditionedAnswersSpec)

/-- 'laws.FnExactIsCyclicComponent', WHERE WHAT IT READS IS OF BULK AT MOST 1048576: true; the input reads as it did. -/
def fnExactIsCyclicComponentUptoRow : OpenClaim := { program := "ytjmefmdeghggeaa", sum := "ea4d056a8c2cfbc264600221f72b770ab130691f5773a7bfd03dc410179551f1", func := "loop.example/g01922/laws.FnExactIsCyclicComponent", spec := "fnExactIsCyclicComponent", recurses := true, apart := false, narrowed := true }
def FnExactIsCyclicComponentUptoSaid : Prop := fnExactIsCyclicComponentUptoRow.holds Try.pinned (OpenSpec.upto fnExactIsCyclicComponentSpec)

/-- 'laws.FnExactComponentCount', WHERE WHAT IT READS IS OF BULK AT MOST 1048576: true; the input reads as it did. -/
def fnExactComponentCountUptoRow : OpenClaim := { program := "ytjmefmdeghggeaa", sum := "ea4d056a8c2cfbc264600221f72b770ab130691f5773a7bfd03dc410179551f1", func := "loop.example/g01922/laws.FnExactComponentCount", spec := "fnExactComponentCount", recurses := true, apart := false, narrowed := true }
def FnExactComponentCountUptoSaid : Prop := fnExactComponentCountUptoRow.holds Try.pinned (OpenSpec.upto fnExactComponentCountSpec)

end Rows
end Go.Proofs.Ytjmefmdeghggeaa
