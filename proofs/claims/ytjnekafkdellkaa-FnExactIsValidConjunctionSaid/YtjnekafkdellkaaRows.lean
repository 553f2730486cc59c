/-
  No cell of these rows narrows 'for every input' (looked for: loops, veiled, ifaces, maps, wideKeys, modest, calm, conditions, laid).
  DERIVED. THE GIVEN ROWS OF THIS SEAT. 10 by the template 'for every input the law returns true; each argument reads behind the call as it read before'; 0 by the template 'total and deterministic' (their statements: YtjnekafkdellkaaTotals.lean).
  GIVEN WITH THE SEED: the statements are not yours to turn. If you find one false, say at which input.
  Laid BY PROGRAM, IN A SANDBOX (cutbox-rows.mjs): the forced cells as the released guide's own fill.sh prints them over the translation da743c04431c952e… (all of the seat's roots in one cut). By AI agents, Wed Nov 11 2026. No macro, syntax, notation, axiom, sorry.
-/
import Derived.Test.YtjnekafkdellkaaChecked
import GoSem.Claim
import GoSem.ClaimJoined
import GoSem.ClaimMapViews
import Derived.JoinedTies
import Derived.KernelRfl
namespace Go.Proofs.Ytjnekafkdellkaa
/- THE CELL 'sum', in the pinned program and in every row, IS THE sha256 OF THE DUMP (.gsa) THAT YtjnekafkdellkaaProg.lean LOADS. Nothing in Lean hashes anything: it is a label: what it is worth is what the hold of that sum in a sandbox is worth. -/
noncomputable def Try.pinned : Pinned := { name := "ytjnekafkdellkaa", sum := "da743c04431c952ea4e7ae23edd615f8217c5dbc5e8e8e45abe3025efbe0ae3c", checked := Try.checked }
namespace Rows
def none {H : Type} : Left H := { results := [], args := [] }

/-- 'laws.FnExactLineGraph': WHATEVER THE INPUT: true; the input reads as it did. -/
def fnExactLineGraphSpec : ChangeSpec := { name := "fnExactLineGraph", fn := fun _ => fun
  | [d] => { results := [.lit (.bool true)], args := [d] }
  | _ => none }
def fnExactLineGraphRow : OpenClaim := { program := "ytjnekafkdellkaa", sum := "da743c04431c952ea4e7ae23edd615f8217c5dbc5e8e8e45abe3025efbe0ae3c", func := "loop.example/g01922/laws.FnExactLineGraph", spec := "fnExactLineGraph", apart := false }
def FnExactLineGraphSaid : Prop := fnExactLineGraphRow.holds Try.pinned (OpenSpec.ofChange fnExactLineGraphSpec)

/-- ITS FALSE NEIGHBOUR: 'it returns false'. Refute it at one input. -/
def fnExactLineGraphWrong : ChangeSpec := { name := "fnExactLineGraph", fn := fun _ => fun
  | [d] => { results := [.lit (.bool false)], args := [d] }
  | _ => none }
def FnExactLineGraphWrongFalsely : Prop := fnExactLineGraphRow.holds Try.pinned (OpenSpec.ofChange fnExactLineGraphWrong)

/-- 'laws.FnExactStarHeight': WHATEVER THE INPUT: true; the input reads as it did. -/
def fnExactStarHeightSpec : ChangeSpec := { name := "fnExactStarHeight", fn := fun _ => fun
  | [d] => { results := [.lit (.bool true)], args := [d] }
  | _ => none }
def fnExactStarHeightRow : OpenClaim := { program := "ytjnekafkdellkaa", sum := "da743c04431c952ea4e7ae23edd615f8217c5dbc5e8e8e45abe3025efbe0ae3c", func := "loop.example/g01922/laws.FnExactStarHeight", spec := "fnExactStarHeight", recurses := true, apart := false }
def FnExactStarHeightSaid : Prop := fnExactStarHeightRow.holds Try.pinned (OpenSpec.ofChange fnExactStarHeightSpec)

/-- ITS FALSE NEIGHBOUR: 'it returns false'. Refute it at one input. -/
def fnExactStarHeightWrong : ChangeSpec := { name := "fnExactStarHeight", fn := fun _ => fun
  | [d] => { results := [.lit (.bool false)], args := [d] }
  | _ => none }
def FnExactStarHeightWrongFalsely : Prop := fnExactStarHeightRow.holds Try.pinned (OpenSpec.ofChange fnExactStarHeightWrong)

/-- 'laws.FnExactEqualViews': WHATEVER THE INPUT: true; the input reads as it did. -/
def fnExactEqualViewsSpec : ChangeSpec := { name := "fnExactEqualViews", fn := fun _ => fun
  | [d1, d2] => { results := [.lit (.bool true)], args := [d1, d2] }
  | _ => none }
def fnExactEqualViewsRow : OpenClaim := { program := "ytjnekafkdellkaa", sum := "da743c04431c952ea4e7ae23edd615f8217c5dbc5e8e8e45abe3025efbe0ae3c", func := "loop.example/g01922/laws.FnExactEqualViews", spec := "fnExactEqualViews", unfollowed := true, recurses := true, apart := false }
def FnExactEqualViewsSaid : Prop := fnExactEqualViewsRow.holds Try.pinned (OpenSpec.ofChange fnExactEqualViewsSpec)

/-- ITS FALSE NEIGHBOUR: 'it returns false'. Refute it at one input. -/
def fnExactEqualViewsWrong : ChangeSpec := { name := "fnExactEqualViews", fn := fun _ => fun
  | [d1, d2] => { results := [.lit (.bool false)], args := [d1, d2] }
  | _ => none }
def FnExactEqualViewsWrongFalsely : Prop := fnExactEqualViewsRow.holds Try.pinned (OpenSpec.ofChange fnExactEqualViewsWrong)

/-- 'laws.FnExactStepCost': WHATEVER THE INPUT: true; the input reads as it did. -/
def fnExactStepCostSpec : ChangeSpec := { name := "fnExactStepCost", fn := fun _ => fun
  | [d1, d2, d3] => { results := [.lit (.bool true)], args := [d1, d2, d3] }
  | _ => none }
def fnExactStepCostRow : OpenClaim := { program := "ytjnekafkdellkaa", sum := "da743c04431c952ea4e7ae23edd615f8217c5dbc5e8e8e45abe3025efbe0ae3c", func := "loop.example/g01922/laws.FnExactStepCost", spec := "fnExactStepCost", unfollowed := true, recurses := true, apart := false }
def FnExactStepCostSaid : Prop := fnExactStepCostRow.holds Try.pinned (OpenSpec.ofChange fnExactStepCostSpec)

/-- ITS FALSE NEIGHBOUR: 'it returns false'. Refute it at one input. -/
def fnExactStepCostWrong : ChangeSpec := { name := "fnExactStepCost", fn := fun _ => fun
  | [d1, d2, d3] => { results := [.lit (.bool false)], args := [d1, d2, d3] }
  | _ => none }
def FnExactStepCostWrongFalsely : Prop := fnExactStepCostRow.holds Try.pinned (OpenSpec.ofChange fnExactStepCostWrong)

/-- 'laws.FnExactShortestWordLength': WHATEVER THE INPUT: true; the input reads as it did. -/
def fnExactShortestWordLengthSpec : ChangeSpec := { name := "fnExactShortestWordLength", fn := fun _ => fun
  | [d] => { results := [.lit (.bool true)], args := [d] }
  | _ => none }
def fnExactShortestWordLengthRow : OpenClaim := { program := "ytjnekafkdellkaa", sum := "da743c04431c952ea4e7ae23edd615f8217c5dbc5e8e8e45abe3025efbe0ae3c", func := "loop.example/g01922/laws.FnExactShortestWordLength", spec := "fnExactShortestWordLength", recurses := true, apart := false }
def FnExactShortestWordLengthSaid : Prop := fnExactShortestWordLengthRow.holds Try.pinned (OpenSpec.ofChange fnExactShortestWordLengthSpec)

/-- ITS FALSE NEIGHBOUR: 'it returns false'. Refute it at one input. -/
def fnExactShortestWordLengthWrong : ChangeSpec := { name := "fnExactShortestWordLength", fn := fun _ => fun
  | [d] => { results := [.lit (.bool false)], args := [d] }
  | _ => none }
def FnExactShortestWordLengthWrongFalsely : Prop := fnExactShortestWordLengthRow.holds Try.pinned (OpenSpec.ofChange fnExactShortestWordLengthWrong)

/-- 'laws.FnExactIsValidConjunction': WHATEVER THE INPUT: true; the input reads as it did. -/
def fnExactIsValidConjunctionSpec : ChangeSpec := { name := "fnExactIsValidConjunction", fn := fun _ => fun
  | [d] => { results := [.lit (.bool true)], args := [d] }
  | _ => none }
def fnExactIsValidConjunctionRow : OpenClaim := { program := "ytjnekafkdellkaa", sum := "da743c04431c952ea4e7ae23edd615f8217c5dbc5e8e8e45abe3025efbe0ae3c", func := "loop.example/g01922/laws.FnExactIsValidConjunction", spec := "fnExactIsValidConjunction", apart := false }
def FnExactIsValidConjunctionSaid : Prop := fnExactIsValidConjunctionRow.holds Try.pinned (OpenSpec.ofChange fnExactIsValidConjunctionSpec)

/-- ITS FALSE NEIGHBOUR: 'it returns false'. Refute it at one input. -/
def fnExactIsValidConjunctionWrong : ChangeSpec := { name := "fnExactIsValidConjunction", fn := fun _ => fun
  | [d] => { results := [.lit (.bool false)], args := [d] }
  | _ => none }
def FnExactIsValidConjunctionWrongFalsely : Prop := fnExactIsValidConjunctionRow.holds Try.pinned (OpenSpec.ofChange fnExactIsValidConjunctionWrong)

/-- 'laws.FnExactFindQuery': WHATEVER THE INPUT: true; the input reads as it did. -/
def fnExactFindQuerySpec : ChangeSpec := { name := "fnExactFindQuery", fn := fun _ => fun
  | [d1, d2] => { results := [.lit (.bool true)], args := [d1, d2] }
  | _ => none }
def fnExactFindQueryRow : OpenClaim := { program := "ytjnekafkdellkaa", sum := "da743c04431c952ea4e7ae23edd615f8217c5dbc5e8e8e45abe3025efbe0ae3c", func := "loop.example/g01922/laws.FnExactFindQuery", spec := "fnExactFindQuery", unfollowed := true, recurses := true, apart := false }
def FnExactFindQuerySaid : Prop := fnExactFindQueryRow.holds Try.pinned (OpenSpec.ofChange fnExactFindQuerySpec)

/-- ITS FALSE NEIGHBOUR: 'it returns false'. Refute it at one input. -/
def fnExactFindQueryWrong : ChangeSpec := { name := "fnExactFindQuery", fn := fun _ => fun
  | [d1, d2] => { results := [.lit (.bool false)], args := [d1, d2] }
  | _ => none }
def FnExactFindQueryWrongFalsely : Prop := fnExactFindQueryRow.holds Try.pinned (OpenSpec.ofChange fnExactFindQueryWrong)

/-- 'laws.FnExactWalkCost': WHATEVER THE INPUT: true; the input reads as it did. -/
def fnExactWalkCostSpec : ChangeSpec := { name := "fnExactWalkCost", fn := fun _ => fun
  | [d1, d2, d3] => { results := [.lit (.bool true)], args := [d1, d2, d3] }
  | _ => none }
def fnExactWalkCostRow : OpenClaim := { program := "ytjnekafkdellkaa", sum := "da743c04431c952ea4e7ae23edd615f8217c5dbc5e8e8e45abe3025efbe0ae3c", func := "loop.example/g01922/laws.FnExactWalkCost", spec := "fnExactWalkCost", unfollowed := true, recurses := true, apart := false }
def FnExactWalkCostSaid : Prop := fnExactWalkCostRow.holds Try.pinned (OpenSpec.ofChange fnExactWalkCostSpec)

/-- ITS FALSE NEIGHBOUR: 'it returns false'. Refute it at one input. -/
def fnExactWalkCostWrong : ChangeSpec := { name := "fnExactWalkCost", fn := fun _ => fun
  | [d1, d2, d3] => { results := [.lit (.bool false)], args := [d1, d2, d3] }
  | _ => none }
def FnExactWalkCostWrongFalsely : Prop := fnExactWalkCostRow.holds Try.pinned (OpenSpec.ofChange fnExactWalkCostWrong)

/-- 'laws.FnExactIsSimplified': WHATEVER THE INPUT: true; the input reads as it did. -/
def fnExactIsSimplifiedSpec : ChangeSpec := { name := "fnExactIsSimplified", fn := fun _ => fun
  | [d] => { results := [.lit (.bool true)], args := [d] }
  | _ => none }
def fnExactIsSimplifiedRow : OpenClaim := { program := "ytjnekafkdellkaa", sum := "da743c04431c952ea4e7ae23edd615f8217c5dbc5e8e8e45abe3025efbe0ae3c", func := "loop.example/g01922/laws.FnExactIsSimplified", spec := "fnExactIsSimplified", recurses := true, apart := false }
def FnExactIsSimplifiedSaid : Prop := fnExactIsSimplifiedRow.holds Try.pinned (OpenSpec.ofChange fnExactIsSimplifiedSpec)

/-- ITS FALSE NEIGHBOUR: 'it returns false'. Refute it at one input. -/
def fnExactIsSimplifiedWrong : ChangeSpec := { name := "fnExactIsSimplified", fn := fun _ => fun
  | [d] => { results := [.lit (.bool false)], args := [d] }
  | _ => none }
def FnExactIsSimplifiedWrongFalsely : Prop := fnExactIsSimplifiedRow.holds Try.pinned (OpenSpec.ofChange fnExactIsSimplifiedWrong)

/-- 'laws.FnExactEqualRegistries': WHATEVER THE INPUT: true; the input reads as it did. -/
def fnExactEqualRegistriesSpec : ChangeSpec := { name := "fnExactEqualRegistries", fn := fun _ => fun
  | [d1, d2] => { results := [.lit (.bool true)], args := [d1, d2] }
  | _ => none }
def fnExactEqualRegistriesRow : OpenClaim := { program := "ytjnekafkdellkaa", sum := "da743c04431c952ea4e7ae23edd615f8217c5dbc5e8e8e45abe3025efbe0ae3c", func := "loop.example/g01922/laws.FnExactEqualRegistries", spec := "fnExactEqualRegistries", unfollowed := true, recurses := true, apart := false }
def FnExactEqualRegistriesSaid : Prop := fnExactEqualRegistriesRow.holds Try.pinned (OpenSpec.ofChange fnExactEqualRegistriesSpec)

/-- ITS FALSE NEIGHBOUR: 'it returns false'. Refute it at one input. -/
def fnExactEqualRegistriesWrong : ChangeSpec := { name := "fnExactEqualRegistries", fn := fun _ => fun
  | [d1, d2] => { results := [.lit (.bool false)], args := [d1, d2] }
  | _ => none }
def FnExactEqualRegistriesWrongFalsely : Prop := fnExactEqualRegistriesRow.holds Try.pinned (OpenSpec.ofChange fnExactEqualRegistriesWrong)

/- THE SECOND FORM. 'bulk': how many values and letters a reading holds, each counted each time it is reached (what is shared counts as often as it is met; a slice's spare places count too). A statement '..UptoSaid' is the law's where the arguments, and the package variables that the reading takes, are together of bulk at most 1048576: NARROWER than '..Said'. Prove '..Said' where nothing that the law and all that it calls make is longer than what came in: it says more and counts as full. Else prove '..UptoSaid'. A law counts once. -/
mutual
def uptoBulk {H : Type} : DataW H → Nat
  | .lit (.string bytes) => bytes.length + 1
  | .lit _ => 1
  | .nil => 1
  | .ptr d => uptoBulk d + 1
  | .slice elems spare => uptoBulkAll elems + uptoBulkAll spare + 1
  | .agg parts => uptoBulkAll parts + 1
  | .iface _ d => uptoBulk d + 1
  | .map entries => uptoBulkEntries entries + 1
  | .held _ => 1
def uptoBulkAll {H : Type} : List (DataW H) → Nat
  | [] => 0
  | d :: r => uptoBulk d + uptoBulkAll r
def uptoBulkEntries {H : Type} : List (Lit × DataW H) → Nat
  | [] => 0
  | x :: r => uptoBulkEntry x + uptoBulkEntries r
def uptoBulkEntry {H : Type} : Lit × DataW H → Nat
  | (.string bytes, d) => bytes.length + uptoBulk d + 1
  | (_, d) => uptoBulk d + 1
 end
def uptoSmall : (H : Type) → List (DataW H) → Bool := fun _ ds => decide (uptoBulkAll ds ≤ 1048576)
def OpenSpec.upto (s : _root_.Go.ChangeSpec) : _root_.Go.OpenSpec := { _root_.Go.OpenSpec.ofChange s with cond := some uptoSmall }

/-- 'laws.FnExactLineGraph', WHERE WHAT IT READS IS OF BULK AT MOST 1048576: true; the input reads as it did. -/
def fnExactLineGraphUptoRow : OpenClaim := { program := "ytjnekafkdellkaa", sum := "da743c04431c952ea4e7ae23edd615f8217c5dbc5e8e8e45abe3025efbe0ae3c", func := "loop.example/g01922/laws.FnExactLineGraph", spec := "fnExactLineGraph", apart := false, narrowed := true }
def FnExactLineGraphUptoSaid : Prop := fnExactLineGraphUptoRow.holds Try.pinned (OpenSpec.upto fnExactLineGraphSpec)

/-- 'laws.FnExactStarHeight', WHERE WHAT IT READS IS OF BULK AT MOST 1048576: true; the input reads as it did. -/
def fnExactStarHeightUptoRow : OpenClaim := { program := "ytjnekafkdellkaa", sum := "da743c04431c952ea4e7ae23edd615f8217c5dbc5e8e8e45abe3025efbe0ae3c", func := "loop.example/g01922/laws.FnExactStarHeight", spec := "fnExactStarHeight", recurses := true, apart := false, narrowed := true }
def FnExactStarHeightUptoSaid : Prop := fnExactStarHeightUptoRow.holds Try.pinned (OpenSpec.upto fnExactStarHeightSpec)

/-- 'laws.FnExactEqualViews', WHERE WHAT IT READS IS OF BULK AT MOST 1048576: true; the input reads as it did. -/
def fnExactEqualViewsUptoRow : OpenClaim := { program := "ytjnekafkdellkaa", sum := "da743c04431c952ea4e7ae23edd615f8217c5dbc5e8e8e45abe3025efbe0ae3c", func := "loop.example/g01922/laws.FnExactEqualViews", spec := "fnExactEqualViews", unfollowed := true, recurses := true, apart := false, narrowed := true }
def FnExactEqualViewsUptoSaid : Prop := fnExactEqualViewsUptoRow.holds Try.pinned (OpenSpec.upto fnExactEqualViewsSpec)

/-- 'laws.FnExactStepCost', WHERE WHAT IT READS IS OF BULK AT MOST 1048576: true; the input reads as it did. -/
def fnExactStepCostUptoRow : OpenClaim := { program := "ytjnekafkdellkaa", sum := "da743c04431c952ea4e7ae23edd615f8217c5dbc5e8e8e45abe3025efbe0ae3c", func := "loop.example/g01922/laws.FnExactStepCost", spec := "fnExactStepCost", unfollowed := true, recurses := true, apart := false, narrowed := true }
def FnExactStepCostUptoSaid : Prop := fnExactStepCostUptoRow.holds Try.pinned (OpenSpec.upto fnExactStepCostSpec)

/-- 'laws.FnExactShortestWordLength', WHERE WHAT IT READS IS OF BULK AT MOST 1048576: true; the input reads as it did. -/
def fnExactShortestWordLengthUptoRow : OpenClaim := { program := "ytjnekafkdellkaa", sum := "da743c04431c952ea4e7ae23edd615f8217c5dbc5e8e8e45abe3025efbe0ae3c", func := "loop.example/g01922/laws.FnExactShortestWordLength", spec := "fnExactShortestWordLength", recurses := true, apart := false, narrowed := true }
def FnExactShortestWordLengthUptoSaid : Prop := fnExactShortestWordLengthUptoRow.holds Try.pinned (OpenSpec.upto fnExactShortestWordLengthSpec)

/-- 'laws.FnExactIsValidConjunction', WHERE WHAT IT READS IS OF BULK AT MOST 1048576: true; the input reads as it did. -/
def fnExactIsValidConjunctionUptoRow : OpenClaim := { program := "ytjnekafkdellkaa", sum := "da743c04431c952ea4e7ae23edd615f8217c5dbc5e8e8e45abe3025efbe0ae3c", func := "loop.example/g01922/laws.FnExactIsValidConjunction", spec := "fnExactIsValidConjunction", apart := false, narrowed := true }
def FnExactIsValidConjunctionUptoSaid : Prop := fnExactIsValidConjunctionUptoRow.holds Try.pinned (OpenSpec.upto fnExactIsValidConjunctionSpec)

/-- 'laws.FnExactFindQuery', WHERE WHAT IT READS IS OF BULK AT MOST 1048576: true; the input reads as it did. -/
def fnExactFindQueryUptoRow : OpenClaim := { program := "ytjnekafkdellkaa", sum := "da743c04431c952ea4e7ae23edd615f8217c5dbc5e8e8e45abe3025efbe0ae3c", func := "loop.example/g01922/laws.FnExactFindQuery", spec := "fnExactFindQuery", unfollowed := true, recurses := true, apart := false, narrowed := true }
def FnExactFindQueryUptoSaid : Prop := fnExactFindQueryUptoRow.holds Try.pinned (OpenSpec.upto fnExactFindQuerySpec)

/-- 'laws.FnExactWalkCost', WHERE WHAT IT READS IS OF BULK AT MOST 1048576: true; the input reads as it did. -/
def fnExactWalkCostUptoRow : OpenClaim := { program := "ytjnekafkdellkaa", sum := "da743c04431c952ea4e7ae23edd615f8217c5dbc5e8e8e45abe3025efbe0ae3c", func := "loop.example/g01922/laws.FnExactWalkCost", spec := "fnExactWalkCost", unfollowed := true, recurses := true, apart := false, narrowed := true }
def FnExactWalkCostUptoSaid : Prop := fnExactWalkCostUptoRow.holds Try.pinned (OpenSpec.upto fnExactWalkCostSpec)

/-- 'laws.FnExactIsSimplified', WHERE WHAT IT READS IS OF BULK AT MOST 1048576: true; the input reads as it did. -/
def fnExactIsSimplifiedUptoRow : OpenClaim := { program := "ytjnekafkdellkaa", sum := "da743c04431c952ea4e7ae23edd615f8217c5dbc5e8e8e45abe3025efbe0ae3c", func := "loop.example/g01922/laws.FnExactIsSimplified", spec := "fnExactIsSimplified", recurses := true, apart := false, narrowed := true }
def FnExactIsSimplifiedUptoSaid : Prop := fnExactIsSimplifiedUptoRow.holds Try.pinned (OpenSpec.upto fnExactIsSimplifiedSpec)

/-- 'laws.FnExactEqualRegistries', WHERE WHAT IT READS IS OF BULK AT MOST 1048576: true; the input reads as it did. -/
def fnExactEqualRegistriesUptoRow : OpenClaim := { program := "ytjnekafkdellkaa", sum := "da743c04431c952ea4e7ae23edd615f8217c5dbc5e8e8e45abe3025efbe0ae3c", func := "loop.example/g01922/laws.FnExactEqualRegistries", spec := "fnExactEqualRegistries", unfollowed := true, recurses := true, apart := false, narrowed := true }
def FnExactEqualRegistriesUptoSaid : Prop := fnExactEqualRegistriesUptoRow.holds Try.pinned (OpenSpec.upto fnExactEqualRegistriesSpec)

end Rows
end Go.Proofs.Ytjnekafkdellkaa
