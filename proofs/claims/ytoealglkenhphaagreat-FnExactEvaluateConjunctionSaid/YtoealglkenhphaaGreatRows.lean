/-
  No cell of these rows narrows 'for every input' (looked for: loops, veiled, ifaces, maps, wideKeys, modest, calm, conditions, laid).
  DERIVED. THE GIVEN ROWS OF THIS SEAT. 4 by the template 'for every input the law returns true; each argument reads behind the call as it read before'; 0 by the template 'total and deterministic' (their statements: YtoealglkenhphaaGreatTotals.lean).
  GIVEN WITH THE SEED: the statements are not yours to turn. If you find one false, say at which input.
  Laid BY PROGRAM, IN A SANDBOX (cutbox-rows.mjs): the forced cells as the released guide's own fill.sh prints them over the translation 213381cccdbdd435… (all of the seat's roots in one cut). By AI agents, Wed Nov 11 2026. No macro, syntax, notation, axiom, sorry.
-/
import Derived.Test.YtoealglkenhphaaGreatChecked
import GoSem.Claim
import GoSem.ClaimJoined
import GoSem.ClaimMapViews
import Derived.JoinedTies
import Derived.KernelRfl
namespace Go.Proofs.YtoealglkenhphaaGreat
/- THE CELL 'sum', in the pinned program and in every row, IS THE sha256 OF THE DUMP (.gsa) THAT YtoealglkenhphaaGreatProg.lean LOADS. Nothing in Lean hashes anything: it is a label: what it is worth is what the hold of that sum in a sandbox is worth. -/
noncomputable def Tryz.pinned : Pinned := { name := "ytoealglkenhphaagreat", sum := "213381cccdbdd435a37f694a284ff430a622d0b4b990a07878495dccbd1b2073", checked := Tryz.checked }
namespace Rows
def none {H : Type} : Left H := { results := [], args := [] }

/-- 'laws.FnExactViewAfterInsert': WHATEVER THE INPUT: true; the input reads as it did. -/
def fnExactViewAfterInsertSpec : ChangeSpec := { name := "fnExactViewAfterInsert", fn := fun _ => fun
  | [d1, d2, d3] => { results := [.lit (.bool true)], args := [d1, d2, d3] }
  | _ => none }
def fnExactViewAfterInsertRow : OpenClaim := { program := "ytoealglkenhphaagreat", sum := "213381cccdbdd435a37f694a284ff430a622d0b4b990a07878495dccbd1b2073", func := "loop.example/g01922/laws.FnExactViewAfterInsert", spec := "fnExactViewAfterInsert", inPlace := ["slices.overlaps[loop.example/g01922/impl.Edge]"], unfollowed := true, recurses := true, apart := false }
def FnExactViewAfterInsertSaid : Prop := fnExactViewAfterInsertRow.holds Tryz.pinned (OpenSpec.ofChange fnExactViewAfterInsertSpec)

/-- ITS FALSE NEIGHBOUR: 'it returns false'. Refute it at one input. -/
def fnExactViewAfterInsertWrong : ChangeSpec := { name := "fnExactViewAfterInsert", fn := fun _ => fun
  | [d1, d2, d3] => { results := [.lit (.bool false)], args := [d1, d2, d3] }
  | _ => none }
def FnExactViewAfterInsertWrongFalsely : Prop := fnExactViewAfterInsertRow.holds Tryz.pinned (OpenSpec.ofChange fnExactViewAfterInsertWrong)

/-- 'laws.FnExactUpdateView': WHATEVER THE INPUT: true; the input reads as it did. -/
def fnExactUpdateViewSpec : ChangeSpec := { name := "fnExactUpdateView", fn := fun _ => fun
  | [d1, d2, d3] => { results := [.lit (.bool true)], args := [d1, d2, d3] }
  | _ => none }
def fnExactUpdateViewRow : OpenClaim := { program := "ytoealglkenhphaagreat", sum := "213381cccdbdd435a37f694a284ff430a622d0b4b990a07878495dccbd1b2073", func := "loop.example/g01922/laws.FnExactUpdateView", spec := "fnExactUpdateView", inPlace := ["slices.overlaps[loop.example/g01922/impl.Edge]"], unfollowed := true, recurses := true, apart := false }
def FnExactUpdateViewSaid : Prop := fnExactUpdateViewRow.holds Tryz.pinned (OpenSpec.ofChange fnExactUpdateViewSpec)

/-- ITS FALSE NEIGHBOUR: 'it returns false'. Refute it at one input. -/
def fnExactUpdateViewWrong : ChangeSpec := { name := "fnExactUpdateView", fn := fun _ => fun
  | [d1, d2, d3] => { results := [.lit (.bool false)], args := [d1, d2, d3] }
  | _ => none }
def FnExactUpdateViewWrongFalsely : Prop := fnExactUpdateViewRow.holds Tryz.pinned (OpenSpec.ofChange fnExactUpdateViewWrong)

/-- 'laws.FnExactRefutingWord': WHATEVER THE INPUT: true; the input reads as it did. -/
def fnExactRefutingWordSpec : ChangeSpec := { name := "fnExactRefutingWord", fn := fun _ => fun
  | [d1, d2, d3] => { results := [.lit (.bool true)], args := [d1, d2, d3] }
  | _ => none }
def fnExactRefutingWordRow : OpenClaim := { program := "ytoealglkenhphaagreat", sum := "213381cccdbdd435a37f694a284ff430a622d0b4b990a07878495dccbd1b2073", func := "loop.example/g01922/laws.FnExactRefutingWord", spec := "fnExactRefutingWord", unfollowed := true, recurses := true, apart := false }
def FnExactRefutingWordSaid : Prop := fnExactRefutingWordRow.holds Tryz.pinned (OpenSpec.ofChange fnExactRefutingWordSpec)

/-- ITS FALSE NEIGHBOUR: 'it returns false'. Refute it at one input. -/
def fnExactRefutingWordWrong : ChangeSpec := { name := "fnExactRefutingWord", fn := fun _ => fun
  | [d1, d2, d3] => { results := [.lit (.bool false)], args := [d1, d2, d3] }
  | _ => none }
def FnExactRefutingWordWrongFalsely : Prop := fnExactRefutingWordRow.holds Tryz.pinned (OpenSpec.ofChange fnExactRefutingWordWrong)

/-- 'laws.FnExactEvaluateConjunction': WHATEVER THE INPUT: true; the input reads as it did. -/
def fnExactEvaluateConjunctionSpec : ChangeSpec := { name := "fnExactEvaluateConjunction", fn := fun _ => fun
  | [d1, d2] => { results := [.lit (.bool true)], args := [d1, d2] }
  | _ => none }
def fnExactEvaluateConjunctionRow : OpenClaim := { program := "ytoealglkenhphaagreat", sum := "213381cccdbdd435a37f694a284ff430a622d0b4b990a07878495dccbd1b2073", func := "loop.example/g01922/laws.FnExactEvaluateConjunction", spec := "fnExactEvaluateConjunction", unfollowed := true, recurses := true, apart := false }
def FnExactEvaluateConjunctionSaid : Prop := fnExactEvaluateConjunctionRow.holds Tryz.pinned (OpenSpec.ofChange fnExactEvaluateConjunctionSpec)

/-- ITS FALSE NEIGHBOUR: 'it returns false'. Refute it at one input. -/
def fnExactEvaluateConjunctionWrong : ChangeSpec := { name := "fnExactEvaluateConjunction", fn := fun _ => fun
  | [d1, d2] => { results := [.lit (.bool false)], args := [d1, d2] }
  | _ => none }
def FnExactEvaluateConjunctionWrongFalsely : Prop := fnExactEvaluateConjunctionRow.holds Tryz.pinned (OpenSpec.ofChange fnExactEvaluateConjunctionWrong)

/- THE SECOND FORM. 'bulk': how many values and letters a reading holds, each counted each time it is reached (what is shared counts as often as it is met; a slice's spare places count too). A statement '..UptoSaid' is the law's where the arguments, and the package variables that the reading takes, are together of bulk at most 1048576: NARROWER than '..Said'. Prove '..Said' where nothing that the law and all that it calls make is longer than what came in: it says more and counts as full. Else prove '..UptoSaid'. A law counts once. -/
mutual
def uptoBulk {H : Type} : DataW H → Nat
  | .lit (.string bytes) => bytes.length + 1
  | .lit _ => 1
  | .nil => 1
  | .ptr d => uptoBulk d + 1
  | .slice elems spare => uptoBulkAll elems + uptoBulkAll spare + 1
  | .agg parts => uptoBulkAll parts + 1
  | .iface _ d => uptoBulk d + 1
  | .map entries => uptoBulkEntries entries + 1
  | .held _ => 1
def uptoBulkAll {H : Type} : List (DataW H) → Nat
  | [] => 0
  | d :: r => uptoBulk d + uptoBulkAll r
def uptoBulkEntries {H : Type} : List (Lit × DataW H) → Nat
  | [] => 0
  | x :: r => uptoBulkEntry x + uptoBulkEntries r
def uptoBulkEntry {H : Type} : Lit × DataW H → Nat
  | (.string bytes, d) => bytes.length + uptoBulk d + 1
  | (_, d) => uptoBulk d + 1
 end
def uptoSmall : (H : Type) → List (DataW H) → Bool := fun _ ds => decide (uptoBulkAll ds ≤ 1048576)
def OpenSpec.upto (s : _root_.Go.ChangeSpec) : _root_.Go.OpenSpec := { _root_.Go.OpenSpec.ofChange s with cond := some uptoSmall }

/-- 'laws.FnExactViewAfterInsert', WHERE WHAT IT READS IS OF BULK AT MOST 1048576: true; the input reads as it did. -/
def fnExactViewAfterInsertUptoRow : OpenClaim := { program := "ytoealglkenhphaagreat", sum := "213381cccdbdd435a37f694a284ff430a622d0b4b990a07878495dccbd1b2073", func := "loop.example/g01922/laws.FnExactViewAfterInsert", spec := "fnExactViewAfterInsert", inPlace := ["slices.overlaps[loop.example/g01922/impl.Edge]"], unfollowed := true, recurses := true, apart := false, narrowed := true }
def FnExactViewAfterInsertUptoSaid : Prop := fnExactViewAfterInsertUptoRow.holds Tryz.pinned (OpenSpec.upto fnExactViewAfterInsertSpec)

/-- 'laws.FnExactUpdateView', WHERE WHAT IT READS IS OF BULK AT MOST 1048576: true; the input reads as it did. -/
def fnExactUpdateViewUptoRow : OpenClaim := { program := "ytoealglkenhphaagreat", sum := "213381cccdbdd435a37f694a284ff430a622d0b4b990a07878495dccbd1b2073", func := "loop.example/g01922/laws.FnExactUpdateView", spec := "fnExactUpdateView", inPlace := ["slices.overlaps[loop.example/g01922/impl.Edge]"], unfollowed := true, recurses := true, apart := false, narrowed := true }
def FnExactUpdateViewUptoSaid : Prop := fnExactUpdateViewUptoRow.holds Tryz.pinned (OpenSpec.upto fnExactUpdateViewSpec)

/-- 'laws.FnExactRefutingWord', WHERE WHAT IT READS IS OF BULK AT MOST 1048576: true; the input reads as it did. -/
def fnExactRefutingWordUptoRow : OpenClaim := { program := "ytoealglkenhphaagreat", sum := "213381cccdbdd435a37f694a284ff430a622d0b4b990a07878495dccbd1b2073", func := "loop.example/g01922/laws.FnExactRefutingWord", spec := "fnExactRefutingWord", unfollowed := true, recurses := true, apart := false, narrowed := true }
def FnExactRefutingWordUptoSaid : Prop := fnExactRefutingWordUptoRow.holds Tryz.pinned (OpenSpec.upto fnExactRefutingWordSpec)

/-- 'laws.FnExactEvaluateConjunction', WHERE WHAT IT READS IS OF BULK AT MOST 1048576: true; the input reads as it did. -/
def fnExactEvaluateConjunctionUptoRow : OpenClaim := { program := "ytoealglkenhphaagreat", sum := "213381cccdbdd435a37f694a284ff430a622d0b4b990a07878495dccbd1b2073", func := "loop.example/g01922/laws.FnExactEvaluateConjunction", spec := "fnExactEvaluateConjunction", unfollowed := true, recurses := true, apart := false, narrowed := true }
def FnExactEvaluateConjunctionUptoSaid : Prop := fnExactEvaluateConjunctionUptoRow.holds Tryz.pinned (OpenSpec.upto fnExactEvaluateConjunctionSpec)

end Rows
end Go.Proofs.YtoealglkenhphaaGreat
