/-
  No cell of these rows narrows 'for every input' (looked for: loops, veiled, ifaces, maps, wideKeys, modest, calm, conditions, laid).
  DERIVED. THE GIVEN ROWS OF THIS SEAT. 2 by the template 'for every input the law returns true; each argument reads behind the call as it read before'; 0 by the template 'total and deterministic' (their statements: YtdhojcaoljhbiaaGreatTotals.lean).
  GIVEN WITH THE SEED: the statements are not yours to turn. If you find one false, say at which input.
  Laid BY PROGRAM, IN A SANDBOX (cutbox-rows.mjs): the forced cells as the released guide's own fill.sh prints them over the translation 5c41cb6f80c69d20… (all of the seat's roots in one cut). By AI agents, Wed Nov 11 2026. No macro, syntax, notation, axiom, sorry.
-/
import Derived.Test.YtdhojcaoljhbiaaGreatChecked
import GoSem.Claim
import GoSem.ClaimJoined
import GoSem.ClaimMapViews
import Derived.JoinedTies
import Derived.KernelRfl
namespace Go.Proofs.YtdhojcaoljhbiaaGreat
/- THE CELL 'sum', in the pinned program and in every row, IS THE sha256 OF THE DUMP (.gsa) THAT YtdhojcaoljhbiaaGreatProg.lean LOADS. Nothing in Lean hashes anything: it is a label: what it is worth is what the hold of that sum in a sandbox is worth. -/
noncomputable def Tryz.pinned : Pinned := { name := "ytdhojcaoljhbiaagreat", sum := "5c41cb6f80c69d20e051bab89cf2d9c49d10cfeea5a75601fe4e1a3c6f4fff06", checked := Tryz.checked }
namespace Rows
def none {H : Type} : Left H := { results := [], args := [] }

/-- 'laws.FnSimplification': WHATEVER THE INPUT: true; the input reads as it did. -/
def fnSimplificationSpec : ChangeSpec := { name := "fnSimplification", fn := fun _ => fun
  | [d] => { results := [.lit (.bool true)], args := [d] }
  | _ => none }
def fnSimplificationRow : OpenClaim := { program := "ytdhojcaoljhbiaagreat", sum := "5c41cb6f80c69d20e051bab89cf2d9c49d10cfeea5a75601fe4e1a3c6f4fff06", func := "loop.example/g01922/laws.FnSimplification", spec := "fnSimplification", recurses := true, plainKeys := false, apart := false }
def FnSimplificationSaid : Prop := fnSimplificationRow.holds Tryz.pinned (OpenSpec.ofChange fnSimplificationSpec)

/-- ITS FALSE NEIGHBOUR: 'it returns false'. Refute it at one input. -/
def fnSimplificationWrong : ChangeSpec := { name := "fnSimplification", fn := fun _ => fun
  | [d] => { results := [.lit (.bool false)], args := [d] }
  | _ => none }
def FnSimplificationWrongFalsely : Prop := fnSimplificationRow.holds Tryz.pinned (OpenSpec.ofChange fnSimplificationWrong)

/-- 'laws.FnConditions': WHATEVER THE INPUT: true; the input reads as it did. -/
def fnConditionsSpec : ChangeSpec := { name := "fnConditions", fn := fun _ => fun
  | [d] => { results := [.lit (.bool true)], args := [d] }
  | _ => none }
def fnConditionsRow : OpenClaim := { program := "ytdhojcaoljhbiaagreat", sum := "5c41cb6f80c69d20e051bab89cf2d9c49d10cfeea5a75601fe4e1a3c6f4fff06", func := "loop.example/g01922/laws.FnConditions", spec := "fnConditions", unfollowed := true, recurses := true, plainKeys := false, apart := false }
def FnConditionsSaid : Prop := fnConditionsRow.holds Tryz.pinned (OpenSpec.ofChange fnConditionsSpec)

/-- ITS FALSE NEIGHBOUR: 'it returns false'. Refute it at one input. -/
def fnConditionsWrong : ChangeSpec := { name := "fnConditions", fn := fun _ => fun
  | [d] => { results := [.lit (.bool false)], args := [d] }
  | _ => none }
def FnConditionsWrongFalsely : Prop := fnConditionsRow.holds Tryz.pinned (OpenSpec.ofChange fnConditionsWrong)

/- THE SECOND FORM. 'bulk': how many values and letters a reading holds, each counted each time it is reached (what is shared counts as often as it is met; a slice's spare places count too). A statement '..UptoSaid' is the law's where the arguments, and the package variables that the reading takes, are together of bulk at most 1048576: NARROWER than '..Said'. Prove '..Said' where nothing that the law and all that it calls make is longer than what came in: it says more and counts as full. Else prove '..UptoSaid'. A law counts once. -/
mutual
def uptoBulk {H : Type} : DataW H → Nat
  | .lit (.string bytes) => bytes.length + 1
  | .lit _ => 1
  | .nil => 1
  | .ptr d => uptoBulk d + 1
  | .slice elems spare => uptoBulkAll elems + uptoBulkAll spare + 1
  | .agg parts => uptoBulkAll parts + 1
  | .iface _ d => uptoBulk d + 1
  | .map entries => uptoBulkEntries entries + 1
  | .held _ => 1
def uptoBulkAll {H : Type} : List (DataW H) → Nat
  | [] => 0
  | d :: r => uptoBulk d + uptoBulkAll r
def uptoBulkEntries {H : Type} : List (Lit × DataW H) → Nat
  | [] => 0
  | x :: r => uptoBulkEntry x + uptoBulkEntries r
def uptoBulkEntry {H : Type} : Lit × DataW H → Nat
  | (.string bytes, d) => bytes.length + uptoBulk d + 1
  | (_, d) => uptoBulk d + 1
 end
def uptoSmall : (H : Type) → List (DataW H) → Bool := fun _ ds => decide (uptoBulkAll ds ≤ 1048576)
def OpenSpec.upto (s : _root_.Go.ChangeSpec) : _root_.Go.OpenSpec := { _root_.Go.OpenSpec.ofChange s with cond := some uptoSmall }

/-- 'laws.FnSimplification', WHERE WHAT IT READS IS OF BULK AT MOST 1048576: true; the input reads as it did. -/
def fnSimplificationUptoRow : OpenClaim := { program := "ytdhojcaoljhbiaagreat", sum := "5c41cb6f80c69d20e051bab89cf2d9c49d10cfeea5a75601fe4e1a3c6f4fff06", func := "loop.example/g01922/laws.FnSimplification", spec := "fnSimplification", recurses := true, plainKeys := false, apart := false, narrowed := true }
def FnSimplificationUptoSaid : Prop := fnSimplificationUptoRow.holds Tryz.pinned (OpenSpec.upto fnSimplificationSpec)

/-- 'laws.FnConditions', WHERE WHAT IT READS IS OF BULK AT MOST 1048576: true; the input reads as it did. -/
def fnConditionsUptoRow : OpenClaim := { program := "ytdhojcaoljhbiaagreat", sum := "5c41cb6f80c69d20e051bab89cf2d9c49d10cfeea5a75601fe4e1a3c6f4fff06", func := "loop.example/g01922/laws.FnConditions", spec := "fnConditions", unfollowed := true, recurses := true, plainKeys := false, apart := false, narrowed := true }
def FnConditionsUptoSaid : Prop := fnConditionsUptoRow.holds Tryz.pinned (OpenSpec.upto fnConditionsSpec)

end Rows
end Go.Proofs.YtdhojcaoljhbiaaGreat
