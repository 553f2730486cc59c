/-
  No cell of these rows narrows 'for every input' (looked for: loops, veiled, ifaces, maps, wideKeys, modest, calm, conditions, laid).
  DERIVED. THE GIVEN ROWS OF THIS SEAT. 3 by the template 'for every input the law returns true; each argument reads behind the call as it read before'; 0 by the template 'total and deterministic' (their statements: YtbkhopfpejhnlaaGreatTotals.lean).
  GIVEN WITH THE SEED: the statements are not yours to turn. If you find one false, say at which input.
  Laid BY PROGRAM, IN A SANDBOX (cutbox-rows.mjs): the forced cells as the released guide's own fill.sh prints them over the translation f6c2bb277d93b382… (all of the seat's roots in one cut). By AI agents, Wed Nov 11 2026. No macro, syntax, notation, axiom, sorry.
-/
import Derived.Test.YtbkhopfpejhnlaaGreatChecked
import GoSem.Claim
import GoSem.ClaimJoined
import GoSem.ClaimMapViews
import Derived.JoinedTies
import Derived.KernelRfl
namespace Go.Proofs.YtbkhopfpejhnlaaGreat
/- THE CELL 'sum', in the pinned program and in every row, IS THE sha256 OF THE DUMP (.gsa) THAT YtbkhopfpejhnlaaGreatProg.lean LOADS. Nothing in Lean hashes anything: it is a label: what it is worth is what the hold of that sum in a sandbox is worth. -/
noncomputable def Tryz.pinned : Pinned := { name := "ytbkhopfpejhnlaagreat", sum := "f6c2bb277d93b3822150f612d0aca03dfc29895f4372de44be66100661453ac9", checked := Tryz.checked }
namespace Rows
def none {H : Type} : Left H := { results := [], args := [] }

/-- 'laws.FnShrink': WHATEVER THE INPUT: true; the input reads as it did. -/
def fnShrinkSpec : ChangeSpec := { name := "fnShrink", fn := fun _ => fun
  | [d] => { results := [.lit (.bool true)], args := [d] }
  | _ => none }
def fnShrinkRow : OpenClaim := { program := "ytbkhopfpejhnlaagreat", sum := "f6c2bb277d93b3822150f612d0aca03dfc29895f4372de44be66100661453ac9", func := "loop.example/g01922/laws.FnShrink", spec := "fnShrink", unfollowed := true, recurses := true, apart := false }
def FnShrinkSaid : Prop := fnShrinkRow.holds Tryz.pinned (OpenSpec.ofChange fnShrinkSpec)

/-- ITS FALSE NEIGHBOUR: 'it returns false'. Refute it at one input. -/
def fnShrinkWrong : ChangeSpec := { name := "fnShrink", fn := fun _ => fun
  | [d] => { results := [.lit (.bool false)], args := [d] }
  | _ => none }
def FnShrinkWrongFalsely : Prop := fnShrinkRow.holds Tryz.pinned (OpenSpec.ofChange fnShrinkWrong)

/-- 'laws.FnLines': WHATEVER THE INPUT: true; the input reads as it did. -/
def fnLinesSpec : ChangeSpec := { name := "fnLines", fn := fun _ => fun
  | [d] => { results := [.lit (.bool true)], args := [d] }
  | _ => none }
def fnLinesRow : OpenClaim := { program := "ytbkhopfpejhnlaagreat", sum := "f6c2bb277d93b3822150f612d0aca03dfc29895f4372de44be66100661453ac9", func := "loop.example/g01922/laws.FnLines", spec := "fnLines", unfollowed := true, recurses := true, apart := false }
def FnLinesSaid : Prop := fnLinesRow.holds Tryz.pinned (OpenSpec.ofChange fnLinesSpec)

/-- ITS FALSE NEIGHBOUR: 'it returns false'. Refute it at one input. -/
def fnLinesWrong : ChangeSpec := { name := "fnLines", fn := fun _ => fun
  | [d] => { results := [.lit (.bool false)], args := [d] }
  | _ => none }
def FnLinesWrongFalsely : Prop := fnLinesRow.holds Tryz.pinned (OpenSpec.ofChange fnLinesWrong)

/-- 'laws.FnExactRefutingWord': WHATEVER THE INPUT: true; the input reads as it did. -/
def fnExactRefutingWordSpec : ChangeSpec := { name := "fnExactRefutingWord", fn := fun _ => fun
  | [d1, d2, d3] => { results := [.lit (.bool true)], args := [d1, d2, d3] }
  | _ => none }
def fnExactRefutingWordRow : OpenClaim := { program := "ytbkhopfpejhnlaagreat", sum := "f6c2bb277d93b3822150f612d0aca03dfc29895f4372de44be66100661453ac9", func := "loop.example/g01922/laws.FnExactRefutingWord", spec := "fnExactRefutingWord", unfollowed := true, recurses := true, apart := false }
def FnExactRefutingWordSaid : Prop := fnExactRefutingWordRow.holds Tryz.pinned (OpenSpec.ofChange fnExactRefutingWordSpec)

/-- ITS FALSE NEIGHBOUR: 'it returns false'. Refute it at one input. -/
def fnExactRefutingWordWrong : ChangeSpec := { name := "fnExactRefutingWord", fn := fun _ => fun
  | [d1, d2, d3] => { results := [.lit (.bool false)], args := [d1, d2, d3] }
  | _ => none }
def FnExactRefutingWordWrongFalsely : Prop := fnExactRefutingWordRow.holds Tryz.pinned (OpenSpec.ofChange fnExactRefutingWordWrong)

/- THE SECOND FORM. 'bulk': how many values and letters a reading holds, each counted each time it is reached (what is shared counts as often as it is met; a slice's spare places count too). A statement '..UptoSaid' is the law's where the arguments, and the package variables that the reading takes, are together of bulk at most 1048576: NARROWER than '..Said'. Prove '..Said' where nothing that the law and all that it calls make is longer than what came in: it says more and counts as full. Else prove '..UptoSaid'. A law counts once. -/
mutual
def uptoBulk {H : Type} : DataW H → Nat
  | .lit (.string bytes) => bytes.length + 1
  | .lit _ => 1
  | .nil => 1
  | .ptr d => uptoBulk d + 1
  | .slice elems spare => uptoBulkAll elems + uptoBulkAll spare + 1
  | .agg parts => uptoBulkAll parts + 1
  | .iface _ d => uptoBulk d + 1
  | .map entries => uptoBulkEntries entries + 1
  | .held _ => 1
def uptoBulkAll {H : Type} : List (DataW H) → Nat
  | [] => 0
  | d :: r => uptoBulk d + uptoBulkAll r
def uptoBulkEntries {H : Type} : List (Lit × DataW H) → Nat
  | [] => 0
  | x :: r => uptoBulkEntry x + uptoBulkEntries r
def uptoBulkEntry {H : Type} : Lit × DataW H → Nat
  | (.string bytes, d) => bytes.length + uptoBulk d + 1
  | (_, d) => uptoBulk d + 1
 end
def uptoSmall : (H : Type) → List (DataW H) → Bool := fun _ ds => decide (uptoBulkAll ds ≤ 1048576)
def OpenSpec.upto (s : _root_.Go.ChangeSpec) : _root_.Go.OpenSpec := { _root_.Go.OpenSpec.ofChange s with cond := some uptoSmall }

/-- 'laws.FnShrink', WHERE WHAT IT READS IS OF BULK AT MOST 1048576: true; the input reads as it did. -/
def fnShrinkUptoRow : OpenClaim := { program := "ytbkhopfpejhnlaagreat", sum := "f6c2bb277d93b3822150f612d0aca03dfc29895f4372de44be66100661453ac9", func := "loop.example/g01922/laws.FnShrink", spec := "fnShrink", unfollowed := true, recurses := true, apart := false, narrowed := true }
def FnShrinkUptoSaid : Prop := fnShrinkUptoRow.holds Tryz.pinned (OpenSpec.upto fnShrinkSpec)

/-- 'laws.FnLines', WHERE WHAT IT READS IS OF BULK AT MOST 1048576: true; the input reads as it did. -/
def fnLinesUptoRow : OpenClaim := { program := "ytbkhopfpejhnlaagreat", sum := "f6c2bb277d93b3822150f612d0aca03dfc29895f4372de44be66100661453ac9", func := "loop.example/g01922/laws.FnLines", spec := "fnLines", unfollowed := true, recurses := true, apart := false, narrowed := true }
def FnLinesUptoSaid : Prop := fnLinesUptoRow.holds Tryz.pinned (OpenSpec.upto fnLinesSpec)

/-- 'laws.FnExactRefutingWord', WHERE WHAT IT READS IS OF BULK AT MOST 1048576: true; the input reads as it did. -/
def fnExactRefutingWordUptoRow : OpenClaim := { program := "ytbkhopfpejhnlaagreat", sum := "f6c2bb277d93b3822150f612d0aca03dfc29895f4372de44be66100661453ac9", func := "loop.example/g01922/laws.FnExactRefutingWord", spec := "fnExactRefutingWord", unfollowed := true, recurses := true, apart := false, narrowed := true }
def FnExactRefutingWordUptoSaid : Prop := fnExactRefutingWordUptoRow.holds Tryz.pinned (OpenSpec.upto fnExactRefutingWordSpec)

end Rows
end Go.Proofs.YtbkhopfpejhnlaaGreat
