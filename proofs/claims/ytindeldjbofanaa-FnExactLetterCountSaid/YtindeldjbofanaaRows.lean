/-
  No cell of these rows narrows 'for every input' (looked for: loops, veiled, ifaces, maps, wideKeys, modest, calm, conditions, laid).
  DERIVED. THE GIVEN ROWS OF THIS SEAT. 6 by the template 'for every input the law returns true; each argument reads behind the call as it read before'; 0 by the template 'total and deterministic' (their statements: YtindeldjbofanaaTotals.lean).
  GIVEN WITH THE SEED: the statements are not yours to turn. If you find one false, say at which input.
  Laid BY PROGRAM, IN A SANDBOX (cutbox-rows.mjs): the forced cells as the released guide's own fill.sh prints them over the translation 8821d52808f2ae3a… (all of the seat's roots in one cut). By AI agents, Wed Nov 11 2026. No macro, syntax, notation, axiom, sorry.
-/
import Derived.Test.YtindeldjbofanaaChecked
import GoSem.Claim
import GoSem.ClaimJoined
import GoSem.ClaimMapViews
import Derived.JoinedTies
import Derived.KernelRfl
namespace Go.Proofs.Ytindeldjbofanaa
/- THE CELL 'sum', in the pinned program and in every row, IS THE sha256 OF THE DUMP (.gsa) THAT YtindeldjbofanaaProg.lean LOADS. Nothing in Lean hashes anything: it is a label: what it is worth is what the hold of that sum in a sandbox is worth. -/
noncomputable def Try.pinned : Pinned := { name := "ytindeldjbofanaa", sum := "8821d52808f2ae3a7a6b5cbe6f14030c8c89dba81febb833364be4e09ee1d46c", checked := Try.checked }
namespace Rows
def none {H : Type} : Left H := { results := [], args := [] }

/-- 'laws.FnExactChecksum': WHATEVER THE INPUT: true; the input reads as it did. -/
def fnExactChecksumSpec : ChangeSpec := { name := "fnExactChecksum", fn := fun _ => fun
  | [d] => { results := [.lit (.bool true)], args := [d] }
  | _ => none }
def fnExactChecksumRow : OpenClaim := { program := "ytindeldjbofanaa", sum := "8821d52808f2ae3a7a6b5cbe6f14030c8c89dba81febb833364be4e09ee1d46c", func := "loop.example/g01922/laws.FnExactChecksum", spec := "fnExactChecksum", apart := false }
def FnExactChecksumSaid : Prop := fnExactChecksumRow.holds Try.pinned (OpenSpec.ofChange fnExactChecksumSpec)

/-- ITS FALSE NEIGHBOUR: 'it returns false'. Refute it at one input. -/
def fnExactChecksumWrong : ChangeSpec := { name := "fnExactChecksum", fn := fun _ => fun
  | [d] => { results := [.lit (.bool false)], args := [d] }
  | _ => none }
def FnExactChecksumWrongFalsely : Prop := fnExactChecksumRow.holds Try.pinned (OpenSpec.ofChange fnExactChecksumWrong)

/-- 'laws.FnExactAreCosts': WHATEVER THE INPUT: true; the input reads as it did. -/
def fnExactAreCostsSpec : ChangeSpec := { name := "fnExactAreCosts", fn := fun _ => fun
  | [d] => { results := [.lit (.bool true)], args := [d] }
  | _ => none }
def fnExactAreCostsRow : OpenClaim := { program := "ytindeldjbofanaa", sum := "8821d52808f2ae3a7a6b5cbe6f14030c8c89dba81febb833364be4e09ee1d46c", func := "loop.example/g01922/laws.FnExactAreCosts", spec := "fnExactAreCosts", apart := false }
def FnExactAreCostsSaid : Prop := fnExactAreCostsRow.holds Try.pinned (OpenSpec.ofChange fnExactAreCostsSpec)

/-- ITS FALSE NEIGHBOUR: 'it returns false'. Refute it at one input. -/
def fnExactAreCostsWrong : ChangeSpec := { name := "fnExactAreCosts", fn := fun _ => fun
  | [d] => { results := [.lit (.bool false)], args := [d] }
  | _ => none }
def FnExactAreCostsWrongFalsely : Prop := fnExactAreCostsRow.holds Try.pinned (OpenSpec.ofChange fnExactAreCostsWrong)

/-- 'laws.FnExactEqualDeltas': WHATEVER THE INPUT: true; the input reads as it did. -/
def fnExactEqualDeltasSpec : ChangeSpec := { name := "fnExactEqualDeltas", fn := fun _ => fun
  | [d1, d2] => { results := [.lit (.bool true)], args := [d1, d2] }
  | _ => none }
def fnExactEqualDeltasRow : OpenClaim := { program := "ytindeldjbofanaa", sum := "8821d52808f2ae3a7a6b5cbe6f14030c8c89dba81febb833364be4e09ee1d46c", func := "loop.example/g01922/laws.FnExactEqualDeltas", spec := "fnExactEqualDeltas", apart := false }
def FnExactEqualDeltasSaid : Prop := fnExactEqualDeltasRow.holds Try.pinned (OpenSpec.ofChange fnExactEqualDeltasSpec)

/-- ITS FALSE NEIGHBOUR: 'it returns false'. Refute it at one input. -/
def fnExactEqualDeltasWrong : ChangeSpec := { name := "fnExactEqualDeltas", fn := fun _ => fun
  | [d1, d2] => { results := [.lit (.bool false)], args := [d1, d2] }
  | _ => none }
def FnExactEqualDeltasWrongFalsely : Prop := fnExactEqualDeltasRow.holds Try.pinned (OpenSpec.ofChange fnExactEqualDeltasWrong)

/-- 'laws.FnExactInvertDelta': WHATEVER THE INPUT: true; the input reads as it did. -/
def fnExactInvertDeltaSpec : ChangeSpec := { name := "fnExactInvertDelta", fn := fun _ => fun
  | [d] => { results := [.lit (.bool true)], args := [d] }
  | _ => none }
def fnExactInvertDeltaRow : OpenClaim := { program := "ytindeldjbofanaa", sum := "8821d52808f2ae3a7a6b5cbe6f14030c8c89dba81febb833364be4e09ee1d46c", func := "loop.example/g01922/laws.FnExactInvertDelta", spec := "fnExactInvertDelta", apart := false }
def FnExactInvertDeltaSaid : Prop := fnExactInvertDeltaRow.holds Try.pinned (OpenSpec.ofChange fnExactInvertDeltaSpec)

/-- ITS FALSE NEIGHBOUR: 'it returns false'. Refute it at one input. -/
def fnExactInvertDeltaWrong : ChangeSpec := { name := "fnExactInvertDelta", fn := fun _ => fun
  | [d] => { results := [.lit (.bool false)], args := [d] }
  | _ => none }
def FnExactInvertDeltaWrongFalsely : Prop := fnExactInvertDeltaRow.holds Try.pinned (OpenSpec.ofChange fnExactInvertDeltaWrong)

/-- 'laws.FnExactIsDelta': WHATEVER THE INPUT: true; the input reads as it did. -/
def fnExactIsDeltaSpec : ChangeSpec := { name := "fnExactIsDelta", fn := fun _ => fun
  | [d] => { results := [.lit (.bool true)], args := [d] }
  | _ => none }
def fnExactIsDeltaRow : OpenClaim := { program := "ytindeldjbofanaa", sum := "8821d52808f2ae3a7a6b5cbe6f14030c8c89dba81febb833364be4e09ee1d46c", func := "loop.example/g01922/laws.FnExactIsDelta", spec := "fnExactIsDelta", unfollowed := true, recurses := true, apart := false }
def FnExactIsDeltaSaid : Prop := fnExactIsDeltaRow.holds Try.pinned (OpenSpec.ofChange fnExactIsDeltaSpec)

/-- ITS FALSE NEIGHBOUR: 'it returns false'. Refute it at one input. -/
def fnExactIsDeltaWrong : ChangeSpec := { name := "fnExactIsDelta", fn := fun _ => fun
  | [d] => { results := [.lit (.bool false)], args := [d] }
  | _ => none }
def FnExactIsDeltaWrongFalsely : Prop := fnExactIsDeltaRow.holds Try.pinned (OpenSpec.ofChange fnExactIsDeltaWrong)

/-- 'laws.FnExactLetterCount': WHATEVER THE INPUT: true; the input reads as it did. -/
def fnExactLetterCountSpec : ChangeSpec := { name := "fnExactLetterCount", fn := fun _ => fun
  | [d] => { results := [.lit (.bool true)], args := [d] }
  | _ => none }
def fnExactLetterCountRow : OpenClaim := { program := "ytindeldjbofanaa", sum := "8821d52808f2ae3a7a6b5cbe6f14030c8c89dba81febb833364be4e09ee1d46c", func := "loop.example/g01922/laws.FnExactLetterCount", spec := "fnExactLetterCount", apart := false }
def FnExactLetterCountSaid : Prop := fnExactLetterCountRow.holds Try.pinned (OpenSpec.ofChange fnExactLetterCountSpec)

/-- ITS FALSE NEIGHBOUR: 'it returns false'. Refute it at one input. -/
def fnExactLetterCountWrong : ChangeSpec := { name := "fnExactLetterCount", fn := fun _ => fun
  | [d] => { results := [.lit (.bool false)], args := [d] }
  | _ => none }
def FnExactLetterCountWrongFalsely : Prop := fnExactLetterCountRow.holds Try.pinned (OpenSpec.ofChange fnExactLetterCountWrong)

/- THE SECOND FORM. 'bulk': how many values and letters a reading holds, each counted each time it is reached (what is shared counts as often as it is met; a slice's spare places count too). A statement '..UptoSaid' is the law's where the arguments, and the package variables that the reading takes, are together of bulk at most 1048576: NARROWER than '..Said'. Prove '..Said' where nothing that the law and all that it calls make is longer than what came in: it says more and counts as full. Else prove '..UptoSaid'. A law counts once. -/
mutual
def uptoBulk {H : Type} : DataW H → Nat
  | .lit (.string bytes) => bytes.length + 1
  | .lit _ => 1
  | .nil => 1
  | .ptr d => uptoBulk d + 1
  | .slice elems spare => uptoBulkAll elems + uptoBulkAll spare + 1
  | .agg parts => uptoBulkAll parts + 1
  | .iface _ d => uptoBulk d + 1
  | .map entries => uptoBulkEntries entries + 1
  | .held _ => 1
def uptoBulkAll {H : Type} : List (DataW H) → Nat
  | [] => 0
  | d :: r => uptoBulk d + uptoBulkAll r
def uptoBulkEntries {H : Type} : List (Lit × DataW H) → Nat
  | [] => 0
  | x :: r => uptoBulkEntry x + uptoBulkEntries r
def uptoBulkEntry {H : Type} : Lit × DataW H → Nat
  | (.string bytes, d) => bytes.length + uptoBulk d + 1
  | (_, d) => uptoBulk d + 1
 end
def uptoSmall : (H : Type) → List (DataW H) → Bool := fun _ ds => decide (uptoBulkAll ds ≤ 1048576)
def OpenSpec.upto (s : _root_.Go.ChangeSpec) : _root_.Go.OpenSpec := { _root_.Go.OpenSpec.ofChange s with cond := some uptoSmall }

/-- 'laws.FnExactChecksum', WHERE WHAT IT READS IS OF BULK AT MOST 1048576: true; the input reads as it did. -/
def fnExactChecksumUptoRow : OpenClaim := { program := "ytindeldjbofanaa", sum := "8821d52808f2ae3a7a6b5cbe6f14030c8c89dba81febb833364be4e09ee1d46c", func := "loop.example/g01922/laws.FnExactChecksum", spec := "fnExactChecksum", apart := false, narrowed := true }
def FnExactChecksumUptoSaid : Prop := fnExactChecksumUptoRow.holds Try.pinned (OpenSpec.upto fnExactChecksumSpec)

/-- 'laws.FnExactAreCosts', WHERE WHAT IT READS IS OF BULK AT MOST 1048576: true; the input reads as it did. -/
def fnExactAreCostsUptoRow : OpenClaim := { program := "ytindeldjbofanaa", sum := "8821d52808f2ae3a7a6b5cbe6f14030c8c89dba81febb833364be4e09ee1d46c", func := "loop.example/g01922/laws.FnExactAreCosts", spec := "fnExactAreCosts", apart := false, narrowed := true }
def FnExactAreCostsUptoSaid : Prop := fnExactAreCostsUptoRow.holds Try.pinned (OpenSpec.upto fnExactAreCostsSpec)

/-- 'laws.FnExactEqualDeltas', WHERE WHAT IT READS IS OF BULK AT MOST 1048576: true; the input reads as it did. -/
def fnExactEqualDeltasUptoRow : OpenClaim := { program := "ytindeldjbofanaa", sum := "8821d52808f2ae3a7a6b5cbe6f14030c8c89dba81febb833364be4e09ee1d46c", func := "loop.example/g01922/laws.FnExactEqualDeltas", spec := "fnExactEqualDeltas", apart := false, narrowed := true }
def FnExactEqualDeltasUptoSaid : Prop := fnExactEqualDeltasUptoRow.holds Try.pinned (OpenSpec.upto fnExactEqualDeltasSpec)

/-- 'laws.FnExactInvertDelta', WHERE WHAT IT READS IS OF BULK AT MOST 1048576: true; the input reads as it did. -/
def fnExactInvertDeltaUptoRow : OpenClaim := { program := "ytindeldjbofanaa", sum := "8821d52808f2ae3a7a6b5cbe6f14030c8c89dba81febb833364be4e09ee1d46c", func := "loop.example/g01922/laws.FnExactInvertDelta", spec := "fnExactInvertDelta", apart := false, narrowed := true }
def FnExactInvertDeltaUptoSaid : Prop := fnExactInvertDeltaUptoRow.holds Try.pinned (OpenSpec.upto fnExactInvertDeltaSpec)

/-- 'laws.FnExactIsDelta', WHERE WHAT IT READS IS OF BULK AT MOST 1048576: true; the input reads as it did. -/
def fnExactIsDeltaUptoRow : OpenClaim := { program := "ytindeldjbofanaa", sum := "8821d52808f2ae3a7a6b5cbe6f14030c8c89dba81febb833364be4e09ee1d46c", func := "loop.example/g01922/laws.FnExactIsDelta", spec := "fnExactIsDelta", unfollowed := true, recurses := true, apart := false, narrowed := true }
def FnExactIsDeltaUptoSaid : Prop := fnExactIsDeltaUptoRow.holds Try.pinned (OpenSpec.upto fnExactIsDeltaSpec)

/-- 'laws.FnExactLetterCount', WHERE WHAT IT READS IS OF BULK AT MOST 1048576: true; the input reads as it did. -/
def fnExactLetterCountUptoRow : OpenClaim := { program := "ytindeldjbofanaa", sum := "8821d52808f2ae3a7a6b5cbe6f14030c8c89dba81febb833364be4e09ee1d46c", func := "loop.example/g01922/laws.FnExactLetterCount", spec := "fnExactLetterCount", apart := false, narrowed := true }
def FnExactLetterCountUptoSaid : Prop := fnExactLetterCountUptoRow.holds Try.pinned (OpenSpec.upto fnExactLetterCountSpec)

end Rows
end Go.Proofs.Ytindeldjbofanaa
