import Derived.Test.YtbkhopfpejhnlaaGreatDoorB133da
import Derived.Test.YtbkhopfpejhnlaaGreatDoorB110da
import Derived.Test.YtbkhopfpejhnlaaGreatDoorB88da
set_option linter.unusedVariables false
set_option linter.unusedSimpArgs false
set_option maxHeartbeats 1000000
set_option maxRecDepth 100000
namespace Go.Q
open Go.RowKit Go.D
theorem applyD_small {l : List TPair} {d : TDelta} (hl : l.length ≤ 7) (hd : smallD d) : (applyD l d).1.length ≤ 1048576 := by
 unfold applyD
 split
 · have h1 := pmerge_len (psub l d.Removed) d.Added
   have h2 := psub_len l d.Removed
   have := hd.1
   simp only; omega
 · simp only; omega
theorem composeD_small {a b : TDelta} (ha : smallD a) (hb : smallD b) : (composeD a b).1.Added.length ≤ 1048576 ∧ (composeD a b).1.Removed.length ≤ 1048576 := by
 unfold composeD
 split
 · have h1 := pmerge_len (psub a.Added b.Removed) (psub b.Added a.Removed)
   have h2 := pmerge_len (psub a.Removed b.Added) (psub b.Removed a.Added)
   have h3 := psub_len a.Added b.Removed
   have h4 := psub_len b.Added a.Removed
   have h5 := psub_len a.Removed b.Added
   have h6 := psub_len b.Removed a.Added
   have := ha.1; have := ha.2; have := hb.1; have := hb.2
   simp only; omega
 · simp
theorem fmtDelta_small {d : TDelta} (hd : smallD d) : (fmtDelta d).length ≤ 1048576 := by
 unfold fmtDelta
 split
 · have h1 := fmtPairs_len d.Added
   have h2 := fmtPairs_len d.Removed
   have := hd.1; have := hd.2
   simp; omega
 · simp
theorem back_end (d : TDelta) : ((parseD (fmtDelta d)).2 == isDelta d && (!(parseD (fmtDelta d)).2 || decide ((parseD (fmtDelta d)).1 = d))) = true := by
 obtain ⟨h1, h2⟩ := @parseD_back d
 rw [h1]
 cases hi : isDelta d with
 | false => rfl
 | true => rw [h2 hi]; simp
end Go.Q
namespace Go.Proofs.YtbkhopfpejhnlaaGreatDoor
open Go.RowKit Go.Q Go.D
theorem parseD_fmt (d : TDelta) (hd : smallD d) : FnT Tryz.prog 21 [.one (.v (.string (bs (fmtDelta d))))] (.tup [.agg (cDelta (parseD (fmtDelta d)).1), .one (.v (.bool (parseD (fmtDelta d)).2))]) := by
 have h := implParseDelta (bs (fmtDelta d)) (by rw [bs_size]; exact fmtDelta_small hd)
 rw [bs_list] at h
 exact h
end Go.Proofs.YtbkhopfpejhnlaaGreatDoor
