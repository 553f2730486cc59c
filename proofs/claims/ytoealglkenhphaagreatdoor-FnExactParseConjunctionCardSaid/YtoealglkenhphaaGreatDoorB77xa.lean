/- Numbers, pairs, deltas written out: both texts. -/
import Derived.Test.YtoealglkenhphaaGreatDoorB74xa
import Derived.Test.YtoealglkenhphaaGreatDoorB84xa
set_option linter.unusedVariables false
set_option linter.unusedSimpArgs false
set_option maxHeartbeats 1000000
set_option maxRecDepth 100000
namespace Go.Proofs.YtoealglkenhphaaGreatDoor
open Go.RowKit Go.Q Go.D
theorem implFormatInt (n : Int) (h0 : 0 ≤ n) (h1 : n < 100) : FnT Tryz.prog 33 [.one (.v (.int .i64 n))] (.a (.one (.v (.string (bs (numS n)))))) := by
  refine FnT.walk Tryz.func33 rfl (by kernel_rfl) Tryz.ntmps33 rfl fun hlen w0 => ?_
  try simp [cPair, cToken, cExpr, cEdge, cGraph, cStep, cWalk, cChange, cBatch, cHistory, cPositions, cAutomaton, cProductStep, cPathAtom, cConjunction, cView, cDelta, cRegistered, cRegistry] at hlen
  refine AW.seq ?_
  refine AW.region ?_
  refine AWl.put (R_assign rfl (.no rfl) rfl (.const rfl)) rfl ?_
  refine AWl.nil ?_
  refine AW.seq ?_
  refine AW.region ?_
  refine AWl.put (R_move rfl (.no rfl) rfl (.tmp rfl fun _ => rfl)) rfl ?_
  refine AWl.put (R_callz (FnT.fr (strconvItoa n h0 h1)) rfl (.no rfl) rfl (.cons (.tmp rfl fun _ => rfl) rfl .nil)) rfl ?_
  refine AWl.put (R_assign rfl (.no rfl) rfl (.tmp rfl fun _ => rfl)) rfl ?_
  refine AWl.nil ?_
  refine AW.ret ?_
  refine Res.v rfl rfl ?_
  rfl
theorem specFormatInt (n : Int) (h0 : 0 ≤ n) (h1 : n < 100) : FnT Tryz.prog 23 [.one (.v (.int .i64 n))] (.a (.one (.v (.string (bs (numS n)))))) := by
  obtain ⟨n0, rfl⟩ := Int.eq_ofNat_of_zero_le h0
  refine FnT.walk Tryz.func23 rfl (by kernel_rfl) Tryz.ntmps23 rfl fun hlen w0 => ?_
  try simp [cPair, cToken, cExpr, cEdge, cGraph, cStep, cWalk, cChange, cBatch, cHistory, cPositions, cAutomaton, cProductStep, cPathAtom, cConjunction, cView, cDelta, cRegistered, cRegistry] at hlen
  have hn0 : n0 < 100 := by omega
  refine AW.seq ?_
  refine AW.region ?_
  refine AWl.put (R_assign rfl (.no rfl) rfl (.const rfl)) rfl ?_
  refine AWl.nil ?_
  refine AW.seq ?_
  refine AW.seq ?_
  refine AW.region ?_
  refine AWl.put (R_move rfl (.no rfl) rfl (.tmp rfl fun _ => rfl)) rfl ?_
  refine AWl.put (R_eq rfl (.no rfl) rfl (.tmp rfl fun _ => rfl) (.const rfl)) rfl ?_
  refine AWl.nil ?_
  refine AW.cond (.tmp rfl fun _ => rfl) (fun h7 => ?_) (fun h7 => ?_)
  · skip
    try simp at h7
    refine AW.seq ?_
    refine AW.region ?_
    refine AWl.put (R_assign rfl (.no rfl) rfl (.const rfl)) rfl ?_
    refine AWl.nil ?_
    refine AW.ret ?_
    refine Res.v rfl rfl ?_
    (have e : n0 = 0 := (by first | omega | (simp at h7; omega)); subst e; unfold numS; rw [dig_small (by simp)]; rfl)
  · skip
    try simp at h7
    refine AW.skip ?_
    refine AW.seq ?_
    refine AW.region ?_
    refine AWl.put (R_assign rfl (.no rfl) rfl (.const rfl)) rfl ?_
    refine AWl.nil ?_
    refine AW.seq ?_
    refine AW.region ?_
    refine AWl.put (R_move rfl (.no rfl) rfl (.tmp rfl fun _ => rfl)) rfl ?_
    refine AWl.put (R_lt rfl (.no rfl) rfl (.tmp rfl fun _ => rfl) (.const rfl)) rfl ?_
    refine AWl.put (R_assign rfl (.no rfl) rfl (.tmp rfl fun _ => rfl)) rfl ?_
    refine AWl.nil ?_
    refine AW.seq ?_
    refine AW.block ?_
    refine AW.loop2 (fun (m : Nat) (O : ByteArray) => (m < 100 ∧ O.size + 2 * m ≤ 1000) ∧ bs (restD n0) = bs (restD m) ++ O) (fun (m : Nat) (O : ByteArray) => ⟨_, [(0, (true, .a (.one (.t (.v (.int .i64 (m : Nat))))))), (3, (true, .a (.one (.t (.v (.string O)))))), (2, _), (4, _)], []⟩) (fun (m : Nat) (O : ByteArray) => m) (n0) (⟨#[]⟩) ⟨⟨by omega, by simp [ByteArray.size]; omega⟩, (by rw [show (⟨#[]⟩ : ByteArray) = bs [] from rfl, bs_append, List.append_nil])⟩ (Le.sub0 rfl ⟨rfl, rfl, rfl, rfl, trivial⟩ trivial) ?_
    rintro m O ⟨hk, he⟩
    refine AW.seq ?_
    refine AW.seq ?_
    refine AW.region ?_
    refine AWl.put (R_move rfl (.no rfl) rfl (.tmp rfl fun _ => rfl)) rfl ?_
    refine AWl.put (R_ne rfl (.no rfl) rfl (.tmp rfl fun _ => rfl) (.const rfl)) rfl ?_
    refine AWl.nil ?_
    refine AW.cond (.tmp rfl fun _ => rfl) (fun h11 => ?_) (fun h11 => ?_)
    · skip
      try simp at h11
      have hm0 : m ≠ 0 := by (first | omega | (simp at h11; omega))
      refine AW.skip ?_
      refine AW.block ?_
      refine AW.seq ?_
      refine AW.region ?_
      refine AWl.put (R_move rfl (.no rfl) rfl (.tmp rfl fun _ => rfl)) rfl ?_
      refine AWl.put (R_rem rfl (.no rfl) rfl (.tmp rfl fun _ => rfl) (.const rfl) (fun _ => by omega)) rfl ?_
      refine AWl.put (R_assign rfl (.no rfl) rfl (.tmp rfl fun _ => rfl)) rfl ?_
      refine AWl.nil ?_
      refine AW.seq ?_
      refine AW.seq ?_
      refine AW.region ?_
      refine AWl.put (R_move rfl (.no rfl) rfl (.tmp rfl fun _ => rfl)) rfl ?_
      refine AWl.put (R_lt rfl (.no rfl) rfl (.tmp rfl fun _ => rfl) (.const rfl)) rfl ?_
      refine AWl.nil ?_
      refine AW.cond (.tmp rfl fun _ => rfl) (fun h15 => ?_) (fun h15 => ?_)
      · exact absurd h15 (by (first | omega | (simp at h15; omega)))
      · skip
        try simp at h15
        refine AW.skip ?_
        refine AW.seq ?_
        refine AW.le (σ' := ⟨_, [(0, _), (2, _), (3, _), (4, _), (5, _)], []⟩) (Le.sub0 rfl ⟨rfl, rfl, rfl, rfl, rfl, trivial⟩ trivial) ?_
        refine AW.region ?_
        refine AWl.put (R_move rfl (.no rfl) rfl (.tmp rfl fun _ => rfl)) rfl ?_
        refine AWl.put (R_add rfl (.no rfl) rfl (.const rfl) (.tmp rfl fun _ => rfl) (fun _ => by omega)) rfl ?_
        refine AWl.put (R_conv rfl (.no rfl) rfl (.tmp rfl fun _ => rfl) (by rw [Tryz.underlying3]; rfl) Tryz.underlying5 (fun _ => (show IntKind.u8.wrap _ = (48 + (m : Int) % 10) by simp [IntKind.wrap, IntKind.bits]; omega))) rfl ?_
        refine AWl.put (R_listz (xs := [.tmp 20]) (rows := [[.v (.int .u8 (48 + (m : Int) % 10))]]) rfl rfl rfl (.cons (.tmp rfl fun _ => rfl) rfl rfl .nil) Tryz.underlying64 in5 rfl rfl (rfl)) rfl ?_
        refine AWl.put (R_byteStr rfl (.no rfl) rfl (.tmp rfl fun _ => rfl) Tryz.underlying64 Tryz.underlying5 Tryz.underlying9) rfl ?_
        refine AWl.put (R_move rfl (.no rfl) rfl (.tmp rfl fun _ => rfl)) rfl ?_
        refine AWl.put (R_cat rfl (.no rfl) rfl (.tmp rfl fun _ => rfl) (.tmp rfl fun _ => rfl) (fun _ => by have : (⟨#[UInt8.ofNat ((48 + (m : Int) % 10)).toNat]⟩ : ByteArray).size = 1 := rfl; omega)) rfl ?_
        refine AWl.put (R_assign rfl (.no rfl) rfl (.tmp rfl fun _ => rfl)) rfl ?_
        refine AWl.nil ?_
        refine AW.le (σ' := ⟨_, [(0, _), (2, _), (3, _), (4, _), (5, _)], []⟩) (Le.sub0 rfl ⟨rfl, rfl, rfl, rfl, rfl, trivial⟩ trivial) ?_
        refine AW.region ?_
        refine AWl.put (R_move rfl (.no rfl) rfl (.tmp rfl fun _ => rfl)) rfl ?_
        refine AWl.put (R_quo rfl (.no rfl) rfl (.tmp rfl fun _ => rfl) (.const rfl) (fun _ => by omega)) rfl ?_
        refine AWl.put (R_assign rfl (.no rfl) rfl (.tmp rfl fun _ => rfl)) rfl ?_
        refine AWl.nil ?_
        repeat (with_reducible refine BlockQ.nor ?_)
        refine Round2.next (m / 10) (((ByteArray.mk #[UInt8.ofNat ((48 + (m : Int) % 10)).toNat]) ++ O)) ⟨⟨by omega, (by rw [ByteArray.size_append]; have : (⟨#[UInt8.ofNat ((48 + (m : Int) % 10)).toNat]⟩ : ByteArray).size = 1 := rfl; omega)⟩, (by rw [he, restD_step (by omega), ← bs_append, show (48 + (m : Int) % 10).toNat = 48 + m % 10 by omega]; rw [ByteArray.append_assoc]; rfl)⟩ (by omega) (Le.sub0 rfl ⟨rfl, rfl, rfl, rfl, trivial⟩ trivial)
    · skip
      try simp at h11
      refine AW.exit ?_
      refine AW.seq ?_
      refine AW.seq ?_
      refine AW.region ?_
      refine AWl.put (R_move rfl (.no rfl) rfl (.tmp rfl fun _ => rfl)) rfl ?_
      refine AWl.nil ?_
      refine AW.cond (.tmp rfl fun _ => rfl) (fun h27 => ?_) (fun h27 => ?_)
      · exact absurd h27 (by simp)
      · skip
        try simp at h27
        refine AW.skip ?_
        refine AW.seq ?_
        refine AW.region ?_
        refine AWl.put (R_move rfl (.no rfl) rfl (.tmp rfl fun _ => rfl)) rfl ?_
        refine AWl.put (R_assign rfl (.no rfl) rfl (.tmp rfl fun _ => rfl)) rfl ?_
        refine AWl.nil ?_
        refine AW.ret ?_
        refine Res.v rfl rfl ?_
        (have e : m = 0 := (by first | omega | (simp at h11; omega)); have e0 : n0 ≠ 0 := (by first | omega | (simp at h7; omega)); rw [e] at he; unfold restD at he; rw [if_neg e0, if_pos rfl] at he; unfold numS; rw [Int.toNat_natCast, he, bs_nil_append])
theorem implFormatLetter (k : Int) (h0 : 0 ≤ k) (h8 : k ≤ 8) : FnT Tryz.prog 73 [.one (.v (.int .i64 k))] (.a (.one (.v (.string (bs (letS k)))))) := by
  refine FnT.walk Tryz.func73 rfl (by kernel_rfl) Tryz.ntmps73 rfl fun hlen w0 => ?_
  try simp [cPair, cToken, cExpr, cEdge, cGraph, cStep, cWalk, cChange, cBatch, cHistory, cPositions, cAutomaton, cProductStep, cPathAtom, cConjunction, cView, cDelta, cRegistered, cRegistry] at hlen
  have hl : inB k 0 8 = true := by unfold inB; simp; omega
  refine AW.seq ?_
  refine AW.region ?_
  refine AWl.put (R_assign rfl (.no rfl) rfl (.const rfl)) rfl ?_
  refine AWl.nil ?_
  refine AW.seq ?_
  refine AW.seq ?_
  refine AW.region ?_
  refine AWl.put (R_move rfl (.no rfl) rfl (.tmp rfl fun _ => rfl)) rfl ?_
  refine AWl.put (R_callz (FnT.fr (implisLetter k)) rfl (.no rfl) rfl (.cons (.tmp rfl fun _ => rfl) rfl .nil)) rfl ?_
  refine AWl.put (R_not rfl (.no rfl) rfl (.tmp rfl fun _ => rfl)) rfl ?_
  refine AWl.nil ?_
  refine AW.cond (.tmp rfl fun _ => rfl) (fun h5 => ?_) (fun h5 => ?_)
  · exact absurd h5 (by simp [hl] at h5)
  · skip
    try simp at h5
    refine AW.skip ?_
    refine AW.seq ?_
    refine AW.region ?_
    refine AWl.put (R_listz (xs := [.const (.string ⟨#[97]⟩), .const (.string ⟨#[97, 45]⟩), .const (.string ⟨#[98]⟩), .const (.string ⟨#[98, 45]⟩), .const (.string ⟨#[99]⟩), .const (.string ⟨#[99, 45]⟩), .const (.string ⟨#[48]⟩), .const (.string ⟨#[49]⟩), .const (.string ⟨#[50]⟩)]) (rows := letNames.map cStr) rfl rfl rfl (.cons (.const rfl) rfl rfl (.cons (.const rfl) rfl rfl (.cons (.const rfl) rfl rfl (.cons (.const rfl) rfl rfl (.cons (.const rfl) rfl rfl (.cons (.const rfl) rfl rfl (.cons (.const rfl) rfl rfl (.cons (.const rfl) rfl rfl (.cons (.const rfl) rfl rfl .nil))))))))) Tryz.underlying30 in9 rfl rfl (rfl)) rfl ?_
    refine AWl.put (R_move rfl (.no rfl) rfl (.tmp rfl fun _ => rfl)) rfl ?_
    refine AWl.put ((by first | exact R_indexAddr rfl (.no rfl) rfl (.tmp rfl fun _ => rfl) (.tmp rfl fun _ => rfl) Tryz.underlying30 ty9 (fun _ => ⟨by omega, (letS_get h0 h8)⟩) | exact R_indexAddr_vw rfl (.no rfl) rfl (.tmp rfl fun _ => rfl) (.tmp rfl fun _ => rfl) Tryz.underlying30 ty9 (fun _ => ⟨by omega, (letS_get h0 h8)⟩) | exact R_indexAddr_rf rfl (.no rfl) rfl (.tmp rfl fun _ => rfl) rfl (.tmp rfl fun _ => rfl) Tryz.underlying30 ty9 (fun _ => ⟨by omega, (letS_get h0 h8)⟩))) rfl ?_
    refine AWl.put ((by first | exact R_load rfl (.no rfl) rfl (.tmp rfl fun _ => rfl) ty9 rfl rfl | exact R_load_pp rfl (.no rfl) rfl (.tmp rfl fun _ => rfl) rfl ty9 rfl rfl | exact R_load_vw rfl (.no rfl) rfl (.tmp rfl fun _ => rfl) ty9 rfl rfl | exact R_load_pr rfl (.no rfl) rfl (.tmp rfl fun _ => rfl) rfl (letS_get h0 h8) ty9 rfl rfl)) rfl ?_
    refine AWl.put (R_assign rfl (.no rfl) rfl (.tmp rfl fun _ => rfl)) rfl ?_
    refine AWl.nil ?_
    refine AW.ret ?_
    refine Res.v rfl rfl ?_
    rfl
theorem specFormatLetter (k : Int) (h0 : 0 ≤ k) (h8 : k ≤ 8) : FnT Tryz.prog 58 [.one (.v (.int .i64 k))] (.a (.one (.v (.string (bs (letS k)))))) := by
  refine FnT.walk Tryz.func58 rfl (by kernel_rfl) Tryz.ntmps58 rfl fun hlen w0 => ?_
  try simp [cPair, cToken, cExpr, cEdge, cGraph, cStep, cWalk, cChange, cBatch, cHistory, cPositions, cAutomaton, cProductStep, cPathAtom, cConjunction, cView, cDelta, cRegistered, cRegistry] at hlen
  have hl : inB k 0 8 = true := by unfold inB; simp; omega
  refine AW.seq ?_
  refine AW.region ?_
  refine AWl.put (R_assign rfl (.no rfl) rfl (.const rfl)) rfl ?_
  refine AWl.nil ?_
  refine AW.seq ?_
  refine AW.seq ?_
  refine AW.region ?_
  refine AWl.put (R_move rfl (.no rfl) rfl (.tmp rfl fun _ => rfl)) rfl ?_
  refine AWl.put (R_callz (FnT.fr (specl2Letter k)) rfl (.no rfl) rfl (.cons (.tmp rfl fun _ => rfl) rfl .nil)) rfl ?_
  refine AWl.put (R_not rfl (.no rfl) rfl (.tmp rfl fun _ => rfl)) rfl ?_
  refine AWl.nil ?_
  refine AW.cond (.tmp rfl fun _ => rfl) (fun h5 => ?_) (fun h5 => ?_)
  · exact absurd h5 (by simp [hl] at h5)
  · skip
    try simp at h5
    refine AW.skip ?_
    refine AW.seq ?_
    refine AW.region ?_
    refine AWl.put (R_listz (xs := [.const (.string ⟨#[97]⟩), .const (.string ⟨#[97, 45]⟩), .const (.string ⟨#[98]⟩), .const (.string ⟨#[98, 45]⟩), .const (.string ⟨#[99]⟩), .const (.string ⟨#[99, 45]⟩), .const (.string ⟨#[48]⟩), .const (.string ⟨#[49]⟩), .const (.string ⟨#[50]⟩)]) (rows := letNames.map cStr) rfl rfl rfl (.cons (.const rfl) rfl rfl (.cons (.const rfl) rfl rfl (.cons (.const rfl) rfl rfl (.cons (.const rfl) rfl rfl (.cons (.const rfl) rfl rfl (.cons (.const rfl) rfl rfl (.cons (.const rfl) rfl rfl (.cons (.const rfl) rfl rfl (.cons (.const rfl) rfl rfl .nil))))))))) Tryz.underlying30 in9 rfl rfl (rfl)) rfl ?_
    refine AWl.put (R_move rfl (.no rfl) rfl (.tmp rfl fun _ => rfl)) rfl ?_
    refine AWl.put ((by first | exact R_indexAddr rfl (.no rfl) rfl (.tmp rfl fun _ => rfl) (.tmp rfl fun _ => rfl) Tryz.underlying30 ty9 (fun _ => ⟨by omega, (letS_get h0 h8)⟩) | exact R_indexAddr_vw rfl (.no rfl) rfl (.tmp rfl fun _ => rfl) (.tmp rfl fun _ => rfl) Tryz.underlying30 ty9 (fun _ => ⟨by omega, (letS_get h0 h8)⟩) | exact R_indexAddr_rf rfl (.no rfl) rfl (.tmp rfl fun _ => rfl) rfl (.tmp rfl fun _ => rfl) Tryz.underlying30 ty9 (fun _ => ⟨by omega, (letS_get h0 h8)⟩))) rfl ?_
    refine AWl.put ((by first | exact R_load rfl (.no rfl) rfl (.tmp rfl fun _ => rfl) ty9 rfl rfl | exact R_load_pp rfl (.no rfl) rfl (.tmp rfl fun _ => rfl) rfl ty9 rfl rfl | exact R_load_vw rfl (.no rfl) rfl (.tmp rfl fun _ => rfl) ty9 rfl rfl | exact R_load_pr rfl (.no rfl) rfl (.tmp rfl fun _ => rfl) rfl (letS_get h0 h8) ty9 rfl rfl)) rfl ?_
    refine AWl.put (R_assign rfl (.no rfl) rfl (.tmp rfl fun _ => rfl)) rfl ?_
    refine AWl.nil ?_
    refine AW.ret ?_
    refine Res.v rfl rfl ?_
    rfl
end Go.Proofs.YtoealglkenhphaaGreatDoor
