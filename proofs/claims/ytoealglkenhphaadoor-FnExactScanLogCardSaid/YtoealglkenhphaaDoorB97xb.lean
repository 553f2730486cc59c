/- Logs scanned: both texts. -/
import Derived.Test.YtoealglkenhphaaDoorB94xb
set_option linter.unusedVariables false
set_option linter.unusedSimpArgs false
set_option maxHeartbeats 1000000
set_option maxRecDepth 100000
namespace Go.Q
open Go.D
theorem nl_none {l : List UInt8} {i : Nat} (h : Lib.indexByte (l.drop i) 10 < 0) : nlAt l i = none := by
  have e := nlAt_index l i
  cases hn : nlAt l i with
  | none => rfl
  | some n => rw [hn] at e; simp only at e; omega
theorem nl_some {l : List UInt8} {i : Nat} (h : 0 ≤ Lib.indexByte (l.drop i) 10) : ∃ n : Nat, nlAt l i = some n ∧ Lib.indexByte (l.drop i) 10 = (n : Int) ∧ i + n < l.length := by
  have e := nlAt_index l i
  cases hn : nlAt l i with
  | none => rw [hn] at e; simp only at e; omega
  | some n =>
    rw [hn] at e
    exact ⟨n, rfl, e, (List.getElem?_eq_some_iff.1 (nlAt_some hn).1).1⟩
def lineS (l : List UInt8) (i n : Nat) : List UInt8 := (l.drop i).take (n + 1)
def lastI (vs : List Int) : Int := vs.getLast?.getD 0
theorem last_get {vs : List Int} (h : 0 < vs.length) : vs[((vs.length : Int) - 1).toNat]? = some (lastI vs) := by
  have e : ((vs.length : Int) - 1).toNat = vs.length - 1 := by omega
  rw [e]
  unfold lastI
  rw [List.getLast?_eq_getElem?, List.getElem?_eq_getElem (by omega)]; rfl
theorem last_le {vs : List Int} (h : ∀ v ∈ vs, 1 ≤ v ∧ v ≤ 999) : 0 ≤ lastI vs ∧ lastI vs ≤ 999 := by
  unfold lastI
  cases hl : vs.getLast? with
  | none => simp
  | some v =>
    have := h v (List.mem_of_getLast? hl)
    simp only [Option.getD_some]; omega
theorem scan_next {l : List UInt8} {vs : List Int} {bt : List TBatch} {i f n : Nat} (hn : nlAt l i = some n) (h1 : recG (lineS l i n) = true) (h2 : 0 < vs.length → recV (lineS l i n) = lastI vs + 1) (hf : l.length < i + f) :
    scanF f l vs bt i = scanF (f - 1) l (vs ++ [recV (lineS l i n)]) (bt ++ [recB (lineS l i n)]) (i + (n + 1)) := by
  have hl := (List.getElem?_eq_some_iff.1 (nlAt_some hn).1).1
  obtain ⟨f', rfl⟩ : ∃ f', f = f' + 1 := ⟨f - 1, by omega⟩
  rw [scan_more hn h1 (by
    rcases Nat.eq_zero_or_pos vs.length with h | h
    · exact .inl (List.eq_nil_of_length_eq_zero h)
    · exact .inr (h2 h))]
  rfl
theorem scan_end {l : List UInt8} {vs : List Int} {bt : List TBatch} {i f n : Nat} (hn : nlAt l i = some n) (h : recG (lineS l i n) = true → 0 < vs.length ∧ recV (lineS l i n) ≠ lastI vs + 1) : scanF f l vs bt i = (vs, bt, i) := by
  refine scan_stop hn ?_
  by_cases hg : recG (lineS l i n) = true
  · obtain ⟨h1, h2⟩ := h hg
    exact .inr ⟨fun e => by rw [e] at h1; simp at h1, h2⟩
  · exact .inl (Bool.eq_false_iff.2 hg)
theorem line_len (l : List UInt8) (i n : Nat) : (lineS l i n).length ≤ l.length := by unfold lineS; simp; omega
theorem line_ext (l : List UInt8) (i n : Nat) : (bs l).extract i (i + n + 1) = bs (lineS l i n) := by
  rw [bs_extract, List.drop_take]
  unfold lineS
  rw [show i + n + 1 - i = n + 1 by omega]
theorem line_rng {l : List UInt8} {i n : Nat} {vs : List Int} (h : ∀ v ∈ vs, 1 ≤ v ∧ v ≤ 999) (hg : recG (lineS l i n) = true) : ∀ v ∈ vs ++ [recV (lineS l i n)], 1 ≤ v ∧ v ≤ 999 := fun v hv => by
  rcases List.mem_append.1 hv with hv | hv
  · exact h v hv
  · rw [List.mem_singleton] at hv
    rw [hv]; exact (recG_get hg).2.1
theorem scanL_long {l : List UInt8} (h : 4000 < l.length) : scanL l = ([], [], 0) := by unfold scanL; rw [if_neg (by omega)]
theorem scanL_few (l : List UInt8) : (scanL l).1.length ≤ 4000 ∧ (scanL l).2.1.length ≤ 4000 ∧ ∀ b ∈ (scanL l).2.1, b.Changes.length ≤ 6 := by
  unfold scanL
  split
  · obtain ⟨h1, h2, h3⟩ := scanF_few (l.length + 1) l [] [] 0 (Nat.zero_le _) rfl (Nat.zero_le _) (fun b hb => by cases hb)
    exact ⟨by omega, by omega, h3⟩
  · simp
end Go.Q
namespace Go.Proofs.YtoealglkenhphaaDoor
open Go.RowKit Go.Q Go.D
theorem implScanLogL (l : List UInt8) (hz : l.length ≤ 1073741824) : FnT Tryd.prog 11 [.one (.v (.string (bs l)))] (.tup [.one (.sl 1 ((scanL l).1.map cInt)), .one (.sl 1 ((scanL l).2.1.map cBatch)), .one (.v (.int .i64 ((scanL l).2.2 : Nat)))]) := by
  refine FnT.walk Tryd.func11 rfl (by kernel_rfl) Tryd.ntmps11 rfl fun hlen w0 => ?_
  try simp [cPair, cToken, cExpr, cEdge, cGraph, cStep, cWalk, cChange, cBatch, cHistory, cPositions, cAutomaton, cProductStep, cPathAtom, cConjunction, cView, cDelta, cRegistered, cRegistry] at hlen
  have hsz := bs_size l
  refine AW.seq ?_
  refine AW.region ?_
  refine AWl.put (R_assign rfl (.no rfl) rfl (.const rfl)) rfl ?_
  refine AWl.nilS (i := 2) 20001 1 rfl rfl ?_
  refine AWl.put (R_assign rfl (.no rfl) rfl (.const rfl)) rfl ?_
  refine AWl.nilS (i := 3) 20002 1 rfl rfl ?_
  refine AWl.put (R_assign rfl (.no rfl) rfl (.const rfl)) rfl ?_
  refine AWl.nil ?_
  refine AW.seq ?_
  refine AW.region ?_
  refine AWl.add (R_empty 12 rfl rfl rfl Tryd.underlying30 ty3 rfl) rfl ?_
  refine AWl.put (R_assign rfl (.no rfl) rfl (.tmp rfl fun _ => rfl)) rfl ?_
  refine AWl.nil ?_
  refine AW.seq ?_
  refine AW.region ?_
  refine AWl.add (R_empty 13 rfl rfl rfl Tryd.underlying31 ty24 rfl) rfl ?_
  refine AWl.put (R_assign rfl (.no rfl) rfl (.tmp rfl fun _ => rfl)) rfl ?_
  refine AWl.nil ?_
  refine AW.seq ?_
  refine AW.region ?_
  refine AWl.put (R_assign rfl (.no rfl) rfl (.const rfl)) rfl ?_
  refine AWl.nil ?_
  refine AW.seq ?_
  refine AW.block ?_
  refine AW.loop4 (fun (i : Nat) (vs : List Int) (bt : List TBatch) (f : Nat) => (i ≤ l.length ∧ l.length < i + f ∧ vs.length ≤ i ∧ bt.length = vs.length ∧ (∀ v ∈ vs, 1 ≤ v ∧ v ≤ 999)) ∧ (l.length ≤ 4000 → scanL l = scanF f l vs bt i) ∧ (4000 < l.length → vs = [] ∧ bt = [] ∧ i = 0)) (fun (i : Nat) (vs : List Int) (bt : List TBatch) (f : Nat) => ⟨_, [(7, (true, .a (.one (.t (.v (.int .i64 (i : Nat))))))), (5, (true, .a (.one (.rf 12)))), (6, (true, .a (.one (.rf 13)))), (0, _), (2, _), (3, _), (4, _)], [(12, .row 1 (vs.map cInt)), (13, .row 1 (bt.map cBatch))]⟩) (fun (i : Nat) (vs : List Int) (bt : List TBatch) (f : Nat) => l.length - i) (0) ([]) ([]) (l.length + 1) ⟨⟨by omega, by omega, by simp, rfl, fun v hv => by cases hv⟩, (fun h => by unfold scanL; rw [if_pos h]), (fun _ => ⟨rfl, rfl, rfl⟩)⟩ (Le.sub0 rfl ⟨rfl, rfl, rfl, rfl, rfl, rfl, rfl, trivial⟩ ⟨rfl, rfl, trivial⟩) ?_
  rintro i vs bt f ⟨hk, he⟩
  refine AW.seq ?_
  refine AW.seq ?_
  refine AW.region ?_
  refine AWl.put (R_move rfl (.no rfl) rfl (.tmp rfl fun _ => rfl)) rfl ?_
  refine AWl.put (R_len_s rfl (.no rfl) rfl (.tmp rfl fun _ => rfl) Tryd.underlying9) rfl ?_
  refine AWl.put (R_le rfl (.no rfl) rfl (.tmp rfl fun _ => rfl) (.const rfl)) rfl ?_
  refine AWl.nil ?_
  refine AW.cond (.tmp rfl fun _ => rfl) (fun h16 => ?_) (fun h16 => ?_)
  · skip
    try simp at h16
    have hix : FnT Tryd.prog 29 [.one (.v (.string ((bs l).extract i (bs l).size))), .one (.v (.int .u8 10))] (.a (.one (.v (.int .i64 (Lib.indexByte (l.drop i) 10))))) := by (have := stringsIndexByte (bs (l.drop i)) 10; rw [bs_list] at this; rw [bs_extract, bs_size, List.take_of_length_le (Nat.le_refl _)]; exact this)
    have hlast := last_le hk.2.2.2.2
    refine AW.skip ?_
    refine AW.block ?_
    refine AW.seq ?_
    refine AW.region ?_
    refine AWl.put (R_move rfl (.no rfl) rfl (.tmp rfl fun _ => rfl)) rfl ?_
    refine AWl.put (R_move rfl (.no rfl) rfl (.tmp rfl fun _ => rfl)) rfl ?_
    refine AWl.put (R_strSlice (n := i) rfl (.no rfl) rfl (.tmp rfl fun _ => rfl) (.yes (.tmp rfl fun _ => rfl) (fun _ => by first | omega | (simp <;> omega))) .no Tryd.underlying9 (fun _ => ⟨by omega, by first | omega | (simp; omega)⟩)) rfl ?_
    refine AWl.put (R_callz (FnT.fr (hix)) rfl (.no rfl) rfl (.cons (.tmp rfl fun _ => rfl) rfl (.cons (.const rfl) rfl .nil))) rfl ?_
    refine AWl.put (R_assign rfl (.no rfl) rfl (.tmp rfl fun _ => rfl)) rfl ?_
    refine AWl.nil ?_
    refine AW.seq ?_
    refine AW.seq ?_
    refine AW.le (σ' := ⟨_, [(0, _), (2, _), (3, _), (4, _), (5, _), (6, _), (7, _), (8, _)], [(12, _), (13, _)]⟩) (Le.sub0 rfl ⟨rfl, rfl, rfl, rfl, rfl, rfl, rfl, rfl, trivial⟩ ⟨rfl, rfl, trivial⟩) ?_
    refine AW.region ?_
    refine AWl.put (R_move rfl (.no rfl) rfl (.tmp rfl fun _ => rfl)) rfl ?_
    refine AWl.put (R_lt rfl (.no rfl) rfl (.tmp rfl fun _ => rfl) (.const rfl)) rfl ?_
    refine AWl.nil ?_
    refine AW.cond (.tmp rfl fun _ => rfl) (fun h22 => ?_) (fun h22 => ?_)
    · skip
      try simp at h22
      refine AW.exit ?_
      refine AW.seq ?_
      refine AW.region ?_
      refine AWl.put (R_move rfl (.no rfl) rfl (.tmp rfl fun _ => rfl)) rfl ?_
      refine AWl.put (R_move rfl (.no rfl) rfl (.tmp rfl fun _ => rfl)) rfl ?_
      refine AWl.put (R_move rfl (.no rfl) rfl (.tmp rfl fun _ => rfl)) rfl ?_
      refine AWl.put (R_assign rfl (.no rfl) rfl (.tmp rfl fun _ => rfl)) rfl ?_
      refine AWl.put (R_assign rfl (.no rfl) rfl (.tmp rfl fun _ => rfl)) rfl ?_
      refine AWl.put (R_assign rfl (.no rfl) rfl (.tmp rfl fun _ => rfl)) rfl ?_
      refine AWl.nil ?_
      refine AW.ret ?_
      refine Res.many rfl (.tmp rfl (.tmp rfl (.tmp rfl .nil))) rfl ?_ (by simp)
      rw [he.1 (by omega), scan_none (nl_none h22)]; rfl
    · skip
      try simp at h22
      obtain ⟨n, hn, hX, hnl⟩ := nl_some (l := l) (i := i) (by first | omega | (simp at h22; omega))
      rw [hX]
      have hdr : FnT Tryd.prog 6 [.one (.v (.string ((bs l).extract i (i + n + 1))))] (.tup [.one (.v (.int .i64 (recV (lineS l i n)))), .agg (cBatch (recB (lineS l i n))), .one (.v (.bool (recG (lineS l i n))))]) := by (rw [line_ext]; exact implDecodeRecordL _ (Nat.le_trans (line_len l i n) hz))
      refine AW.skip ?_
      refine AW.seq ?_
      refine AW.region ?_
      refine AWl.put (R_move rfl (.no rfl) rfl (.tmp rfl fun _ => rfl)) rfl ?_
      refine AWl.put (R_move rfl (.no rfl) rfl (.tmp rfl fun _ => rfl)) rfl ?_
      refine AWl.put (R_move rfl (.no rfl) rfl (.tmp rfl fun _ => rfl)) rfl ?_
      refine AWl.put (R_move rfl (.no rfl) rfl (.tmp rfl fun _ => rfl)) rfl ?_
      refine AWl.put (R_add rfl (.no rfl) rfl (.tmp rfl fun _ => rfl) (.tmp rfl fun _ => rfl) (fun _ => by omega)) rfl ?_
      refine AWl.put (R_add rfl (.no rfl) rfl (.tmp rfl fun _ => rfl) (.const rfl) (fun _ => by omega)) rfl ?_
      refine AWl.put (R_strSlice (n := i) (m := i + n + 1) rfl (.no rfl) rfl (.tmp rfl fun _ => rfl) (.yes (.tmp rfl fun _ => rfl) (fun _ => by first | omega | (simp <;> omega))) (.yes (.tmp rfl fun _ => rfl) (fun _ => by first | omega | (simp <;> omega))) Tryd.underlying9 (fun _ => ⟨by omega, by first | omega | (simp; omega)⟩)) rfl ?_
      refine AWl.adds (R_call 3100 (hdr) rfl rfl rfl (.cons (.tmp rfl fun _ => rfl) rfl .nil) rfl rfl) rfl ?_
      refine AWl.put (R_movet rfl (.no rfl) rfl rfl fun _ => rfl) rfl ?_
      refine AWl.put (R_extract rfl (.no rfl) rfl rfl (fun _ => rfl) rfl) rfl ?_
      refine AWl.put (R_extract rfl (.no rfl) rfl rfl (fun _ => rfl) rfl) rfl ?_
      refine AWl.put (R_extract rfl (.no rfl) rfl rfl (fun _ => rfl) rfl) rfl ?_
      refine AWl.add (R_alloc 10 rfl rfl rfl in24 rfl rfl rfl) rfl ?_
      refine AWl.put (R_assign rfl (.no rfl) rfl (.tmp rfl fun _ => rfl)) rfl ?_
      refine AWl.chgb (R_store_pb rfl rfl rfl (.tmp rfl fun _ => rfl) (.tmp rfl fun _ => rfl) rfl ty24 rfl rfl rfl (by kernel_rfl) rfl) ?_
      refine AWl.le (σ' := ⟨_, [(0, _), (2, _), (3, _), (4, _), (5, _), (6, _), (7, _), (8, _), (9, _), (10, _), (22, _), (34, _)], [(12, _), (13, _), (3100, _), (10, _)]⟩) (Le.sub0 rfl ⟨rfl, rfl, rfl, rfl, rfl, rfl, rfl, rfl, rfl, rfl, rfl, rfl, trivial⟩ ⟨rfl, rfl, rfl, rfl, trivial⟩) ?_
      refine AWl.put (R_assign rfl (.no rfl) rfl (.tmp rfl fun _ => rfl)) rfl ?_
      refine AWl.nil ?_
      refine AW.seq ?_
      refine AW.seq ?_
      refine AW.region ?_
      refine AWl.put (R_move rfl (.no rfl) rfl (.tmp rfl fun _ => rfl)) rfl ?_
      refine AWl.put (R_not rfl (.no rfl) rfl (.tmp rfl fun _ => rfl)) rfl ?_
      refine AWl.put (R_move rfl (.no rfl) rfl (.tmp rfl fun _ => rfl)) rfl ?_
      refine AWl.put (R_move rfl (by first | exact .not1 rfl rfl rfl rfl | exact .not rfl rfl rfl rfl) rfl (.tmp rfl (by first | exact fun _ => rfl | exact id | simp))) rfl ?_
      refine AWl.put ((by first | exact R_lenm rfl (by first | exact .not1 rfl rfl rfl rfl | exact .not rfl rfl rfl rfl) rfl (.tmp rfl (by first | exact fun _ => rfl | exact id | simp)) (by first | exact .t | exact .rf rfl | exact .vw | exact .nil) Tryd.underlying30 | exact R_len rfl (by first | exact .not1 rfl rfl rfl rfl | exact .not rfl rfl rfl rfl) rfl (.tmp rfl (by first | exact fun _ => rfl | exact id | simp)) (by first | exact .t | exact .rf rfl | exact .vw | exact .nil) Tryd.underlying30)) rfl ?_
      refine AWl.put (R_gt rfl (by first | exact .not1 rfl rfl rfl rfl | exact .not rfl rfl rfl rfl) rfl (.tmp rfl (by first | exact fun _ => rfl | exact id | simp)) (.const rfl)) rfl ?_
      refine AWl.put (R_move rfl (by first | exact .not1 rfl rfl rfl rfl | exact .not rfl rfl rfl rfl) rfl (.tmp rfl (by first | exact fun _ => rfl | exact id | simp))) rfl ?_
      refine AWl.put (R_move rfl (by first | exact .yes1 rfl rfl rfl rfl | exact .yes rfl rfl rfl rfl) rfl (.tmp rfl (by first | exact fun _ => rfl | exact id | simp))) rfl ?_
      refine AWl.put (R_move rfl (by first | exact .yes1 rfl rfl rfl rfl | exact .yes rfl rfl rfl rfl) rfl (.tmp rfl (by first | exact fun _ => rfl | exact id | simp))) rfl ?_
      refine AWl.put (R_move rfl (by first | exact .yes1 rfl rfl rfl rfl | exact .yes rfl rfl rfl rfl) rfl (.tmp rfl (by first | exact fun _ => rfl | exact id | simp))) rfl ?_
      refine AWl.put ((by first | exact R_lenm rfl (by first | exact .yes1 rfl rfl rfl rfl | exact .yes rfl rfl rfl rfl) rfl (.tmp rfl (by first | exact fun _ => rfl | exact id | simp)) (by first | exact .t | exact .rf rfl | exact .vw | exact .nil) Tryd.underlying30 | exact R_len rfl (by first | exact .yes1 rfl rfl rfl rfl | exact .yes rfl rfl rfl rfl) rfl (.tmp rfl (by first | exact fun _ => rfl | exact id | simp)) (by first | exact .t | exact .rf rfl | exact .vw | exact .nil) Tryd.underlying30)) rfl ?_
      refine AWl.put (R_sub rfl (by first | exact .yes1 rfl rfl rfl rfl | exact .yes rfl rfl rfl rfl) rfl (.tmp rfl (by first | exact fun _ => rfl | exact id | simp)) (.const rfl) (fun hq => by first | omega | (simp at hq; omega))) rfl ?_
      refine AWl.put ((by first | exact R_indexAddr rfl (by first | exact .yes1 rfl rfl rfl rfl | exact .yes rfl rfl rfl rfl) rfl (.tmp rfl (by first | exact fun _ => rfl | exact id | simp)) (.tmp rfl (by first | exact fun _ => rfl | exact id | simp)) Tryd.underlying30 ty3 (fun hq => ⟨by simp at hq; omega, map_get (last_get (by simp at hq; omega))⟩) | exact R_indexAddr_vw rfl (by first | exact .yes1 rfl rfl rfl rfl | exact .yes rfl rfl rfl rfl) rfl (.tmp rfl (by first | exact fun _ => rfl | exact id | simp)) (.tmp rfl (by first | exact fun _ => rfl | exact id | simp)) Tryd.underlying30 ty3 (fun hq => ⟨by simp at hq; omega, map_get (last_get (by simp at hq; omega))⟩) | exact R_indexAddr_rf rfl (by first | exact .yes1 rfl rfl rfl rfl | exact .yes rfl rfl rfl rfl) rfl (.tmp rfl (by first | exact fun _ => rfl | exact id | simp)) rfl (.tmp rfl (by first | exact fun _ => rfl | exact id | simp)) Tryd.underlying30 ty3 (fun hq => ⟨by simp at hq; omega, map_get (last_get (by simp at hq; omega))⟩))) rfl ?_
      refine AWl.put ((by first | exact R_load rfl (by first | exact .yes1 rfl rfl rfl rfl | exact .yes rfl rfl rfl rfl) rfl (.tmp rfl (by first | exact fun _ => rfl | exact id | simp)) ty3 rfl rfl | exact R_load_pp rfl (by first | exact .yes1 rfl rfl rfl rfl | exact .yes rfl rfl rfl rfl) rfl (.tmp rfl (by first | exact fun _ => rfl | exact id | simp)) rfl ty3 rfl rfl | exact R_load_vw rfl (by first | exact .yes1 rfl rfl rfl rfl | exact .yes rfl rfl rfl rfl) rfl (.tmp rfl (by first | exact fun _ => rfl | exact id | simp)) ty3 rfl rfl | exact R_load_pr rfl (by first | exact .yes1 rfl rfl rfl rfl | exact .yes rfl rfl rfl rfl) rfl (.tmp rfl (by first | exact fun _ => rfl | exact id | simp)) rfl (fun hq => map_get (last_get (by simp at hq; omega))) ty3 rfl rfl | exact R_load_prq rfl (by first | exact .yes1 rfl rfl rfl rfl | exact .yes rfl rfl rfl rfl) rfl (.tmp rfl (by first | exact fun _ => rfl | exact id | simp)) rfl (fun hq => map_get (last_get (by simp at hq; omega))) ty3 rfl rfl)) rfl ?_
      refine AWl.put (R_add rfl (by first | exact .yes1 rfl rfl rfl rfl | exact .yes rfl rfl rfl rfl) rfl (.tmp rfl (by first | exact fun _ => rfl | exact id | simp)) (.const rfl) (fun hq => by first | omega | (simp at hq; omega))) rfl ?_
      refine AWl.put (R_ne rfl (by first | exact .yes1 rfl rfl rfl rfl | exact .yes rfl rfl rfl rfl) rfl (.tmp rfl (by first | exact fun _ => rfl | exact id | simp)) (.tmp rfl (by first | exact fun _ => rfl | exact id | simp))) rfl ?_
      refine AWl.put (R_and rfl (by first | exact .not1 rfl rfl rfl rfl | exact .not rfl rfl rfl rfl) rfl (.tmp rfl (by first | exact fun _ => rfl | exact id | simp)) (.tmp rfl (by first | exact fun _ => rfl | exact id | simp))) rfl ?_
      refine AWl.put (R_or rfl (.no rfl) rfl (.tmp rfl fun _ => rfl) (.tmp rfl (by first | exact fun _ => rfl | exact id | simp))) rfl ?_
      refine AWl.nil ?_
      refine AW.cond (.tmp rfl fun _ => rfl) (fun h52 => ?_) (fun h52 => ?_)
      · skip
        try simp at h52
        refine AW.exit ?_
        refine AW.seq ?_
        refine AW.le (σ' := ⟨_, [(0, _), (2, _), (3, _), (4, _), (5, _), (6, _), (7, _), (8, _), (9, _), (10, _), (11, _)], [(12, _), (13, _), (3100, _), (10, _)]⟩) (Le.sub0 rfl ⟨rfl, rfl, rfl, rfl, rfl, rfl, rfl, rfl, rfl, rfl, rfl, trivial⟩ ⟨rfl, rfl, rfl, rfl, trivial⟩) ?_
        refine AW.region ?_
        refine AWl.put (R_move rfl (.no rfl) rfl (.tmp rfl fun _ => rfl)) rfl ?_
        refine AWl.put (R_move rfl (.no rfl) rfl (.tmp rfl fun _ => rfl)) rfl ?_
        refine AWl.put (R_move rfl (.no rfl) rfl (.tmp rfl fun _ => rfl)) rfl ?_
        refine AWl.put (R_assign rfl (.no rfl) rfl (.tmp rfl fun _ => rfl)) rfl ?_
        refine AWl.put (R_assign rfl (.no rfl) rfl (.tmp rfl fun _ => rfl)) rfl ?_
        refine AWl.put (R_assign rfl (.no rfl) rfl (.tmp rfl fun _ => rfl)) rfl ?_
        refine AWl.nil ?_
        refine AW.ret ?_
        refine Res.many rfl (.tmp rfl (.tmp rfl (.tmp rfl .nil))) rfl ?_ (by simp)
        rw [he.1 (by omega), scan_end hn (fun hg => h52.elim (fun h => by rw [hg] at h; cases h) id)]; rfl
      · skip
        try simp at h52
        have hg : recG (lineS l i n) = true := h52.1
        have hv : 0 < vs.length → recV (lineS l i n) = lastI vs + 1 := h52.2
        refine AW.skip ?_
        refine AW.seq ?_
        refine AW.le (σ' := ⟨_, [(0, _), (2, _), (3, _), (4, _), (5, _), (6, _), (7, _), (8, _), (9, _), (10, _), (11, _)], [(12, _), (13, _), (3100, _), (10, _)]⟩) (Le.sub0 rfl ⟨rfl, rfl, rfl, rfl, rfl, rfl, rfl, rfl, rfl, rfl, rfl, trivial⟩ ⟨rfl, rfl, rfl, rfl, trivial⟩) ?_
        refine AW.region ?_
        refine AWl.put (R_move rfl (.no rfl) rfl (.tmp rfl fun _ => rfl)) rfl ?_
        refine AWl.put (R_move rfl (.no rfl) rfl (.tmp rfl fun _ => rfl)) rfl ?_
        refine AWl.absadd (R_list (xs := [.tmp 54]) 55 rfl rfl rfl (.cons (.tmp rfl fun _ => rfl) rfl rfl .nil) Tryd.underlying30 in3 rfl rfl rfl rfl) rfl ?_
        refine AWl.abschgput (R_append_own rfl rfl rfl (.tmp rfl fun _ => rfl) rfl (.tmp rfl fun _ => rfl) rfl rfl Tryd.underlying30 in3 rfl (by first | omega | (simp [chunk]; omega) | (simp only [List.length_map, List.length_append, List.length_cons, List.length_nil, chunk]; omega)) (by first | omega | (unfold maxLen; omega) | (unfold maxLen; simp [chunk]; omega) | (unfold maxLen; simp only [List.length_map, List.length_append, List.length_cons, List.length_nil, chunk]; omega))) rfl ?_
        refine AWl.le (σ' := ⟨_, [(0, _), (2, _), (3, _), (4, _), (5, _), (6, _), (7, _), (8, _), (9, _), (10, _), (11, _), (56, _)], [(12, _), (13, _), (3100, _), (10, _)]⟩) (Le.sub0 rfl ⟨rfl, rfl, rfl, rfl, rfl, rfl, rfl, rfl, rfl, rfl, rfl, rfl, trivial⟩ ⟨rfl, rfl, rfl, rfl, trivial⟩) ?_
        refine AWl.put (R_assign rfl (.no rfl) rfl (.tmp rfl fun _ => rfl)) rfl ?_
        refine AWl.nil ?_
        refine AW.seq ?_
        refine AW.region ?_
        refine AWl.put (R_move rfl (.no rfl) rfl (.tmp rfl fun _ => rfl)) rfl ?_
        refine AWl.put ((by first | exact R_load rfl (.no rfl) rfl (.tmp rfl fun _ => rfl) ty24 rfl rfl | exact R_load_pp rfl (.no rfl) rfl (.tmp rfl fun _ => rfl) rfl ty24 rfl rfl | exact R_load_vw rfl (.no rfl) rfl (.tmp rfl fun _ => rfl) ty24 rfl rfl | exact R_load_pr rfl (.no rfl) rfl (.tmp rfl fun _ => rfl) rfl (by first | assumption | exact map_get (by assumption)) ty24 rfl rfl)) rfl ?_
        refine AWl.absadd (R_list (xs := [.tmp 58]) 59 rfl rfl rfl (.cons (.tmp rfl fun _ => rfl) rfl rfl .nil) Tryd.underlying31 in24 rfl rfl rfl rfl) rfl ?_
        refine AWl.abschgput (R_append_own rfl rfl rfl (.tmp rfl fun _ => rfl) rfl (.tmp rfl fun _ => rfl) rfl rfl Tryd.underlying31 in24 rfl (by first | omega | (simp [chunk]; omega) | (simp only [List.length_map, List.length_append, List.length_cons, List.length_nil, chunk]; omega)) (by first | omega | (unfold maxLen; omega) | (unfold maxLen; simp [chunk]; omega) | (unfold maxLen; simp only [List.length_map, List.length_append, List.length_cons, List.length_nil, chunk]; omega))) rfl ?_
        refine AWl.le (σ' := ⟨_, [(0, _), (2, _), (3, _), (4, _), (5, _), (6, _), (7, _), (8, _), (9, _), (10, _), (11, _), (60, _)], [(12, _), (13, _), (10, _)]⟩) (Le.sub0 rfl ⟨rfl, rfl, rfl, rfl, rfl, rfl, rfl, rfl, rfl, rfl, rfl, rfl, trivial⟩ ⟨rfl, rfl, rfl, trivial⟩) ?_
        refine AWl.put (R_assign rfl (.no rfl) rfl (.tmp rfl fun _ => rfl)) rfl ?_
        refine AWl.nil ?_
        refine AW.region ?_
        refine AWl.put (R_move rfl (.no rfl) rfl (.tmp rfl fun _ => rfl)) rfl ?_
        refine AWl.put (R_move rfl (.no rfl) rfl (.tmp rfl fun _ => rfl)) rfl ?_
        refine AWl.put (R_add rfl (.no rfl) rfl (.tmp rfl fun _ => rfl) (.const rfl) (fun _ => by omega)) rfl ?_
        refine AWl.put (R_add rfl (.no rfl) rfl (.tmp rfl fun _ => rfl) (.tmp rfl fun _ => rfl) (fun _ => by omega)) rfl ?_
        refine AWl.put (R_assign rfl (.no rfl) rfl (.tmp rfl fun _ => rfl)) rfl ?_
        refine AWl.nil ?_
        repeat (with_reducible refine BlockQ.nor ?_)
        refine Round4.next (i + (n + 1)) (vs ++ [recV (lineS l i n)]) (bt ++ [recB (lineS l i n)]) (f - 1) ⟨⟨by omega, by omega, by simp; omega, by simp [hk.2.2.2.1], line_rng hk.2.2.2.2 hg⟩, (fun h => by rw [he.1 h]; exact scan_next hn hg hv hk.2.1), (fun h => by omega)⟩ (by omega) (Le.sub0 rfl ⟨rfl, rfl, rfl, rfl, rfl, rfl, rfl, trivial⟩ ⟨(by first | rfl | (refine congrArg (fun r => some (R.row _ r)) ?_; simp [chunk, List.map_set, cInt, cBool, cIntS, cPair, cToken, cExpr, cEdge, cGraph, cStep, cWalk, cChange, cBatch, cHistory, cPositions, cAutomaton, cProductStep, cPathAtom, cConjunction, cView, cDelta, cRegistered, cRegistry])), (by first | rfl | (refine congrArg (fun r => some (R.row _ r)) ?_; simp [chunk, List.map_set, cInt, cBool, cIntS, cPair, cToken, cExpr, cEdge, cGraph, cStep, cWalk, cChange, cBatch, cHistory, cPositions, cAutomaton, cProductStep, cPathAtom, cConjunction, cView, cDelta, cRegistered, cRegistry])), trivial⟩)
  · skip
    try simp at h16
    refine AW.exit ?_
    refine AW.seq ?_
    refine AW.region ?_
    refine AWl.put (R_move rfl (.no rfl) rfl (.tmp rfl fun _ => rfl)) rfl ?_
    refine AWl.put (R_move rfl (.no rfl) rfl (.tmp rfl fun _ => rfl)) rfl ?_
    refine AWl.put (R_move rfl (.no rfl) rfl (.tmp rfl fun _ => rfl)) rfl ?_
    refine AWl.put (R_assign rfl (.no rfl) rfl (.tmp rfl fun _ => rfl)) rfl ?_
    refine AWl.put (R_assign rfl (.no rfl) rfl (.tmp rfl fun _ => rfl)) rfl ?_
    refine AWl.put (R_assign rfl (.no rfl) rfl (.tmp rfl fun _ => rfl)) rfl ?_
    refine AWl.nil ?_
    refine AW.ret ?_
    refine Res.many rfl (.tmp rfl (.tmp rfl (.tmp rfl .nil))) rfl ?_ (by simp)
    obtain ⟨e1, e2, e3⟩ := he.2 (by omega); rw [scanL_long (by omega), e1, e2, e3]; rfl
theorem implScanLog (s : ByteArray) (hz : s.size ≤ 1048576) : FnT Tryd.prog 11 [.one (.v (.string s))] (.tup [.one (.sl 1 ((scanL s.data.toList).1.map cInt)), .one (.sl 1 ((scanL s.data.toList).2.1.map cBatch)), .one (.v (.int .i64 ((scanL s.data.toList).2.2 : Nat)))]) := by
  have := implScanLogL s.data.toList (by rw [← bs_size, bs_of]; omega)
  rw [bs_of] at this; exact this
theorem specScanLogL (l : List UInt8) (hz : l.length ≤ 1073741824) : FnT Tryd.prog 10 [.one (.v (.string (bs l)))] (.tup [.one (.sl 1 ((scanL l).1.map cInt)), .one (.sl 1 ((scanL l).2.1.map cBatch)), .one (.v (.int .i64 ((scanL l).2.2 : Nat)))]) := by
  refine FnT.walk Tryd.func10 rfl (by kernel_rfl) Tryd.ntmps10 rfl fun hlen w0 => ?_
  try simp [cPair, cToken, cExpr, cEdge, cGraph, cStep, cWalk, cChange, cBatch, cHistory, cPositions, cAutomaton, cProductStep, cPathAtom, cConjunction, cView, cDelta, cRegistered, cRegistry] at hlen
  have hsz := bs_size l
  refine AW.seq ?_
  refine AW.region ?_
  refine AWl.put (R_assign rfl (.no rfl) rfl (.const rfl)) rfl ?_
  refine AWl.nilS (i := 2) 20001 1 rfl rfl ?_
  refine AWl.put (R_assign rfl (.no rfl) rfl (.const rfl)) rfl ?_
  refine AWl.nilS (i := 3) 20002 1 rfl rfl ?_
  refine AWl.put (R_assign rfl (.no rfl) rfl (.const rfl)) rfl ?_
  refine AWl.nil ?_
  refine AW.seq ?_
  refine AW.region ?_
  refine AWl.add (R_empty 12 rfl rfl rfl Tryd.underlying30 ty3 rfl) rfl ?_
  refine AWl.put (R_assign rfl (.no rfl) rfl (.tmp rfl fun _ => rfl)) rfl ?_
  refine AWl.nil ?_
  refine AW.seq ?_
  refine AW.region ?_
  refine AWl.add (R_empty 13 rfl rfl rfl Tryd.underlying31 ty24 rfl) rfl ?_
  refine AWl.put (R_assign rfl (.no rfl) rfl (.tmp rfl fun _ => rfl)) rfl ?_
  refine AWl.nil ?_
  refine AW.seq ?_
  refine AW.region ?_
  refine AWl.put (R_assign rfl (.no rfl) rfl (.const rfl)) rfl ?_
  refine AWl.nil ?_
  refine AW.seq ?_
  refine AW.seq ?_
  refine AW.region ?_
  refine AWl.put (R_assign rfl (.no rfl) rfl (.const rfl)) rfl ?_
  refine AWl.nil ?_
  refine AW.block ?_
  refine AW.loop5 (fun (i : Nat) (u : Nat) (vs : List Int) (bt : List TBatch) (f : Nat) => ((u ≤ i ∧ i ≤ l.length) ∧ l.length < u + f ∧ vs.length ≤ u ∧ bt.length = vs.length ∧ (∀ v ∈ vs, 1 ≤ v ∧ v ≤ 999) ∧ (∀ k, u ≤ k → k < i → l[k]? ≠ some 10)) ∧ (l.length ≤ 4000 → scanL l = scanF f l vs bt u) ∧ (4000 < l.length → vs = [] ∧ bt = [] ∧ u = 0)) (fun (i : Nat) (u : Nat) (vs : List Int) (bt : List TBatch) (f : Nat) => ⟨_, [(8, (true, .a (.one (.t (.v (.int .i64 (i : Nat))))))), (7, (true, .a (.one (.t (.v (.int .i64 (u : Nat))))))), (5, (true, .a (.one (.rf 12)))), (6, (true, .a (.one (.rf 13)))), (0, _)], [(12, .row 1 (vs.map cInt)), (13, .row 1 (bt.map cBatch))]⟩) (fun (i : Nat) (u : Nat) (vs : List Int) (bt : List TBatch) (f : Nat) => l.length - i) (0) (0) ([]) ([]) (l.length + 1) ⟨⟨⟨by omega, by omega⟩, by omega, by simp, rfl, (fun v hv => by cases hv), fun k h1 h2 => by omega⟩, (fun h => by unfold scanL; rw [if_pos h]), (fun _ => ⟨rfl, rfl, rfl⟩)⟩ (Le.sub0 rfl ⟨rfl, rfl, rfl, rfl, rfl, trivial⟩ ⟨rfl, rfl, trivial⟩) ?_
  rintro i u vs bt f ⟨hk, he⟩
  refine AW.seq ?_
  refine AW.seq ?_
  refine AW.region ?_
  refine AWl.put (R_move rfl (.no rfl) rfl (.tmp rfl fun _ => rfl)) rfl ?_
  refine AWl.put (R_move rfl (.no rfl) rfl (.tmp rfl fun _ => rfl)) rfl ?_
  refine AWl.put (R_len_s rfl (.no rfl) rfl (.tmp rfl fun _ => rfl) Tryd.underlying9) rfl ?_
  refine AWl.put (R_lt rfl (.no rfl) rfl (.tmp rfl fun _ => rfl) (.tmp rfl fun _ => rfl)) rfl ?_
  refine AWl.put (R_move rfl (.no rfl) rfl (.tmp rfl fun _ => rfl)) rfl ?_
  refine AWl.put (R_move rfl (by first | exact .yes1 rfl rfl rfl rfl | exact .yes rfl rfl rfl rfl) rfl (.tmp rfl (by first | exact fun _ => rfl | exact id | simp))) rfl ?_
  refine AWl.put (R_len_s rfl (by first | exact .yes1 rfl rfl rfl rfl | exact .yes rfl rfl rfl rfl) rfl (.tmp rfl (by first | exact fun _ => rfl | exact id | simp)) Tryd.underlying9) rfl ?_
  refine AWl.put (R_le rfl (by first | exact .yes1 rfl rfl rfl rfl | exact .yes rfl rfl rfl rfl) rfl (.tmp rfl (by first | exact fun _ => rfl | exact id | simp)) (.const rfl)) rfl ?_
  refine AWl.put (R_and rfl (.no rfl) rfl (.tmp rfl fun _ => rfl) (.tmp rfl (by first | exact fun _ => rfl | exact id | simp))) rfl ?_
  refine AWl.nil ?_
  refine AW.cond (.tmp rfl fun _ => rfl) (fun h22 => ?_) (fun h22 => ?_)
  · skip
    try simp at h22
    obtain ⟨b, hb⟩ : ∃ ξ, l[i]? = some ξ := ⟨_, List.getElem?_eq_getElem (by omega)⟩
    have hlast := last_le hk.2.2.2.2.1
    refine AW.skip ?_
    refine AW.seq ?_
    refine AW.block ?_
    refine AW.seq ?_
    refine AW.seq ?_
    refine AW.le (σ' := ⟨_, [(0, _), (5, _), (6, _), (7, _), (8, _)], [(12, _), (13, _)]⟩) (Le.sub0 rfl ⟨rfl, rfl, rfl, rfl, rfl, trivial⟩ ⟨rfl, rfl, trivial⟩) ?_
    refine AW.region ?_
    refine AWl.put (R_move rfl (.no rfl) rfl (.tmp rfl fun _ => rfl)) rfl ?_
    refine AWl.put (R_move rfl (.no rfl) rfl (.tmp rfl fun _ => rfl)) rfl ?_
    refine AWl.put (R_strIndex rfl (.no rfl) rfl (.tmp rfl fun _ => rfl) (.tmp rfl fun _ => rfl) Tryd.underlying9 (fun _ => ⟨by omega, (by rw [bs_get]; exact hb)⟩)) rfl ?_
    refine AWl.put (R_ne rfl (.no rfl) rfl (.tmp rfl fun _ => rfl) (.const rfl)) rfl ?_
    refine AWl.nil ?_
    refine AW.cond (.tmp rfl fun _ => rfl) (fun h28 => ?_) (fun h28 => ?_)
    · skip
      try simp at h28
      refine AW.exit ?_
      refine AW.region ?_
      refine AWl.put (R_move rfl (.no rfl) rfl (.tmp rfl fun _ => rfl)) rfl ?_
      refine AWl.put (R_add rfl (.no rfl) rfl (.tmp rfl fun _ => rfl) (.const rfl) (fun _ => by omega)) rfl ?_
      refine AWl.put (R_assign rfl (.no rfl) rfl (.tmp rfl fun _ => rfl)) rfl ?_
      refine AWl.nil ?_
      repeat (with_reducible refine BlockQ.nor ?_)
      refine Round5.next (i + 1) (u) (vs) (bt) (f) ⟨⟨⟨by omega, by omega⟩, hk.2.1, hk.2.2.1, hk.2.2.2.1, hk.2.2.2.2.1, (fun k h1 h2 => by by_cases e : k = i; (subst e; rw [hb]; exact fun e2 => h28 (by rw [Option.some.inj e2]; rfl)); exact hk.2.2.2.2.2 k h1 (by omega))⟩, he.1, he.2⟩ (by omega) (Le.sub0 rfl ⟨rfl, rfl, rfl, rfl, rfl, trivial⟩ ⟨(by first | rfl | (refine congrArg (fun r => some (R.row _ r)) ?_; simp [chunk, List.map_set, cInt, cBool, cIntS, cPair, cToken, cExpr, cEdge, cGraph, cStep, cWalk, cChange, cBatch, cHistory, cPositions, cAutomaton, cProductStep, cPathAtom, cConjunction, cView, cDelta, cRegistered, cRegistry])), (by first | rfl | (refine congrArg (fun r => some (R.row _ r)) ?_; simp [chunk, List.map_set, cInt, cBool, cIntS, cPair, cToken, cExpr, cEdge, cGraph, cStep, cWalk, cChange, cBatch, cHistory, cPositions, cAutomaton, cProductStep, cPathAtom, cConjunction, cView, cDelta, cRegistered, cRegistry])), trivial⟩)
    · skip
      try simp at h28
      have hb10 : b = 10 := UInt8.toNat_inj.1 (show b.toNat = 10 by omega)
      have hn : nlAt l u = some (i - u) := nlAt_intro (by rw [show u + (i - u) = i by omega, hb, hb10]) (fun k h => hk.2.2.2.2.2 (u + k) (by omega) (by omega))
      have hdr : FnT Tryd.prog 5 [.one (.v (.string ((bs l).extract u (i + 1))))] (.tup [.one (.v (.int .i64 (recV (lineS l u (i - u))))), .agg (cBatch (recB (lineS l u (i - u)))), .one (.v (.bool (recG (lineS l u (i - u)))))]) := by (rw [show i + 1 = u + (i - u) + 1 by omega, line_ext]; exact specDecodeRecordL _ (Nat.le_trans (line_len l u (i - u)) hz))
      refine AW.skip ?_
      refine AW.seq ?_
      refine AW.region ?_
      refine AWl.put (R_move rfl (.no rfl) rfl (.tmp rfl fun _ => rfl)) rfl ?_
      refine AWl.put (R_move rfl (.no rfl) rfl (.tmp rfl fun _ => rfl)) rfl ?_
      refine AWl.put (R_move rfl (.no rfl) rfl (.tmp rfl fun _ => rfl)) rfl ?_
      refine AWl.put (R_add rfl (.no rfl) rfl (.tmp rfl fun _ => rfl) (.const rfl) (fun _ => by omega)) rfl ?_
      refine AWl.put (R_strSlice (n := u) (m := i + 1) rfl (.no rfl) rfl (.tmp rfl fun _ => rfl) (.yes (.tmp rfl fun _ => rfl) (fun _ => by first | omega | (simp <;> omega))) (.yes (.tmp rfl fun _ => rfl) (fun _ => by first | omega | (simp <;> omega))) Tryd.underlying9 (fun _ => ⟨by omega, by first | omega | (simp; omega)⟩)) rfl ?_
      refine AWl.adds (R_call 3500 (hdr) rfl rfl rfl (.cons (.tmp rfl fun _ => rfl) rfl .nil) rfl rfl) rfl ?_
      refine AWl.put (R_movet rfl (.no rfl) rfl rfl fun _ => rfl) rfl ?_
      refine AWl.put (R_extract rfl (.no rfl) rfl rfl (fun _ => rfl) rfl) rfl ?_
      refine AWl.put (R_extract rfl (.no rfl) rfl rfl (fun _ => rfl) rfl) rfl ?_
      refine AWl.put (R_extract rfl (.no rfl) rfl rfl (fun _ => rfl) rfl) rfl ?_
      refine AWl.add (R_alloc 10 rfl rfl rfl in24 rfl rfl rfl) rfl ?_
      refine AWl.put (R_assign rfl (.no rfl) rfl (.tmp rfl fun _ => rfl)) rfl ?_
      refine AWl.chgb (R_store_pb rfl rfl rfl (.tmp rfl fun _ => rfl) (.tmp rfl fun _ => rfl) rfl ty24 rfl rfl rfl (by kernel_rfl) rfl) ?_
      refine AWl.le (σ' := ⟨_, [(0, _), (5, _), (6, _), (7, _), (8, _), (9, _), (10, _), (28, _), (38, _)], [(12, _), (13, _), (3500, _), (10, _)]⟩) (Le.sub0 rfl ⟨rfl, rfl, rfl, rfl, rfl, rfl, rfl, rfl, rfl, trivial⟩ ⟨rfl, rfl, rfl, rfl, trivial⟩) ?_
      refine AWl.put (R_assign rfl (.no rfl) rfl (.tmp rfl fun _ => rfl)) rfl ?_
      refine AWl.nil ?_
      refine AW.seq ?_
      refine AW.seq ?_
      refine AW.region ?_
      refine AWl.put (R_move rfl (.no rfl) rfl (.tmp rfl fun _ => rfl)) rfl ?_
      refine AWl.put (R_not rfl (.no rfl) rfl (.tmp rfl fun _ => rfl)) rfl ?_
      refine AWl.put (R_move rfl (.no rfl) rfl (.tmp rfl fun _ => rfl)) rfl ?_
      refine AWl.put (R_move rfl (by first | exact .not1 rfl rfl rfl rfl | exact .not rfl rfl rfl rfl) rfl (.tmp rfl (by first | exact fun _ => rfl | exact id | simp))) rfl ?_
      refine AWl.put ((by first | exact R_lenm rfl (by first | exact .not1 rfl rfl rfl rfl | exact .not rfl rfl rfl rfl) rfl (.tmp rfl (by first | exact fun _ => rfl | exact id | simp)) (by first | exact .t | exact .rf rfl | exact .vw | exact .nil) Tryd.underlying30 | exact R_len rfl (by first | exact .not1 rfl rfl rfl rfl | exact .not rfl rfl rfl rfl) rfl (.tmp rfl (by first | exact fun _ => rfl | exact id | simp)) (by first | exact .t | exact .rf rfl | exact .vw | exact .nil) Tryd.underlying30)) rfl ?_
      refine AWl.put (R_gt rfl (by first | exact .not1 rfl rfl rfl rfl | exact .not rfl rfl rfl rfl) rfl (.tmp rfl (by first | exact fun _ => rfl | exact id | simp)) (.const rfl)) rfl ?_
      refine AWl.put (R_move rfl (by first | exact .not1 rfl rfl rfl rfl | exact .not rfl rfl rfl rfl) rfl (.tmp rfl (by first | exact fun _ => rfl | exact id | simp))) rfl ?_
      refine AWl.put (R_move rfl (by first | exact .yes1 rfl rfl rfl rfl | exact .yes rfl rfl rfl rfl) rfl (.tmp rfl (by first | exact fun _ => rfl | exact id | simp))) rfl ?_
      refine AWl.put (R_move rfl (by first | exact .yes1 rfl rfl rfl rfl | exact .yes rfl rfl rfl rfl) rfl (.tmp rfl (by first | exact fun _ => rfl | exact id | simp))) rfl ?_
      refine AWl.put (R_move rfl (by first | exact .yes1 rfl rfl rfl rfl | exact .yes rfl rfl rfl rfl) rfl (.tmp rfl (by first | exact fun _ => rfl | exact id | simp))) rfl ?_
      refine AWl.put ((by first | exact R_lenm rfl (by first | exact .yes1 rfl rfl rfl rfl | exact .yes rfl rfl rfl rfl) rfl (.tmp rfl (by first | exact fun _ => rfl | exact id | simp)) (by first | exact .t | exact .rf rfl | exact .vw | exact .nil) Tryd.underlying30 | exact R_len rfl (by first | exact .yes1 rfl rfl rfl rfl | exact .yes rfl rfl rfl rfl) rfl (.tmp rfl (by first | exact fun _ => rfl | exact id | simp)) (by first | exact .t | exact .rf rfl | exact .vw | exact .nil) Tryd.underlying30)) rfl ?_
      refine AWl.put (R_sub rfl (by first | exact .yes1 rfl rfl rfl rfl | exact .yes rfl rfl rfl rfl) rfl (.tmp rfl (by first | exact fun _ => rfl | exact id | simp)) (.const rfl) (fun hq => by first | omega | (simp at hq; omega))) rfl ?_
      refine AWl.put ((by first | exact R_indexAddr rfl (by first | exact .yes1 rfl rfl rfl rfl | exact .yes rfl rfl rfl rfl) rfl (.tmp rfl (by first | exact fun _ => rfl | exact id | simp)) (.tmp rfl (by first | exact fun _ => rfl | exact id | simp)) Tryd.underlying30 ty3 (fun hq => ⟨by simp at hq; omega, map_get (last_get (by simp at hq; omega))⟩) | exact R_indexAddr_vw rfl (by first | exact .yes1 rfl rfl rfl rfl | exact .yes rfl rfl rfl rfl) rfl (.tmp rfl (by first | exact fun _ => rfl | exact id | simp)) (.tmp rfl (by first | exact fun _ => rfl | exact id | simp)) Tryd.underlying30 ty3 (fun hq => ⟨by simp at hq; omega, map_get (last_get (by simp at hq; omega))⟩) | exact R_indexAddr_rf rfl (by first | exact .yes1 rfl rfl rfl rfl | exact .yes rfl rfl rfl rfl) rfl (.tmp rfl (by first | exact fun _ => rfl | exact id | simp)) rfl (.tmp rfl (by first | exact fun _ => rfl | exact id | simp)) Tryd.underlying30 ty3 (fun hq => ⟨by simp at hq; omega, map_get (last_get (by simp at hq; omega))⟩))) rfl ?_
      refine AWl.put ((by first | exact R_load rfl (by first | exact .yes1 rfl rfl rfl rfl | exact .yes rfl rfl rfl rfl) rfl (.tmp rfl (by first | exact fun _ => rfl | exact id | simp)) ty3 rfl rfl | exact R_load_pp rfl (by first | exact .yes1 rfl rfl rfl rfl | exact .yes rfl rfl rfl rfl) rfl (.tmp rfl (by first | exact fun _ => rfl | exact id | simp)) rfl ty3 rfl rfl | exact R_load_vw rfl (by first | exact .yes1 rfl rfl rfl rfl | exact .yes rfl rfl rfl rfl) rfl (.tmp rfl (by first | exact fun _ => rfl | exact id | simp)) ty3 rfl rfl | exact R_load_pr rfl (by first | exact .yes1 rfl rfl rfl rfl | exact .yes rfl rfl rfl rfl) rfl (.tmp rfl (by first | exact fun _ => rfl | exact id | simp)) rfl (fun hq => map_get (last_get (by simp at hq; omega))) ty3 rfl rfl | exact R_load_prq rfl (by first | exact .yes1 rfl rfl rfl rfl | exact .yes rfl rfl rfl rfl) rfl (.tmp rfl (by first | exact fun _ => rfl | exact id | simp)) rfl (fun hq => map_get (last_get (by simp at hq; omega))) ty3 rfl rfl)) rfl ?_
      refine AWl.put (R_add rfl (by first | exact .yes1 rfl rfl rfl rfl | exact .yes rfl rfl rfl rfl) rfl (.tmp rfl (by first | exact fun _ => rfl | exact id | simp)) (.const rfl) (fun hq => by first | omega | (simp at hq; omega))) rfl ?_
      refine AWl.put (R_ne rfl (by first | exact .yes1 rfl rfl rfl rfl | exact .yes rfl rfl rfl rfl) rfl (.tmp rfl (by first | exact fun _ => rfl | exact id | simp)) (.tmp rfl (by first | exact fun _ => rfl | exact id | simp))) rfl ?_
      refine AWl.put (R_and rfl (by first | exact .not1 rfl rfl rfl rfl | exact .not rfl rfl rfl rfl) rfl (.tmp rfl (by first | exact fun _ => rfl | exact id | simp)) (.tmp rfl (by first | exact fun _ => rfl | exact id | simp))) rfl ?_
      refine AWl.put (R_or rfl (.no rfl) rfl (.tmp rfl fun _ => rfl) (.tmp rfl (by first | exact fun _ => rfl | exact id | simp))) rfl ?_
      refine AWl.nil ?_
      refine AW.cond (.tmp rfl fun _ => rfl) (fun h56 => ?_) (fun h56 => ?_)
      · skip
        try simp at h56
        refine AW.seq ?_
        refine AW.le (σ' := ⟨_, [(0, _), (5, _), (6, _), (7, _), (8, _), (9, _), (10, _), (11, _)], [(12, _), (13, _), (3500, _), (10, _)]⟩) (Le.sub0 rfl ⟨rfl, rfl, rfl, rfl, rfl, rfl, rfl, rfl, trivial⟩ ⟨rfl, rfl, rfl, rfl, trivial⟩) ?_
        refine AW.region ?_
        refine AWl.put (R_move rfl (.no rfl) rfl (.tmp rfl fun _ => rfl)) rfl ?_
        refine AWl.put (R_move rfl (.no rfl) rfl (.tmp rfl fun _ => rfl)) rfl ?_
        refine AWl.put (R_move rfl (.no rfl) rfl (.tmp rfl fun _ => rfl)) rfl ?_
        refine AWl.put (R_assign rfl (.no rfl) rfl (.tmp rfl fun _ => rfl)) rfl ?_
        refine AWl.put (R_assign rfl (.no rfl) rfl (.tmp rfl fun _ => rfl)) rfl ?_
        refine AWl.put (R_assign rfl (.no rfl) rfl (.tmp rfl fun _ => rfl)) rfl ?_
        refine AWl.nil ?_
        refine AW.ret ?_
        refine Res.many rfl (.tmp rfl (.tmp rfl (.tmp rfl .nil))) rfl ?_ (by simp)
        rw [he.1 (by omega), scan_end hn (fun hg => h56.elim (fun h => by rw [hg] at h; cases h) id)]; rfl
      · skip
        try simp at h56
        have hg : recG (lineS l u (i - u)) = true := h56.1
        have hv : 0 < vs.length → recV (lineS l u (i - u)) = lastI vs + 1 := h56.2
        refine AW.skip ?_
        refine AW.seq ?_
        refine AW.le (σ' := ⟨_, [(0, _), (5, _), (6, _), (7, _), (8, _), (9, _), (10, _), (11, _)], [(12, _), (13, _), (3500, _), (10, _)]⟩) (Le.sub0 rfl ⟨rfl, rfl, rfl, rfl, rfl, rfl, rfl, rfl, trivial⟩ ⟨rfl, rfl, rfl, rfl, trivial⟩) ?_
        refine AW.region ?_
        refine AWl.put (R_move rfl (.no rfl) rfl (.tmp rfl fun _ => rfl)) rfl ?_
        refine AWl.put (R_move rfl (.no rfl) rfl (.tmp rfl fun _ => rfl)) rfl ?_
        refine AWl.absadd (R_list (xs := [.tmp 61]) 62 rfl rfl rfl (.cons (.tmp rfl fun _ => rfl) rfl rfl .nil) Tryd.underlying30 in3 rfl rfl rfl rfl) rfl ?_
        refine AWl.abschgput (R_append_own rfl rfl rfl (.tmp rfl fun _ => rfl) rfl (.tmp rfl fun _ => rfl) rfl rfl Tryd.underlying30 in3 rfl (by first | omega | (simp [chunk]; omega) | (simp only [List.length_map, List.length_append, List.length_cons, List.length_nil, chunk]; omega)) (by first | omega | (unfold maxLen; omega) | (unfold maxLen; simp [chunk]; omega) | (unfold maxLen; simp only [List.length_map, List.length_append, List.length_cons, List.length_nil, chunk]; omega))) rfl ?_
        refine AWl.le (σ' := ⟨_, [(0, _), (5, _), (6, _), (7, _), (8, _), (9, _), (10, _), (11, _), (63, _)], [(12, _), (13, _), (3500, _), (10, _)]⟩) (Le.sub0 rfl ⟨rfl, rfl, rfl, rfl, rfl, rfl, rfl, rfl, rfl, trivial⟩ ⟨rfl, rfl, rfl, rfl, trivial⟩) ?_
        refine AWl.put (R_assign rfl (.no rfl) rfl (.tmp rfl fun _ => rfl)) rfl ?_
        refine AWl.nil ?_
        refine AW.seq ?_
        refine AW.region ?_
        refine AWl.put (R_move rfl (.no rfl) rfl (.tmp rfl fun _ => rfl)) rfl ?_
        refine AWl.put ((by first | exact R_load rfl (.no rfl) rfl (.tmp rfl fun _ => rfl) ty24 rfl rfl | exact R_load_pp rfl (.no rfl) rfl (.tmp rfl fun _ => rfl) rfl ty24 rfl rfl | exact R_load_vw rfl (.no rfl) rfl (.tmp rfl fun _ => rfl) ty24 rfl rfl | exact R_load_pr rfl (.no rfl) rfl (.tmp rfl fun _ => rfl) rfl (by rw [bs_get]; exact hb) ty24 rfl rfl)) rfl ?_
        refine AWl.absadd (R_list (xs := [.tmp 65]) 66 rfl rfl rfl (.cons (.tmp rfl fun _ => rfl) rfl rfl .nil) Tryd.underlying31 in24 rfl rfl rfl rfl) rfl ?_
        refine AWl.abschgput (R_append_own rfl rfl rfl (.tmp rfl fun _ => rfl) rfl (.tmp rfl fun _ => rfl) rfl rfl Tryd.underlying31 in24 rfl (by first | omega | (simp [chunk]; omega) | (simp only [List.length_map, List.length_append, List.length_cons, List.length_nil, chunk]; omega)) (by first | omega | (unfold maxLen; omega) | (unfold maxLen; simp [chunk]; omega) | (unfold maxLen; simp only [List.length_map, List.length_append, List.length_cons, List.length_nil, chunk]; omega))) rfl ?_
        refine AWl.le (σ' := ⟨_, [(0, _), (5, _), (6, _), (7, _), (8, _), (9, _), (10, _), (11, _), (67, _)], [(12, _), (13, _), (10, _)]⟩) (Le.sub0 rfl ⟨rfl, rfl, rfl, rfl, rfl, rfl, rfl, rfl, rfl, trivial⟩ ⟨rfl, rfl, rfl, trivial⟩) ?_
        refine AWl.put (R_assign rfl (.no rfl) rfl (.tmp rfl fun _ => rfl)) rfl ?_
        refine AWl.nil ?_
        refine AW.region ?_
        refine AWl.put (R_move rfl (.no rfl) rfl (.tmp rfl fun _ => rfl)) rfl ?_
        refine AWl.put (R_add rfl (.no rfl) rfl (.tmp rfl fun _ => rfl) (.const rfl) (fun _ => by omega)) rfl ?_
        refine AWl.put (R_assign rfl (.no rfl) rfl (.tmp rfl fun _ => rfl)) rfl ?_
        refine AWl.nil ?_
        refine AW.region ?_
        refine AWl.put (R_move rfl (.no rfl) rfl (.tmp rfl fun _ => rfl)) rfl ?_
        refine AWl.put (R_add rfl (.no rfl) rfl (.tmp rfl fun _ => rfl) (.const rfl) (fun _ => by omega)) rfl ?_
        refine AWl.put (R_assign rfl (.no rfl) rfl (.tmp rfl fun _ => rfl)) rfl ?_
        refine AWl.nil ?_
        repeat (with_reducible refine BlockQ.nor ?_)
        refine Round5.next (i + 1) (i + 1) (vs ++ [recV (lineS l u (i - u))]) (bt ++ [recB (lineS l u (i - u))]) (f - 1) ⟨⟨⟨by omega, by omega⟩, by omega, by simp; omega, by simp [hk.2.2.2.1], line_rng hk.2.2.2.2.1 hg, fun k h1 h2 => by omega⟩, (fun h => by rw [he.1 h, scan_next hn hg hv hk.2.1, show u + (i - u + 1) = i + 1 by omega]), (fun h => by omega)⟩ (by omega) (Le.sub0 rfl ⟨rfl, rfl, rfl, rfl, rfl, trivial⟩ ⟨(by first | rfl | (refine congrArg (fun r => some (R.row _ r)) ?_; simp [chunk, List.map_set, cInt, cBool, cIntS, cPair, cToken, cExpr, cEdge, cGraph, cStep, cWalk, cChange, cBatch, cHistory, cPositions, cAutomaton, cProductStep, cPathAtom, cConjunction, cView, cDelta, cRegistered, cRegistry])), (by first | rfl | (refine congrArg (fun r => some (R.row _ r)) ?_; simp [chunk, List.map_set, cInt, cBool, cIntS, cPair, cToken, cExpr, cEdge, cGraph, cStep, cWalk, cChange, cBatch, cHistory, cPositions, cAutomaton, cProductStep, cPathAtom, cConjunction, cView, cDelta, cRegistered, cRegistry])), trivial⟩)
  · skip
    try simp at h22
    refine AW.exit ?_
    refine AW.seq ?_
    refine AW.le (σ' := ⟨_, [(0, _), (5, _), (6, _), (7, _), (8, _)], [(12, _), (13, _)]⟩) (Le.sub0 rfl ⟨rfl, rfl, rfl, rfl, rfl, trivial⟩ ⟨rfl, rfl, trivial⟩) ?_
    refine AW.region ?_
    refine AWl.put (R_move rfl (.no rfl) rfl (.tmp rfl fun _ => rfl)) rfl ?_
    refine AWl.put (R_move rfl (.no rfl) rfl (.tmp rfl fun _ => rfl)) rfl ?_
    refine AWl.put (R_move rfl (.no rfl) rfl (.tmp rfl fun _ => rfl)) rfl ?_
    refine AWl.put (R_assign rfl (.no rfl) rfl (.tmp rfl fun _ => rfl)) rfl ?_
    refine AWl.put (R_assign rfl (.no rfl) rfl (.tmp rfl fun _ => rfl)) rfl ?_
    refine AWl.put (R_assign rfl (.no rfl) rfl (.tmp rfl fun _ => rfl)) rfl ?_
    refine AWl.nil ?_
    refine AW.ret ?_
    refine Res.many rfl (.tmp rfl (.tmp rfl (.tmp rfl .nil))) rfl ?_ (by simp)
    rcases Nat.lt_or_ge 4000 l.length with hL | hL; (obtain ⟨e1, e2, e3⟩ := he.2 hL; rw [scanL_long hL, e1, e2, e3]; rfl); (have hno : nlAt l u = none := nlAt_none (fun k h1 h2 => hk.2.2.2.2.2 k h1 (by have := (List.getElem?_eq_some_iff.1 h2).1; omega) h2); rw [he.1 hL, scan_none hno]; rfl)
theorem specScanLog (s : ByteArray) (hz : s.size ≤ 1048576) : FnT Tryd.prog 10 [.one (.v (.string s))] (.tup [.one (.sl 1 ((scanL s.data.toList).1.map cInt)), .one (.sl 1 ((scanL s.data.toList).2.1.map cBatch)), .one (.v (.int .i64 ((scanL s.data.toList).2.2 : Nat)))]) := by
  have := specScanLogL s.data.toList (by rw [← bs_size, bs_of]; omega)
  rw [bs_of] at this; exact this
end Go.Proofs.YtoealglkenhphaaDoor
