import Derived.Test.YtoealglkenhphaaGreatAbsTyxb
import Derived.Test.YtoealglkenhphaaGreatB34xb
import Derived.Test.YtoealglkenhphaaGreatB101xb
import Derived.Test.YtoealglkenhphaaGreatB104xb
set_option linter.unusedVariables false
set_option linter.unusedSimpArgs false
namespace Go.D
open Go.Q
def mkInt (_ : Int) (k : Int) : Int := k
def cntInt (_ : Int) : Int := 1
theorem cntInt_nn (x : Int) : 0 ≤ cntInt x := by unfold cntInt; omega
def mkBool (_ : Bool) (k : Int) : Bool := decide (k % 3 = 0)
def cntBool (_ : Bool) : Int := 1
theorem cntBool_nn (x : Bool) : 0 ≤ cntBool x := by unfold cntBool; omega
def mkIntS (x : (List Int)) (k : Int) : (List Int) := mkL mkInt cntInt x k
def cntIntS (x : (List Int)) : Int := cntL cntInt x
theorem cntIntS_nn (x : (List Int)) : 0 ≤ cntIntS x := cntL_nonneg cntInt_nn x
def mkBoolS (x : (List Bool)) (k : Int) : (List Bool) := mkL mkBool cntBool x k
def cntBoolS (x : (List Bool)) : Int := cntL cntBool x
theorem cntBoolS_nn (x : (List Bool)) : 0 ≤ cntBoolS x := cntL_nonneg cntBool_nn x
def mkIntSS (x : (List (List Int))) (k : Int) : (List (List Int)) := mkL mkIntS cntIntS x k
def cntIntSS (x : (List (List Int))) : Int := cntL cntIntS x
theorem cntIntSS_nn (x : (List (List Int))) : 0 ≤ cntIntSS x := cntL_nonneg cntIntS_nn x
def mkEdge (x : TEdge) (k : Int) : TEdge := ⟨k, k + 1, k + 1 + 1, k + 1 + 1 + 1⟩
def cntEdge (x : TEdge) : Int := 1 + 1 + 1 + 1
theorem cntEdge_nn (x : TEdge) : 0 ≤ cntEdge x := by
 unfold cntEdge; omega
def mkEdgeS (x : (List TEdge)) (k : Int) : (List TEdge) := mkL mkEdge cntEdge x k
def cntEdgeS (x : (List TEdge)) : Int := cntL cntEdge x
theorem cntEdgeS_nn (x : (List TEdge)) : 0 ≤ cntEdgeS x := cntL_nonneg cntEdge_nn x
def mpGraph (x : TGraph) (k : Int) : TGraph := ⟨mkIntS x.Values (k), mkEdgeS x.Edges (k + cntIntS x.Values)⟩
def cpGraph (x : TGraph) : Int := cntIntS x.Values + cntEdgeS x.Edges
theorem cpGraph_nn (x : TGraph) : 0 ≤ cpGraph x := by
 have := cntIntS_nn x.Values
 have := cntEdgeS_nn x.Edges
 unfold cpGraph; omega
def mkChange (x : TChange) (k : Int) : TChange := ⟨decide ((k) % 3 = 0), ⟨k + 1, k + 1 + 1, k + 1 + 1 + 1, k + 1 + 1 + 1 + 1⟩⟩
def cntChange (x : TChange) : Int := 1 + 1 + 1 + 1 + 1
theorem cntChange_nn (x : TChange) : 0 ≤ cntChange x := by
 unfold cntChange; omega
def mkChangeS (x : (List TChange)) (k : Int) : (List TChange) := mkL mkChange cntChange x k
def cntChangeS (x : (List TChange)) : Int := cntL cntChange x
theorem cntChangeS_nn (x : (List TChange)) : 0 ≤ cntChangeS x := cntL_nonneg cntChange_nn x
def mpBatch (x : TBatch) (k : Int) : TBatch := ⟨mkChangeS x.Changes (k)⟩
def cpBatch (x : TBatch) : Int := cntChangeS x.Changes
theorem cpBatch_nn (x : TBatch) : 0 ≤ cpBatch x := by
 have := cntChangeS_nn x.Changes
 unfold cpBatch; omega
def mpAutomaton (x : TAutomaton) (k : Int) : TAutomaton := ⟨x.Start, mkBoolS x.Accept (k), mkIntSS x.Next (k + cntBoolS x.Accept)⟩
def cpAutomaton (x : TAutomaton) : Int := 0 + cntBoolS x.Accept + cntIntSS x.Next
theorem cpAutomaton_nn (x : TAutomaton) : 0 ≤ cpAutomaton x := by
 have := cntBoolS_nn x.Accept
 have := cntIntSS_nn x.Next
 unfold cpAutomaton; omega
def mpView (x : TView) (k : Int) : TView := ⟨mpAutomaton x.Automaton (k), x.Source, mkIntS x.Ranks (k + cpAutomaton x.Automaton), mkIntS x.Supports (k + cpAutomaton x.Automaton + cntIntS x.Ranks)⟩
def cpView (x : TView) : Int := cpAutomaton x.Automaton + 0 + cntIntS x.Ranks + cntIntS x.Supports
theorem cpView_nn (x : TView) : 0 ≤ cpView x := by
 have := cntBoolS_nn x.Automaton.Accept
 have := cntIntSS_nn x.Automaton.Next
 have := cntIntS_nn x.Ranks
 have := cntIntS_nn x.Supports
 have := cpAutomaton_nn x.Automaton
 unfold cpView; omega
theorem cntL_bound {α : Type} {c : α → Int} {b : Int} (hb : 0 ≤ b) : ∀ {l : List α}, (∀ y ∈ l, c y ≤ b) → cntL c l ≤ l.length * b
 | [], _ => by simp [cntL]
 | x :: l, h => by
  have h1 := h x (by simp)
  have h2 := cntL_bound (l := l) hb fun y hy => h y (by simp [hy])
  rw [cntL, List.length_cons, Int.natCast_add, Int.add_mul]
  omega
theorem cntL_ok {α : Type} {c : α → Int} {b : Int} {l : List α} (hb : 0 ≤ b) (hl : l.length ≤ 1048576) (h : ∀ y ∈ l, c y ≤ b) : cntL c l ≤ 1048576 * b :=
 Int.le_trans (cntL_bound hb h) (Int.mul_le_mul_of_nonneg_right (by omega) hb)
theorem cntIntS_ok {x : (List Int)} (h : okIntS x) : cntIntS x ≤ 1048576 := Int.le_trans (cntL_ok (b := 1) (by omega) h fun y _ => by simp [cntInt]) (by omega)
theorem cntBoolS_ok {x : (List Bool)} (h : okBoolS x) : cntBoolS x ≤ 1048576 := Int.le_trans (cntL_ok (b := 1) (by omega) h fun y _ => by simp [cntBool]) (by omega)
theorem cntIntSS_ok {x : (List (List Int))} (h : okIntSS x) : cntIntSS x ≤ 1099511627776 := Int.le_trans (cntL_ok (b := 1048576) (by omega) h.1 fun y hy => cntIntS_ok (h.2 y hy)) (by omega)
theorem cntEdgeS_ok {x : (List TEdge)} (h : okEdgeS x) : cntEdgeS x ≤ 4194304 := Int.le_trans (cntL_ok (b := 4) (by omega) h fun y _ => by simp [cntEdge]) (by omega)
theorem cpGraph_ok {x : TGraph} (h : okGraph x) : cpGraph x ≤ 5242880 := by
 have := cntIntS_ok h.1
 have := cntEdgeS_ok h.2.1
 unfold cpGraph; (try simp only [cntInt] at *); omega
theorem cntChangeS_ok {x : (List TChange)} (h : okChangeS x) : cntChangeS x ≤ 5242880 := Int.le_trans (cntL_ok (b := 5) (by omega) h fun y _ => by simp [cntChange, cntEdge]) (by omega)
theorem cpBatch_ok {x : TBatch} (h : okBatch x) : cpBatch x ≤ 5242880 := by
 have := cntChangeS_ok h.1
 unfold cpBatch; (try simp only [cntInt] at *); omega
theorem cpAutomaton_ok {x : TAutomaton} (h : okAutomaton x) : cpAutomaton x ≤ 1099512676352 := by
 have := cntBoolS_ok h.1
 have := cntIntSS_ok h.2.1
 unfold cpAutomaton; (try simp only [cntInt] at *); omega
theorem cpView_ok {x : TView} (h : okView x) : cpView x ≤ 1099514773504 := by
 have := cpAutomaton_ok h.1
 have := cntIntS_ok h.2.1
 have := cntIntS_ok h.2.2.1
 unfold cpView; (try simp only [cntInt, cpAutomaton] at *); omega
end Go.D
set_option linter.unusedVariables false
set_option linter.unusedSimpArgs false
set_option maxHeartbeats 1000000
set_option maxRecDepth 100000
namespace Go.Q
open Go.D
theorem cntL_leN {α : Type} {c : α → Int} {n : Int} : ∀ {l : List α}, (∀ x ∈ l, c x ≤ n) → cntL c l ≤ n * l.length
 | [], _ => by simp [cntL]
 | x :: l, h => by
  rw [cntL, List.length_cons]
  have h1 := h x (by simp)
  have h2 := cntL_leN (l := l) fun y hy => h y (by simp [hy])
  have e : n * ((l.length + 1 : Nat) : Int) = n * (l.length : Int) + n := by simp [Int.mul_add]
  omega
theorem cntIntS_len (l : List Int) : cntIntS l ≤ l.length := by
 have := cntL_leN (c := cntInt) (n := 1) (l := l) fun _ _ => Int.le_refl _
 unfold cntIntS; omega
theorem sup1_len (RK : List Int) (i : Nat) (S : List Int) (k : Int) : (sup1 RK i S k).length = S.length := by
 unfold sup1; split <;> simp
theorem supRow_len (RK : List Int) (i : Nat) : ∀ (l S : List Int), (supRow RK i S l).length = S.length
 | [], _ => rfl
 | k :: l, S => (supRow_len RK i l (sup1 RK i S k)).trans (sup1_len RK i S k)
theorem supAll_len (nx : Nat → List Int) (RK S : List Int) : ∀ n, (supAll nx RK S n).length = S.length
 | 0 => rfl
 | n + 1 => by rw [supAll, supRow_len, supAll_len nx RK S n]
theorem viewOf_cnt {g : TGraph} {a : TAutomaton} (ha : validA a = true) (hg : validG g = true) {x : Int} (hx : 0 ≤ x ∧ x < g.Values.length) : cpView (viewOf g a x) ≤ 4096 := by
 have hA := validA_len ha
 have hN := prod_le ha hg
 have hRK := ranks_ok ha hg hx
 have h1 : cntBoolS a.Accept ≤ 1 * a.Accept.length := cntL_leN (c := cntBool) (n := 1) fun _ _ => Int.le_refl _
 have h2 : cntIntSS a.Next ≤ 9 * a.Next.length := cntL_leN (c := cntIntS) (n := 9) fun r hr => by
  have h3 := cntIntS_len r
  have h4 := validA_rows ha r hr
  omega
 have h3 := cntIntS_len (viewOf g a x).Ranks
 have h4 := cntIntS_len (viewOf g a x).Supports
 have e3 : (viewOf g a x).Ranks.length = a.Accept.length * g.Values.length := hRK.1
 have e4 : (viewOf g a x).Supports.length = a.Accept.length * g.Values.length := by
  show (supportsOf _ _ _).length = _
  unfold supportsOf; rw [supAll_len]; simp
 rw [e3] at h3
 rw [e4] at h4
 have e5 : (viewOf g a x).Automaton = a := rfl
 unfold cpView cpAutomaton
 rw [e5]
 omega
end Go.Q
set_option linter.unusedVariables false
set_option linter.unusedSimpArgs false
set_option maxHeartbeats 1000000
set_option maxRecDepth 100000
namespace Go.Q
open Go.D
end Go.Q
namespace Go.Proofs.YtoealglkenhphaaGreat
open Go.RowKit Go.Q Go.D
theorem specl27Copy (v : TView) (hz : okView v) : FnT Tryz.prog 48 [.agg (cView v)] (.a (.agg (cView v))) := by
 refine FnT.walk Tryz.func48 rfl (by kernel_rfl) Tryz.ntmps48 rfl fun hlen w0 => ?_
 try simp [cEdge, cGraph, cStep, cChange, cBatch, cAutomaton, cProductStep, cView] at hlen
 have hz2 : v.Ranks.length ≤ 1048576 := hz.2.1
 have hz3 : v.Supports.length ≤ 1048576 := hz.2.2.1
 refine AW.sr ?_
 refine AWl.put (R_boxz rfl rfl rfl (.tm rfl) (ts := _) (by rfl)) rfl ?_
 refine AWl.add (R_alloc 2 rfl rfl rfl in38 rfl rfl rfl) rfl ?_
 refine AWl.nil ?_
 refine AW.seq ?_
 refine AW.le (σ' := ⟨_, [(0, _), (1, _), (2, _)], [(2, _)]⟩) (Le.sub0 rfl ⟨rfl, rfl, rfl, trivial⟩ ⟨rfl, trivial⟩) ?_
 refine AW.drawK 14 (nthB [[], [0], [0, 1], [], [3], [], [], [6], [0, 1, 2, 5, 6, 7], [], [], [10], [0, 1, 2, 5, 6, 7, 8, 9, 10, 11], [0, 1, 2, 3, 4, 5, 6, 7, 8, 9, 10, 11, 12]]) [(8, 8), (12, 12)] (by kernel_rfl) (by kernel_rfl) (by kernel_rfl) ?_
 refine DrawK.step (LocK.of rfl fun σ' hs => (by exact R_fieldAddr rfl (.no rfl) (hd_sup hs rfl) (.tm (hs.slots _ _ rfl)) fl38_0)) ?_
 refine DrawK.step (LocK.of rfl fun σ' hs => (by exact R_load rfl (.no rfl) (hd_sup hs rfl) (.tm (hs.slots _ _ rfl)) ty36 rfl rfl)) ?_
 refine DrawK.step (LocK.ofs rfl fun σ' hs hf => R_call 500 (specl11CopyZ v.Automaton hz.1) rfl rfl (hd_sup hs rfl) (.cons (.tm (hs.slots _ _ rfl)) (readA_sup hs rfl) .nil) rfl (all_fresh hf)) ?_
 refine DrawK.step (LocK.of rfl fun σ' hs => (by exact R_fieldAddr rfl (.no rfl) (hd_sup hs rfl) (.tm (hs.slots _ _ rfl)) fl38_1)) ?_
 refine DrawK.step (LocK.of rfl fun σ' hs => (by exact R_load rfl (.no rfl) (hd_sup hs rfl) (.tm (hs.slots _ _ rfl)) ty3 rfl rfl)) ?_
 refine DrawK.step (LocK.of1 rfl fun σ' hs hf => R_empty 8 rfl rfl (hd_sup hs rfl) Tryz.underlying22 ty3 hf) ?_
 refine DrawK.step (LocK.of rfl fun σ' hs => (by exact R_fieldAddr rfl (.no rfl) (hd_sup hs rfl) (.tm (hs.slots _ _ rfl)) fl38_2)) ?_
 refine DrawK.step (LocK.of rfl fun σ' hs => (by exact R_load rfl (.no rfl) (hd_sup hs rfl) (.tm (hs.slots _ _ rfl)) ty22 rfl rfl)) ?_
 refine DrawK.step (LocK.ofc rfl rfl fun σ' hs => R_append (id := 8) rfl rfl (hd_sup hs rfl) (.tm (hs.slots _ _ rfl)) (hs.res _ _ rfl) (.tm (hs.slots _ _ rfl)) (by exact .t) (by exact isV_map (fun _ => rfl) _) Tryz.underlying22 in3 rfl (by (simp [chunk]; omega)) (by (unfold maxLen; simp [chunk]; omega))) ?_
 refine DrawK.step (LocK.of1 rfl fun σ' hs hf => R_empty 12 rfl rfl (hd_sup hs rfl) Tryz.underlying22 ty3 hf) ?_
 refine DrawK.step (LocK.of rfl fun σ' hs => (by exact R_fieldAddr rfl (.no rfl) (hd_sup hs rfl) (.tm (hs.slots _ _ rfl)) fl38_3)) ?_
 refine DrawK.step (LocK.of rfl fun σ' hs => (by exact R_load rfl (.no rfl) (hd_sup hs rfl) (.tm (hs.slots _ _ rfl)) ty22 rfl rfl)) ?_
 refine DrawK.step (LocK.ofc rfl rfl fun σ' hs => R_append (id := 12) rfl rfl (hd_sup hs rfl) (.tm (hs.slots _ _ rfl)) (hs.res _ _ rfl) (.tm (hs.slots _ _ rfl)) (by exact .t) (by exact isV_map (fun _ => rfl) _) Tryz.underlying22 in3 rfl (by (simp [chunk]; omega)) (by (unfold maxLen; simp [chunk]; omega))) ?_
 refine DrawK.step (LocK.of rfl fun σ' hs => R_build (ps := [(0, .tmp 5), (1, .tmp 7), (2, .tmp 11), (3, .tmp 15)]) rfl rfl (hd_sup hs rfl) in38 rfl rfl st38 (.cons (.tm (hs.slots _ _ rfl)) rfl rfl fp38_0 (.cons (.tm (hs.slots _ _ rfl)) rfl rfl fp38_1 (.cons (.tm (hs.slots _ _ rfl)) rfl rfl fp38_2 (.cons (.tm (hs.slots _ _ rfl)) rfl rfl fp38_3 .nil)))) rfl) ?_
 refine DrawK.fin rfl rfl rfl ?_
 refine AWl.le (σ' := ⟨_, [(0, _), (1, _), (2, _), (16, _)], [(2, _), (500, _), (501, _), (8, _), (12, _)]⟩) (Le.sub0 rfl ⟨rfl, rfl, rfl, rfl, trivial⟩ ⟨rfl, rfl, rfl, rfl, rfl, trivial⟩) ?_
 refine AWl.chgb (R_store_pb rfl rfl rfl (.tm rfl) (.tm rfl) rfl ty38 rfl rfl rfl (by kernel_rfl) rfl) ?_
 refine AWl.nil ?_
 refine AW.ret ?_
 refine Res.one rfl (.cell rfl rfl ty38 rfl rfl .nil) rfl ?_
 rfl
end Go.Proofs.YtoealglkenhphaaGreat
set_option linter.unusedVariables false
set_option linter.unusedSimpArgs false
set_option maxHeartbeats 1000000
set_option maxRecDepth 100000
namespace Go.Q
open Go.D
theorem viewAft_few (g : TGraph) (v : TView) (r : TGraph × Bool) (hr : r.2 = true → validG r.1 = true ∧ r.1.Values = g.Values) : cpView (viewAft g v r).1 ≤ cpView v + 4096 := by
 have h0 := cpView_nn v
 unfold viewAft
 split
 ·rename_i hc
  simp only [Bool.and_eq_true] at hc
  have hD := hr hc.1
  have hgd := good_del (validV_parts hc.2) hD.1 hD.2
  obtain ⟨hhg, hha, hhx⟩ := good_parts hgd
  have := viewOf_cnt hha hhg hhx
  show cpView (viewOf _ _ _) ≤ _
  omega
 ·show cpView v ≤ _
  omega
theorem viewUpd_cnt (g : TGraph) (v : TView) (b : TBatch) : cpView (viewAft g v (applyB g b)).1 ≤ cpView v + 4096 := viewAft_few g v _ fun h => ⟨(applyB_valid h).1, (applyB_valid h).2.1⟩
end Go.Q
namespace Go.Proofs.YtoealglkenhphaaGreat
open Go.RowKit Go.Q Go.D
theorem implUpdateView (g : TGraph) (v : TView) (b : TBatch) (hz1 : g.Values.length ≤ 1048576) (hz2 : g.Edges.length ≤ 1048576) (hz : okView v) : FnT Tryz.prog 22 [.agg (cGraph g), .agg (cView v), .agg (cBatch b)] (.tup [.agg (cView (viewAft g v (applyB g b)).1), .one (.v (.bool (viewAft g v (applyB g b)).2))]) := by
 refine FnT.walk Tryz.func22 rfl (by kernel_rfl) Tryz.ntmps22 rfl fun hlen w0 => ?_
 try simp [cEdge, cGraph, cStep, cChange, cBatch, cAutomaton, cProductStep, cView] at hlen
 skip
 refine AW.sr ?_
 refine AWl.put (R_boxz rfl rfl rfl (.tm rfl) (ts := _) (by rfl)) rfl ?_
 refine AWl.put (R_boxz rfl rfl rfl (.tm rfl) (ts := _) (by rfl)) rfl ?_
 refine AWl.put (R_boxz rfl rfl rfl (.tm rfl) (ts := _) (by rfl)) rfl ?_
 refine AWl.add (R_alloc 6 rfl rfl rfl in38 rfl rfl rfl) rfl ?_
 refine AWl.ac rfl rfl rfl rfl rfl ?_
 refine AWl.nil ?_
 refine AW.sr ?_
 refine AWl.put (by exact R_load rfl (.no rfl) rfl (.tm rfl) ty43 rfl rfl) rfl ?_
 refine AWl.put (by exact R_load rfl (.no rfl) rfl (.tm rfl) ty60 rfl rfl) rfl ?_
 refine AWl.put (R_callz (FnT.fr (implApplyBatch g b (by omega) hz2)) rfl (.no rfl) rfl (.cons (.tm rfl) rfl (.cons (.tm rfl) rfl .nil))) rfl ?_
 refine AWl.put (R_movet rfl (.no rfl) rfl rfl fun _ => rfl) rfl ?_
 refine AWl.put (R_extract rfl (.no rfl) rfl rfl (fun _ => rfl) rfl) rfl ?_
 refine AWl.put (R_extract rfl (.no rfl) rfl rfl (fun _ => rfl) rfl) rfl ?_
 refine AWl.add (R_alloc 8 rfl rfl rfl in43 rfl rfl rfl) rfl ?_
 refine AWl.chgb (R_store_pb rfl rfl rfl (.tm rfl) (.tm rfl) rfl ty43 rfl rfl rfl (by kernel_rfl) rfl) ?_
 refine AWl.le (σ' := ⟨_, [(0, _), (1, _), (2, _), (3, _), (4, _), (5, _), (6, _), (7, _), (8, _), (15, _)], [(6, _), (8, _)]⟩) (Le.sub0 rfl ⟨rfl, rfl, rfl, rfl, rfl, rfl, rfl, rfl, rfl, rfl, trivial⟩ ⟨rfl, rfl, trivial⟩) ?_
 refine AWl.av rfl rfl rfl rfl rfl ?_
 refine AWl.nil ?_
 refine AW.sr ?_
 refine AWl.put (by exact R_load rfl (.no rfl) rfl (.tm rfl) ty43 rfl rfl) rfl ?_
 refine AWl.put (by exact R_load rfl (.no rfl) rfl (.tm rfl) ty38 rfl rfl) rfl ?_
 refine AWl.put (by exact R_load_pp rfl (.no rfl) rfl (.tm rfl) rfl ty43 rfl rfl) rfl ?_
 refine AWl.mv rfl rfl rfl rfl rfl ?_
 refine AWl.adds (R_call 2000 (implviewOf g v (applyB g b).1 (applyB g b).2 hz (fun h1 h2 => good_del (validV_parts h2) (applyB_valid h1).1 (applyB_valid h1).2.1)) rfl rfl rfl (.cons (.tm rfl) rfl (.cons (.tm rfl) rfl (.cons (.tm rfl) rfl (.cons (.tm rfl) rfl .nil)))) rfl rfl) rfl ?_
 refine AWl.put (R_extract rfl (.no rfl) rfl rfl (fun _ => rfl) rfl) rfl ?_
 refine AWl.put (R_extract rfl (.no rfl) rfl rfl (fun _ => rfl) rfl) rfl ?_
 refine AWl.chgb (R_store_pb rfl rfl rfl (.tm rfl) (.tm rfl) rfl ty38 rfl rfl rfl (by kernel_rfl) rfl) ?_
 refine AWl.le (σ' := ⟨_, [(0, _), (1, _), (2, _), (3, _), (4, _), (5, _), (6, _), (7, _), (8, _), (9, _), (22, _)], [(6, _), (8, _), (2000, _), (2001, _), (2002, _), (2003, _)]⟩) (Le.sub0 rfl ⟨rfl, rfl, rfl, rfl, rfl, rfl, rfl, rfl, rfl, rfl, rfl, trivial⟩ ⟨rfl, rfl, rfl, rfl, rfl, rfl, trivial⟩) ?_
 refine AWl.av rfl rfl rfl rfl rfl ?_
 refine AWl.nil ?_
 refine AW.ret ?_
 refine Res.many rfl (.cell rfl rfl ty38 rfl rfl (.tmp rfl .nil)) rfl ?_ (by simp)
 rfl
theorem specUpdateView (g : TGraph) (v : TView) (b : TBatch) (hz1 : g.Values.length ≤ 1048576) (hz2 : g.Edges.length ≤ 1048576) (hz : okView v) : FnT Tryz.prog 20 [.agg (cGraph g), .agg (cView v), .agg (cBatch b)] (.tup [.agg (cView (viewAft g v (applyB g b)).1), .one (.v (.bool (viewAft g v (applyB g b)).2))]) := by
 refine FnT.walk Tryz.func20 rfl (by kernel_rfl) Tryz.ntmps20 rfl fun hlen w0 => ?_
 try simp [cEdge, cGraph, cStep, cChange, cBatch, cAutomaton, cProductStep, cView] at hlen
 skip
 refine AW.sr ?_
 refine AWl.put (R_boxz rfl rfl rfl (.tm rfl) (ts := _) (by rfl)) rfl ?_
 refine AWl.put (R_boxz rfl rfl rfl (.tm rfl) (ts := _) (by rfl)) rfl ?_
 refine AWl.put (R_boxz rfl rfl rfl (.tm rfl) (ts := _) (by rfl)) rfl ?_
 refine AWl.add (R_alloc 6 rfl rfl rfl in38 rfl rfl rfl) rfl ?_
 refine AWl.ac rfl rfl rfl rfl rfl ?_
 refine AWl.nil ?_
 refine AW.sr ?_
 refine AWl.put (by exact R_load rfl (.no rfl) rfl (.tm rfl) ty43 rfl rfl) rfl ?_
 refine AWl.put (by exact R_load rfl (.no rfl) rfl (.tm rfl) ty60 rfl rfl) rfl ?_
 refine AWl.put (R_callz (FnT.fr (specApplyBatch g b (by omega) hz2)) rfl (.no rfl) rfl (.cons (.tm rfl) rfl (.cons (.tm rfl) rfl .nil))) rfl ?_
 refine AWl.put (R_movet rfl (.no rfl) rfl rfl fun _ => rfl) rfl ?_
 refine AWl.put (R_extract rfl (.no rfl) rfl rfl (fun _ => rfl) rfl) rfl ?_
 refine AWl.put (R_extract rfl (.no rfl) rfl rfl (fun _ => rfl) rfl) rfl ?_
 refine AWl.add (R_alloc 8 rfl rfl rfl in43 rfl rfl rfl) rfl ?_
 refine AWl.chgb (R_store_pb rfl rfl rfl (.tm rfl) (.tm rfl) rfl ty43 rfl rfl rfl (by kernel_rfl) rfl) ?_
 refine AWl.le (σ' := ⟨_, [(0, _), (1, _), (2, _), (3, _), (4, _), (5, _), (6, _), (7, _), (8, _), (15, _)], [(6, _), (8, _)]⟩) (Le.sub0 rfl ⟨rfl, rfl, rfl, rfl, rfl, rfl, rfl, rfl, rfl, rfl, trivial⟩ ⟨rfl, rfl, trivial⟩) ?_
 refine AWl.av rfl rfl rfl rfl rfl ?_
 refine AWl.nil ?_
 refine AW.seq ?_
 refine AW.sr ?_
 refine AWl.mv rfl rfl rfl rfl rfl ?_
 refine AWl.put (R_not rfl (.no rfl) rfl (.tm rfl)) rfl ?_
 refine AWl.mv rfl rfl rfl rfl rfl ?_
 refine AWl.put (by exact R_load rfl (by exact .not1 rfl rfl rfl rfl) rfl (.tmp rfl (by exact fun _ => rfl)) ty43 rfl rfl) rfl ?_
 refine AWl.put (by exact R_load rfl (by exact .not1 rfl rfl rfl rfl) rfl (.tmp rfl (by exact fun _ => rfl)) ty38 rfl rfl) rfl ?_
 refine AWl.put (R_callz (FnT.fr (specIsValidView g v)) rfl (by exact .not1 rfl rfl rfl rfl) rfl (.cons (.tmp rfl (by exact id)) rfl (.cons (.tmp rfl (by exact id)) rfl .nil))) rfl ?_
 refine AWl.put (R_not rfl (by exact .not1 rfl rfl rfl rfl) rfl (.tmp rfl (by exact id))) rfl ?_
 refine AWl.put (R_or rfl (.no rfl) rfl (.tm rfl) (.tmp rfl (by exact id))) rfl ?_
 refine AWl.nil ?_
 refine AW.cond (.tm rfl) (fun h23 => ?_) (fun h23 => ?_)
 ·skip
  skip
  have hc : ((applyB g b).2 && validV g v) = false := by (have h23' : (!(applyB g b).2 || !validV g v) = true := by simpa [validV] using h23); (cases hk0 : (applyB g b).2 <;> cases hk1 : validV g v <;> simp_all)
  refine AW.seq ?_
  refine AW.le (σ' := ⟨_, [(0, _), (1, _), (2, _), (3, _), (4, _), (5, _), (6, _), (7, _), (8, _), (9, _)], [(6, _), (8, _)]⟩) (Le.sub0 rfl ⟨rfl, rfl, rfl, rfl, rfl, rfl, rfl, rfl, rfl, rfl, trivial⟩ ⟨rfl, rfl, trivial⟩) ?_
  refine AW.region ?_
  refine AWl.put (by exact R_load rfl (.no rfl) rfl (.tm rfl) ty38 rfl rfl) rfl ?_
  refine AWl.adds (R_call 2500 (specl27Copy v hz) rfl rfl rfl (.cons (.tm rfl) rfl .nil) rfl rfl) rfl ?_
  refine AWl.chgb (R_store_pb rfl rfl rfl (.tm rfl) (.tm rfl) rfl ty38 rfl rfl rfl (by kernel_rfl) rfl) ?_
  refine AWl.le (σ' := ⟨_, [(0, _), (1, _), (2, _), (3, _), (4, _), (5, _), (6, _), (7, _), (8, _), (9, _)], [(6, _), (8, _), (2500, _), (2501, _), (2502, _), (2503, _)]⟩) (Le.sub0 rfl ⟨rfl, rfl, rfl, rfl, rfl, rfl, rfl, rfl, rfl, rfl, trivial⟩ ⟨rfl, rfl, rfl, rfl, rfl, rfl, trivial⟩) ?_
  refine AWl.ac rfl rfl rfl rfl rfl ?_
  refine AWl.nil ?_
  refine AW.ret ?_
  refine Res.many rfl (.cell rfl rfl ty38 rfl rfl (.tmp rfl .nil)) rfl ?_ (by simp)
  unfold viewAft; rw [hc]; rfl
 ·skip
  skip
  have hc : (applyB g b).2 = true ∧ validV g v = true := by (have h23' : (!(applyB g b).2 || !validV g v) = false := by simpa [validV] using h23); (cases hk0 : (applyB g b).2 <;> cases hk1 : validV g v <;> simp_all)
  have hD := applyB_valid hc.1
  have hgd := good_del (validV_parts hc.2) hD.1 hD.2.1
  obtain ⟨hhg, hha, hhx⟩ := good_parts hgd
  refine AW.skip ?_
  refine AW.seq ?_
  refine AW.le (σ' := ⟨_, [(0, _), (1, _), (2, _), (3, _), (4, _), (5, _), (6, _), (7, _), (8, _), (9, _)], [(6, _), (8, _)]⟩) (Le.sub0 rfl ⟨rfl, rfl, rfl, rfl, rfl, rfl, rfl, rfl, rfl, rfl, trivial⟩ ⟨rfl, rfl, trivial⟩) ?_
  refine AW.region ?_
  refine AWl.put (by exact R_load_pp rfl (.no rfl) rfl (.tm rfl) rfl ty43 rfl rfl) rfl ?_
  refine AWl.put (by exact R_fieldAddr rfl (.no rfl) rfl (.tm rfl) fl38_0) rfl ?_
  refine AWl.put (by exact R_load rfl (.no rfl) rfl (.tm rfl) ty36 rfl rfl) rfl ?_
  refine AWl.put (by exact R_fieldAddr rfl (.no rfl) rfl (.tm rfl) fl38_1) rfl ?_
  refine AWl.put (by exact R_load rfl (.no rfl) rfl (.tm rfl) ty3 rfl rfl) rfl ?_
  refine AWl.adds (R_call 3100 (specl27Build (applyB g b).1 v.Automaton hha hhg v.Source hhx) rfl rfl rfl (.cons (.tm rfl) rfl (.cons (.tm rfl) rfl (.cons (.tm rfl) rfl .nil))) rfl rfl) rfl ?_
  refine AWl.chgb (R_store_pb rfl rfl rfl (.tm rfl) (.tm rfl) rfl ty38 rfl rfl rfl (by kernel_rfl) rfl) ?_
  refine AWl.le (σ' := ⟨_, [(0, _), (1, _), (2, _), (3, _), (4, _), (5, _), (6, _), (7, _), (8, _), (9, _)], [(6, _), (8, _), (3100, _), (3101, _), (3102, _), (3103, _)]⟩) (Le.sub0 rfl ⟨rfl, rfl, rfl, rfl, rfl, rfl, rfl, rfl, rfl, rfl, trivial⟩ ⟨rfl, rfl, rfl, rfl, rfl, rfl, trivial⟩) ?_
  refine AWl.ac rfl rfl rfl rfl rfl ?_
  refine AWl.nil ?_
  refine AW.ret ?_
  refine Res.many rfl (.cell rfl rfl ty38 rfl rfl (.tmp rfl .nil)) rfl ?_ (by simp)
  unfold viewAft; rw [if_pos (show ((applyB g b).2 && validV g v) = true by rw [hc.1, hc.2]; rfl)]; rfl
end Go.Proofs.YtoealglkenhphaaGreat
