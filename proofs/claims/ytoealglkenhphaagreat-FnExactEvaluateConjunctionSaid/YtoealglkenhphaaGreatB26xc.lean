import Derived.Test.YtoealglkenhphaaGreatAbsFxc
import Derived.Test.YtoealglkenhphaaGreatTr2xc
import Derived.Test.YtoealglkenhphaaGreatStdxc
set_option linter.unusedVariables false
set_option linter.unusedSimpArgs false
set_option maxHeartbeats 1000000
set_option maxRecDepth 100000
namespace Go.Q
open Go.D
def atomOk (n : Int) (a : TPathAtom) : Bool := inB a.From 0 (n - 1) && inB a.To 0 (n - 1) && isValidExpr a.Expr
def seenV (l : List TPathAtom) (v : Nat) : Bool := l.any fun a => decide (a.From = v) || decide (a.To = v)
def validConj (q : TConjunction) : Bool := (inB q.VariableCount 1 4 && inB q.Atoms.length 1 4) && q.Atoms.all (atomOk q.VariableCount) && (List.range q.VariableCount.toNat).all (seenV q.Atoms)
theorem atomOk_r {n : Int} {a : TPathAtom} (h : atomOk n a = true) : (0 ≤ a.From ∧ a.From < n) ∧ (0 ≤ a.To ∧ a.To < n) := by
 unfold atomOk inB at h
 simp only [Bool.and_eq_true, decide_eq_true_eq] at h
 omega
theorem seenV_snoc (l : List TPathAtom) (a : TPathAtom) (v : Nat) : seenV (l ++ [a]) v = (seenV l v || (decide (a.From = v) || decide (a.To = v))) := by
 unfold seenV; simp
theorem seenV_set {l : List TPathAtom} {a : TPathAtom} {n : Nat} (h1 : 0 ≤ a.From ∧ a.From < n) (h2 : 0 ≤ a.To ∧ a.To < n) :
 (((List.range n).map (seenV l)).set a.From.toNat true).set a.To.toNat true = (List.range n).map (seenV (l ++ [a])) := by
 apply List.ext_getElem?
 intro i
 simp only [List.getElem?_set, List.getElem?_map, List.length_set, List.length_map, List.length_range]
 by_cases hi : i < n
 · rw [List.getElem?_range hi]
   simp only [Option.map_some, seenV_snoc]
   by_cases e2 : a.To.toNat = i
   · rw [if_pos e2, if_pos (by omega)]
     have : a.To = i := by omega
     simp [this]
   · rw [if_neg e2]
     by_cases e1 : a.From.toNat = i
     · rw [if_pos e1, if_pos (by omega)]
       have : a.From = i := by omega
       simp [this]
     · rw [if_neg e1]
       have h3 : ¬ a.From = i := by omega
       have h4 : ¬ a.To = i := by omega
       simp [h3, h4]
 · have e : (List.range n)[i]? = none := by rw [List.getElem?_eq_none]; simpa using hi
   rw [e]
   rw [if_neg (by omega), if_neg (by omega)]
   rfl
theorem seenV_out {n : Int} {l : List TPathAtom} (h : l.all (atomOk n) = true) {v : Nat} (hv : n ≤ v) : seenV l v = false := by
 unfold seenV
 rw [List.any_eq_false]
 intro a ha
 have := atomOk_r (List.all_eq_true.1 h a ha)
 simp; omega
theorem pow_small {m : Int} (h0 : 0 ≤ m) (h : m ≤ 4) : (1 : Int) * 2 ^ m.toNat ≤ 16 ∧ 1 ≤ (1 : Int) * 2 ^ m.toNat ∧ ((1 : Int) * 2 ^ m.toNat).toNat = 2 ^ m.toNat := by
 have hm : m = 0 ∨ m = 1 ∨ m = 2 ∨ m = 3 ∨ m = 4 := by omega
 rcases hm with rfl | rfl | rfl | rfl | rfl <;> decide
theorem mask_all {n : Int} {M : Nat} {l : List TPathAtom} (hn : 1 ≤ n ∧ n ≤ 4) (h : l.all (atomOk n) = true) (hM : ∀ v, M.testBit v = seenV l v) : decide ((M : Int) = (1 : Int) * 2 ^ n.toNat - 1) = (List.range n.toNat).all (seenV l) := by
 have hp := pow_small (m := n) (by omega) (by omega)
 have e : ((M : Int) = (1 : Int) * 2 ^ n.toNat - 1) ↔ M = 2 ^ n.toNat - 1 := by
  rw [← hp.2.2]; omega
 rw [decide_eq_decide.2 e, Bool.eq_iff_iff, decide_eq_true_eq, List.all_eq_true]
 constructor
 · rintro rfl v hv
   rw [← hM, Nat.testBit_two_pow_sub_one]
   simpa using List.mem_range.1 hv
 · intro ha
   apply Nat.eq_of_testBit_eq
   intro v
   rw [hM, Nat.testBit_two_pow_sub_one]
   by_cases hv : v < n.toNat
   · rw [ha v (List.mem_range.2 hv)]; simp [hv]
   · rw [seenV_out h (by omega)]; simp [hv]
theorem contains_all {n : Nat} {p : Nat → Bool} : (!decide (false ∈ (List.range n).map p)) = (List.range n).all p := by
 rw [Bool.eq_iff_iff, List.all_eq_true]
 simp only [Bool.not_eq_true', decide_eq_false_iff_not, List.mem_map, not_exists, not_and]
 constructor
 · intro h v hv
   have := h v hv
   simpa using this
 · intro h v hv e
   rw [h v hv] at e; cases e
end Go.Q
namespace Go.Proofs.YtoealglkenhphaaGreat
open Go.RowKit Go.Q Go.D
theorem specIsValidConjunction (q : TConjunction) : FnT Tryz.prog 80 [.agg (cConjunction q)] (.a (.one (.v (.bool (validConj q))))) := by
 refine FnT.walk Tryz.func80 rfl (by kernel_rfl) Tryz.ntmps80 rfl fun hlen w0 => ?_
 try simp [cPair, cToken, cExpr, cEdge, cGraph, cStep, cWalk, cChange, cBatch, cHistory, cPositions, cAutomaton, cProductStep, cPathAtom, cConjunction, cView, cDelta, cRegistered, cRegistry] at hlen
 refine AW.seq ?_
 refine AW.region ?_
 refine AWl.put (R_boxz rfl rfl rfl (.tmp rfl fun _ => rfl) (ts := _) (by rfl)) rfl ?_
 refine AWl.put (R_assign rfl (.no rfl) rfl (.const rfl)) rfl ?_
 refine AWl.nil (AW.seq ?_)
 refine AW.seq ?_
 refine AW.region ?_
 refine AWl.put (by exact R_fieldAddr rfl (.no rfl) rfl (.tmp rfl fun _ => rfl) fl87_0) rfl ?_
 refine AWl.put (by exact R_load rfl (.no rfl) rfl (.tmp rfl fun _ => rfl) ty3 rfl rfl) rfl ?_
 refine AWl.put (R_callz (FnT.fr (specl1In _ _ _)) rfl (.no rfl) rfl (.cons (.tmp rfl fun _ => rfl) rfl (.cons (.const rfl) rfl (.cons (.const rfl) rfl .nil)))) rfl ?_
 refine AWl.put (R_not rfl (.no rfl) rfl (.tmp rfl fun _ => rfl)) rfl ?_
 refine AWl.put (R_move rfl (.no rfl) rfl (.tmp rfl fun _ => rfl)) rfl ?_
 refine AWl.put (by exact R_fieldAddr rfl (by exact .not1 rfl rfl rfl rfl) rfl (.tmp rfl (by exact fun _ => rfl)) fl87_1) rfl ?_
 refine AWl.put (by exact R_load rfl (by exact .not1 rfl rfl rfl rfl) rfl (.tmp rfl (by exact id)) ty85 rfl rfl) rfl ?_
 refine AWl.put (by exact R_lenm rfl (by exact .not1 rfl rfl rfl rfl) rfl (.tmp rfl (by exact id)) (by exact .t) Tryz.underlying85) rfl ?_
 refine AWl.put (R_callz (FnT.fr (specl1In _ _ _)) rfl (by exact .not1 rfl rfl rfl rfl) rfl (.cons (.tmp rfl (by exact id)) rfl (.cons (.const rfl) rfl (.cons (.const rfl) rfl .nil)))) rfl ?_
 refine AWl.put (R_not rfl (by exact .not1 rfl rfl rfl rfl) rfl (.tmp rfl (by exact id))) rfl ?_
 refine AWl.put (R_or rfl (.no rfl) rfl (.tmp rfl fun _ => rfl) (.tmp rfl (by exact id))) rfl ?_
 refine AWl.nil ?_
 refine AW.cond (.tmp rfl fun _ => rfl) (fun h16 => ?_) (fun h16 => ?_)
 · skip
   try simp at h16
   have hw : validConj q = false := by unfold validConj; grind
   refine AW.seq ?_
   refine AW.le (σ' := ⟨_, [(0, _), (1, _), (2, _)], []⟩) (Le.sub0 rfl ⟨rfl, rfl, rfl, trivial⟩ trivial) ?_
   refine AW.region ?_
   refine AWl.put (R_assign rfl (.no rfl) rfl (.const rfl)) rfl ?_
   refine AWl.nil (AW.ret ?_)
   refine Res.v rfl rfl ?_
   rw [hw]
 · skip
   try simp at h16
   have hw : (inB q.VariableCount 1 4 && inB q.Atoms.length 1 4) = true := by grind
   have hn : 1 ≤ q.VariableCount ∧ q.VariableCount ≤ 4 := by unfold inB at hw; simp at hw; omega
   refine AW.skip ?_
   refine AW.seq ?_
   refine AW.le (σ' := ⟨_, [(0, _), (1, _), (2, _)], []⟩) (Le.sub0 rfl ⟨rfl, rfl, rfl, trivial⟩ trivial) ?_
   refine AW.region ?_
   refine AWl.put (R_assign rfl (.no rfl) rfl (.const rfl)) rfl ?_
   refine AWl.nil (AW.seq ?_)
   refine AW.seq ?_
   refine AW.region ?_
   refine AWl.put (R_assign rfl (.no rfl) rfl (.const rfl)) rfl ?_
   refine AWl.nil (AW.block ?_)
   refine AW.loop2 (fun (k : Nat) (M : Nat) => (k ≤ q.Atoms.length ∧ M < 32 ∧ ∀ j y, j < k → q.Atoms[j]? = some y → atomOk q.VariableCount y = true) ∧ (∀ v, M.testBit v = seenV (q.Atoms.take k) v)) (fun (k : Nat) (M : Nat) => ⟨_, [(4, (true, .a (.one (.t (.v (.int .i64 (k : Nat))))))), (3, (true, .a (.one (.t (.v (.int .i64 (M : Nat))))))), (1, _)], []⟩) (fun (k : Nat) (M : Nat) => q.Atoms.length - k) (0) (0) ⟨⟨by simp, by simp, by simp⟩, by simp [seenV]⟩ (Le.sub0 rfl ⟨rfl, rfl, rfl, trivial⟩ trivial) ?_
   rintro k M ⟨hk, he⟩
   refine AW.seq ?_
   refine AW.seq ?_
   refine AW.region ?_
   refine AWl.put (R_move rfl (.no rfl) rfl (.tmp rfl fun _ => rfl)) rfl ?_
   refine AWl.put (by exact R_fieldAddr rfl (.no rfl) rfl (.tmp rfl fun _ => rfl) fl87_1) rfl ?_
   refine AWl.put (by exact R_load rfl (.no rfl) rfl (.tmp rfl fun _ => rfl) ty85 rfl rfl) rfl ?_
   refine AWl.put (by exact R_lenm rfl (.no rfl) rfl (.tmp rfl fun _ => rfl) (by exact .t) Tryz.underlying85) rfl ?_
   refine AWl.put (R_lt rfl (.no rfl) rfl (.tmp rfl fun _ => rfl) (.tmp rfl fun _ => rfl)) rfl ?_
   refine AWl.nil ?_
   refine AW.cond (.tmp rfl fun _ => rfl) (fun hlt => ?_) (fun hlt => ?_)
   · skip
     try simp at hlt
     obtain ⟨x, hx⟩ : ∃ x, q.Atoms[k]? = some x := ⟨_, List.getElem?_eq_getElem (by omega)⟩
     refine AW.skip ?_
     refine AW.seq ?_
     refine AW.block ?_
     refine AW.seq ?_
     refine AW.region ?_
     refine AWl.put (by exact R_fieldAddr rfl (.no rfl) rfl (.tmp rfl fun _ => rfl) fl87_1) rfl ?_
     refine AWl.put (by exact R_load rfl (.no rfl) rfl (.tmp rfl fun _ => rfl) ty85 rfl rfl) rfl ?_
     refine AWl.put (R_move rfl (.no rfl) rfl (.tmp rfl fun _ => rfl)) rfl ?_
     refine AWl.put ((by exact R_indexAddr rfl (.no rfl) rfl (.tmp rfl fun _ => rfl) (.tmp rfl fun _ => rfl) Tryz.underlying85 ty129 (fun _ => ⟨by omega, (by exact map_get (by assumption))⟩))) rfl ?_
     refine AWl.put (by exact R_load rfl (.no rfl) rfl (.tmp rfl fun _ => rfl) ty129 rfl rfl) rfl ?_
     refine AWl.add (R_alloc 5 rfl rfl rfl in129 rfl rfl rfl) rfl ?_
     refine AWl.chgb (R_store_pb rfl rfl rfl (.tmp rfl fun _ => rfl) (.tmp rfl fun _ => rfl) rfl ty129 rfl rfl rfl (by kernel_rfl) rfl) ?_
     refine AWl.nil (AW.seq ?_)
     refine AW.seq ?_
     refine AW.le (σ' := ⟨_, [(1, _), (3, _), (4, _), (5, _)], [(5, _)]⟩) (Le.sub0 rfl ⟨rfl, rfl, rfl, rfl, trivial⟩ ⟨rfl, trivial⟩) ?_
     refine AW.region ?_
     refine AWl.put (by exact R_fieldAddr_pp rfl (.no rfl) rfl (.tmp rfl fun _ => rfl) fl129_0) rfl ?_
     refine AWl.put (by exact R_load_pp rfl (.no rfl) rfl (.tmp rfl fun _ => rfl) rfl ty3 rfl rfl) rfl ?_
     refine AWl.put (by exact R_fieldAddr rfl (.no rfl) rfl (.tmp rfl fun _ => rfl) fl87_0) rfl ?_
     refine AWl.put (by exact R_load rfl (.no rfl) rfl (.tmp rfl fun _ => rfl) ty3 rfl rfl) rfl ?_
     refine AWl.put (R_sub rfl (.no rfl) rfl (.tmp rfl fun _ => rfl) (.const rfl) (fun _ => by omega)) rfl ?_
     refine AWl.put (R_callz (FnT.fr (specl1In _ _ _)) rfl (.no rfl) rfl (.cons (.tmp rfl fun _ => rfl) rfl (.cons (.const rfl) rfl (.cons (.tmp rfl fun _ => rfl) rfl .nil)))) rfl ?_
     refine AWl.put (R_not rfl (.no rfl) rfl (.tmp rfl fun _ => rfl)) rfl ?_
     refine AWl.put (R_move rfl (.no rfl) rfl (.tmp rfl fun _ => rfl)) rfl ?_
     refine AWl.put (by exact R_fieldAddr_pp rfl (by exact .not1 rfl rfl rfl rfl) rfl (.tmp rfl (by exact fun _ => rfl)) fl129_1) rfl ?_
     refine AWl.put (by exact R_load_pp rfl (by exact .not1 rfl rfl rfl rfl) rfl (.tmp rfl (by exact id)) rfl ty3 rfl rfl) rfl ?_
     refine AWl.put (by exact R_fieldAddr rfl (by exact .not1 rfl rfl rfl rfl) rfl (.tmp rfl (by exact fun _ => rfl)) fl87_0) rfl ?_
     refine AWl.put (by exact R_load rfl (by exact .not1 rfl rfl rfl rfl) rfl (.tmp rfl (by exact id)) ty3 rfl rfl) rfl ?_
     refine AWl.put (R_sub rfl (by exact .not1 rfl rfl rfl rfl) rfl (.tmp rfl (by exact id)) (.const rfl) (fun hq => by first | omega | (simp at hq; omega))) rfl ?_
     refine AWl.put (R_callz (FnT.fr (specl1In _ _ _)) rfl (by exact .not1 rfl rfl rfl rfl) rfl (.cons (.tmp rfl (by exact id)) rfl (.cons (.const rfl) rfl (.cons (.tmp rfl (by exact id)) rfl .nil)))) rfl ?_
     refine AWl.put (R_not rfl (by exact .not1 rfl rfl rfl rfl) rfl (.tmp rfl (by exact id))) rfl ?_
     refine AWl.put (R_or rfl (.no rfl) rfl (.tmp rfl fun _ => rfl) (.tmp rfl (by exact id))) rfl ?_
     refine AWl.put (R_move rfl (.no rfl) rfl (.tmp rfl fun _ => rfl)) rfl ?_
     refine AWl.put (by exact R_fieldAddr_pp rfl (by exact .not1 rfl rfl rfl rfl) rfl (.tmp rfl (by exact fun _ => rfl)) fl129_2) rfl ?_
     refine AWl.put (by exact R_load_pp rfl (by exact .not1 rfl rfl rfl rfl) rfl (.tmp rfl (by exact id)) rfl ty73 rfl rfl) rfl ?_
     refine AWl.put (R_callz (FnT.fr (specIsValidExpr _)) rfl (by exact .not1 rfl rfl rfl rfl) rfl (.cons (.tmp rfl (by exact id)) rfl .nil)) rfl ?_
     refine AWl.put (R_not rfl (by exact .not1 rfl rfl rfl rfl) rfl (.tmp rfl (by exact id))) rfl ?_
     refine AWl.put (R_or rfl (.no rfl) rfl (.tmp rfl fun _ => rfl) (.tmp rfl (by exact id))) rfl ?_
     refine AWl.nil ?_
     refine AW.cond (.tmp rfl fun _ => rfl) (fun h50 => ?_) (fun h50 => ?_)
     · skip
       try simp at h50
       have hno : atomOk q.VariableCount x = false := by unfold atomOk; grind
       refine AW.seq ?_
       refine AW.le (σ' := ⟨_, [(1, _), (3, _), (4, _), (5, _)], [(5, _)]⟩) (Le.sub0 rfl ⟨rfl, rfl, rfl, rfl, trivial⟩ ⟨rfl, trivial⟩) ?_
       refine AW.region ?_
       refine AWl.put (R_assign rfl (.no rfl) rfl (.const rfl)) rfl ?_
       refine AWl.nil (AW.ret ?_)
       refine Res.v rfl rfl ?_
       unfold validConj; rw [not_all hx hno]; simp
     · skip
       try simp at h50
       have hok : atomOk q.VariableCount x = true := by unfold atomOk; grind
       have hr := atomOk_r hok
       have hp1 := pow_small (m := x.From) (by omega) (by omega)
       have hp2 := pow_small (m := x.To) (by omega) (by omega)
       have hb1 : (M : Int).toNat ||| ((1 : Int) * 2 ^ x.From.toNat).toNat < 2 ^ 5 := Nat.or_lt_two_pow (by omega) (by omega)
       have hb2 : (((M : Int).toNat ||| ((1 : Int) * 2 ^ x.From.toNat).toNat : Nat) : Int).toNat ||| ((1 : Int) * 2 ^ x.To.toNat).toNat < 2 ^ 5 := Nat.or_lt_two_pow (by omega) (by omega)
       refine AW.skip ?_
       refine AW.le (σ' := ⟨_, [(1, _), (3, _), (4, _), (5, _)], [(5, _)]⟩) (Le.sub0 rfl ⟨rfl, rfl, rfl, rfl, trivial⟩ ⟨rfl, trivial⟩) ?_
       refine AW.drawn 9 (nthB [[], [], [1], [1, 2], [0, 1, 2, 3], [], [5], [5, 6], [0, 1, 2, 3, 4, 5, 6, 7]]) (by kernel_rfl) (by kernel_rfl) (by kernel_rfl) ?_
       refine DrawC.step rfl rfl rfl (Loc.of rfl fun σ' hs => R_move rfl (.no rfl) (hd_sup hs rfl) (.tmp (hs.slots _ _ rfl) fun _ => rfl)) ?_
       refine DrawC.step rfl rfl rfl (Loc.of rfl fun σ' hs => (by exact R_fieldAddr_pp rfl (.no rfl) (hd_sup hs rfl) (.tmp (hs.slots _ _ rfl) fun _ => rfl) fl129_0)) ?_
       refine DrawC.step rfl rfl rfl (Loc.of rfl fun σ' hs => (by exact R_load_pp rfl (.no rfl) (hd_sup hs rfl) (.tmp (hs.slots _ _ rfl) fun _ => rfl) (hs.res _ _ rfl) ty3 rfl rfl)) ?_
       refine DrawC.step rfl rfl rfl (Loc.of rfl fun σ' hs => R_shl1 rfl (.no rfl) (hd_sup hs rfl) (.const rfl) (.tmp (hs.slots _ _ rfl) fun _ => rfl) (fun _ => ⟨by omega, by omega, by omega, by omega⟩)) ?_
       refine DrawC.step rfl rfl rfl (Loc.of rfl fun σ' hs => R_or_int rfl (.no rfl) (hd_sup hs rfl) (.tmp (hs.slots _ _ rfl) fun _ => rfl) (.tmp (hs.slots _ _ rfl) fun _ => rfl) (fun _ => ⟨by omega, by omega, by omega, by omega⟩)) ?_
       refine DrawC.step rfl rfl rfl (Loc.of rfl fun σ' hs => (by exact R_fieldAddr_pp rfl (.no rfl) (hd_sup hs rfl) (.tmp (hs.slots _ _ rfl) fun _ => rfl) fl129_1)) ?_
       refine DrawC.step rfl rfl rfl (Loc.of rfl fun σ' hs => (by exact R_load_pp rfl (.no rfl) (hd_sup hs rfl) (.tmp (hs.slots _ _ rfl) fun _ => rfl) (hs.res _ _ rfl) ty3 rfl rfl)) ?_
       refine DrawC.step rfl rfl rfl (Loc.of rfl fun σ' hs => R_shl1 rfl (.no rfl) (hd_sup hs rfl) (.const rfl) (.tmp (hs.slots _ _ rfl) fun _ => rfl) (fun _ => ⟨by omega, by omega, by omega, by omega⟩)) ?_
       refine DrawC.step rfl rfl rfl (Loc.of rfl fun σ' hs => R_or_int rfl (.no rfl) (hd_sup hs rfl) (.tmp (hs.slots _ _ rfl) fun _ => rfl) (.tmp (hs.slots _ _ rfl) fun _ => rfl) (fun _ => ⟨by omega, by omega, by omega, by omega⟩)) ?_
       refine DrawC.fin rfl rfl ?_
       refine AWl.put (R_assign rfl (.no rfl) rfl (.tmp rfl fun _ => rfl)) rfl ?_
       refine AWl.nil ?_
       refine AW.le (σ' := ⟨_, [(1, _), (3, _), (4, _), (5, _)], [(5, _)]⟩) (Le.sub0 rfl ⟨rfl, rfl, rfl, rfl, trivial⟩ ⟨rfl, trivial⟩) ?_
       refine AW.region ?_
       refine AWl.put (R_move rfl (.no rfl) rfl (.tmp rfl fun _ => rfl)) rfl ?_
       refine AWl.put (R_add rfl (.no rfl) rfl (.tmp rfl fun _ => rfl) (.const rfl) (fun _ => by omega)) rfl ?_
       refine AWl.put (R_assign rfl (.no rfl) rfl (.tmp rfl fun _ => rfl)) rfl ?_
       refine AWl.nil ?_
       repeat (with_reducible refine BlockQ.nor ?_)
       refine Round2.next (k + 1) ((((M : Int).toNat ||| ((1 : Int) * 2 ^ x.From.toNat).toNat : Nat) : Int).toNat ||| ((1 : Int) * 2 ^ x.To.toNat).toNat) ⟨by exact ⟨by omega, by omega, each_succ hk.2.2 hx hok⟩, fun v => by rw [take_at hx, seenV_snoc, ← he v, hp2.2.2, Nat.testBit_or, Nat.testBit_two_pow]; simp only [Int.toNat_natCast]; rw [hp1.2.2, Nat.testBit_or, Nat.testBit_two_pow, Bool.or_assoc]; congr 2; apply decide_eq_decide.2; omega; apply decide_eq_decide.2; omega⟩ (by omega) (Le.sub0 rfl ⟨rfl, rfl, rfl, trivial⟩ trivial)
   · skip
     try simp at hlt
     have hp := pow_small (m := q.VariableCount) (by omega) (by omega)
     refine AW.exit ?_
     refine AW.seq ?_
     refine AW.region ?_
     refine AWl.put (R_move rfl (.no rfl) rfl (.tmp rfl fun _ => rfl)) rfl ?_
     refine AWl.put (by exact R_fieldAddr rfl (.no rfl) rfl (.tmp rfl fun _ => rfl) fl87_0) rfl ?_
     refine AWl.put (by exact R_load rfl (.no rfl) rfl (.tmp rfl fun _ => rfl) ty3 rfl rfl) rfl ?_
     refine AWl.put (R_shl1 rfl (.no rfl) rfl (.const rfl) (.tmp rfl fun _ => rfl) (fun _ => ⟨by omega, by omega, by omega, by omega⟩)) rfl ?_
     refine AWl.put (R_sub rfl (.no rfl) rfl (.tmp rfl fun _ => rfl) (.const rfl) (fun _ => by omega)) rfl ?_
     refine AWl.put (R_eq rfl (.no rfl) rfl (.tmp rfl fun _ => rfl) (.tmp rfl fun _ => rfl)) rfl ?_
     refine AWl.put (R_assign rfl (.no rfl) rfl (.tmp rfl fun _ => rfl)) rfl ?_
     refine AWl.nil (AW.ret ?_)
     refine Res.v rfl rfl ?_
     unfold validConj; have ha := each_all hk.2.2 (show q.Atoms.length ≤ k by omega); rw [List.take_of_length_le (by omega)] at he; rw [mask_all hn ha he, hw, ha]; rfl
theorem implIsValidConjunction (q : TConjunction) : FnT Tryz.prog 85 [.agg (cConjunction q)] (.a (.one (.v (.bool (validConj q))))) := by
 refine FnT.walk Tryz.func85 rfl (by kernel_rfl) Tryz.ntmps85 rfl fun hlen w0 => ?_
 try simp [cPair, cToken, cExpr, cEdge, cGraph, cStep, cWalk, cChange, cBatch, cHistory, cPositions, cAutomaton, cProductStep, cPathAtom, cConjunction, cView, cDelta, cRegistered, cRegistry] at hlen
 refine AW.seq ?_
 refine AW.region ?_
 refine AWl.put (R_boxz rfl rfl rfl (.tmp rfl fun _ => rfl) (ts := _) (by rfl)) rfl ?_
 refine AWl.put (R_assign rfl (.no rfl) rfl (.const rfl)) rfl ?_
 refine AWl.nil (AW.seq ?_)
 refine AW.seq ?_
 refine AW.region ?_
 refine AWl.put (by exact R_fieldAddr rfl (.no rfl) rfl (.tmp rfl fun _ => rfl) fl87_0) rfl ?_
 refine AWl.put (by exact R_load rfl (.no rfl) rfl (.tmp rfl fun _ => rfl) ty3 rfl rfl) rfl ?_
 refine AWl.put (R_callz (FnT.fr (implwithin _ _ _)) rfl (.no rfl) rfl (.cons (.tmp rfl fun _ => rfl) rfl (.cons (.const rfl) rfl (.cons (.const rfl) rfl .nil)))) rfl ?_
 refine AWl.put (R_not rfl (.no rfl) rfl (.tmp rfl fun _ => rfl)) rfl ?_
 refine AWl.put (R_move rfl (.no rfl) rfl (.tmp rfl fun _ => rfl)) rfl ?_
 refine AWl.put (by exact R_fieldAddr rfl (by exact .not1 rfl rfl rfl rfl) rfl (.tmp rfl (by exact fun _ => rfl)) fl87_1) rfl ?_
 refine AWl.put (by exact R_load rfl (by exact .not1 rfl rfl rfl rfl) rfl (.tmp rfl (by exact id)) ty85 rfl rfl) rfl ?_
 refine AWl.put (by exact R_lenm rfl (by exact .not1 rfl rfl rfl rfl) rfl (.tmp rfl (by exact id)) (by exact .t) Tryz.underlying85) rfl ?_
 refine AWl.put (R_callz (FnT.fr (implwithin _ _ _)) rfl (by exact .not1 rfl rfl rfl rfl) rfl (.cons (.tmp rfl (by exact id)) rfl (.cons (.const rfl) rfl (.cons (.const rfl) rfl .nil)))) rfl ?_
 refine AWl.put (R_not rfl (by exact .not1 rfl rfl rfl rfl) rfl (.tmp rfl (by exact id))) rfl ?_
 refine AWl.put (R_or rfl (.no rfl) rfl (.tmp rfl fun _ => rfl) (.tmp rfl (by exact id))) rfl ?_
 refine AWl.nil ?_
 refine AW.cond (.tmp rfl fun _ => rfl) (fun h16 => ?_) (fun h16 => ?_)
 · skip
   try simp at h16
   have hw : validConj q = false := by unfold validConj; grind
   refine AW.seq ?_
   refine AW.le (σ' := ⟨_, [(0, _), (1, _), (2, _)], []⟩) (Le.sub0 rfl ⟨rfl, rfl, rfl, trivial⟩ trivial) ?_
   refine AW.region ?_
   refine AWl.put (R_assign rfl (.no rfl) rfl (.const rfl)) rfl ?_
   refine AWl.nil (AW.ret ?_)
   refine Res.v rfl rfl ?_
   rw [hw]
 · skip
   try simp at h16
   have hw : (inB q.VariableCount 1 4 && inB q.Atoms.length 1 4) = true := by grind
   have hn : 1 ≤ q.VariableCount ∧ q.VariableCount ≤ 4 := by unfold inB at hw; simp at hw; omega
   refine AW.skip ?_
   refine AW.seq ?_
   refine AW.le (σ' := ⟨_, [(0, _), (1, _), (2, _)], []⟩) (Le.sub0 rfl ⟨rfl, rfl, rfl, trivial⟩ trivial) ?_
   refine AW.region ?_
   refine AWl.put (by exact R_fieldAddr rfl (.no rfl) rfl (.tmp rfl fun _ => rfl) fl87_0) rfl ?_
   refine AWl.put (by exact R_load rfl (.no rfl) rfl (.tmp rfl fun _ => rfl) ty3 rfl rfl) rfl ?_
   refine AWl.add (R_makeSlice 19 rfl rfl rfl (.tmp rfl fun _ => rfl) Tryz.underlying26 in4 rfl rfl rfl rfl (by omega)) rfl ?_
   refine AWl.put (R_assign rfl (.no rfl) rfl (.tmp rfl fun _ => rfl)) rfl ?_
   refine AWl.nil (AW.seq ?_)
   refine AW.seq ?_
   refine AW.region ?_
   refine AWl.put (by exact R_fieldAddr rfl (.no rfl) rfl (.tmp rfl fun _ => rfl) fl87_1) rfl ?_
   refine AWl.put (by exact R_load rfl (.no rfl) rfl (.tmp rfl fun _ => rfl) ty85 rfl rfl) rfl ?_
   refine AWl.put (by exact R_lenm rfl (.no rfl) rfl (.tmp rfl fun _ => rfl) (by exact .t) Tryz.underlying85) rfl ?_
   refine AWl.put (R_move rfl (.no rfl) rfl (.const rfl)) rfl ?_
   refine AWl.nil (AW.block ?_)
   refine AW.loop1 (fun (k : Nat) => (k ≤ q.Atoms.length) ∧ (∀ j y, j < k → q.Atoms[j]? = some y → atomOk q.VariableCount y = true)) (fun (k : Nat) => ⟨_, [(23, (true, .a (.one (.t (.v (.int .i64 (k : Nat))))))), (3, (true, .a (.one (.rf 19)))), (1, _), (21, _), (22, _)], [(19, .row 1 (((List.range q.VariableCount.toNat).map (seenV (q.Atoms.take k))).map cBool))]⟩) (fun (k : Nat) => q.Atoms.length - k) (0) ⟨by simp, by simp⟩ (Le.sub0 rfl ⟨rfl, rfl, rfl, rfl, rfl, trivial⟩ ⟨congrArg (fun r => some (R.row 1 r)) (List.ext_getElem (by simp) (by intro i h1 h2; simp [seenV, cBool])), trivial⟩) ?_
   rintro k ⟨hk, he⟩
   refine AW.seq ?_
   refine AW.region ?_
   refine AWl.put (R_lt rfl (.no rfl) rfl (.tmp rfl fun _ => rfl) (.tmp rfl fun _ => rfl)) rfl ?_
   refine AWl.nil (AW.seq ?_)
   refine AW.cond (.tmp rfl fun _ => rfl) (fun hlt => ?_) (fun hlt => ?_)
   · skip
     try simp at hlt
     obtain ⟨x, hx⟩ : ∃ x, q.Atoms[k]? = some x := ⟨_, List.getElem?_eq_getElem (by omega)⟩
     refine AW.skip ?_
     refine AW.seq ?_
     refine AW.block ?_
     refine AW.seq ?_
     refine AW.region ?_
     refine AWl.put ((by exact R_indexAddr rfl (.no rfl) rfl (.tmp rfl fun _ => rfl) (.tmp rfl fun _ => rfl) Tryz.underlying85 ty129 (fun _ => ⟨by omega, (by exact map_get (by assumption))⟩))) rfl ?_
     refine AWl.put (by exact R_load rfl (.no rfl) rfl (.tmp rfl fun _ => rfl) ty129 rfl rfl) rfl ?_
     refine AWl.add (R_alloc 5 rfl rfl rfl in129 rfl rfl rfl) rfl ?_
     refine AWl.chgb (R_store_pb rfl rfl rfl (.tmp rfl fun _ => rfl) (.tmp rfl fun _ => rfl) rfl ty129 rfl rfl rfl (by kernel_rfl) rfl) ?_
     refine AWl.nil (AW.seq ?_)
     refine AW.seq ?_
     refine AW.region ?_
     refine AWl.put (by exact R_fieldAddr_pp rfl (.no rfl) rfl (.tmp rfl fun _ => rfl) fl129_0) rfl ?_
     refine AWl.put (by exact R_load_pp rfl (.no rfl) rfl (.tmp rfl fun _ => rfl) rfl ty3 rfl rfl) rfl ?_
     refine AWl.put (by exact R_fieldAddr rfl (.no rfl) rfl (.tmp rfl fun _ => rfl) fl87_0) rfl ?_
     refine AWl.put (by exact R_load rfl (.no rfl) rfl (.tmp rfl fun _ => rfl) ty3 rfl rfl) rfl ?_
     refine AWl.put (R_sub rfl (.no rfl) rfl (.tmp rfl fun _ => rfl) (.const rfl) (fun _ => by omega)) rfl ?_
     refine AWl.put (R_callz (FnT.fr (implwithin _ _ _)) rfl (.no rfl) rfl (.cons (.tmp rfl fun _ => rfl) rfl (.cons (.const rfl) rfl (.cons (.tmp rfl fun _ => rfl) rfl .nil)))) rfl ?_
     refine AWl.put (R_not rfl (.no rfl) rfl (.tmp rfl fun _ => rfl)) rfl ?_
     refine AWl.put (R_move rfl (.no rfl) rfl (.tmp rfl fun _ => rfl)) rfl ?_
     refine AWl.put (by exact R_fieldAddr_pp rfl (by exact .not1 rfl rfl rfl rfl) rfl (.tmp rfl (by exact fun _ => rfl)) fl129_1) rfl ?_
     refine AWl.put (by exact R_load_pp rfl (by exact .not1 rfl rfl rfl rfl) rfl (.tmp rfl (by exact id)) rfl ty3 rfl rfl) rfl ?_
     refine AWl.put (by exact R_fieldAddr rfl (by exact .not1 rfl rfl rfl rfl) rfl (.tmp rfl (by exact fun _ => rfl)) fl87_0) rfl ?_
     refine AWl.put (by exact R_load rfl (by exact .not1 rfl rfl rfl rfl) rfl (.tmp rfl (by exact id)) ty3 rfl rfl) rfl ?_
     refine AWl.put (R_sub rfl (by exact .not1 rfl rfl rfl rfl) rfl (.tmp rfl (by exact id)) (.const rfl) (fun hq => by first | omega | (simp at hq; omega))) rfl ?_
     refine AWl.put (R_callz (FnT.fr (implwithin _ _ _)) rfl (by exact .not1 rfl rfl rfl rfl) rfl (.cons (.tmp rfl (by exact id)) rfl (.cons (.const rfl) rfl (.cons (.tmp rfl (by exact id)) rfl .nil)))) rfl ?_
     refine AWl.put (R_not rfl (by exact .not1 rfl rfl rfl rfl) rfl (.tmp rfl (by exact id))) rfl ?_
     refine AWl.put (R_or rfl (.no rfl) rfl (.tmp rfl fun _ => rfl) (.tmp rfl (by exact id))) rfl ?_
     refine AWl.put (R_move rfl (.no rfl) rfl (.tmp rfl fun _ => rfl)) rfl ?_
     refine AWl.put (by exact R_fieldAddr_pp rfl (by exact .not1 rfl rfl rfl rfl) rfl (.tmp rfl (by exact fun _ => rfl)) fl129_2) rfl ?_
     refine AWl.put (by exact R_load_pp rfl (by exact .not1 rfl rfl rfl rfl) rfl (.tmp rfl (by exact id)) rfl ty73 rfl rfl) rfl ?_
     refine AWl.put (R_callz (FnT.fr (implIsValidExpr _)) rfl (by exact .not1 rfl rfl rfl rfl) rfl (.cons (.tmp rfl (by exact id)) rfl .nil)) rfl ?_
     refine AWl.put (R_not rfl (by exact .not1 rfl rfl rfl rfl) rfl (.tmp rfl (by exact id))) rfl ?_
     refine AWl.put (R_or rfl (.no rfl) rfl (.tmp rfl fun _ => rfl) (.tmp rfl (by exact id))) rfl ?_
     refine AWl.nil ?_
     refine AW.cond (.tmp rfl fun _ => rfl) (fun h48 => ?_) (fun h48 => ?_)
     · skip
       try simp at h48
       have hno : atomOk q.VariableCount x = false := by unfold atomOk; grind
       refine AW.seq ?_
       refine AW.le (σ' := ⟨_, [(1, _), (3, _), (5, _), (21, _), (22, _), (23, _)], [(19, _), (5, _)]⟩) (Le.sub0 rfl ⟨rfl, rfl, rfl, rfl, rfl, rfl, trivial⟩ ⟨rfl, rfl, trivial⟩) ?_
       refine AW.region ?_
       refine AWl.put (R_assign rfl (.no rfl) rfl (.const rfl)) rfl ?_
       refine AWl.nil (AW.ret ?_)
       refine Res.v rfl rfl ?_
       unfold validConj; rw [not_all hx hno]; simp
     · skip
       try simp at h48
       have hok : atomOk q.VariableCount x = true := by unfold atomOk; grind
       have hr := atomOk_r hok
       have hr1 := map_get (f := cBool) (getD_at (d := false) (l := (List.range q.VariableCount.toNat).map (seenV (q.Atoms.take k))) (k := x.From.toNat) (by simp; omega))
       have hr2 := map_get (f := cBool) (getD_at (d := false) (l := ((List.range q.VariableCount.toNat).map (seenV (q.Atoms.take k))).set x.From.toNat true) (k := x.To.toNat) (by simp; omega))
       rw [List.map_set] at hr2
       refine AW.skip ?_
       refine AW.le (σ' := ⟨_, [(1, _), (3, _), (5, _), (21, _), (22, _), (23, _)], [(19, _), (5, _)]⟩) (Le.sub0 rfl ⟨rfl, rfl, rfl, rfl, rfl, rfl, trivial⟩ ⟨rfl, rfl, trivial⟩) ?_
       refine AW.drawnF (fid := 19) 7 (nthB [[], [], [1], [], [], [4], [0, 1, 2], [0, 1, 2, 6]]) [(49, (true, .a (.one (.rf 19))), []), (50, (true, .a (.one (.pp 5 0))), []), (51, (true, .a (.one (.t (.v (.int .i64 x.From))))), []), (52, (true, .a (.one (.rf 19))), []), (53, (true, .a (.one (.pp 5 1))), []), (54, (true, .a (.one (.t (.v (.int .i64 x.To))))), []), (55, (true, .a (.one (.pr 19 1 x.From.toNat 0))), [])] (memN [3, 4, 5]) _ ⟨_, [(1, _), (3, _), (5, _), (21, _), (22, _), (23, _)], [(5, _)]⟩ (by kernel_rfl) (by kernel_rfl) (by kernel_rfl) rfl (Sup.sub0 rfl ⟨rfl, rfl, rfl, rfl, rfl, rfl, trivial⟩ ⟨rfl, trivial⟩) rfl ⟨Loc.ofE rfl (fun σ' hs => R_move rfl (.no rfl) (hd_sup hs rfl) (.tmp (hs.slots _ _ rfl) fun _ => rfl)) (by exact rfl), Loc.ofE rfl (fun σ' hs => (by exact R_fieldAddr_pp rfl (.no rfl) (hd_sup hs rfl) (.tmp (hs.slots _ _ rfl) fun _ => rfl) fl129_0)) (by exact rfl), Loc.ofE rfl (fun σ' hs => (by exact R_load_pp rfl (.no rfl) (hd_sup hs rfl) (.tmp (hs.slots _ _ rfl) fun _ => rfl) (hs.res _ _ rfl) ty3 rfl rfl)) (by exact rfl), Loc.ofE rfl (fun σ' hs => R_move rfl (.no rfl) (hd_sup hs rfl) (.tmp (hs.slots _ _ rfl) fun _ => rfl)) (by exact rfl), Loc.ofE rfl (fun σ' hs => (by exact R_fieldAddr_pp rfl (.no rfl) (hd_sup hs rfl) (.tmp (hs.slots _ _ rfl) fun _ => rfl) fl129_1)) (by exact rfl), Loc.ofE rfl (fun σ' hs => (by exact R_load_pp rfl (.no rfl) (hd_sup hs rfl) (.tmp (hs.slots _ _ rfl) fun _ => rfl) (hs.res _ _ rfl) ty3 rfl rfl)) (by exact rfl), Loc.ofE rfl (fun σ' hs => (by exact R_indexAddr_rf rfl (.no rfl) (hd_sup hs rfl) (.tmp (hs.slots _ _ rfl) fun _ => rfl) (hs.res _ _ rfl) (.tmp (hs.slots _ _ rfl) fun _ => rfl) Tryz.underlying26 ty4 (fun _ => ⟨by omega, (by assumption)⟩))) (by exact rfl), trivial⟩ (fun σ' hs => R_store_pr rfl rfl rfl (.const rfl) rfl (.tmp (hs.slots _ _ rfl) fun _ => rfl) (hs.res _ _ rfl) (by assumption) ty4 rfl rfl rfl rfl) (Sup.sub0 rfl ⟨rfl, rfl, rfl, rfl, rfl, rfl, trivial⟩ ⟨rfl, trivial⟩) rfl rfl rfl rfl rfl ?_
       refine AWl.le (σ' := ⟨_, [(1, _), (3, _), (5, _), (21, _), (22, _), (23, _), (52, _), (54, _)], [(19, _), (5, _)]⟩) (Le.sub0 rfl ⟨rfl, rfl, rfl, rfl, rfl, rfl, rfl, rfl, trivial⟩ ⟨rfl, rfl, trivial⟩) ?_
       refine AWl.put (by exact R_indexAddr_rf rfl (.no rfl) rfl (.tmp rfl fun _ => rfl) rfl (.tmp rfl fun _ => rfl) Tryz.underlying26 ty4 (fun _ => ⟨by omega, (by assumption)⟩)) rfl ?_
       refine AWl.absupd (R_store_pr rfl rfl rfl (.const rfl) rfl (.tmp rfl fun _ => rfl) rfl (by assumption) ty4 rfl rfl rfl rfl) ?_
       refine AWl.nil (AW.region ?_)
       refine AWl.put (R_add rfl (.no rfl) rfl (.tmp rfl fun _ => rfl) (.const rfl) (fun _ => by omega)) rfl ?_
       refine AWl.put (R_move rfl (.no rfl) rfl (.tmp rfl fun _ => rfl)) rfl ?_
       refine AWl.nil ?_
       repeat (with_reducible refine BlockQ.nor ?_)
       refine Round1.next (k + 1) ⟨by omega, each_succ he hx hok⟩ (by omega) (Le.sub0 rfl ⟨rfl, rfl, rfl, rfl, rfl, trivial⟩ ⟨congrArg (fun r => some (R.row 1 r)) (by rw [take_at hx, ← seenV_set (n := q.VariableCount.toNat) (by omega) (by omega)]; simp [cBool, List.map_set]), trivial⟩)
   · skip
     try simp at hlt
     refine AW.exit ?_
     refine AW.seq ?_
     refine AW.region ?_
     refine AWl.put (R_move rfl (.no rfl) rfl (.tmp rfl fun _ => rfl)) rfl ?_
     refine AWl.put (R_callz (FnT.fr (slicesContainsBool _ _)) rfl (.no rfl) rfl (.cons (.tmp rfl fun _ => rfl) rfl (.cons (.const rfl) rfl .nil))) rfl ?_
     refine AWl.put (R_not rfl (.no rfl) rfl (.tmp rfl fun _ => rfl)) rfl ?_
     refine AWl.put (R_assign rfl (.no rfl) rfl (.tmp rfl fun _ => rfl)) rfl ?_
     refine AWl.nil (AW.ret ?_)
     refine Res.v rfl rfl ?_
     unfold validConj; have ha := each_all he (show q.Atoms.length ≤ k by omega); rw [List.take_of_length_le (by omega)]; rw [hw, ha, contains_all]; rfl
end Go.Proofs.YtoealglkenhphaaGreat
