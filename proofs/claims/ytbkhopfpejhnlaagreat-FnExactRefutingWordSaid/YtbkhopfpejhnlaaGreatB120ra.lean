import Derived.Test.YtbkhopfpejhnlaaGreatB119ra
set_option linter.unusedVariables false
set_option linter.unusedSimpArgs false
set_option maxHeartbeats 1000000
set_option maxRecDepth 100000
namespace Go.Q
open Go.RowKit Go.D
theorem high_rng {x : Tr} (hg : good x) (h : x.tok.Kind = 7) : 0 ≤ x.tok.High ∧ x.tok.High ≤ 3 := by
 have ha := good_arity hg
 unfold arity at ha
 rw [if_neg (by omega), if_neg (by omega), if_neg (by omega), if_neg (by omega), if_pos h] at ha
 split at ha
 · rename_i hc; simp only [Bool.and_eq_true, inB, decide_eq_true_eq] at hc; omega
 · omega
def moreA (l : List Int) (ws : List (List Int)) : List (List Int) := ws.flatMap fun b => l.map fun c => b ++ [c]
theorem moreA_len (l : List Int) : ∀ ws : List (List Int), (moreA l ws).length = ws.length * l.length
 | [] => by simp [moreA]
 | b :: ws => by
  have ih := moreA_len l ws
  unfold moreA at *
  rw [List.flatMap_cons, List.length_append, ih, List.length_map, List.length_cons, Nat.succ_mul]; omega
theorem moreA_at {l : List Int} {ws : List (List Int)} {k : Nat} {b : List Int} (h : ws[k]? = some b) : moreA l (ws.take (k + 1)) = moreA l (ws.take k) ++ l.map fun c => b ++ [c] := by
 unfold moreA
 rw [take_at h, List.flatMap_append]; simp
theorem wordsA_len {l : List Int} (hl : l.length ≤ 9) : ∀ d, d ≤ 4 → (wordsA l d).length ≤ 9 ^ d
 | 0, _ => by simp [wordsA]
 | d + 1, h => by
  show (moreA l (wordsA l d)).length ≤ _
  rw [moreA_len, Nat.pow_succ]
  exact Nat.mul_le_mul (wordsA_len hl d (by omega)) hl
theorem wordsA_few {l : List Int} (hl : l.length ≤ 9) {d : Nat} (hd : d ≤ 4) : (wordsA l d).length ≤ 6561 :=
 Nat.le_trans (wordsA_len hl d hd) (Nat.le_trans (Nat.pow_le_pow_right (by omega) hd) (by omega))
theorem wordsA_word {l : List Int} : ∀ {d : Nat} {w : List Int}, w ∈ wordsA l d → w.length = d ∧ ∀ c ∈ w, c ∈ l
 | 0, w, h => by simp [wordsA] at h; simp [h]
 | d + 1, w, h => by
  simp only [wordsA, List.mem_flatMap, List.mem_map] at h
  obtain ⟨b, hb, c, hc, rfl⟩ := h
  obtain ⟨h1, h2⟩ := wordsA_word hb
  refine ⟨by simp [h1], fun z hz => ?_⟩
  rcases List.mem_append.1 hz with hz | hz
  · exact h2 z hz
  · simp at hz; rw [hz]; exact hc
def nineTo (x : Nat) : List Int := (List.range x).map fun i => ((i : Nat) : Int)
theorem nineTo_succ (x : Nat) : nineTo (x + 1) = nineTo x ++ [(x : Int)] := by simp [nineTo, List.range_succ]
theorem nineTo_len (x : Nat) : (nineTo x).length = x := by simp [nineTo]
theorem nineL_len : nineL.length = 9 := by decide
theorem wordsUp_succ (l : List Int) (x : Tr) (n : Nat) : wordsUp l x (n + 1) = wordsUp l x n ++ (wordsA l n).filter (tk x) := by
 unfold wordsUp
 rw [List.range_succ, List.flatMap_append]; simp
theorem wordsUp_few {l : List Int} (hl : l.length ≤ 9) (x : Tr) : ∀ {n : Nat}, n ≤ 4 → (wordsUp l x n).length ≤ n * 6561
 | 0, _ => by simp [wordsUp]
 | n + 1, h => by
  rw [wordsUp_succ, List.length_append, Nat.succ_mul]
  have := wordsUp_few hl x (n := n) (by omega)
  have h2 : ((wordsA l n).filter (tk x)).length ≤ 6561 := Nat.le_trans (List.length_filter_le _ _) (wordsA_few hl (by omega))
  omega
theorem filterA {α : Type} {p : α → Bool} {l : List α} {k : Nat} {x : α} (h : l[k]? = some x) : (l.take (k + 1)).filter p = (l.take k).filter p ++ if p x then [x] else [] := by
 rw [take_at h, List.filter_append]
 cases hp : p x <;> simp [hp]
def wordsE (e : TExpr) (n : Int) : List (List Int) := match treeM e.Tokens with | some x => if isValidExpr e && inB n 0 3 then wordsUp nineL x (n.toNat + 1) else [] | none => []
theorem wordsE_no {e : TExpr} {n : Int} (h : (isValidExpr e && inB n 0 3) = false) : wordsE e n = [] := by
 unfold wordsE
 split
 · rw [h]; rfl
 · rfl
theorem wordsE_some {e : TExpr} {n : Int} {x : Tr} (hx : treeM e.Tokens = some x) (h : (isValidExpr e && inB n 0 3) = true) : wordsE e n = wordsUp nineL x (n.toNat + 1) := by
 unfold wordsE
 rw [hx]
 simp only [h, if_true]
end Go.Q
namespace Go.Proofs.YtbkhopfpejhnlaaGreat
open Go.RowKit Go.Q Go.D
theorem implreach (w : List Int) (hw : w.length ≤ 4000) : ∀ x : Tr, good x → FnT Tryz.prog 117 [.one (.ad (treeCells x)), .one (.sl 1 (w.map cInt))] (.a (.one (.sl 1 ((gridF (w.length + 1) (wordR w x)).map cBoolS)))) :=
 Tr.ind fun x ih hgx => implreach1 w hw x hgx (high_rng hgx) fun y hy => ih y hy (good_kids hgx y hy)
theorem implmatches (w : List Int) (hw : w.length ≤ 4000) (x : Tr) (hgx : good x) : FnT Tryz.prog 94 [.one (.ad (treeCells x)), .one (.sl 1 (w.map cInt))] (.a (.one (.v (.bool (tk x w))))) := by
 refine FnT.walk Tryz.func94 rfl (by kernel_rfl) Tryz.ntmps94 rfl fun hlen w0 => ?_
 try simp [cPair, cToken, cExpr, cEdge, cGraph, cStep, cWalk, cChange, cBatch, cHistory, cPositions, cAutomaton, cProductStep, cPathAtom, cConjunction, cView, cDelta, cRegistered, cRegistry] at hlen
 clear hlen
 refine AW.sr ?_
 refine AWl.ac rfl rfl rfl rfl rfl ?_
 refine AWl.nil (AW.sr ?_)
 refine AWl.mv rfl rfl rfl rfl rfl ?_
 refine AWl.mv rfl rfl rfl rfl rfl ?_
 refine AWl.put (R_callz (FnT.fr (implreach w hw x hgx)) rfl (.no rfl) rfl (.cons (.tm rfl) rfl (.cons (.tm rfl) rfl .nil))) rfl ?_
 refine AWl.put ((by exact R_indexAddr rfl (.no rfl) rfl (.tm rfl) (.const rfl) Tryz.underlying109 ty71 (fun _ => ⟨by omega, map_get (gridF_row (i := 0) (by omega))⟩))) rfl ?_
 refine AWl.put (by exact R_load rfl (.no rfl) rfl (.tm rfl) ty71 rfl rfl) rfl ?_
 refine AWl.mv rfl rfl rfl rfl rfl ?_
 refine AWl.put (by exact R_lenm rfl (.no rfl) rfl (.tm rfl) (by exact .t) Tryz.underlying24) rfl ?_
 refine AWl.put ((by exact R_indexAddr rfl (.no rfl) rfl (.tm rfl) (.tm rfl) Tryz.underlying71 ty4 (fun _ => ⟨by omega, map_get (row_at (j := w.length) (by omega))⟩))) rfl ?_
 refine AWl.put (by exact R_load rfl (.no rfl) rfl (.tm rfl) ty4 rfl rfl) rfl ?_
 refine AWl.av rfl rfl rfl rfl rfl ?_
 refine AWl.nil (AW.ret ?_)
 refine Res.one rfl (.tmp rfl .nil) rfl ?_
 rfl
theorem implwordsOf : ∀ n : Nat, n ≤ 3 → FnT Tryz.prog 93 [.one (.v (.int .i64 (n : Int)))] (.a (.one (.sl 1 ((wordsA nineL n).map cIntS)))) := by
 intro n
 induction n using Nat.strongRecOn with
 | _ n ih =>
 intro hn
 refine FnT.walk Tryz.func93 rfl (by kernel_rfl) Tryz.ntmps93 rfl fun hlen w0 => ?_
 try simp [cPair, cToken, cExpr, cEdge, cGraph, cStep, cWalk, cChange, cBatch, cHistory, cPositions, cAutomaton, cProductStep, cPathAtom, cConjunction, cView, cDelta, cRegistered, cRegistry] at hlen
 refine AW.sr ?_
 refine AWl.ac rfl rfl rfl rfl rfl ?_
 refine AWl.nilS (i := 2) 20001 1 rfl rfl ?_
 refine AWl.nil (AW.seq ?_)
 refine AW.sr ?_
 refine AWl.mv rfl rfl rfl rfl rfl ?_
 refine AWl.put (R_eq rfl (.no rfl) rfl (.tm rfl) (.const rfl)) rfl ?_
 refine AWl.nil ?_
 refine AW.cond (.tm rfl) (fun h8 => ?_) (fun h8 => ?_)
 · skip
   try simp at h8
   have hn0 : n = 0 := (by omega)
   refine AW.sr ?_
   refine AWl.add (R_empty 9 rfl rfl rfl Tryz.underlying24 ty3 rfl) rfl ?_
   refine AWl.absadd (R_list (xs := [.tmp 9]) 10 rfl rfl rfl (.cons (.tm rfl) rfl rfl .nil) Tryz.underlying77 in24 rfl rfl rfl rfl) rfl ?_
   refine AWl.av rfl rfl rfl rfl rfl ?_
   refine AWl.nil (AW.ret ?_)
   refine Res.one rfl (.tmp rfl .nil) rfl ?_
   subst hn0; rfl
 · skip
   try simp at h8
   have hn0 : 0 < n := (by omega)
   have hwl := wordsA_few (l := nineL) (by rw [nineL_len]; omega) (d := n - 1) (by omega)
   refine AW.skip ?_
   refine AW.sr ?_
   refine AWl.add (R_empty 11 rfl rfl rfl Tryz.underlying77 ty24 rfl) rfl ?_
   refine AWl.av rfl rfl rfl rfl rfl ?_
   refine AWl.nil (AW.seq ?_)
   refine AW.sr ?_
   refine AWl.mv rfl rfl rfl rfl rfl ?_
   refine AWl.put (R_sub rfl (.no rfl) rfl (.tm rfl) (.const rfl) (fun _ => by omega)) rfl ?_
   refine AWl.put (R_callz (FnT.fr ((show FnT Tryz.prog 93 [.one (.v (.int .i64 ((n : Int) - 1)))] _ by rw [show (n : Int) - 1 = ((n - 1 : Nat) : Int) by omega]; exact ih (n - 1) (by omega) (by omega)))) rfl (.no rfl) rfl (.cons (.tm rfl) rfl .nil)) rfl ?_
   refine AWl.put (by exact R_lenm rfl (.no rfl) rfl (.tm rfl) (by exact .t) Tryz.underlying77) rfl ?_
   refine AWl.put (R_move rfl (.no rfl) rfl (.const rfl)) rfl ?_
   refine AWl.nil (AW.block ?_)
   refine AW.loop1 (fun (k : Nat) => (k ≤ (wordsA nineL (n - 1)).length) ∧ True) (fun (k : Nat) => ⟨_, [(16, (true, .a (.one (.t (.v (.int .i64 (k : Nat))))))), (3, (true, .a (.one (.rf 11)))), (2, _), (14, _), (15, _)], [(11, .row 1 ((moreA nineL ((wordsA nineL (n - 1)).take k)).map cIntS))]⟩) (fun (k : Nat) => (wordsA nineL (n - 1)).length - k) (0) ⟨Nat.zero_le _, trivial⟩ (Le.sub0 rfl ⟨rfl, rfl, rfl, rfl, rfl, trivial⟩ ⟨(by refine congrArg (fun r => some (R.row 1 r)) ?_; first | rfl | (simp [nineTo]; done)), trivial⟩) ?_
   rintro k ⟨hk, he⟩
   refine AW.sr ?_
   refine AWl.put (R_lt rfl (.no rfl) rfl (.tm rfl) (.tm rfl)) rfl ?_
   refine AWl.nil (AW.seq ?_)
   refine AW.cond (.tm rfl) (fun h17 => ?_) (fun h17 => ?_)
   · skip
     try simp at h17
     obtain ⟨b, hb⟩ : ∃ ξ, (wordsA nineL (n - 1))[k]? = some ξ := ⟨_, List.getElem?_eq_getElem (by omega)⟩
     have hbl : b.length = n - 1 := (wordsA_word (List.mem_of_getElem? hb)).1
     have hml : (moreA nineL ((wordsA nineL (n - 1)).take k)).length ≤ 59049 := (by rw [moreA_len, List.length_take, nineL_len]; omega)
     refine AW.skip ?_
     refine AW.seq ?_
     refine AW.block ?_
     refine AW.sr ?_
     refine AWl.put (by exact R_indexAddr rfl (.no rfl) rfl (.tm rfl) (.tm rfl) Tryz.underlying77 ty24 (fun _ => ⟨by omega, (map_get hb)⟩)) rfl ?_
     refine AWl.put (by exact R_load rfl (.no rfl) rfl (.tm rfl) ty24 rfl rfl) rfl ?_
     refine AWl.av rfl rfl rfl rfl rfl ?_
     refine AWl.nil (AW.sr ?_)
     refine AWl.ac rfl rfl rfl rfl rfl ?_
     refine AWl.nil (AW.block ?_)
     refine AW.loop1 (fun (x : Nat) => (x ≤ 9) ∧ True) (fun (x : Nat) => ⟨_, [(6, (true, .a (.one (.t (.v (.int .i64 (x : Nat))))))), (3, (true, .a (.one (.rf 11)))), (2, _), (5, _), (14, _), (15, _), (16, _)], [(11, .row 1 ((moreA nineL ((wordsA nineL (n - 1)).take k) ++ (nineTo x).map fun c => b ++ [c]).map cIntS))]⟩) (fun (x : Nat) => 9 - x) (0) ⟨by omega, trivial⟩ (Le.sub0 rfl ⟨rfl, rfl, rfl, rfl, rfl, rfl, rfl, trivial⟩ ⟨(by refine congrArg (fun r => some (R.row 1 r)) ?_; first | rfl | (simp [nineTo]; done)), trivial⟩) ?_
     rintro x ⟨hk1, he1⟩
     refine AW.seq ?_
     refine AW.sr ?_
     refine AWl.mv rfl rfl rfl rfl rfl ?_
     refine AWl.put (R_lt rfl (.no rfl) rfl (.tm rfl) (.const rfl)) rfl ?_
     refine AWl.nil ?_
     refine AW.cond (.tm rfl) (fun h21 => ?_) (fun h21 => ?_)
     · skip
       try simp at h21
       have hx9 : x < 9 := (by omega)
       have hnl : ((nineTo x).map fun c => b ++ [c]).length = x := (by rw [List.length_map, nineTo_len])
       have hnl2 := nineTo_len x
       refine AW.skip ?_
       refine AW.seq ?_
       refine AW.block ?_
       refine AW.region ?_
       refine AWl.mv rfl rfl rfl rfl rfl ?_
       refine AWl.mv rfl rfl rfl rfl rfl ?_
       refine AWl.adds (R_call 2600 (implcopyInts b (by omega)) rfl rfl rfl (.cons (.tm rfl) rfl .nil) rfl rfl) rfl ?_
       refine AWl.mv rfl rfl rfl rfl rfl ?_
       refine AWl.absadd (R_list (xs := [.tmp 27]) 28 rfl rfl rfl (.cons (.tm rfl) rfl rfl .nil) Tryz.underlying24 in3 rfl rfl rfl rfl) rfl ?_
       refine AWl.abschgput (R_append_own rfl rfl rfl (.tm rfl) rfl (.tm rfl) rfl rfl Tryz.underlying24 in3 rfl (by (simp [chunk]; omega)) (by (unfold maxLen; simp [chunk]; omega))) rfl ?_
       refine AWl.le (σ' := ⟨_, [(2, _), (3, _), (5, _), (6, _), (14, _), (15, _), (16, _), (21, _), (24, _), (29, _)], [(11, _), (2600, _)]⟩) (Le.sub0 rfl ⟨rfl, rfl, rfl, rfl, rfl, rfl, rfl, rfl, rfl, rfl, trivial⟩ ⟨rfl, rfl, trivial⟩) ?_
       refine AWl.absadd (R_list (xs := [.tmp 29]) 30 rfl rfl rfl (.cons (.tm rfl) rfl rfl .nil) Tryz.underlying77 in24 rfl rfl rfl rfl) rfl ?_
       refine AWl.abschgput (R_append_own rfl rfl rfl (.tm rfl) rfl (.tm rfl) rfl rfl Tryz.underlying77 in24 rfl (by (simp [chunk]; omega)) (by (unfold maxLen; simp [chunk]; omega))) rfl ?_
       refine AWl.le (σ' := ⟨_, [(2, _), (3, _), (5, _), (6, _), (14, _), (15, _), (16, _), (21, _), (31, _)], [(11, _)]⟩) (Le.sub0 rfl ⟨rfl, rfl, rfl, rfl, rfl, rfl, rfl, rfl, rfl, trivial⟩ ⟨rfl, trivial⟩) ?_
       refine AWl.av rfl rfl rfl rfl rfl ?_
       refine AWl.nil (AW.region ?_)
       refine AWl.mv rfl rfl rfl rfl rfl ?_
       refine AWl.put (R_add rfl (.no rfl) rfl (.tm rfl) (.const rfl) (fun _ => by omega)) rfl ?_
       refine AWl.av rfl rfl rfl rfl rfl ?_
       refine AWl.nil ?_
       repeat (with_reducible refine BlockQ.nor ?_)
       refine Round1.next (x + 1) ⟨by omega, trivial⟩ (by omega) (Le.sub0 rfl ⟨rfl, rfl, rfl, rfl, rfl, rfl, rfl, trivial⟩ ⟨(by refine congrArg (fun r => some (R.row 1 r)) ?_; first | (rw [nineTo_succ]; simp [chunk, cIntS, cInt]; done) | (rw [moreA_at hb, hx9]; rfl)), trivial⟩)
     · skip
       try simp at h21
       have hx9 : x = 9 := (by omega)
       refine AW.exit ?_
       refine AW.region ?_
       refine AWl.put (R_add rfl (.no rfl) rfl (.tm rfl) (.const rfl) (fun _ => by omega)) rfl ?_
       refine AWl.mv rfl rfl rfl rfl rfl ?_
       refine AWl.nil ?_
       repeat (with_reducible refine BlockQ.nor ?_)
       refine Round1.next (k + 1) ⟨by omega, trivial⟩ (by omega) (Le.sub0 rfl ⟨rfl, rfl, rfl, rfl, rfl, trivial⟩ ⟨(by refine congrArg (fun r => some (R.row 1 r)) ?_; first | (rw [nineTo_succ]; simp [chunk, cIntS, cInt]; done) | (rw [moreA_at hb, hx9]; rfl)), trivial⟩)
   · skip
     try simp at h17
     refine AW.exit ?_
     refine AW.sr ?_
     refine AWl.mv rfl rfl rfl rfl rfl ?_
     refine AWl.av rfl rfl rfl rfl rfl ?_
     refine AWl.nil (AW.ret ?_)
     refine Res.one rfl (.tmp rfl .nil) rfl ?_
     rw [List.take_of_length_le (by omega), show moreA nineL (wordsA nineL (n - 1)) = wordsA nineL (n - 1 + 1) from rfl, show n - 1 + 1 = n by omega]; rfl
theorem implWordsUpTo (e : TExpr) (n : Int) : FnT Tryz.prog 54 [.agg (cExpr e), .one (.v (.int .i64 n))] (.a (.one (.sl 1 ((wordsE e n).map cIntS)))) := by
 refine FnT.walk Tryz.func54 rfl (by kernel_rfl) Tryz.ntmps54 rfl fun hlen w0 => ?_
 try simp [cPair, cToken, cExpr, cEdge, cGraph, cStep, cWalk, cChange, cBatch, cHistory, cPositions, cAutomaton, cProductStep, cPathAtom, cConjunction, cView, cDelta, cRegistered, cRegistry] at hlen
 refine AW.sr ?_
 refine AWl.put (R_boxz rfl rfl rfl (.tm rfl) (ts := _) (by rfl)) rfl ?_
 refine AWl.ac rfl rfl rfl rfl rfl ?_
 refine AWl.nilS (i := 4) 20001 1 rfl rfl ?_
 refine AWl.nil (AW.seq ?_)
 refine AW.sr ?_
 refine AWl.put (by exact R_load rfl (.no rfl) rfl (.tm rfl) ty30 rfl rfl) rfl ?_
 refine AWl.put (R_callz (FnT.fr (implIsValidExpr e)) rfl (.no rfl) rfl (.cons (.tm rfl) rfl .nil)) rfl ?_
 refine AWl.put (R_not rfl (.no rfl) rfl (.tm rfl)) rfl ?_
 refine AWl.mv rfl rfl rfl rfl rfl ?_
 refine AWl.put (R_move rfl (by exact .not1 rfl rfl rfl rfl) rfl (.tmp rfl (by exact fun _ => rfl))) rfl ?_
 refine AWl.put (R_callz (FnT.fr (implwithin n 0 3)) rfl (by exact .not1 rfl rfl rfl rfl) rfl (.cons (.tmp rfl (by exact id)) rfl (.cons (.const rfl) rfl (.cons (.const rfl) rfl .nil)))) rfl ?_
 refine AWl.put (R_not rfl (by exact .not1 rfl rfl rfl rfl) rfl (.tmp rfl (by exact id))) rfl ?_
 refine AWl.put (R_or rfl (.no rfl) rfl (.tm rfl) (.tmp rfl (by exact id))) rfl ?_
 refine AWl.nil ?_
 refine AW.cond (.tm rfl) (fun h17 => ?_) (fun h17 => ?_)
 · skip
   try simp at h17
   have hno : (isValidExpr e && inB n 0 3) = false := (by cases hq1 : isValidExpr e <;> cases hq2 : inB n 0 3 <;> simp_all)
   refine AW.seq ?_
   refine AW.le (σ' := ⟨_, [(0, _), (1, _), (2, _), (4, _)], [(20001, _)]⟩) (Le.sub0 rfl ⟨rfl, rfl, rfl, rfl, trivial⟩ ⟨rfl, trivial⟩) ?_
   refine AW.region ?_
   refine AWl.ac rfl rfl rfl rfl rfl ?_
   refine AWl.nilS (i := 4) 20002 1 rfl rfl ?_
   refine AWl.nil (AW.ret ?_)
   refine Res.one rfl (.tmp rfl .nil) rfl ?_
   rw [wordsE_no hno]; rfl
 · skip
   try simp at h17
   have hyes : (isValidExpr e && inB n 0 3) = true := (by cases hq1 : isValidExpr e <;> cases hq2 : inB n 0 3 <;> simp_all)
   have hyes' := hyes
   rw [Bool.and_eq_true] at hyes'
   obtain ⟨x, hx, htk, hgx, hl⟩ := valid_tree hyes'.1
   have hn03 : 0 ≤ n ∧ n ≤ 3 := (by have h := hyes'.2; unfold inB at h; simpa using h)
   have htr := impltreeOf e (by omega)
   rw [treeV_some hx] at htr
   refine AW.skip ?_
   refine AW.seq ?_
   refine AW.le (σ' := ⟨_, [(0, _), (1, _), (2, _), (4, _)], [(20001, _)]⟩) (Le.sub0 rfl ⟨rfl, rfl, rfl, rfl, trivial⟩ ⟨rfl, trivial⟩) ?_
   refine AW.region ?_
   refine AWl.add (R_empty 18 rfl rfl rfl Tryz.underlying77 ty24 rfl) rfl ?_
   refine AWl.av rfl rfl rfl rfl rfl ?_
   refine AWl.nil (AW.sr ?_)
   refine AWl.put (by exact R_load rfl (.no rfl) rfl (.tm rfl) ty30 rfl rfl) rfl ?_
   refine AWl.put (R_callz (htr) rfl (.no rfl) rfl (.cons (.tm rfl) rfl .nil)) rfl ?_
   refine AWl.av rfl rfl rfl rfl rfl ?_
   refine AWl.nil (AW.seq ?_)
   refine AW.sr ?_
   refine AWl.ac rfl rfl rfl rfl rfl ?_
   refine AWl.nil (AW.block ?_)
   refine AW.loop1 (fun (m : Nat) => (m ≤ n.toNat + 1) ∧ True) (fun (m : Nat) => ⟨_, [(7, (true, .a (.one (.t (.v (.int .i64 (m : Nat))))))), (5, (true, .a (.one (.rf 18)))), (1, _), (4, _), (6, _)], [(18, .row 1 ((wordsUp nineL x m).map cIntS))]⟩) (fun (m : Nat) => n.toNat + 1 - m) (0) ⟨by omega, trivial⟩ (Le.sub0 rfl ⟨rfl, rfl, rfl, rfl, rfl, trivial⟩ ⟨(by refine congrArg (fun r => some (R.row 1 r)) ?_; first | rfl | (simp; done)), trivial⟩) ?_
   rintro m ⟨hk, he⟩
   refine AW.seq ?_
   refine AW.sr ?_
   refine AWl.mv rfl rfl rfl rfl rfl ?_
   refine AWl.mv rfl rfl rfl rfl rfl ?_
   refine AWl.put (R_le rfl (.no rfl) rfl (.tm rfl) (.tm rfl)) rfl ?_
   refine AWl.nil ?_
   refine AW.cond (.tm rfl) (fun h23 => ?_) (fun h23 => ?_)
   · skip
     try simp at h23
     have hmn : (m : Int) ≤ n := (by have h := h23; first | omega | (simp at h; omega))
     have huf := wordsUp_few (l := nineL) (by rw [nineL_len]; omega) x (n := m) (by omega)
     have hwl := wordsA_few (l := nineL) (by rw [nineL_len]; omega) (d := m) (by omega)
     refine AW.skip ?_
     refine AW.seq ?_
     refine AW.block ?_
     refine AW.sr ?_
     refine AWl.mv rfl rfl rfl rfl rfl ?_
     refine AWl.adds (R_call 2700 (implwordsOf m (by omega)) rfl rfl rfl (.cons (.tm rfl) rfl .nil) rfl rfl) rfl ?_
     refine AWl.put (by exact R_lenm rfl (.no rfl) rfl (.tm rfl) (by exact .rf rfl) Tryz.underlying77) rfl ?_
     refine AWl.put (R_move rfl (.no rfl) rfl (.const rfl)) rfl ?_
     refine AWl.nil (AW.block ?_)
     refine AW.loop2 (fun (k : Nat) (L : List (List T)) => (k ≤ (wordsA nineL m).length) ∧ L.length = (wordsA nineL m).length ∧ ∀ j r, k ≤ j → (wordsA nineL m)[j]? = some r → L[j]? = some (cIntS r)) (fun (k : Nat) (L : List (List T)) => ⟨_, [(29, (true, .a (.one (.t (.v (.int .i64 (k : Nat))))))), (5, (true, .a (.one (.rf 18)))), (1, _), (4, _), (6, _), (7, _), (27, _), (28, _)], [(2700, .row 1 L), (18, .row 1 ((wordsUp nineL x m ++ ((wordsA nineL m).take k).filter (tk x)).map cIntS))]⟩) (fun (k : Nat) (L : List (List T)) => (wordsA nineL m).length - k) (0) (((wordsA nineL m).map cIntS)) ⟨Nat.zero_le _, by simp, fun j r _ hr => map_get hr⟩ (Le.sub0 rfl ⟨rfl, rfl, rfl, rfl, rfl, rfl, rfl, rfl, trivial⟩ ⟨rfl, (by refine congrArg (fun r => some (R.row 1 r)) ?_; first | rfl | (simp; done)), trivial⟩) ?_
     rintro k L ⟨hk1, he1⟩
     refine AW.sr ?_
     refine AWl.put (R_lt rfl (.no rfl) rfl (.tm rfl) (.tm rfl)) rfl ?_
     refine AWl.nil (AW.seq ?_)
     refine AW.cond (.tm rfl) (fun h30 => ?_) (fun h30 => ?_)
     · skip
       try simp at h30
       obtain ⟨b, hb⟩ : ∃ ξ, (wordsA nineL m)[k]? = some ξ := ⟨_, List.getElem?_eq_getElem (by omega)⟩
       have hbl : b.length = m := (wordsA_word (List.mem_of_getElem? hb)).1
       have hfl : (((wordsA nineL m).take k).filter (tk x)).length ≤ 6561 := (Nat.le_trans (List.length_filter_le _ _) (by rw [List.length_take]; omega))
       refine AW.skip ?_
       refine AW.seq ?_
       refine AW.block ?_
       refine AW.sr ?_
       refine AWl.put ((by exact R_indexAddr_rf rfl (.no rfl) rfl (.tm rfl) rfl (.tm rfl) Tryz.underlying77 ty24 (fun _ => ⟨by omega, (he1.2 k b (Nat.le_refl _) hb)⟩))) rfl ?_
       refine AWl.put (R_load_sb rfl (.no rfl) rfl (.tm rfl) rfl (he1.2 k b (Nat.le_refl _) hb) ty24 rfl) rfl ?_
       refine AWl.takeS (d := 32) 731 rfl rfl (he1.2 k b (Nat.le_refl _) hb) rfl (fun _ => rfl) fun c32 => ?_
       refine AWl.av rfl rfl rfl rfl rfl ?_
       refine AWl.nil (AW.sr ?_)
       refine AWl.mv rfl rfl rfl rfl rfl ?_
       refine AWl.mv rfl rfl rfl rfl rfl ?_
       refine AWl.put (R_callz (FnT.fr (implmatches b (by omega) x hgx)) rfl (.no rfl) rfl (.cons (.tm rfl) rfl (.cons (.tm rfl) rfl .nil))) rfl ?_
       refine AWl.nil ?_
       refine AW.cond (.tm rfl) (fun h35 => ?_) (fun h35 => ?_)
       · skip
         try simp at h35
         refine AW.le (σ' := ⟨_, [(1, _), (4, _), (5, _), (6, _), (7, _), (9, _), (27, _), (28, _), (29, _)], [(2700, _), (18, _), (731, _)]⟩) (Le.sub0 rfl ⟨rfl, rfl, rfl, rfl, rfl, rfl, rfl, rfl, rfl, trivial⟩ ⟨rfl, rfl, rfl, trivial⟩) ?_
         refine AW.region ?_
         refine AWl.mv rfl rfl rfl rfl rfl ?_
         refine AWl.mv rfl rfl rfl rfl rfl ?_
         refine AWl.absadd (R_list (xs := [.tmp 37]) 38 rfl rfl rfl (.cons (.tm rfl) rfl rfl .nil) Tryz.underlying77 in24 rfl rfl rfl rfl) rfl ?_
         refine AWl.abschgput (R_append_own rfl rfl rfl (.tm rfl) rfl (.tm rfl) rfl rfl Tryz.underlying77 in24 rfl (by (simp [chunk]; omega)) (by (unfold maxLen; simp [chunk]; omega))) rfl ?_
         refine AWl.le (σ' := ⟨_, [(1, _), (4, _), (5, _), (6, _), (7, _), (9, _), (27, _), (28, _), (29, _), (39, _)], [(2700, _), (18, _)]⟩) (Le.sub0 rfl ⟨rfl, rfl, rfl, rfl, rfl, rfl, rfl, rfl, rfl, rfl, trivial⟩ ⟨rfl, rfl, trivial⟩) ?_
         refine AWl.av rfl rfl rfl rfl rfl ?_
         refine AWl.nil (AW.region ?_)
         refine AWl.put (R_add rfl (.no rfl) rfl (.tm rfl) (.const rfl) (fun _ => by omega)) rfl ?_
         refine AWl.mv rfl rfl rfl rfl rfl ?_
         refine AWl.nil ?_
         repeat (with_reducible refine BlockQ.nor ?_)
         refine Round2.next (k + 1) (L.set k [.v c32]) ⟨by omega, by simp [he1.1], fun j r hj hr => by rw [List.getElem?_set_ne (by omega)]; exact he1.2 j r (by omega) hr⟩ (by omega) (Le.sub0 rfl ⟨rfl, rfl, rfl, rfl, rfl, rfl, rfl, rfl, trivial⟩ ⟨(by rfl), (by refine congrArg (fun r => some (R.row 1 r)) ?_; first | (rw [filterA hb, if_pos (by simpa using h35)]; simp [chunk, cIntS]; done) | (rw [filterA hb, if_neg (by simpa using h35)]; simp; done) | (rw [wordsUp_succ, List.take_of_length_le (by first | omega | (simp at h30; omega))]; done)), trivial⟩)
       · skip
         try simp at h35
         refine AW.skip ?_
         refine AW.le (σ' := ⟨_, [(1, _), (4, _), (5, _), (6, _), (7, _), (9, _), (27, _), (28, _), (29, _)], [(2700, _), (18, _), (731, _)]⟩) (Le.sub0 rfl ⟨rfl, rfl, rfl, rfl, rfl, rfl, rfl, rfl, rfl, trivial⟩ ⟨rfl, rfl, rfl, trivial⟩) ?_
         refine AW.region ?_
         refine AWl.put (R_add rfl (.no rfl) rfl (.tm rfl) (.const rfl) (fun _ => by omega)) rfl ?_
         refine AWl.mv rfl rfl rfl rfl rfl ?_
         refine AWl.nil ?_
         repeat (with_reducible refine BlockQ.nor ?_)
         refine Round2.next (k + 1) (L.set k [.v c32]) ⟨by omega, by simp [he1.1], fun j r hj hr => by rw [List.getElem?_set_ne (by omega)]; exact he1.2 j r (by omega) hr⟩ (by omega) (Le.sub0 rfl ⟨rfl, rfl, rfl, rfl, rfl, rfl, rfl, rfl, trivial⟩ ⟨(by rfl), (by refine congrArg (fun r => some (R.row 1 r)) ?_; first | (rw [filterA hb, if_pos (by simpa using h35)]; simp [chunk, cIntS]; done) | (rw [filterA hb, if_neg (by simpa using h35)]; simp; done) | (rw [wordsUp_succ, List.take_of_length_le (by first | omega | (simp at h30; omega))]; done)), trivial⟩)
     · skip
       try simp at h30
       refine AW.exit ?_
       refine AW.region ?_
       refine AWl.mv rfl rfl rfl rfl rfl ?_
       refine AWl.put (R_add rfl (.no rfl) rfl (.tm rfl) (.const rfl) (fun _ => by omega)) rfl ?_
       refine AWl.av rfl rfl rfl rfl rfl ?_
       refine AWl.nil ?_
       repeat (with_reducible refine BlockQ.nor ?_)
       refine Round1.next (m + 1) ⟨by omega, trivial⟩ (by omega) (Le.sub0 rfl ⟨rfl, rfl, rfl, rfl, rfl, trivial⟩ ⟨(by refine congrArg (fun r => some (R.row 1 r)) ?_; first | (rw [filterA hb, if_pos (by simpa using h35)]; simp [chunk, cIntS]; done) | (rw [filterA hb, if_neg (by simpa using h35)]; simp; done) | (rw [wordsUp_succ, List.take_of_length_le (by omega)]; done)), trivial⟩)
   · skip
     try simp at h23
     refine AW.exit ?_
     refine AW.sr ?_
     refine AWl.mv rfl rfl rfl rfl rfl ?_
     refine AWl.av rfl rfl rfl rfl rfl ?_
     refine AWl.nil (AW.ret ?_)
     refine Res.one rfl (.tmp rfl .nil) rfl ?_
     rw [wordsE_some hx hyes, show n.toNat + 1 = m by have h := h23; first | omega | (simp at h; omega)]; rfl
end Go.Proofs.YtbkhopfpejhnlaaGreat
