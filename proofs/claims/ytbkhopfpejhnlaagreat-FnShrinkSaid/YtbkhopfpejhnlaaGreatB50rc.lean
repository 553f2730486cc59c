import Derived.Test.YtbkhopfpejhnlaaGreatB47rc
import Derived.Test.YtbkhopfpejhnlaaGreatB82rc
import Derived.Test.YtbkhopfpejhnlaaGreatB17rc
import Derived.Test.YtbkhopfpejhnlaaGreatAbsRrc
set_option linter.unusedVariables false
set_option linter.unusedSimpArgs false
set_option maxHeartbeats 1000000
set_option maxRecDepth 100000
namespace Go.Q
open Go.D
theorem relIn_pairs {n : Nat} (hn : n ≤ 5) {l : List TPair} (hl : relIn n l) (hs : StrictS pless l) : arePairs l = true := by
 unfold arePairs
 rw [List.all_eq_true]
 intro k hk
 have hk := List.mem_range.1 hk
 unfold apAt
 rw [List.getElem?_eq_getElem hk]
 have hb := hl _ (List.getElem_mem hk)
 have ho : okP l[k] = true := by unfold okP inB; simp; omega
 simp only [ho, Bool.true_and, Bool.not_eq_true', Bool.and_eq_false_iff, decide_eq_false_iff_not]
 by_cases h0 : 0 < k
 · right
   have hk1 : k - 1 < l.length := by omega
   rw [List.getElem?_eq_getElem hk1, Option.getD_some]
   simp only [Bool.not_eq_false']
   exact List.pairwise_iff_getElem.1 hs (k - 1) k hk1 hk (by omega)
 · exact .inl h0
def pairC1 (p : TPair) (b : List TPair) : List TPair := (b.filter fun q => decide (p.To = q.From)).map fun q => ⟨p.From, q.To⟩
theorem pairC1_at {p : TPair} {b : List TPair} {k : Nat} {q : TPair} (h : b[k]? = some q) : pairC1 p (b.take (k + 1)) = pairC1 p (b.take k) ++ if p.To = q.From then [⟨p.From, q.To⟩] else [] := by
 unfold pairC1
 rw [take_at h, List.filter_append, List.map_append]
 by_cases e : p.To = q.From <;> simp [e]
theorem pairsC_at {a b : List TPair} {k : Nat} {p : TPair} (h : a[k]? = some p) : pairsC (a.take (k + 1)) b = pairsC (a.take k) b ++ pairC1 p b := by
 unfold pairsC
 rw [take_at h, List.flatMap_append]; simp [pairC1]
theorem pairC1_len (p : TPair) (b : List TPair) : (pairC1 p b).length ≤ b.length := by
 unfold pairC1; rw [List.length_map]; exact List.length_filter_le _ _
theorem pairsC_take (a b : List TPair) (k : Nat) : (pairsC (a.take k) b).length ≤ a.length * b.length := Nat.le_trans (pairsC_len _ _) (Nat.mul_le_mul_right _ (by simp; omega))
def selfTo (g : TGraph) (k : Int) (x : Nat) : List TPair := (List.range x).flatMap (selfP g k)
theorem selfTo_succ (g : TGraph) (k : Int) (x : Nat) : selfTo g k (x + 1) = selfTo g k x ++ selfP g k x := by
 unfold selfTo; rw [List.range_succ, List.flatMap_append]; simp
theorem selfP_len (g : TGraph) (k : Int) (x : Nat) : (selfP g k x).length ≤ 1 := by unfold selfP; split <;> simp
theorem selfTo_len (g : TGraph) (k : Int) : ∀ x, (selfTo g k x).length ≤ x
 | 0 => by simp [selfTo]
 | x + 1 => by rw [selfTo_succ, List.length_append]; have := selfTo_len g k x; have := selfP_len g k x; omega
def edgeTo (g : TGraph) (k : Int) (j : Nat) : List TPair := (g.Edges.take j).flatMap (edgeP k)
theorem edgeTo_at {g : TGraph} {k : Int} {j : Nat} {e : TEdge} (h : g.Edges[j]? = some e) : edgeTo g k (j + 1) = edgeTo g k j ++ edgeP k e := by
 unfold edgeTo; rw [take_at h, List.flatMap_append]; simp
theorem edgeP_len (k : Int) (e : TEdge) : (edgeP k e).length ≤ 2 := by unfold edgeP; rw [List.length_append]; split <;> split <;> simp
theorem edgeTo_len (g : TGraph) (k : Int) (j : Nat) : (edgeTo g k j).length ≤ 2 * g.Edges.length := by
 unfold edgeTo
 have : ∀ l : List TEdge, (l.flatMap (edgeP k)).length ≤ 2 * l.length := by
  intro l
  induction l with
  | nil => simp
  | cons e l ih => rw [List.flatMap_cons, List.length_append, List.length_cons]; have := edgeP_len k e; omega
 have h := this (g.Edges.take j)
 rw [List.length_take] at h
 omega
def arcP (k : Int) (x : Nat) (y : TArc) : List TPair := if y.letter = k then [⟨(x : Int), y.to⟩] else []
def arcRow (g : TGraph) (k : Int) (x j : Nat) : List TPair := ((arcsAt g x).take j).flatMap (arcP k x)
theorem arcRow_at {g : TGraph} {k : Int} {x j : Nat} {y : TArc} (h : (arcsAt g x)[j]? = some y) : arcRow g k x (j + 1) = arcRow g k x j ++ arcP k x y := by
 unfold arcRow; rw [take_at h, List.flatMap_append]; simp
theorem arcRow_len (g : TGraph) (k : Int) (x j : Nat) : (arcRow g k x j).length ≤ 2 * g.Edges.length := by
 unfold arcRow
 have : ∀ l : List TArc, (l.flatMap (arcP k x)).length ≤ l.length := by
  intro l
  induction l with
  | nil => simp
  | cons e l ih =>
   rw [List.flatMap_cons, List.length_append, List.length_cons]
   have h1 : (arcP k x e).length ≤ 1 := by unfold arcP; split <;> simp
   omega
 have h := this ((arcsAt g x).take j)
 rw [List.length_take] at h
 have h2 : (arcsAt g x).length ≤ 2 * g.Edges.length := arcsL_len _ _
 omega
def arcTo (g : TGraph) (k : Int) (x : Nat) : List TPair := (List.range x).flatMap fun z => arcRow g k z (arcsAt g z).length ++ selfP g k z
theorem arcTo_succ (g : TGraph) (k : Int) (x : Nat) : arcTo g k (x + 1) = arcTo g k x ++ (arcRow g k x (arcsAt g x).length ++ selfP g k x) := by
 unfold arcTo; rw [List.range_succ, List.flatMap_append]; simp
theorem arcTo_len (g : TGraph) (k : Int) : ∀ x, (arcTo g k x).length ≤ x * (2 * g.Edges.length + 1)
 | 0 => by simp [arcTo]
 | x + 1 => by
  rw [arcTo_succ, List.length_append, List.length_append, Nat.succ_mul]
  have := arcTo_len g k x
  have := arcRow_len g k x (arcsAt g x).length
  have := selfP_len g k x
  omega
theorem arcTo_let {g : TGraph} (hg : validG g = true) (k : Int) : setG pless (arcTo g k g.Values.length) = letL g k := by
 unfold letL
 refine setG_ext fun p => ?_
 unfold arcTo
 rw [List.mem_append]
 simp only [List.mem_flatMap, List.mem_range, List.mem_append]
 have hrow : ∀ z : Nat, p ∈ arcRow g k z (arcsAt g z).length ↔ p.From = (z : Int) ∧ ∃ y ∈ arcsAt g z, y.letter = k ∧ p.To = y.to := by
  intro z
  unfold arcRow arcP
  rw [List.take_length]
  simp only [List.mem_flatMap]
  constructor
  · rintro ⟨y, hy, h⟩
    split at h
    · rename_i hk
      rw [List.mem_singleton] at h
      subst h
      exact ⟨rfl, y, hy, hk, rfl⟩
    · cases h
  · rintro ⟨h1, y, hy, hk, h2⟩
    exact ⟨y, hy, by rw [if_pos hk, List.mem_singleton]; cases p; simp at h1 h2 ⊢; exact ⟨h1, h2⟩⟩
 constructor
 · rintro ⟨z, hz, h | h⟩
   · right
     obtain ⟨h1, y, hy, hk, h2⟩ := (hrow z).1 h
     unfold arcsAt arcsL at hy
     obtain ⟨e, he, hy⟩ := List.mem_flatMap.1 hy
     refine ⟨e, he, ?_⟩
     unfold edgeP
     unfold arcsOf at hy
     rcases List.mem_append.1 hy with hy | hy
     · split at hy
       · rename_i hf
         rw [List.mem_singleton] at hy
         subst hy
         unfold reads at hk
         refine List.mem_append.2 (.inl ?_)
         rw [if_pos (by simpa using hk), List.mem_singleton]
         cases p; simp at h1 h2 ⊢; omega
       · cases hy
     · split at hy
       · rename_i hf
         rw [List.mem_singleton] at hy
         subst hy
         unfold reads at hk
         refine List.mem_append.2 (.inr ?_)
         rw [if_pos (by simpa using hk), List.mem_singleton]
         cases p; simp at h1 h2 ⊢; omega
       · cases hy
   · exact .inl ⟨z, hz, h⟩
 · rintro (⟨z, hz, h⟩ | ⟨e, he, h⟩)
   · exact ⟨z, hz, .inr h⟩
   · obtain ⟨j, hj⟩ := List.getElem?_of_mem he
     have hb := validG_edge hg hj
     unfold edgeP at h
     rcases List.mem_append.1 h with h | h
     · split at h
       · rename_i hk
         rw [List.mem_singleton] at h
         subst h
         refine ⟨e.From.toNat, by omega, .inl ((hrow _).2 ⟨by simp only; omega, ⟨⟨e.ID, false⟩, reads e false, e.To⟩, ?_, by simpa [reads] using hk, rfl⟩)⟩
         unfold arcsAt arcsL
         refine List.mem_flatMap.2 ⟨e, he, ?_⟩
         unfold arcsOf
         rw [if_pos (by omega)]; simp
       · cases h
     · split at h
       · rename_i hk
         rw [List.mem_singleton] at h
         subst h
         refine ⟨e.To.toNat, by omega, .inl ((hrow _).2 ⟨by simp only; omega, ⟨⟨e.ID, true⟩, reads e true, e.From⟩, ?_, by simpa [reads] using hk, rfl⟩)⟩
         unfold arcsAt arcsL
         refine List.mem_flatMap.2 ⟨e, he, ?_⟩
         unfold arcsOf
         rw [if_pos (show e.To = _ by omega)]; simp
       · cases h
theorem selfP_at {g : TGraph} {k v : Int} {x : Nat} (hv : g.Values[x]? = some v) : selfP g k x = if k = 6 + v then [⟨(x : Int), (x : Int)⟩] else [] := by unfold selfP; rw [hv]; rfl
end Go.Q
namespace Go.Proofs.YtbkhopfpejhnlaaGreat
open Go.RowKit Go.Q Go.D
theorem specIdentityRelation (n : Nat) (hn : n ≤ 5) : FnT Tryz.prog 80 [.one (.v (.int .i64 (n : Int)))] (.a (.one (.sl 2 ((idL n).map cPair)))) := by
 refine FnT.walk Tryz.func80 U (by kernel_rfl) Tryz.ntmps80 U fun hlen w0 => ?_
 try simp [cPair, cToken, cExpr, cEdge, cGraph] at hlen
 skip
 refine AW.sr ?_
 refine AWl.ac ?_
 refine AWl.nilS (i := 2) 20001 2 U U ?_
 refine AWl.nil (AW.sr ?_)
 refine AWl.add (R_empty 5 U U U Tryz.underlying58 ty63 U) U ?_
 refine AWl.av ?_
 refine AWl.nil (AW.seq ?_)
 refine AW.sr ?_
 refine AWl.ac ?_
 refine AWl.nil (AW.block ?_)
 refine AW.loop1 (fun (k : Nat) => (k ≤ n) ∧ True) (fun (k : Nat) => ⟨_, [(4, (true, .a (.one (.t (.v (.int .i64 (k : Nat))))))), (3, (true, .a (.one (.rf 5)))), (0, _), (2, _)], [(5, .row 2 ((idL k).map cPair))]⟩) (fun (k : Nat) => n - k) (0) ⟨Nat.zero_le _, Y⟩ (Le.sub0 U ⟨U, U, U, U, Y⟩ ⟨U, Y⟩) ?_
 rintro k ⟨hk, he⟩
 refine AW.seq ?_
 refine AW.sr ?_
 refine AWl.mv ?_
 refine AWl.mv ?_
 refine AWl.p (R_lt U (.no U) U (.tm U) (.tm U)) U ?_
 refine AWl.mv ?_
 refine AWl.p (R_move U (by exact .yes1 U U U U) U (.tmp U (by exact fun _ => rfl))) U ?_
 refine AWl.p (R_le U (by exact .yes1 U U U U) U (.tmp U (by exact id)) (.const U)) U ?_
 refine AWl.p (R_and U (.no U) U (.tm U) (.tmp U (by exact id))) U ?_
 refine AWl.nil ?_
 refine AW.cond (.tm U) (fun h12 => ?_) (fun h12 => ?_)
 · skip
   try simp at h12
   have hkn : k < n := by (first | omega | (simp at h12; omega))
   have hil : (idL k).length = k := by unfold idL; simp
   refine AW.skip ?_
   refine AW.seq ?_
   refine AW.block ?_
   refine AW.le (σ' := ⟨_, [(0, _), (2, _), (3, _), (4, _)], [(5, _)]⟩) (Le.sub0 U ⟨U, U, U, U, Y⟩ ⟨U, Y⟩) ?_
   refine AW.region ?_
   refine AWl.mv ?_
   refine AWl.mv ?_
   refine AWl.mv ?_
   refine AWl.p (R_build (ps := [(0, .tmp 16), (1, .tmp 17)]) U U U in63 U U st63 (.cons (.tm U) U U fp63_0 (.cons (.tm U) U U fp63_1 .nil)) U) U ?_
   refine AWl.absadd (R_list (xs := [.tmp 18]) 19 U U U (.cons (.tm U) U U .nil) Tryz.underlying58 in63 U U U U) U ?_
   refine AWl.chgput (R_append U U U (.tm U) U (.tm U) (by exact .rf U) (by rfl) Tryz.underlying58 in63 U (by (simp [chunk]; omega)) (by (unfold maxLen; simp [chunk]; omega))) U ?_
   refine AWl.le (σ' := ⟨_, [(0, _), (2, _), (3, _), (4, _), (20, _)], [(5, _), (19, _)]⟩) (Le.sub0 U ⟨U, U, U, U, U, Y⟩ ⟨U, U, Y⟩) ?_
   refine AWl.av ?_
   refine AWl.nil (AW.region ?_)
   refine AWl.mv ?_
   refine AWl.p (R_add U (.no U) U (.tm U) (.const U) (fun _ => by omega)) U ?_
   refine AWl.av ?_
   refine AWl.nil ?_
   repeat (with_reducible refine BlockQ.nor ?_)
   refine Round1.next (k + 1) ⟨by omega, Y⟩ (by omega) (Le.sub0 rfl ⟨rfl, rfl, rfl, rfl, Y⟩ ⟨(by refine congrArg (fun r => some (R.row 2 r)) ?_; rw [idL_succ]; simp [chunk, cPair]), Y⟩)
 · skip
   try simp at h12
   refine AW.exit ?_
   refine AW.seq ?_
   refine AW.le (σ' := ⟨_, [(0, _), (2, _), (3, _), (4, _)], [(5, _)]⟩) (Le.sub0 U ⟨U, U, U, U, Y⟩ ⟨U, Y⟩) ?_
   refine AW.region ?_
   refine AWl.mv ?_
   refine AWl.av ?_
   refine AWl.nil (AW.ret ?_)
   refine Res.one U (.tmp U .nil) U ?_
   rw [show k = n by first | omega | (simp at h12; omega)]; rfl
theorem implIdentityRelation (n : Nat) (hn : n ≤ 5) : FnT Tryz.prog 106 [.one (.v (.int .i64 (n : Int)))] (.a (.one (.sl 2 ((idL n).map cPair)))) := by
 refine FnT.walk Tryz.func106 U (by kernel_rfl) Tryz.ntmps106 U fun hlen w0 => ?_
 try simp [cPair, cToken, cExpr, cEdge, cGraph] at hlen
 skip
 refine AW.sr ?_
 refine AWl.ac ?_
 refine AWl.nilS (i := 2) 20001 2 U U ?_
 refine AWl.nil (AW.seq ?_)
 refine AW.sr ?_
 refine AWl.mv ?_
 refine AWl.p (R_gt U (.no U) U (.tm U) (.const U)) U ?_
 refine AWl.nil ?_
 refine AW.cond (.tm U) (fun h6 => ?_) (fun h6 => ?_)
 · exact absurd h6 (by simp at h6; omega)
 · skip
   try simp at h6
   refine AW.skip ?_
   refine AW.sr ?_
   refine AWl.add (R_empty 7 U U U Tryz.underlying58 ty63 U) U ?_
   refine AWl.av ?_
   refine AWl.nil (AW.seq ?_)
   refine AW.sr ?_
   refine AWl.ac ?_
   refine AWl.nil (AW.block ?_)
   refine AW.loop1 (fun (k : Nat) => (k ≤ n) ∧ True) (fun (k : Nat) => ⟨_, [(4, (true, .a (.one (.t (.v (.int .i64 (k : Nat))))))), (3, (true, .a (.one (.rf 7)))), (0, _), (2, _)], [(7, .row 2 ((idL k).map cPair))]⟩) (fun (k : Nat) => n - k) (0) ⟨Nat.zero_le _, Y⟩ (Le.sub0 U ⟨U, U, U, U, Y⟩ ⟨U, Y⟩) ?_
   rintro k ⟨hk, he⟩
   refine AW.seq ?_
   refine AW.sr ?_
   refine AWl.mv ?_
   refine AWl.mv ?_
   refine AWl.p (R_lt U (.no U) U (.tm U) (.tm U)) U ?_
   refine AWl.nil ?_
   refine AW.cond (.tm U) (fun h10 => ?_) (fun h10 => ?_)
   · skip
     try simp at h10
     have hkn : k < n := by omega
     have hil : (idL k).length = k := by unfold idL; simp
     refine AW.skip ?_
     refine AW.seq ?_
     refine AW.block ?_
     refine AW.region ?_
     refine AWl.mv ?_
     refine AWl.mv ?_
     refine AWl.mv ?_
     refine AWl.p (R_build (ps := [(0, .tmp 14), (1, .tmp 15)]) U U U in63 U U st63 (.cons (.tm U) U U fp63_0 (.cons (.tm U) U U fp63_1 .nil)) U) U ?_
     refine AWl.absadd (R_list (xs := [.tmp 16]) 17 U U U (.cons (.tm U) U U .nil) Tryz.underlying58 in63 U U U U) U ?_
     refine AWl.chgput (R_append U U U (.tm U) U (.tm U) (by exact .rf U) (by rfl) Tryz.underlying58 in63 U (by (simp [chunk]; omega)) (by (unfold maxLen; simp [chunk]; omega))) U ?_
     refine AWl.le (σ' := ⟨_, [(0, _), (2, _), (3, _), (4, _), (10, _), (18, _)], [(7, _), (17, _)]⟩) (Le.sub0 U ⟨U, U, U, U, U, U, Y⟩ ⟨U, U, Y⟩) ?_
     refine AWl.av ?_
     refine AWl.nil (AW.region ?_)
     refine AWl.mv ?_
     refine AWl.p (R_add U (.no U) U (.tm U) (.const U) (fun _ => by omega)) U ?_
     refine AWl.av ?_
     refine AWl.nil ?_
     repeat (with_reducible refine BlockQ.nor ?_)
     refine Round1.next (k + 1) ⟨by omega, Y⟩ (by omega) (Le.sub0 rfl ⟨rfl, rfl, rfl, rfl, Y⟩ ⟨(by refine congrArg (fun r => some (R.row 2 r)) ?_; rw [idL_succ]; simp [chunk, cPair]), Y⟩)
   · skip
     try simp at h10
     refine AW.exit ?_
     refine AW.sr ?_
     refine AWl.mv ?_
     refine AWl.av ?_
     refine AWl.nil (AW.ret ?_)
     refine Res.one U (.tmp U .nil) U ?_
     rw [show k = n by omega]; rfl
theorem specHoldsAt (g : TGraph) (hg : validG g = true) (x k v : Int) (hx : 0 ≤ x) (hv : g.Values[x.toNat]? = some v) (hk : 0 ≤ k ∧ k ≤ 8) : FnT Tryz.prog 115 [.agg (cGraph g), .one (.v (.int .i64 x)), .one (.v (.int .i64 k))] (.a (.one (.v (.bool (decide (k = 6 + v)))))) := by
 refine FnT.walk Tryz.func115 U (by kernel_rfl) Tryz.ntmps115 U fun hlen w0 => ?_
 try simp [cPair, cToken, cExpr, cEdge, cGraph] at hlen
 have hG := validG_len hg
 have hvr := validG_val hg hv
 have hxl := (List.getElem?_eq_some_iff.1 hv).1
 refine AW.sr ?_
 refine AWl.p (R_boxz U U U (.tm U) (ts := _) (by rfl)) U ?_
 refine AWl.ac ?_
 refine AWl.nil (AW.sr ?_)
 refine AWl.p (by exact R_load U (.no U) U (.tm U) ty27 U U) U ?_
 refine AWl.p (R_callz (FnT.fr (specIsValidGraph g)) U (.no U) U (.cons (.tm U) U .nil)) U ?_
 refine AWl.mv ?_
 refine AWl.p (R_move U (by exact .yes1 U U U U) U (.tmp U (by exact fun _ => rfl))) U ?_
 refine AWl.p (by exact R_fieldAddr U (by exact .yes1 U U U U) U (.tmp U (by exact fun _ => rfl)) fl27_0) U ?_
 refine AWl.p (by exact R_load U (by exact .yes1 U U U U) U (.tmp U (by exact id)) ty24 U U) U ?_
 refine AWl.p (by exact R_lenm U (by exact .yes1 U U U U) U (.tmp U (by exact id)) (by exact .t) Tryz.underlying24) U ?_
 refine AWl.p (R_sub U (by exact .yes1 U U U U) U (.tmp U (by exact id)) (.const U) (fun hq => by first | omega | (simp at hq; omega))) U ?_
 refine AWl.p (R_callz (FnT.fr (specl1In ..)) U (by exact .yes1 U U U U) U (.cons (.tmp U (by exact id)) U (.cons (.const U) U (.cons (.tmp U (by exact id)) U .nil)))) U ?_
 refine AWl.p (R_and U (.no U) U (.tm U) (.tmp U (by exact id))) U ?_
 refine AWl.mv ?_
 refine AWl.p (R_move U (by exact .yes1 U U U U) U (.tmp U (by exact fun _ => rfl))) U ?_
 refine AWl.p (R_callz (FnT.fr (specl1In ..)) U (by exact .yes1 U U U U) U (.cons (.tmp U (by exact id)) U (.cons (.const U) U (.cons (.const U) U .nil)))) U ?_
 refine AWl.p (R_and U (.no U) U (.tm U) (.tmp U (by exact id))) U ?_
 refine AWl.mv ?_
 refine AWl.p (by exact R_fieldAddr U (by exact .yes1 U U U U) U (.tmp U (by exact fun _ => rfl)) fl27_0) U ?_
 refine AWl.p (by exact R_load U (by exact .yes1 U U U U) U (.tmp U (by exact id)) ty24 U U) U ?_
 refine AWl.p (R_move U (by exact .yes1 U U U U) U (.tmp U (by exact fun _ => rfl))) U ?_
 refine AWl.p (by exact R_indexAddr U (by exact .yes1 U U U U) U (.tmp U (by exact id)) (.tmp U (by exact id)) Tryz.underlying24 ty3 (fun hq => by (try simp at hq); exact ⟨by omega, (map_get hv)⟩)) U ?_
 refine AWl.p (by exact R_load U (by exact .yes1 U U U U) U (.tmp U (by exact id)) ty3 U U) U ?_
 refine AWl.p (R_move U (by exact .yes1 U U U U) U (.tmp U (by exact fun _ => rfl))) U ?_
 refine AWl.p (R_sub U (by exact .yes1 U U U U) U (.tmp U (by exact id)) (.const U) (fun hq => by first | omega | (simp at hq; omega))) U ?_
 refine AWl.p (R_eq U (by exact .yes1 U U U U) U (.tmp U (by exact id)) (.tmp U (by exact id))) U ?_
 refine AWl.p (R_and U (.no U) U (.tm U) (.tmp U (by exact id))) U ?_
 refine AWl.av ?_
 refine AWl.nil (AW.ret ?_)
 refine Res.v U U ?_
 (congr 1; unfold inB; rw [hg, Bool.eq_iff_iff]; simp only [Bool.and_eq_true, decide_eq_true_eq, true_and]; omega)
theorem implHoldsAt (g : TGraph) (hg : validG g = true) (x k v : Int) (hx : 0 ≤ x) (hv : g.Values[x.toNat]? = some v) (hk : 0 ≤ k ∧ k ≤ 8) : FnT Tryz.prog 126 [.agg (cGraph g), .one (.v (.int .i64 x)), .one (.v (.int .i64 k))] (.a (.one (.v (.bool (decide (k = 6 + v)))))) := by
 refine FnT.walk Tryz.func126 U (by kernel_rfl) Tryz.ntmps126 U fun hlen w0 => ?_
 try simp [cPair, cToken, cExpr, cEdge, cGraph] at hlen
 have hG := validG_len hg
 have hvr := validG_val hg hv
 have hxl := (List.getElem?_eq_some_iff.1 hv).1
 refine AW.sr ?_
 refine AWl.p (R_boxz U U U (.tm U) (ts := _) (by rfl)) U ?_
 refine AWl.ac ?_
 refine AWl.nil (AW.sr ?_)
 refine AWl.p (by exact R_load U (.no U) U (.tm U) ty27 U U) U ?_
 refine AWl.p (R_callz (FnT.fr (implIsValidGraph g)) U (.no U) U (.cons (.tm U) U .nil)) U ?_
 refine AWl.mv ?_
 refine AWl.p (R_move U (by exact .yes1 U U U U) U (.tmp U (by exact fun _ => rfl))) U ?_
 refine AWl.p (by exact R_fieldAddr U (by exact .yes1 U U U U) U (.tmp U (by exact fun _ => rfl)) fl27_0) U ?_
 refine AWl.p (by exact R_load U (by exact .yes1 U U U U) U (.tmp U (by exact id)) ty24 U U) U ?_
 refine AWl.p (by exact R_lenm U (by exact .yes1 U U U U) U (.tmp U (by exact id)) (by exact .t) Tryz.underlying24) U ?_
 refine AWl.p (R_sub U (by exact .yes1 U U U U) U (.tmp U (by exact id)) (.const U) (fun hq => by first | omega | (simp at hq; omega))) U ?_
 refine AWl.p (R_callz (FnT.fr (implwithin ..)) U (by exact .yes1 U U U U) U (.cons (.tmp U (by exact id)) U (.cons (.const U) U (.cons (.tmp U (by exact id)) U .nil)))) U ?_
 refine AWl.p (R_and U (.no U) U (.tm U) (.tmp U (by exact id))) U ?_
 refine AWl.mv ?_
 refine AWl.p (R_move U (by exact .yes1 U U U U) U (.tmp U (by exact fun _ => rfl))) U ?_
 refine AWl.p (R_callz (FnT.fr (implisLetter ..)) U (by exact .yes1 U U U U) U (.cons (.tmp U (by exact id)) U .nil)) U ?_
 refine AWl.p (R_and U (.no U) U (.tm U) (.tmp U (by exact id))) U ?_
 refine AWl.mv ?_
 refine AWl.p (R_move U (by exact .yes1 U U U U) U (.tmp U (by exact fun _ => rfl))) U ?_
 refine AWl.p (by exact R_fieldAddr U (by exact .yes1 U U U U) U (.tmp U (by exact fun _ => rfl)) fl27_0) U ?_
 refine AWl.p (by exact R_load U (by exact .yes1 U U U U) U (.tmp U (by exact id)) ty24 U U) U ?_
 refine AWl.p (R_move U (by exact .yes1 U U U U) U (.tmp U (by exact fun _ => rfl))) U ?_
 refine AWl.p (by exact R_indexAddr U (by exact .yes1 U U U U) U (.tmp U (by exact id)) (.tmp U (by exact id)) Tryz.underlying24 ty3 (fun hq => by (try simp at hq); exact ⟨by omega, (map_get hv)⟩)) U ?_
 refine AWl.p (by exact R_load U (by exact .yes1 U U U U) U (.tmp U (by exact id)) ty3 U U) U ?_
 refine AWl.p (R_add U (by exact .yes1 U U U U) U (.const U) (.tmp U (by exact id)) (fun hq => by first | omega | (simp at hq; omega))) U ?_
 refine AWl.p (R_eq U (by exact .yes1 U U U U) U (.tmp U (by exact id)) (.tmp U (by exact id))) U ?_
 refine AWl.p (R_and U (.no U) U (.tm U) (.tmp U (by exact id))) U ?_
 refine AWl.av ?_
 refine AWl.nil (AW.ret ?_)
 refine Res.v U U ?_
 (congr 1; unfold inB; rw [hg, Bool.eq_iff_iff]; simp only [Bool.and_eq_true, decide_eq_true_eq, true_and]; omega)
theorem specLetterRelation (g : TGraph) (hg : validG g = true) (k : Int) (hkr : 0 ≤ k ∧ k ≤ 8) : FnT Tryz.prog 81 [.agg (cGraph g), .one (.v (.int .i64 k))] (.a (.one (.sl 2 ((letL g k).map cPair)))) := by
 refine FnT.walk Tryz.func81 U (by kernel_rfl) Tryz.ntmps81 U fun hlen w0 => ?_
 try simp [cPair, cToken, cExpr, cEdge, cGraph] at hlen
 have hG := validG_len hg
 refine AW.sr ?_
 refine AWl.p (R_boxz U U U (.tm U) (ts := _) (by rfl)) U ?_
 refine AWl.ac ?_
 refine AWl.nilS (i := 4) 20001 2 U U ?_
 refine AWl.nil (AW.sr ?_)
 refine AWl.add (R_empty 9 U U U Tryz.underlying58 ty63 U) U ?_
 refine AWl.av ?_
 refine AWl.nil (AW.seq ?_)
 refine AW.sr ?_
 refine AWl.p (by exact R_load U (.no U) U (.tm U) ty27 U U) U ?_
 refine AWl.p (R_callz (FnT.fr (specIsValidGraph g)) U (.no U) U (.cons (.tm U) U .nil)) U ?_
 refine AWl.p (R_not U (.no U) U (.tm U)) U ?_
 refine AWl.nil ?_
 refine AW.cond (.tm U) (fun h12 => ?_) (fun h12 => ?_)
 · exact absurd h12 (by simp [hg] at h12)
 · skip
   try simp at h12
   refine AW.skip ?_
   refine AW.seq ?_
   refine AW.sr ?_
   refine AWl.ac ?_
   refine AWl.nil (AW.block ?_)
   refine AW.loop1 (fun (x : Nat) => (x ≤ g.Values.length) ∧ True) (fun (x : Nat) => ⟨_, [(6, (true, .a (.one (.t (.v (.int .i64 (x : Nat))))))), (5, (true, .a (.one (.rf 9)))), (1, _), (2, _), (4, _)], [(9, .row 2 ((setG pless (selfTo g k x)).map cPair))]⟩) (fun (x : Nat) => g.Values.length - x) (0) ⟨Nat.zero_le _, Y⟩ (Le.sub0 U ⟨U, U, U, U, U, Y⟩ ⟨(by refine congrArg (fun r => some (R.row 2 r)) ?_; first | (simp [selfTo, setG]; done) | (rw [show x = g.Values.length by omega]; simp [edgeTo]; done)), Y⟩) ?_
   rintro x ⟨hk, he⟩
   refine AW.seq ?_
   refine AW.sr ?_
   refine AWl.mv ?_
   refine AWl.p (by exact R_fieldAddr U (.no U) U (.tm U) fl27_0) U ?_
   refine AWl.p (by exact R_load U (.no U) U (.tm U) ty24 U U) U ?_
   refine AWl.p (by exact R_lenm U (.no U) U (.tm U) (by exact .t) Tryz.underlying24) U ?_
   refine AWl.p (R_lt U (.no U) U (.tm U) (.tm U)) U ?_
   refine AWl.nil ?_
   refine AW.cond (.tm U) (fun h18 => ?_) (fun h18 => ?_)
   · skip
     try simp at h18
     obtain ⟨v, hv⟩ : ∃ v, g.Values[x]? = some v := ⟨_, List.getElem?_eq_getElem (by omega)⟩
     have hsl := selfTo_len g k x
     refine AW.skip ?_
     refine AW.seq ?_
     refine AW.block ?_
     refine AW.sr ?_
     refine AWl.p (by exact R_load U (.no U) U (.tm U) ty27 U U) U ?_
     refine AWl.mv ?_
     refine AWl.mv ?_
     refine AWl.p (R_callz (FnT.fr (specHoldsAt g hg (x : Int) k v (by omega) (by simpa using hv) hkr)) U (.no U) U (.cons (.tm U) U (.cons (.tm U) U (.cons (.tm U) U .nil)))) U ?_
     refine AWl.nil ?_
     refine AW.cond (.tm U) (fun h24 => ?_) (fun h24 => ?_)
     · skip
       try simp at h24
       refine AW.le (σ' := ⟨_, [(1, _), (2, _), (4, _), (5, _), (6, _)], [(9, _)]⟩) (Le.sub0 U ⟨U, U, U, U, U, Y⟩ ⟨U, Y⟩) ?_
       refine AW.region ?_
       refine AWl.mv ?_
       refine AWl.mv ?_
       refine AWl.mv ?_
       refine AWl.p (R_build (ps := [(0, .tmp 26), (1, .tmp 27)]) U U U in63 U U st63 (.cons (.tm U) U U fp63_0 (.cons (.tm U) U U fp63_1 .nil)) U) U ?_
       apply AWl.consume
       case ho =>
        apply R_consume (xo := .tmp 25) 9 (specl15Put (setG pless (selfTo g k x)) ⟨(x : Int), (x : Int)⟩ (Nat.le_trans (setG_len _) (by omega))) rfl rfl rfl (.tm rfl)
        case ha => rfl
        case hargs => exact (ArgC.own (ArgRd.agg (.tm rfl) .nil))
        all_goals rfl
       case hd => rfl
       refine AWl.av ?_
       refine AWl.nil (AW.region ?_)
       refine AWl.mv ?_
       refine AWl.p (R_add U (.no U) U (.tm U) (.const U) (fun _ => by omega)) U ?_
       refine AWl.av ?_
       refine AWl.nil ?_
       repeat (with_reducible refine BlockQ.nor ?_)
       refine Round1.next (x + 1) ⟨by omega, Y⟩ (by omega) (Le.sub0 rfl ⟨rfl, rfl, rfl, rfl, rfl, Y⟩ ⟨(by refine congrArg (fun r => some (R.row 2 r)) ?_; first | (rw [selfTo_succ, selfP_at hv, if_pos (by simpa using h24), setG_add]; done) | (rw [selfTo_succ, selfP_at hv, if_neg (by simpa using h24), List.append_nil]; done) | (rw [edgeTo_at hx]; unfold edgeP; rw [if_pos h59, ← List.append_assoc, ← List.append_assoc, setG_add]; done) | (rw [edgeTo_at hx]; unfold edgeP; rw [if_neg h59, List.append_nil, ← List.append_assoc]; done)), Y⟩)
     · skip
       try simp at h24
       refine AW.skip ?_
       refine AW.le (σ' := ⟨_, [(1, _), (2, _), (4, _), (5, _), (6, _)], [(9, _)]⟩) (Le.sub0 U ⟨U, U, U, U, U, Y⟩ ⟨U, Y⟩) ?_
       refine AW.region ?_
       refine AWl.mv ?_
       refine AWl.p (R_add U (.no U) U (.tm U) (.const U) (fun _ => by omega)) U ?_
       refine AWl.av ?_
       refine AWl.nil ?_
       repeat (with_reducible refine BlockQ.nor ?_)
       refine Round1.next (x + 1) ⟨by omega, Y⟩ (by omega) (Le.sub0 rfl ⟨rfl, rfl, rfl, rfl, rfl, Y⟩ ⟨(by refine congrArg (fun r => some (R.row 2 r)) ?_; first | (rw [selfTo_succ, selfP_at hv, if_pos (by simpa using h24), setG_add]; done) | (rw [selfTo_succ, selfP_at hv, if_neg (by simpa using h24), List.append_nil]; done) | (rw [edgeTo_at hx]; unfold edgeP; rw [if_pos h59, ← List.append_assoc, ← List.append_assoc, setG_add]; done) | (rw [edgeTo_at hx]; unfold edgeP; rw [if_neg h59, List.append_nil, ← List.append_assoc]; done)), Y⟩)
   · skip
     try simp at h18
     refine AW.exit ?_
     refine AW.seq ?_
     refine AW.sr ?_
     refine AWl.ac ?_
     refine AWl.nil (AW.block ?_)
     refine AW.loop1 (fun (j : Nat) => (j ≤ g.Edges.length) ∧ True) (fun (j : Nat) => ⟨_, [(7, (true, .a (.one (.t (.v (.int .i64 (j : Nat))))))), (5, (true, .a (.one (.rf 9)))), (1, _), (2, _), (4, _)], [(9, .row 2 ((setG pless (selfTo g k g.Values.length ++ edgeTo g k j)).map cPair))]⟩) (fun (j : Nat) => g.Edges.length - j) (0) ⟨Nat.zero_le _, Y⟩ (Le.sub0 U ⟨U, U, U, U, U, Y⟩ ⟨(by refine congrArg (fun r => some (R.row 2 r)) ?_; first | (simp [selfTo, setG]; done) | (rw [show x = g.Values.length by omega]; simp [edgeTo]; done)), Y⟩) ?_
     rintro j ⟨hk1, he1⟩
     refine AW.seq ?_
     refine AW.sr ?_
     refine AWl.mv ?_
     refine AWl.p (by exact R_fieldAddr U (.no U) U (.tm U) fl27_1) U ?_
     refine AWl.p (by exact R_load U (.no U) U (.tm U) ty25 U U) U ?_
     refine AWl.p (by exact R_lenm U (.no U) U (.tm U) (by exact .t) Tryz.underlying25) U ?_
     refine AWl.p (R_lt U (.no U) U (.tm U) (.tm U)) U ?_
     refine AWl.nil ?_
     refine AW.cond (.tm U) (fun h34 => ?_) (fun h34 => ?_)
     · skip
       try simp at h34
       obtain ⟨e, hx⟩ : ∃ ξ, g.Edges[j]? = some ξ := ⟨_, List.getElem?_eq_getElem (by omega)⟩
       have hb := validG_edge hg hx
       have hsl := selfTo_len g k g.Values.length
       have hel := edgeTo_len g k j
       refine AW.skip ?_
       refine AW.seq ?_
       refine AW.block ?_
       refine AW.sr ?_
       refine AWl.p (by exact R_fieldAddr U (.no U) U (.tm U) fl27_1) U ?_
       refine AWl.p (by exact R_load U (.no U) U (.tm U) ty25 U U) U ?_
       refine AWl.mv ?_
       refine AWl.p (by exact R_indexAddr U (.no U) U (.tm U) (.tm U) Tryz.underlying25 ty39 (fun _ => ⟨by omega, (map_get hx)⟩)) U ?_
       refine AWl.p (by exact R_load U (.no U) U (.tm U) ty39 U U) U ?_
       refine AWl.add (R_alloc 8 U U U in39 U U U) U ?_
       refine AWl.chgb (R_store_pb U U U (.tm U) (.tm U) U ty39 U U U (by kernel_rfl) U) ?_
       refine AWl.nil (AW.seq ?_)
       refine AW.seq ?_
       refine AW.le (σ' := ⟨_, [(1, _), (2, _), (4, _), (5, _), (7, _), (8, _)], [(9, _), (8, _)]⟩) (Le.sub0 U ⟨U, U, U, U, U, U, Y⟩ ⟨U, U, Y⟩) ?_
       refine AW.region ?_
       refine AWl.p (by exact R_fieldAddr_pp U (.no U) U (.tm U) fl39_3) U ?_
       refine AWl.p (by exact R_load_pp U (.no U) U (.tm U) U ty3 U U) U ?_
       refine AWl.p (R_mul U (.no U) U (.const U) (.tm U) (fun _ => by omega)) U ?_
       refine AWl.mv ?_
       refine AWl.p (R_eq U (.no U) U (.tm U) (.tm U)) U ?_
       refine AWl.nil ?_
       refine AW.cond (.tm U) (fun h46 => ?_) (fun h46 => ?_)
       · skip
         try simp at h46
         refine AW.region ?_
         refine AWl.mv ?_
         refine AWl.p (by exact R_fieldAddr_pp U (.no U) U (.tm U) fl39_1) U ?_
         refine AWl.p (by exact R_load_pp U (.no U) U (.tm U) U ty3 U U) U ?_
         refine AWl.p (by exact R_fieldAddr_pp U (.no U) U (.tm U) fl39_2) U ?_
         refine AWl.p (by exact R_load_pp U (.no U) U (.tm U) U ty3 U U) U ?_
         refine AWl.p (R_build (ps := [(0, .tmp 49), (1, .tmp 51)]) U U U in63 U U st63 (.cons (.tm U) U U fp63_0 (.cons (.tm U) U U fp63_1 .nil)) U) U ?_
         apply AWl.consume
         case ho =>
          apply R_consume (xo := .tmp 47) 9 (specl15Put (setG pless (selfTo g k g.Values.length ++ edgeTo g k j)) ⟨e.From, e.To⟩ (Nat.le_trans (setG_len _) (by rw [List.length_append]; omega))) rfl rfl rfl (.tm rfl)
          case ha => rfl
          case hargs => exact (ArgC.own (ArgRd.agg (.tm rfl) .nil))
          all_goals rfl
         case hd => rfl
         refine AWl.av ?_
         refine AWl.nil (AW.seq ?_)
         refine AW.le (σ' := ⟨_, [(1, _), (2, _), (4, _), (5, _), (7, _), (8, _)], [(8, _), (9, .row 2 ((setG pless (selfTo g k g.Values.length ++ edgeTo g k j ++ (if 2 * e.Label = k then [⟨e.From, e.To⟩] else []))).map cPair))]⟩) (Le.sub0 U ⟨U, U, U, U, U, U, Y⟩ ⟨U, by refine congrArg (fun r => some (R.row 2 r)) ?_; first | (rw [if_pos h46, setG_add]; done) | (rw [if_neg h46, List.append_nil]; done), Y⟩) ?_
         refine AW.region ?_
         refine AWl.p (by exact R_fieldAddr_pp U (.no U) U (.tm U) fl39_3) U ?_
         refine AWl.p (by exact R_load_pp U (.no U) U (.tm U) U ty3 U U) U ?_
         refine AWl.p (R_mul U (.no U) U (.const U) (.tm U) (fun _ => by omega)) U ?_
         refine AWl.p (R_add U (.no U) U (.tm U) (.const U) (fun _ => by omega)) U ?_
         refine AWl.mv ?_
         refine AWl.p (R_eq U (.no U) U (.tm U) (.tm U)) U ?_
         refine AWl.nil ?_
         refine AW.cond (.tm U) (fun h59 => ?_) (fun h59 => ?_)
         · skip
           try simp at h59
           refine AW.le (σ' := ⟨_, [(1, _), (2, _), (4, _), (5, _), (7, _), (8, _)], [(8, _), (9, _)]⟩) (Le.sub0 U ⟨U, U, U, U, U, U, Y⟩ ⟨U, U, Y⟩) ?_
           refine AW.region ?_
           refine AWl.mv ?_
           refine AWl.p (by exact R_fieldAddr_pp U (.no U) U (.tm U) fl39_2) U ?_
           refine AWl.p (by exact R_load_pp U (.no U) U (.tm U) U ty3 U U) U ?_
           refine AWl.p (by exact R_fieldAddr_pp U (.no U) U (.tm U) fl39_1) U ?_
           refine AWl.p (by exact R_load_pp U (.no U) U (.tm U) U ty3 U U) U ?_
           refine AWl.p (R_build (ps := [(0, .tmp 62), (1, .tmp 64)]) U U U in63 U U st63 (.cons (.tm U) U U fp63_0 (.cons (.tm U) U U fp63_1 .nil)) U) U ?_
           apply AWl.consume
           case ho =>
            apply R_consume (xo := .tmp 60) 9 (specl15Put (setG pless (selfTo g k g.Values.length ++ edgeTo g k j ++ (if 2 * e.Label = k then [⟨e.From, e.To⟩] else []))) ⟨e.To, e.From⟩ (Nat.le_trans (setG_len _) (by rw [List.length_append, List.length_append]; split <;> simp <;> omega))) rfl rfl rfl (.tm rfl)
            case ha => rfl
            case hargs => exact (ArgC.own (ArgRd.agg (.tm rfl) .nil))
            all_goals rfl
           case hd => rfl
           refine AWl.av ?_
           refine AWl.nil ?_
           refine AW.le (σ' := ⟨_, [(1, _), (2, _), (4, _), (5, _), (7, _), (8, _)], [(8, _), (9, _)]⟩) (Le.sub0 U ⟨U, U, U, U, U, U, Y⟩ ⟨U, U, Y⟩) ?_
           refine AW.region ?_
           refine AWl.mv ?_
           refine AWl.p (R_add U (.no U) U (.tm U) (.const U) (fun _ => by omega)) U ?_
           refine AWl.av ?_
           refine AWl.nil ?_
           repeat (with_reducible refine BlockQ.nor ?_)
           refine Round1.next (j + 1) ⟨by omega, Y⟩ (by omega) (Le.sub0 rfl ⟨rfl, rfl, rfl, rfl, rfl, Y⟩ ⟨(by refine congrArg (fun r => some (R.row 2 r)) ?_; first | (rw [selfTo_succ, selfP_at hv, if_pos (by simpa using h24), setG_add]; done) | (rw [selfTo_succ, selfP_at hv, if_neg (by simpa using h24), List.append_nil]; done) | (rw [edgeTo_at hx]; unfold edgeP; rw [if_pos h59, ← List.append_assoc, ← List.append_assoc, setG_add]; done) | (rw [edgeTo_at hx]; unfold edgeP; rw [if_neg h59, List.append_nil, ← List.append_assoc]; done)), Y⟩)
         · skip
           try simp at h59
           refine AW.skip ?_
           refine AW.le (σ' := ⟨_, [(1, _), (2, _), (4, _), (5, _), (7, _), (8, _)], [(8, _), (9, _)]⟩) (Le.sub0 U ⟨U, U, U, U, U, U, Y⟩ ⟨U, U, Y⟩) ?_
           refine AW.region ?_
           refine AWl.mv ?_
           refine AWl.p (R_add U (.no U) U (.tm U) (.const U) (fun _ => by omega)) U ?_
           refine AWl.av ?_
           refine AWl.nil ?_
           repeat (with_reducible refine BlockQ.nor ?_)
           refine Round1.next (j + 1) ⟨by omega, Y⟩ (by omega) (Le.sub0 rfl ⟨rfl, rfl, rfl, rfl, rfl, Y⟩ ⟨(by refine congrArg (fun r => some (R.row 2 r)) ?_; first | (rw [selfTo_succ, selfP_at hv, if_pos (by simpa using h24), setG_add]; done) | (rw [selfTo_succ, selfP_at hv, if_neg (by simpa using h24), List.append_nil]; done) | (rw [edgeTo_at hx]; unfold edgeP; rw [if_pos h59, ← List.append_assoc, ← List.append_assoc, setG_add]; done) | (rw [edgeTo_at hx]; unfold edgeP; rw [if_neg h59, List.append_nil, ← List.append_assoc]; done)), Y⟩)
       · skip
         try simp at h46
         refine AW.skip ?_
         refine AW.seq ?_
         refine AW.le (σ' := ⟨_, [(1, _), (2, _), (4, _), (5, _), (7, _), (8, _)], [(9, .row 2 ((setG pless (selfTo g k g.Values.length ++ edgeTo g k j ++ (if 2 * e.Label = k then [⟨e.From, e.To⟩] else []))).map cPair)), (8, _)]⟩) (Le.sub0 U ⟨U, U, U, U, U, U, Y⟩ ⟨by refine congrArg (fun r => some (R.row 2 r)) ?_; first | (rw [if_pos h46, setG_add]; done) | (rw [if_neg h46, List.append_nil]; done), U, Y⟩) ?_
         refine AW.region ?_
         refine AWl.p (by exact R_fieldAddr_pp U (.no U) U (.tm U) fl39_3) U ?_
         refine AWl.p (by exact R_load_pp U (.no U) U (.tm U) U ty3 U U) U ?_
         refine AWl.p (R_mul U (.no U) U (.const U) (.tm U) (fun _ => by omega)) U ?_
         refine AWl.p (R_add U (.no U) U (.tm U) (.const U) (fun _ => by omega)) U ?_
         refine AWl.mv ?_
         refine AWl.p (R_eq U (.no U) U (.tm U) (.tm U)) U ?_
         refine AWl.nil ?_
         refine AW.cond (.tm U) (fun h59 => ?_) (fun h59 => ?_)
         · skip
           try simp at h59
           refine AW.le (σ' := ⟨_, [(1, _), (2, _), (4, _), (5, _), (7, _), (8, _)], [(9, _), (8, _)]⟩) (Le.sub0 U ⟨U, U, U, U, U, U, Y⟩ ⟨U, U, Y⟩) ?_
           refine AW.region ?_
           refine AWl.mv ?_
           refine AWl.p (by exact R_fieldAddr_pp U (.no U) U (.tm U) fl39_2) U ?_
           refine AWl.p (by exact R_load_pp U (.no U) U (.tm U) U ty3 U U) U ?_
           refine AWl.p (by exact R_fieldAddr_pp U (.no U) U (.tm U) fl39_1) U ?_
           refine AWl.p (by exact R_load_pp U (.no U) U (.tm U) U ty3 U U) U ?_
           refine AWl.p (R_build (ps := [(0, .tmp 62), (1, .tmp 64)]) U U U in63 U U st63 (.cons (.tm U) U U fp63_0 (.cons (.tm U) U U fp63_1 .nil)) U) U ?_
           apply AWl.consume
           case ho =>
            apply R_consume (xo := .tmp 60) 9 (specl15Put (setG pless (selfTo g k g.Values.length ++ edgeTo g k j ++ (if 2 * e.Label = k then [⟨e.From, e.To⟩] else []))) ⟨e.To, e.From⟩ (Nat.le_trans (setG_len _) (by rw [List.length_append, List.length_append]; split <;> simp <;> omega))) rfl rfl rfl (.tm rfl)
            case ha => rfl
            case hargs => exact (ArgC.own (ArgRd.agg (.tm rfl) .nil))
            all_goals rfl
           case hd => rfl
           refine AWl.av ?_
           refine AWl.nil ?_
           refine AW.le (σ' := ⟨_, [(1, _), (2, _), (4, _), (5, _), (7, _), (8, _)], [(8, _), (9, _)]⟩) (Le.sub0 U ⟨U, U, U, U, U, U, Y⟩ ⟨U, U, Y⟩) ?_
           refine AW.region ?_
           refine AWl.mv ?_
           refine AWl.p (R_add U (.no U) U (.tm U) (.const U) (fun _ => by omega)) U ?_
           refine AWl.av ?_
           refine AWl.nil ?_
           repeat (with_reducible refine BlockQ.nor ?_)
           refine Round1.next (j + 1) ⟨by omega, Y⟩ (by omega) (Le.sub0 rfl ⟨rfl, rfl, rfl, rfl, rfl, Y⟩ ⟨(by refine congrArg (fun r => some (R.row 2 r)) ?_; first | (rw [selfTo_succ, selfP_at hv, if_pos (by simpa using h24), setG_add]; done) | (rw [selfTo_succ, selfP_at hv, if_neg (by simpa using h24), List.append_nil]; done) | (rw [edgeTo_at hx]; unfold edgeP; rw [if_pos h59, ← List.append_assoc, ← List.append_assoc, setG_add]; done) | (rw [edgeTo_at hx]; unfold edgeP; rw [if_neg h59, List.append_nil, ← List.append_assoc]; done)), Y⟩)
         · skip
           try simp at h59
           refine AW.skip ?_
           refine AW.le (σ' := ⟨_, [(1, _), (2, _), (4, _), (5, _), (7, _), (8, _)], [(9, _), (8, _)]⟩) (Le.sub0 U ⟨U, U, U, U, U, U, Y⟩ ⟨U, U, Y⟩) ?_
           refine AW.region ?_
           refine AWl.mv ?_
           refine AWl.p (R_add U (.no U) U (.tm U) (.const U) (fun _ => by omega)) U ?_
           refine AWl.av ?_
           refine AWl.nil ?_
           repeat (with_reducible refine BlockQ.nor ?_)
           refine Round1.next (j + 1) ⟨by omega, Y⟩ (by omega) (Le.sub0 rfl ⟨rfl, rfl, rfl, rfl, rfl, Y⟩ ⟨(by refine congrArg (fun r => some (R.row 2 r)) ?_; first | (rw [selfTo_succ, selfP_at hv, if_pos (by simpa using h24), setG_add]; done) | (rw [selfTo_succ, selfP_at hv, if_neg (by simpa using h24), List.append_nil]; done) | (rw [edgeTo_at hx]; unfold edgeP; rw [if_pos h59, ← List.append_assoc, ← List.append_assoc, setG_add]; done) | (rw [edgeTo_at hx]; unfold edgeP; rw [if_neg h59, List.append_nil, ← List.append_assoc]; done)), Y⟩)
     · skip
       try simp at h34
       refine AW.exit ?_
       refine AW.sr ?_
       refine AWl.mv ?_
       refine AWl.av ?_
       refine AWl.nil (AW.ret ?_)
       refine Res.one U (.tmp U .nil) U ?_
       unfold letL; rw [show j = g.Edges.length by omega, edgeTo, List.take_length]; rfl
theorem specComposeRelations (a b : List TPair) (ha : a.length ≤ 4096) (hb : b.length ≤ 4096) : FnT Tryz.prog 83 [.one (.sl 2 (a.map cPair)), .one (.sl 2 (b.map cPair))] (.a (.one (.sl 2 ((compL a b).map cPair)))) := by
 refine FnT.walk Tryz.func83 U (by kernel_rfl) Tryz.ntmps83 U fun hlen w0 => ?_
 try simp [cPair, cToken, cExpr, cEdge, cGraph] at hlen
 skip
 refine AW.sr ?_
 refine AWl.ac ?_
 refine AWl.nilS (i := 4) 20001 2 U U ?_
 refine AWl.nil (AW.sr ?_)
 refine AWl.add (R_empty 8 U U U Tryz.underlying58 ty63 U) U ?_
 refine AWl.av ?_
 refine AWl.nil (AW.seq ?_)
 refine AW.sr ?_
 refine AWl.ac ?_
 refine AWl.nil (AW.block ?_)
 refine AW.loop1 (fun (i : Nat) => (i ≤ a.length) ∧ True) (fun (i : Nat) => ⟨_, [(6, (true, .a (.one (.t (.v (.int .i64 (i : Nat))))))), (5, (true, .a (.one (.rf 8)))), (0, _), (1, _), (4, _)], [(8, .row 2 ((setG pless (pairsC (a.take i) b)).map cPair))]⟩) (fun (i : Nat) => a.length - i) (0) ⟨Nat.zero_le _, Y⟩ (Le.sub0 U ⟨U, U, U, U, U, Y⟩ ⟨(by refine congrArg (fun r => some (R.row 2 r)) ?_; first | rfl | (simp [pairC1]; done) | (simp [pairsC, setG]; done)), Y⟩) ?_
 rintro i ⟨hk, he⟩
 refine AW.seq ?_
 refine AW.sr ?_
 refine AWl.mv ?_
 refine AWl.mv ?_
 refine AWl.p (by exact R_lenm U (.no U) U (.tm U) (by exact .t) Tryz.underlying58) U ?_
 refine AWl.p (R_lt U (.no U) U (.tm U) (.tm U)) U ?_
 refine AWl.nil ?_
 refine AW.cond (.tm U) (fun h12 => ?_) (fun h12 => ?_)
 · skip
   try simp at h12
   obtain ⟨p, hp⟩ : ∃ ξ, a[i]? = some ξ := ⟨_, List.getElem?_eq_getElem (by omega)⟩
   have hpl := pairsC_take a b i
   have hab : a.length * b.length ≤ 4096 * 4096 := Nat.mul_le_mul ha hb
   refine AW.skip ?_
   refine AW.seq ?_
   refine AW.block ?_
   refine AW.sr ?_
   refine AWl.ac ?_
   refine AWl.nil (AW.block ?_)
   refine AW.loop1 (fun (k : Nat) => (k ≤ b.length) ∧ True) (fun (k : Nat) => ⟨_, [(7, (true, .a (.one (.t (.v (.int .i64 (k : Nat))))))), (5, (true, .a (.one (.rf 8)))), (0, _), (1, _), (4, _), (6, _)], [(8, .row 2 ((setG pless (pairsC (a.take i) b ++ pairC1 p (b.take k))).map cPair))]⟩) (fun (k : Nat) => b.length - k) (0) ⟨Nat.zero_le _, Y⟩ (Le.sub0 U ⟨U, U, U, U, U, U, Y⟩ ⟨(by refine congrArg (fun r => some (R.row 2 r)) ?_; first | rfl | (simp [pairC1]; done) | (simp [pairsC, setG]; done)), Y⟩) ?_
   rintro k ⟨hk1, he1⟩
   refine AW.seq ?_
   refine AW.sr ?_
   refine AWl.mv ?_
   refine AWl.mv ?_
   refine AWl.p (by exact R_lenm U (.no U) U (.tm U) (by exact .t) Tryz.underlying58) U ?_
   refine AWl.p (R_lt U (.no U) U (.tm U) (.tm U)) U ?_
   refine AWl.nil ?_
   refine AW.cond (.tm U) (fun h18 => ?_) (fun h18 => ?_)
   · skip
     try simp at h18
     obtain ⟨q, hq⟩ : ∃ ξ, b[k]? = some ξ := ⟨_, List.getElem?_eq_getElem (by omega)⟩
     have hql : (pairC1 p (b.take k)).length ≤ 4096 := Nat.le_trans (pairC1_len _ _) (by rw [List.length_take]; omega)
     refine AW.skip ?_
     refine AW.seq ?_
     refine AW.block ?_
     refine AW.seq ?_
     refine AW.drawn 11 (nthB [[], [], [0, 1], [0, 1, 2], [0, 1, 2, 3], [], [], [5, 6], [5, 6, 7], [5, 6, 7, 8], [0, 1, 2, 3, 4, 5, 6, 7, 8, 9]]) (by kernel_rfl) (by kernel_rfl) (by kernel_rfl) ?_
     refine DrawC.step U U U (Loc.of U fun σ' hs => R_move U (.no U) (hd_sup hs U) (.tm (hs.slots _ _ U))) ?_
     refine DrawC.step U U U (Loc.of U fun σ' hs => R_move U (.no U) (hd_sup hs U) (.tm (hs.slots _ _ U))) ?_
     refine DrawC.step U U U (Loc.of U fun σ' hs => (by exact R_indexAddr U (.no U) (hd_sup hs U) (.tm (hs.slots _ _ U)) (.tm (hs.slots _ _ U)) Tryz.underlying58 ty63 (fun _ => ⟨by omega, (by exact map_get hp)⟩))) ?_
     refine DrawC.step U U U (Loc.of U fun σ' hs => (by exact R_fieldAddr U (.no U) (hd_sup hs U) (.tm (hs.slots _ _ U)) fl63_1)) ?_
     refine DrawC.step U U U (Loc.of U fun σ' hs => (by exact R_load U (.no U) (hd_sup hs U) (.tm (hs.slots _ _ U)) ty3 U U)) ?_
     refine DrawC.step U U U (Loc.of U fun σ' hs => R_move U (.no U) (hd_sup hs U) (.tm (hs.slots _ _ U))) ?_
     refine DrawC.step U U U (Loc.of U fun σ' hs => R_move U (.no U) (hd_sup hs U) (.tm (hs.slots _ _ U))) ?_
     refine DrawC.step U U U (Loc.of U fun σ' hs => (by exact R_indexAddr U (.no U) (hd_sup hs U) (.tm (hs.slots _ _ U)) (.tm (hs.slots _ _ U)) Tryz.underlying58 ty63 (fun _ => ⟨by omega, (by exact map_get hq)⟩))) ?_
     refine DrawC.step U U U (Loc.of U fun σ' hs => (by exact R_fieldAddr U (.no U) (hd_sup hs U) (.tm (hs.slots _ _ U)) fl63_0)) ?_
     refine DrawC.step U U U (Loc.of U fun σ' hs => (by exact R_load U (.no U) (hd_sup hs U) (.tm (hs.slots _ _ U)) ty3 U U)) ?_
     refine DrawC.step U U U (Loc.of U fun σ' hs => R_eq U (.no U) (hd_sup hs U) (.tm (hs.slots _ _ U)) (.tm (hs.slots _ _ U))) ?_
     refine DrawC.fin U U ?_
     refine AWl.nil ?_
     refine AW.cond (.tm U) (fun h31 => ?_) (fun h31 => ?_)
     · skip
       try simp at h31
       refine AW.le (σ' := ⟨_, [(0, _), (1, _), (4, _), (5, _), (6, _), (7, _)], [(8, _)]⟩) (Le.sub0 U ⟨U, U, U, U, U, U, Y⟩ ⟨U, Y⟩) ?_
       refine AW.drawn 12 (nthB [[], [], [], [1, 2], [1, 2, 3], [1, 2, 3, 4], [], [], [6, 7], [6, 7, 8], [6, 7, 8, 9], [1, 2, 3, 4, 5, 6, 7, 8, 9, 10]]) (by kernel_rfl) (by kernel_rfl) (by kernel_rfl) ?_
       refine DrawC.step U U U (Loc.of U fun σ' hs => R_move U (.no U) (hd_sup hs U) (.tm (hs.slots _ _ U))) ?_
       refine DrawC.step U U U (Loc.of U fun σ' hs => R_move U (.no U) (hd_sup hs U) (.tm (hs.slots _ _ U))) ?_
       refine DrawC.step U U U (Loc.of U fun σ' hs => R_move U (.no U) (hd_sup hs U) (.tm (hs.slots _ _ U))) ?_
       refine DrawC.step U U U (Loc.of U fun σ' hs => (by exact R_indexAddr U (.no U) (hd_sup hs U) (.tm (hs.slots _ _ U)) (.tm (hs.slots _ _ U)) Tryz.underlying58 ty63 (fun _ => ⟨by omega, (by exact map_get hp)⟩))) ?_
       refine DrawC.step U U U (Loc.of U fun σ' hs => (by exact R_fieldAddr U (.no U) (hd_sup hs U) (.tm (hs.slots _ _ U)) fl63_0)) ?_
       refine DrawC.step U U U (Loc.of U fun σ' hs => (by exact R_load U (.no U) (hd_sup hs U) (.tm (hs.slots _ _ U)) ty3 U U)) ?_
       refine DrawC.step U U U (Loc.of U fun σ' hs => R_move U (.no U) (hd_sup hs U) (.tm (hs.slots _ _ U))) ?_
       refine DrawC.step U U U (Loc.of U fun σ' hs => R_move U (.no U) (hd_sup hs U) (.tm (hs.slots _ _ U))) ?_
       refine DrawC.step U U U (Loc.of U fun σ' hs => (by exact R_indexAddr U (.no U) (hd_sup hs U) (.tm (hs.slots _ _ U)) (.tm (hs.slots _ _ U)) Tryz.underlying58 ty63 (fun _ => ⟨by omega, (by exact map_get hq)⟩))) ?_
       refine DrawC.step U U U (Loc.of U fun σ' hs => (by exact R_fieldAddr U (.no U) (hd_sup hs U) (.tm (hs.slots _ _ U)) fl63_1)) ?_
       refine DrawC.step U U U (Loc.of U fun σ' hs => (by exact R_load U (.no U) (hd_sup hs U) (.tm (hs.slots _ _ U)) ty3 U U)) ?_
       refine DrawC.step U U U (Loc.of U fun σ' hs => R_build (ps := [(0, .tmp 37), (1, .tmp 42)]) U U (hd_sup hs U) in63 U U st63 (.cons (.tm (hs.slots _ _ U)) U U fp63_0 (.cons (.tm (hs.slots _ _ U)) U U fp63_1 .nil)) U) ?_
       refine DrawC.fin U U ?_
       apply AWl.consume
       case ho =>
        apply R_consume (xo := .tmp 32) 8 (specl15Put (setG pless (pairsC (a.take i) b ++ pairC1 p (b.take k))) ⟨p.From, q.To⟩ (Nat.le_trans (setG_len _) (by rw [List.length_append]; omega))) rfl rfl rfl (.tm rfl)
        case ha => rfl
        case hargs => exact (ArgC.own (ArgRd.agg (.tm rfl) .nil))
        all_goals rfl
       case hd => rfl
       refine AWl.av ?_
       refine AWl.nil ?_
       refine AW.le (σ' := ⟨_, [(0, _), (1, _), (4, _), (5, _), (6, _), (7, _)], [(8, _)]⟩) (Le.sub0 U ⟨U, U, U, U, U, U, Y⟩ ⟨U, Y⟩) ?_
       refine AW.region ?_
       refine AWl.mv ?_
       refine AWl.p (R_add U (.no U) U (.tm U) (.const U) (fun _ => by omega)) U ?_
       refine AWl.av ?_
       refine AWl.nil ?_
       repeat (with_reducible refine BlockQ.nor ?_)
       refine Round1.next (k + 1) ⟨by omega, Y⟩ (by omega) (Le.sub0 rfl ⟨rfl, rfl, rfl, rfl, rfl, rfl, Y⟩ ⟨(by refine congrArg (fun r => some (R.row 2 r)) ?_; first | (rw [pairC1_at hq, if_pos (by simpa using h31), ← List.append_assoc, setG_add]; done) | (rw [pairC1_at hq, if_neg (by simpa using h31), List.append_nil]; done) | (rw [pairsC_at hp, List.take_of_length_le (l := b) (i := k) (by omega)]; done) | (simp [pairC1]; done)), Y⟩)
     · skip
       try simp at h31
       refine AW.skip ?_
       refine AW.le (σ' := ⟨_, [(0, _), (1, _), (4, _), (5, _), (6, _), (7, _)], [(8, _)]⟩) (Le.sub0 U ⟨U, U, U, U, U, U, Y⟩ ⟨U, Y⟩) ?_
       refine AW.region ?_
       refine AWl.mv ?_
       refine AWl.p (R_add U (.no U) U (.tm U) (.const U) (fun _ => by omega)) U ?_
       refine AWl.av ?_
       refine AWl.nil ?_
       repeat (with_reducible refine BlockQ.nor ?_)
       refine Round1.next (k + 1) ⟨by omega, Y⟩ (by omega) (Le.sub0 rfl ⟨rfl, rfl, rfl, rfl, rfl, rfl, Y⟩ ⟨(by refine congrArg (fun r => some (R.row 2 r)) ?_; first | (rw [pairC1_at hq, if_pos (by simpa using h31), ← List.append_assoc, setG_add]; done) | (rw [pairC1_at hq, if_neg (by simpa using h31), List.append_nil]; done) | (rw [pairsC_at hp, List.take_of_length_le (l := b) (i := k) (by omega)]; done) | (simp [pairC1]; done)), Y⟩)
   · skip
     try simp at h18
     refine AW.exit ?_
     refine AW.region ?_
     refine AWl.mv ?_
     refine AWl.p (R_add U (.no U) U (.tm U) (.const U) (fun _ => by omega)) U ?_
     refine AWl.av ?_
     refine AWl.nil ?_
     repeat (with_reducible refine BlockQ.nor ?_)
     refine Round1.next (i + 1) ⟨by omega, Y⟩ (by omega) (Le.sub0 rfl ⟨rfl, rfl, rfl, rfl, rfl, Y⟩ ⟨(by refine congrArg (fun r => some (R.row 2 r)) ?_; first | (rw [pairC1_at hq, if_pos (by simpa using h31), ← List.append_assoc, setG_add]; done) | (rw [pairC1_at hq, if_neg (by simpa using h31), List.append_nil]; done) | (rw [pairsC_at hp, List.take_of_length_le (l := b) (i := k) (by omega)]; done) | (simp [pairC1]; done)), Y⟩)
 · skip
   try simp at h12
   refine AW.exit ?_
   refine AW.sr ?_
   refine AWl.mv ?_
   refine AWl.av ?_
   refine AWl.nil (AW.ret ?_)
   refine Res.one U (.tmp U .nil) U ?_
   unfold compL; rw [List.take_of_length_le (l := a) (i := i) (by omega)]; rfl
theorem implComposeRelations (a b : List TPair) (ha : a.length ≤ 4096) (hb : b.length ≤ 4096) : FnT Tryz.prog 108 [.one (.sl 2 (a.map cPair)), .one (.sl 2 (b.map cPair))] (.a (.one (.sl 2 ((compL a b).map cPair)))) := by
 obtain ⟨s, hs⟩ : ∃ s, s = setG pless a := ⟨_, rfl⟩
 have hsl : s.length ≤ 4096 := by rw [hs]; exact Nat.le_trans (setG_len _) ha
 have hsb : s.length * b.length ≤ 4096 * 4096 := Nat.mul_le_mul hsl hb
 have hps := implpairSet a (by omega)
 rw [← hs] at hps
 rw [← compL_set, ← hs]
 refine FnT.walk Tryz.func108 U (by kernel_rfl) Tryz.ntmps108 U fun hlen w0 => ?_
 try simp [cPair, cToken, cExpr, cEdge, cGraph] at hlen
 skip
 refine AW.sr ?_
 refine AWl.ac ?_
 refine AWl.nilS (i := 4) 20001 2 U U ?_
 refine AWl.nil (AW.sr ?_)
 refine AWl.add (R_empty 10 U U U Tryz.underlying58 ty63 U) U ?_
 refine AWl.av ?_
 refine AWl.nil (AW.seq ?_)
 refine AW.sr ?_
 refine AWl.mv ?_
 refine AWl.p (R_callz (FnT.fr (hps)) U (.no U) U (.cons (.tm U) U .nil)) U ?_
 refine AWl.p (by exact R_lenm U (.no U) U (.tm U) (by exact .t) Tryz.underlying58) U ?_
 refine AWl.p (R_move U (.no U) U (.const U)) U ?_
 refine AWl.nil (AW.block ?_)
 refine AW.loop1 (fun (i : Nat) => (i ≤ s.length) ∧ True) (fun (i : Nat) => ⟨_, [(14, (true, .a (.one (.t (.v (.int .i64 (i : Nat))))))), (5, (true, .a (.one (.rf 10)))), (1, _), (4, _), (12, _), (13, _)], [(10, .row 2 ((pairsC (s.take i) b).map cPair))]⟩) (fun (i : Nat) => s.length - i) (0) ⟨Nat.zero_le _, Y⟩ (Le.sub0 U ⟨U, U, U, U, U, U, Y⟩ ⟨(by refine congrArg (fun r => some (R.row 2 r)) ?_; first | rfl | (simp [pairC1]; done) | (simp [pairsC]; done)), Y⟩) ?_
 rintro i ⟨hk, he⟩
 refine AW.sr ?_
 refine AWl.p (R_lt U (.no U) U (.tm U) (.tm U)) U ?_
 refine AWl.nil (AW.seq ?_)
 refine AW.cond (.tm U) (fun h15 => ?_) (fun h15 => ?_)
 · skip
   try simp at h15
   obtain ⟨p, hp⟩ : ∃ ξ, s[i]? = some ξ := ⟨_, List.getElem?_eq_getElem (by omega)⟩
   have hpl := pairsC_take s b i
   refine AW.skip ?_
   refine AW.seq ?_
   refine AW.block ?_
   refine AW.sr ?_
   refine AWl.p (by exact R_indexAddr U (.no U) U (.tm U) (.tm U) Tryz.underlying58 ty63 (fun _ => ⟨by omega, (by exact map_get hp)⟩)) U ?_
   refine AWl.p (by exact R_load U (.no U) U (.tm U) ty63 U U) U ?_
   refine AWl.add (R_alloc 7 U U U in63 U U U) U ?_
   refine AWl.chgb (R_store_pb U U U (.tm U) (.tm U) U ty63 U U U (by kernel_rfl) U) ?_
   refine AWl.nil (AW.sr ?_)
   refine AWl.mv ?_
   refine AWl.p (by exact R_lenm U (.no U) U (.tm U) (by exact .t) Tryz.underlying58) U ?_
   refine AWl.p (R_move U (.no U) U (.const U)) U ?_
   refine AWl.nil (AW.block ?_)
   refine AW.loop1 (fun (k : Nat) => (k ≤ b.length) ∧ True) (fun (k : Nat) => ⟨_, [(20, (true, .a (.one (.t (.v (.int .i64 (k : Nat))))))), (5, (true, .a (.one (.rf 10)))), (1, _), (4, _), (7, _), (12, _), (13, _), (14, _), (18, _), (19, _)], [(7, .box [.t (.v (.int .i64 p.From)), .t (.v (.int .i64 p.To))]), (10, .row 2 ((pairsC (s.take i) b ++ pairC1 p (b.take k)).map cPair))]⟩) (fun (k : Nat) => b.length - k) (0) ⟨Nat.zero_le _, Y⟩ (Le.sub0 U ⟨U, U, U, U, U, U, U, U, U, U, Y⟩ ⟨U, (by refine congrArg (fun r => some (R.row 2 r)) ?_; first | rfl | (simp [pairC1]; done) | (simp [pairsC]; done)), Y⟩) ?_
   rintro k ⟨hk1, he1⟩
   refine AW.sr ?_
   refine AWl.p (R_lt U (.no U) U (.tm U) (.tm U)) U ?_
   refine AWl.nil (AW.seq ?_)
   refine AW.cond (.tm U) (fun h21 => ?_) (fun h21 => ?_)
   · skip
     try simp at h21
     obtain ⟨q, hq⟩ : ∃ ξ, b[k]? = some ξ := ⟨_, List.getElem?_eq_getElem (by omega)⟩
     have hql : (pairC1 p (b.take k)).length ≤ 4096 := Nat.le_trans (pairC1_len _ _) (by rw [List.length_take]; omega)
     refine AW.skip ?_
     refine AW.seq ?_
     refine AW.block ?_
     refine AW.sr ?_
     refine AWl.p (by exact R_indexAddr U (.no U) U (.tm U) (.tm U) Tryz.underlying58 ty63 (fun _ => ⟨by omega, (by exact map_get hq)⟩)) U ?_
     refine AWl.p (by exact R_load U (.no U) U (.tm U) ty63 U U) U ?_
     refine AWl.add (R_alloc 9 U U U in63 U U U) U ?_
     refine AWl.chgb (R_store_pb U U U (.tm U) (.tm U) U ty63 U U U (by kernel_rfl) U) ?_
     refine AWl.nil (AW.sr ?_)
     refine AWl.p (by exact R_fieldAddr_pp U (.no U) U (.tm U) fl63_1) U ?_
     refine AWl.p (by exact R_load_pp U (.no U) U (.tm U) U ty3 U U) U ?_
     refine AWl.p (by exact R_fieldAddr_pp U (.no U) U (.tm U) fl63_0) U ?_
     refine AWl.p (by exact R_load_pp U (.no U) U (.tm U) U ty3 U U) U ?_
     refine AWl.p (R_eq U (.no U) U (.tm U) (.tm U)) U ?_
     refine AWl.nil ?_
     refine AW.cond (.tm U) (fun h28 => ?_) (fun h28 => ?_)
     · skip
       try simp at h28
       refine AW.le (σ' := ⟨_, [(1, _), (4, _), (5, _), (7, _), (9, _), (12, _), (13, _), (14, _), (18, _), (19, _), (20, _)], [(7, _), (10, _), (9, _)]⟩) (Le.sub0 U ⟨U, U, U, U, U, U, U, U, U, U, U, Y⟩ ⟨U, U, U, Y⟩) ?_
       refine AW.region ?_
       refine AWl.mv ?_
       refine AWl.p (by exact R_fieldAddr_pp U (.no U) U (.tm U) fl63_0) U ?_
       refine AWl.p (by exact R_load_pp U (.no U) U (.tm U) U ty3 U U) U ?_
       refine AWl.p (by exact R_fieldAddr_pp U (.no U) U (.tm U) fl63_1) U ?_
       refine AWl.p (by exact R_load_pp U (.no U) U (.tm U) U ty3 U U) U ?_
       refine AWl.p (R_build (ps := [(0, .tmp 31), (1, .tmp 33)]) U U U in63 U U st63 (.cons (.tm U) U U fp63_0 (.cons (.tm U) U U fp63_1 .nil)) U) U ?_
       refine AWl.absadd (R_list (xs := [.tmp 34]) 35 U U U (.cons (.tm U) U U .nil) Tryz.underlying58 in63 U U U U) U ?_
       refine AWl.chgput (R_append U U U (.tm U) U (.tm U) (by exact .rf U) (by rfl) Tryz.underlying58 in63 U (by (simp [chunk]; omega)) (by (unfold maxLen; simp [chunk]; omega))) U ?_
       refine AWl.le (σ' := ⟨_, [(1, _), (4, _), (5, _), (7, _), (9, _), (12, _), (13, _), (14, _), (18, _), (19, _), (20, _), (36, _)], [(7, _), (10, _), (9, _), (35, _)]⟩) (Le.sub0 U ⟨U, U, U, U, U, U, U, U, U, U, U, U, Y⟩ ⟨U, U, U, U, Y⟩) ?_
       refine AWl.av ?_
       refine AWl.nil (AW.region ?_)
       refine AWl.p (R_add U (.no U) U (.tm U) (.const U) (fun _ => by omega)) U ?_
       refine AWl.mv ?_
       refine AWl.nil ?_
       repeat (with_reducible refine BlockQ.nor ?_)
       refine Round1.next (k + 1) ⟨by omega, Y⟩ (by omega) (Le.sub0 rfl ⟨rfl, rfl, rfl, rfl, rfl, rfl, rfl, rfl, rfl, rfl, Y⟩ ⟨(by rfl), (by refine congrArg (fun r => some (R.row 2 r)) ?_; first | (rw [pairC1_at hq, if_pos (by simpa using h28)]; simp [chunk, cPair]; done) | (rw [pairC1_at hq, if_neg (by simpa using h28)]; simp; done) | (rw [pairsC_at hp, List.take_of_length_le (l := b) (i := k) (by omega)]; done) | (simp [pairC1]; done)), Y⟩)
     · skip
       try simp at h28
       refine AW.skip ?_
       refine AW.le (σ' := ⟨_, [(1, _), (4, _), (5, _), (7, _), (9, _), (12, _), (13, _), (14, _), (18, _), (19, _), (20, _)], [(7, _), (10, _), (9, _)]⟩) (Le.sub0 U ⟨U, U, U, U, U, U, U, U, U, U, U, Y⟩ ⟨U, U, U, Y⟩) ?_
       refine AW.region ?_
       refine AWl.p (R_add U (.no U) U (.tm U) (.const U) (fun _ => by omega)) U ?_
       refine AWl.mv ?_
       refine AWl.nil ?_
       repeat (with_reducible refine BlockQ.nor ?_)
       refine Round1.next (k + 1) ⟨by omega, Y⟩ (by omega) (Le.sub0 rfl ⟨rfl, rfl, rfl, rfl, rfl, rfl, rfl, rfl, rfl, rfl, Y⟩ ⟨(by rfl), (by refine congrArg (fun r => some (R.row 2 r)) ?_; first | (rw [pairC1_at hq, if_pos (by simpa using h28)]; simp [chunk, cPair]; done) | (rw [pairC1_at hq, if_neg (by simpa using h28)]; simp; done) | (rw [pairsC_at hp, List.take_of_length_le (l := b) (i := k) (by omega)]; done) | (simp [pairC1]; done)), Y⟩)
   · skip
     try simp at h21
     refine AW.exit ?_
     refine AW.region ?_
     refine AWl.p (R_add U (.no U) U (.tm U) (.const U) (fun _ => by omega)) U ?_
     refine AWl.mv ?_
     refine AWl.nil ?_
     repeat (with_reducible refine BlockQ.nor ?_)
     refine Round1.next (i + 1) ⟨by omega, Y⟩ (by omega) (Le.sub0 rfl ⟨rfl, rfl, rfl, rfl, rfl, rfl, Y⟩ ⟨(by refine congrArg (fun r => some (R.row 2 r)) ?_; first | (rw [pairC1_at hq, if_pos (by simpa using h28)]; simp [chunk, cPair]; done) | (rw [pairC1_at hq, if_neg (by simpa using h28)]; simp; done) | (rw [pairsC_at hp, List.take_of_length_le (l := b) (i := k) (by omega)]; done) | (simp [pairC1]; done)), Y⟩)
 · skip
   try simp at h15
   refine AW.exit ?_
   refine AW.seq ?_
   refine AW.le (σ' := ⟨_, [(1, _), (4, _), (5, _), (12, _), (13, _), (14, _)], [(10, .row 2 ((pairsC s b).map cPair))]⟩) (Le.sub0 U ⟨U, U, U, U, U, U, Y⟩ ⟨by rw [List.take_of_length_le (l := s) (i := i) (by omega)]; rfl, Y⟩) ?_
   refine AW.region ?_
   refine AWl.mv ?_
   refine AWl.adds (R_call 4000 (implpairSet (pairsC s b) (Nat.le_trans (pairsC_len _ _) (by omega))) U U U (.cons (.tm U) U .nil) U U) U ?_
   refine AWl.av ?_
   refine AWl.nil (AW.ret ?_)
   refine Res.one U (.tmp U .nil) U ?_
   rfl
theorem specClosureRelation (n : Nat) (hn : 1 ≤ n ∧ n ≤ 5) (l : List TPair) (hl : relIn n l) (hs : StrictS pless l) : FnT Tryz.prog 85 [.one (.v (.int .i64 (n : Int))), .one (.sl 2 (l.map cPair))] (.a (.one (.sl 2 ((closeL n l).map cPair)))) := by
 refine FnT.walk Tryz.func85 U (by kernel_rfl) Tryz.ntmps85 U fun hlen w0 => ?_
 try simp [cPair, cToken, cExpr, cEdge, cGraph] at hlen
 have hap := relIn_pairs hn.2 hl hs
 have hin : inB (n : Int) 1 5 = true := by unfold inB; simp; omega
 have hll := relIn_len5 hn.2 hs hl
 refine AW.sr ?_
 refine AWl.ac ?_
 refine AWl.nilS (i := 4) 20001 2 U U ?_
 refine AWl.nil (AW.seq ?_)
 refine AW.sr ?_
 refine AWl.mv ?_
 refine AWl.p (R_callz (FnT.fr (specl1In (n : Int) 1 5)) U (.no U) U (.cons (.tm U) U (.cons (.const U) U (.cons (.const U) U .nil)))) U ?_
 refine AWl.p (R_not U (.no U) U (.tm U)) U ?_
 refine AWl.mv ?_
 refine AWl.p (R_move U (by exact .not1 U U U U) U (.tmp U (by exact fun _ => rfl))) U ?_
 refine AWl.p (R_callz (FnT.fr (specArePairs l)) U (by exact .not1 U U U U) U (.cons (.tmp U (by exact id)) U .nil)) U ?_
 refine AWl.p (R_not U (by exact .not1 U U U U) U (.tmp U (by exact id))) U ?_
 refine AWl.p (R_or U (.no U) U (.tm U) (.tmp U (by exact id))) U ?_
 refine AWl.nil ?_
 refine AW.cond (.tm U) (fun h14 => ?_) (fun h14 => ?_)
 · exact absurd h14 (by simp [hap, hin] at h14)
 · skip
   try simp at h14
   refine AW.skip ?_
   refine AW.seq ?_
   refine AW.le (σ' := ⟨_, [(0, _), (1, _), (4, _)], [(20001, _)]⟩) (Le.sub0 U ⟨U, U, U, Y⟩ ⟨U, Y⟩) ?_
   refine AW.region ?_
   refine AWl.mv ?_
   refine AWl.adds (R_call 1700 (specIdentityRelation n hn.2) U U U (.cons (.tm U) U .nil) U U) U ?_
   refine AWl.av ?_
   refine AWl.nil (AW.seq ?_)
   refine AW.sr ?_
   refine AWl.ac ?_
   refine AWl.nil (AW.block ?_)
   refine AW.loop1 (fun (k : Nat) => (k ≤ 5) ∧ True) (fun (k : Nat) => ⟨_, [(6, (true, .a (.one (.t (.v (.int .i64 (k : Nat))))))), (5, (true, .a (.one (.rf 1700)))), (1, _), (4, _)], [(1700, .row 2 ((itC n l k).map cPair))]⟩) (fun (k : Nat) => 5 - k) (0) ⟨by omega, Y⟩ (Le.sub0 U ⟨U, U, U, U, Y⟩ ⟨U, Y⟩) ?_
   rintro k ⟨hk, he⟩
   refine AW.seq ?_
   refine AW.sr ?_
   refine AWl.mv ?_
   refine AWl.p (R_lt U (.no U) U (.tm U) (.const U)) U ?_
   refine AWl.nil ?_
   refine AW.cond (.tm U) (fun h19 => ?_) (fun h19 => ?_)
   · skip
     try simp at h19
     have hk5 : k < 5 := by (first | omega | (simp at h19; omega))
     have hil := relIn_len5 hn.2 (itC_strict n l k) (itC_in hl k)
     have hcl := relIn_len5 hn.2 (show StrictS pless (compL (itC n l k) l) from setG_strict pless_so _) (relIn_comp (itC_in hl k) hl)
     refine AW.skip ?_
     refine AW.seq ?_
     refine AW.block ?_
     refine AW.region ?_
     refine AWl.mv ?_
     refine AWl.mv ?_
     refine AWl.mv ?_
     refine AWl.p (R_callz (FnT.fr (specComposeRelations (itC n l k) l (by omega) (by omega))) U (.no U) U (.cons (.tm U) U (.cons (.tm U) U .nil))) U ?_
     refine AWl.adds (R_call 2600 (specMergePairs (itC n l k) (compL (itC n l k) l) (by omega)) U U U (.cons (.tm U) U (.cons (.tm U) U .nil)) U U) U ?_
     refine AWl.av ?_
     refine AWl.nil ?_
     refine AW.le (Le.sw 1700 2600 _) ?_
     refine AW.le (σ' := ⟨_, [(1, _), (4, _), (5, _), (6, _)], [(2600, _), (1700, _)]⟩) (Le.sub0 U ⟨U, U, U, U, Y⟩ ⟨U, U, Y⟩) ?_
     refine AW.region ?_
     refine AWl.mv ?_
     refine AWl.p (R_add U (.no U) U (.tm U) (.const U) (fun _ => by omega)) U ?_
     refine AWl.av ?_
     refine AWl.nil ?_
     repeat (with_reducible refine BlockQ.nor ?_)
     refine Round1.next (k + 1) ⟨by omega, Y⟩ (by omega) (Le.sub0 rfl ⟨rfl, rfl, rfl, rfl, Y⟩ ⟨(by rfl), Y⟩)
   · skip
     try simp at h19
     refine AW.exit ?_
     refine AW.sr ?_
     refine AWl.mv ?_
     refine AWl.av ?_
     refine AWl.nil (AW.ret ?_)
     refine Res.one U (.tmp U .nil) U ?_
     rw [show k = 5 by first | omega | (simp at h19; omega)]; rfl
theorem implClosureRelation (n : Nat) (hn : 1 ≤ n ∧ n ≤ 5) (l : List TPair) (hl : relIn n l) (hs : StrictS pless l) : FnT Tryz.prog 110 [.one (.v (.int .i64 (n : Int))), .one (.sl 2 (l.map cPair))] (.a (.one (.sl 2 ((closeL n l).map cPair)))) := by
 refine FnT.walk Tryz.func110 U (by kernel_rfl) Tryz.ntmps110 U fun hlen w0 => ?_
 try simp [cPair, cToken, cExpr, cEdge, cGraph] at hlen
 have hap := relIn_pairs hn.2 hl hs
 have hin : inB (n : Int) 1 5 = true := by unfold inB; simp; omega
 have hll := relIn_len5 hn.2 hs hl
 refine AW.sr ?_
 refine AWl.ac ?_
 refine AWl.nilS (i := 4) 20001 2 U U ?_
 refine AWl.nil (AW.seq ?_)
 refine AW.sr ?_
 refine AWl.mv ?_
 refine AWl.p (R_callz (FnT.fr (implwithin (n : Int) 1 5)) U (.no U) U (.cons (.tm U) U (.cons (.const U) U (.cons (.const U) U .nil)))) U ?_
 refine AWl.p (R_not U (.no U) U (.tm U)) U ?_
 refine AWl.mv ?_
 refine AWl.p (R_move U (by exact .not1 U U U U) U (.tmp U (by exact fun _ => rfl))) U ?_
 refine AWl.p (R_callz (FnT.fr (implArePairs l)) U (by exact .not1 U U U U) U (.cons (.tmp U (by exact id)) U .nil)) U ?_
 refine AWl.p (R_not U (by exact .not1 U U U U) U (.tmp U (by exact id))) U ?_
 refine AWl.p (R_or U (.no U) U (.tm U) (.tmp U (by exact id))) U ?_
 refine AWl.nil ?_
 refine AW.cond (.tm U) (fun h14 => ?_) (fun h14 => ?_)
 · exact absurd h14 (by simp [hap, hin] at h14)
 · skip
   try simp at h14
   refine AW.skip ?_
   refine AW.seq ?_
   refine AW.le (σ' := ⟨_, [(0, _), (1, _), (4, _)], [(20001, _)]⟩) (Le.sub0 U ⟨U, U, U, Y⟩ ⟨U, Y⟩) ?_
   refine AW.region ?_
   refine AWl.mv ?_
   refine AWl.adds (R_call 1600 (implIdentityRelation n hn.2) U U U (.cons (.tm U) U .nil) U U) U ?_
   refine AWl.av ?_
   refine AWl.nil (AW.block ?_)
   refine AW.loop1 (fun (k : Nat) => (k ≤ 5) ∧ True) (fun (k : Nat) => ⟨_, [(5, (true, .a (.one (.rf 1600)))), (1, _)], [(1600, .row 2 ((itC n l k).map cPair))]⟩) (fun (k : Nat) => 5 - k) (0) ⟨by omega, Y⟩ (Le.sub0 U ⟨U, U, Y⟩ ⟨U, Y⟩) ?_
   rintro k ⟨hk, he⟩
   refine AW.block ?_
   refine AW.sr ?_
   refine AWl.mv ?_
   refine AWl.mv ?_
   refine AWl.mv ?_
   refine AWl.p (R_callz (FnT.fr (implComposeRelations (itC n l k) l (by have := relIn_len5 hn.2 (itC_strict n l k) (itC_in hl k); omega) (by omega))) U (.no U) U (.cons (.tm U) U (.cons (.tm U) U .nil))) U ?_
   refine AWl.adds (R_call 2100 (implMergePairs (itC n l k) (compL (itC n l k) l) (by have := relIn_len5 hn.2 (itC_strict n l k) (itC_in hl k); have := relIn_len5 hn.2 (show StrictS pless (compL (itC n l k) l) from setG_strict pless_so _) (relIn_comp (itC_in hl k) hl); omega)) U U U (.cons (.tm U) U (.cons (.tm U) U .nil)) U U) U ?_
   refine AWl.av ?_
   refine AWl.nil (AW.seq ?_)
   refine AW.sr ?_
   refine AWl.mv ?_
   refine AWl.p (by exact R_lenm U (.no U) U (.tm U) (by exact .rf U) Tryz.underlying58) U ?_
   refine AWl.mv ?_
   refine AWl.p (by exact R_lenm U (.no U) U (.tm U) (by exact .rf U) Tryz.underlying58) U ?_
   refine AWl.p (R_eq U (.no U) U (.tm U) (.tm U)) U ?_
   refine AWl.nil ?_
   refine AW.cond (.tm U) (fun h26 => ?_) (fun h26 => ?_)
   · skip
     try simp at h26
     have he1 : (itC n l (k + 1)).length = (itC n l k).length := by (have h := h26; (try simp only [List.length_map] at h); show (pmerge (itC n l k) (compL (itC n l k) l)).length = _; first | omega | (simp at h; omega))
     refine AW.seq ?_
     refine AW.le (σ' := ⟨_, [(1, _), (5, _), (6, _)], [(1600, _), (2100, _)]⟩) (Le.sub0 U ⟨U, U, U, Y⟩ ⟨U, U, Y⟩) ?_
     refine AW.region ?_
     refine AWl.mv ?_
     refine AWl.av ?_
     refine AWl.nil (AW.ret ?_)
     refine Res.one U (.tmp U .nil) U ?_
     rw [itC_done hn.2 hl he1]; rfl
   · skip
     try simp at h26
     have he2 : (itC n l (k + 1)).length ≠ (itC n l k).length := by (have h := h26; (try simp only [List.length_map] at h); show (pmerge (itC n l k) (compL (itC n l k) l)).length ≠ _; first | omega | (simp at h; omega))
     have hk5 := itC_on hn.2 hl he2
     refine AW.skip ?_
     refine AW.le (Le.sw 1600 2100 _) ?_
     refine AW.le (σ' := ⟨_, [(1, _), (5, _), (6, _)], [(2100, _), (1600, _)]⟩) (Le.sub0 U ⟨U, U, U, Y⟩ ⟨U, U, Y⟩) ?_
     refine AW.region ?_
     refine AWl.mv ?_
     refine AWl.av ?_
     refine AWl.nil ?_
     repeat (with_reducible refine BlockQ.nor ?_)
     refine Round1.next (k + 1) ⟨by omega, Y⟩ (by omega) (Le.sub0 rfl ⟨rfl, rfl, Y⟩ ⟨(by rfl), Y⟩)
theorem specPowerRelation (n : Nat) (hn : 1 ≤ n ∧ n ≤ 5) (l : List TPair) (hl : relIn n l) (hs : StrictS pless l) (low high : Int) (h0 : 0 ≤ low) (h1 : 0 ≤ high ∧ high ≤ 3) : FnT Tryz.prog 86 [.one (.v (.int .i64 (n : Int))), .one (.sl 2 (l.map cPair)), .one (.v (.int .i64 low)), .one (.v (.int .i64 high))] (.a (.one (.sl 2 ((powL n l low high).map cPair)))) := by
 refine FnT.walk Tryz.func86 U (by kernel_rfl) Tryz.ntmps86 U fun hlen w0 => ?_
 try simp [cPair, cToken, cExpr, cEdge, cGraph] at hlen
 have hap := relIn_pairs hn.2 hl hs
 have hin : inB (n : Int) 1 5 = true := by unfold inB; simp; omega
 have hih : inB high 0 3 = true := by unfold inB; simp; omega
 have hlo : decide (low < 0) = false := by simp; omega
 have hll := relIn_len5 hn.2 hs hl
 refine AW.sr ?_
 refine AWl.ac ?_
 refine AWl.nilS (i := 8) 20001 2 U U ?_
 refine AWl.nil (AW.sr ?_)
 refine AWl.add (R_empty 12 U U U Tryz.underlying58 ty63 U) U ?_
 refine AWl.av ?_
 refine AWl.nil (AW.seq ?_)
 refine AW.sr ?_
 refine AWl.mv ?_
 refine AWl.p (R_callz (FnT.fr (specl1In (n : Int) 1 5)) U (.no U) U (.cons (.tm U) U (.cons (.const U) U (.cons (.const U) U .nil)))) U ?_
 refine AWl.p (R_not U (.no U) U (.tm U)) U ?_
 refine AWl.mv ?_
 refine AWl.p (R_move U (by exact .not1 U U U U) U (.tmp U (by exact fun _ => rfl))) U ?_
 refine AWl.p (R_callz (FnT.fr (specArePairs l)) U (by exact .not1 U U U U) U (.cons (.tmp U (by exact id)) U .nil)) U ?_
 refine AWl.p (R_not U (by exact .not1 U U U U) U (.tmp U (by exact id))) U ?_
 refine AWl.p (R_or U (.no U) U (.tm U) (.tmp U (by exact id))) U ?_
 refine AWl.mv ?_
 refine AWl.p (R_move U (by exact .not1 U U U U) U (.tmp U (by exact fun _ => rfl))) U ?_
 refine AWl.p (R_callz (FnT.fr (specl1In high 0 3)) U (by exact .not1 U U U U) U (.cons (.tmp U (by exact id)) U (.cons (.const U) U (.cons (.const U) U .nil)))) U ?_
 refine AWl.p (R_not U (by exact .not1 U U U U) U (.tmp U (by exact id))) U ?_
 refine AWl.p (R_or U (.no U) U (.tm U) (.tmp U (by exact id))) U ?_
 refine AWl.mv ?_
 refine AWl.p (R_move U (by exact .not1 U U U U) U (.tmp U (by exact fun _ => rfl))) U ?_
 refine AWl.p (R_lt U (by exact .not1 U U U U) U (.tmp U (by exact id)) (.const U)) U ?_
 refine AWl.p (R_or U (.no U) U (.tm U) (.tmp U (by exact id))) U ?_
 refine AWl.nil ?_
 refine AW.cond (.tm U) (fun h29 => ?_) (fun h29 => ?_)
 · exact absurd h29 (by simp [hap, hin, hih, hlo] at h29)
 · skip
   try simp at h29
   refine AW.skip ?_
   refine AW.seq ?_
   refine AW.le (σ' := ⟨_, [(0, _), (1, _), (2, _), (3, _), (8, _), (9, _)], [(20001, _), (12, _)]⟩) (Le.sub0 U ⟨U, U, U, U, U, U, Y⟩ ⟨U, U, Y⟩) ?_
   refine AW.region ?_
   refine AWl.mv ?_
   refine AWl.adds (R_call 3200 (specIdentityRelation n hn.2) U U U (.cons (.tm U) U .nil) U U) U ?_
   refine AWl.av ?_
   refine AWl.nil (AW.seq ?_)
   refine AW.sr ?_
   refine AWl.ac ?_
   refine AWl.nil (AW.block ?_)
   refine AW.loop2 (fun (k : Nat) (O : List TPair) => (k ≤ high.toNat + 1) ∧ O = outP n l low k) (fun (k : Nat) (O : List TPair) => ⟨_, [(11, (true, .a (.one (.t (.v (.int .i64 (k : Nat))))))), (9, (true, .a (.one (.rf 12)))), (10, (true, .a (.one (.rf 3200)))), (1, _), (2, _), (3, _), (8, _)], [(12, .row 2 (O.map cPair)), (3200, .row 2 ((pwL n l k).map cPair))]⟩) (fun (k : Nat) (O : List TPair) => high.toNat + 1 - k) (0) ([]) ⟨by omega, U⟩ (Le.sub0 U ⟨U, U, U, U, U, U, U, Y⟩ ⟨U, U, Y⟩) ?_
   rintro k O ⟨hk, he⟩
   refine AW.seq ?_
   refine AW.sr ?_
   refine AWl.mv ?_
   refine AWl.mv ?_
   refine AWl.p (R_le U (.no U) U (.tm U) (.tm U)) U ?_
   refine AWl.nil ?_
   refine AW.cond (.tm U) (fun h35 => ?_) (fun h35 => ?_)
   · skip
     try simp at h35
     have hkh : (k : Int) ≤ high := by (have h := h35; first | omega | (simp at h; omega))
     have hol := relIn_len5 hn.2 (outP_strict n l low k) (outP_in hl k)
     have hpl := relIn_len5 hn.2 (pwL_strict n l k) (pwL_in hl k)
     rw [← he] at hol
     refine AW.skip ?_
     refine AW.seq ?_
     refine AW.block ?_
     refine AW.seq ?_
     refine AW.sr ?_
     refine AWl.mv ?_
     refine AWl.mv ?_
     refine AWl.p (R_ge U (.no U) U (.tm U) (.tm U)) U ?_
     refine AWl.nil ?_
     refine AW.cond (.tm U) (fun h40 => ?_) (fun h40 => ?_)
     · skip
       try simp at h40
       have hlk : low ≤ (k : Int) := by (have h := h40; first | omega | (simp at h; omega))
       refine AW.le (σ' := ⟨_, [(1, _), (2, _), (3, _), (8, _), (9, _), (10, _), (11, _)], [(12, _), (3200, _)]⟩) (Le.sub0 U ⟨U, U, U, U, U, U, U, Y⟩ ⟨U, U, Y⟩) ?_
       refine AW.region ?_
       refine AWl.mv ?_
       refine AWl.mv ?_
       refine AWl.adds (R_call 4300 (specMergePairs O (pwL n l k) (by omega)) U U U (.cons (.tm U) U (.cons (.tm U) U .nil)) U U) U ?_
       refine AWl.av ?_
       refine AWl.nil ?_
       refine AW.le (Le.sw 12 4300 _) ?_
       refine AW.region ?_
       refine AWl.mv ?_
       refine AWl.mv ?_
       refine AWl.adds (R_call 4600 (specComposeRelations (pwL n l k) l (by omega) (by omega)) U U U (.cons (.tm U) U (.cons (.tm U) U .nil)) U U) U ?_
       refine AWl.av ?_
       refine AWl.nil ?_
       refine AW.le (Le.sw 3200 4600 _) ?_
       refine AW.le (σ' := ⟨_, [(1, _), (2, _), (3, _), (8, _), (9, _), (10, _), (11, _)], [(4300, _), (4600, _), (12, _), (3200, _)]⟩) (Le.sub0 U ⟨U, U, U, U, U, U, U, Y⟩ ⟨U, U, U, U, Y⟩) ?_
       refine AW.region ?_
       refine AWl.mv ?_
       refine AWl.p (R_add U (.no U) U (.tm U) (.const U) (fun _ => by omega)) U ?_
       refine AWl.av ?_
       refine AWl.nil ?_
       repeat (with_reducible refine BlockQ.nor ?_)
       refine Round2.next (k + 1) (pmerge O (pwL n l k)) ⟨by omega, (by rw [outP, ← he]; exact (if_pos hlk).symm)⟩ (by omega) (Le.sub0 rfl ⟨rfl, rfl, rfl, rfl, rfl, rfl, rfl, Y⟩ ⟨(by rfl), (by rfl), Y⟩)
     · skip
       try simp at h40
       have hlk : ¬ low ≤ (k : Int) := by (have h := h40; first | omega | (simp at h; omega))
       refine AW.skip ?_
       refine AW.le (σ' := ⟨_, [(1, _), (2, _), (3, _), (8, _), (9, _), (10, _), (11, _)], [(12, _), (3200, _)]⟩) (Le.sub0 U ⟨U, U, U, U, U, U, U, Y⟩ ⟨U, U, Y⟩) ?_
       refine AW.region ?_
       refine AWl.mv ?_
       refine AWl.mv ?_
       refine AWl.adds (R_call 4600 (specComposeRelations (pwL n l k) l (by omega) (by omega)) U U U (.cons (.tm U) U (.cons (.tm U) U .nil)) U U) U ?_
       refine AWl.av ?_
       refine AWl.nil ?_
       refine AW.le (Le.sw 3200 4600 _) ?_
       refine AW.region ?_
       refine AWl.mv ?_
       refine AWl.p (R_add U (.no U) U (.tm U) (.const U) (fun _ => by omega)) U ?_
       refine AWl.av ?_
       refine AWl.nil ?_
       repeat (with_reducible refine BlockQ.nor ?_)
       refine Round2.next (k + 1) (O) ⟨by omega, (by rw [outP, ← he]; exact (if_neg hlk).symm)⟩ (by omega) (Le.sub0 rfl ⟨rfl, rfl, rfl, rfl, rfl, rfl, rfl, Y⟩ ⟨(by rfl), (by rfl), Y⟩)
   · skip
     try simp at h35
     refine AW.exit ?_
     refine AW.sr ?_
     refine AWl.mv ?_
     refine AWl.av ?_
     refine AWl.nil (AW.ret ?_)
     refine Res.one U (.tmp U .nil) U ?_
     unfold powL; rw [he, show k = high.toNat + 1 by have h := h35; first | omega | (simp at h; omega)]; rfl
theorem implPowerRelation (n : Nat) (hn : 1 ≤ n ∧ n ≤ 5) (l : List TPair) (hl : relIn n l) (hs : StrictS pless l) (low high : Int) (h0 : 0 ≤ low) (h1 : 0 ≤ high ∧ high ≤ 3) : FnT Tryz.prog 111 [.one (.v (.int .i64 (n : Int))), .one (.sl 2 (l.map cPair)), .one (.v (.int .i64 low)), .one (.v (.int .i64 high))] (.a (.one (.sl 2 ((powL n l low high).map cPair)))) := by
 refine FnT.walk Tryz.func111 U (by kernel_rfl) Tryz.ntmps111 U fun hlen w0 => ?_
 try simp [cPair, cToken, cExpr, cEdge, cGraph] at hlen
 have hap := relIn_pairs hn.2 hl hs
 have hin : inB (n : Int) 1 5 = true := by unfold inB; simp; omega
 have hih : inB high 0 3 = true := by unfold inB; simp; omega
 have hlo : decide (low < 0) = false := by simp; omega
 have hll := relIn_len5 hn.2 hs hl
 refine AW.sr ?_
 refine AWl.ac ?_
 refine AWl.nilS (i := 8) 20001 2 U U ?_
 refine AWl.nil (AW.seq ?_)
 refine AW.sr ?_
 refine AWl.mv ?_
 refine AWl.p (R_callz (FnT.fr (implwithin (n : Int) 1 5)) U (.no U) U (.cons (.tm U) U (.cons (.const U) U (.cons (.const U) U .nil)))) U ?_
 refine AWl.p (R_not U (.no U) U (.tm U)) U ?_
 refine AWl.mv ?_
 refine AWl.p (R_move U (by exact .not1 U U U U) U (.tmp U (by exact fun _ => rfl))) U ?_
 refine AWl.p (R_callz (FnT.fr (implArePairs l)) U (by exact .not1 U U U U) U (.cons (.tmp U (by exact id)) U .nil)) U ?_
 refine AWl.p (R_not U (by exact .not1 U U U U) U (.tmp U (by exact id))) U ?_
 refine AWl.p (R_or U (.no U) U (.tm U) (.tmp U (by exact id))) U ?_
 refine AWl.mv ?_
 refine AWl.p (R_move U (by exact .not1 U U U U) U (.tmp U (by exact fun _ => rfl))) U ?_
 refine AWl.p (R_lt U (by exact .not1 U U U U) U (.tmp U (by exact id)) (.const U)) U ?_
 refine AWl.p (R_or U (.no U) U (.tm U) (.tmp U (by exact id))) U ?_
 refine AWl.mv ?_
 refine AWl.p (R_move U (by exact .not1 U U U U) U (.tmp U (by exact fun _ => rfl))) U ?_
 refine AWl.p (R_callz (FnT.fr (implwithin high 0 3)) U (by exact .not1 U U U U) U (.cons (.tmp U (by exact id)) U (.cons (.const U) U (.cons (.const U) U .nil)))) U ?_
 refine AWl.p (R_not U (by exact .not1 U U U U) U (.tmp U (by exact id))) U ?_
 refine AWl.p (R_or U (.no U) U (.tm U) (.tmp U (by exact id))) U ?_
 refine AWl.nil ?_
 refine AW.cond (.tm U) (fun h28 => ?_) (fun h28 => ?_)
 · exact absurd h28 (by simp [hap, hin, hih, hlo] at h28)
 · skip
   try simp at h28
   refine AW.skip ?_
   refine AW.seq ?_
   refine AW.le (σ' := ⟨_, [(0, _), (1, _), (2, _), (3, _), (8, _)], [(20001, _)]⟩) (Le.sub0 U ⟨U, U, U, U, U, Y⟩ ⟨U, Y⟩) ?_
   refine AW.region ?_
   refine AWl.add (R_empty 29 U U U Tryz.underlying58 ty63 U) U ?_
   refine AWl.av ?_
   refine AWl.nil (AW.sr ?_)
   refine AWl.mv ?_
   refine AWl.adds (R_call 3100 (implIdentityRelation n hn.2) U U U (.cons (.tm U) U .nil) U U) U ?_
   refine AWl.av ?_
   refine AWl.nil (AW.seq ?_)
   refine AW.sr ?_
   refine AWl.ac ?_
   refine AWl.nil (AW.block ?_)
   refine AW.loop2 (fun (k : Nat) (O : List TPair) => (k ≤ high.toNat + 1) ∧ O = outP n l low k) (fun (k : Nat) (O : List TPair) => ⟨_, [(11, (true, .a (.one (.t (.v (.int .i64 (k : Nat))))))), (9, (true, .a (.one (.rf 29)))), (10, (true, .a (.one (.rf 3100)))), (1, _), (2, _), (3, _), (8, _)], [(29, .row 2 (O.map cPair)), (3100, .row 2 ((pwL n l k).map cPair))]⟩) (fun (k : Nat) (O : List TPair) => high.toNat + 1 - k) (0) ([]) ⟨by omega, U⟩ (Le.sub0 U ⟨U, U, U, U, U, U, U, Y⟩ ⟨U, U, Y⟩) ?_
   rintro k O ⟨hk, he⟩
   refine AW.seq ?_
   refine AW.sr ?_
   refine AWl.mv ?_
   refine AWl.mv ?_
   refine AWl.p (R_le U (.no U) U (.tm U) (.tm U)) U ?_
   refine AWl.nil ?_
   refine AW.cond (.tm U) (fun h34 => ?_) (fun h34 => ?_)
   · skip
     try simp at h34
     have hkh : (k : Int) ≤ high := by (have h := h34; first | omega | (simp at h; omega))
     have hol := relIn_len5 hn.2 (outP_strict n l low k) (outP_in hl k)
     have hpl := relIn_len5 hn.2 (pwL_strict n l k) (pwL_in hl k)
     rw [← he] at hol
     refine AW.skip ?_
     refine AW.seq ?_
     refine AW.block ?_
     refine AW.seq ?_
     refine AW.sr ?_
     refine AWl.mv ?_
     refine AWl.mv ?_
     refine AWl.p (R_ge U (.no U) U (.tm U) (.tm U)) U ?_
     refine AWl.nil ?_
     refine AW.cond (.tm U) (fun h39 => ?_) (fun h39 => ?_)
     · skip
       try simp at h39
       have hlk : low ≤ (k : Int) := by (have h := h39; first | omega | (simp at h; omega))
       refine AW.le (σ' := ⟨_, [(1, _), (2, _), (3, _), (8, _), (9, _), (10, _), (11, _)], [(29, _), (3100, _)]⟩) (Le.sub0 U ⟨U, U, U, U, U, U, U, Y⟩ ⟨U, U, Y⟩) ?_
       refine AW.region ?_
       refine AWl.mv ?_
       refine AWl.mv ?_
       refine AWl.adds (R_call 4200 (implMergePairs O (pwL n l k) (by omega)) U U U (.cons (.tm U) U (.cons (.tm U) U .nil)) U U) U ?_
       refine AWl.av ?_
       refine AWl.nil ?_
       refine AW.le (Le.sw 29 4200 _) ?_
       refine AW.region ?_
       refine AWl.mv ?_
       refine AWl.mv ?_
       refine AWl.adds (R_call 4500 (implComposeRelations (pwL n l k) l (by omega) (by omega)) U U U (.cons (.tm U) U (.cons (.tm U) U .nil)) U U) U ?_
       refine AWl.av ?_
       refine AWl.nil ?_
       refine AW.le (Le.sw 3100 4500 _) ?_
       refine AW.le (σ' := ⟨_, [(1, _), (2, _), (3, _), (8, _), (9, _), (10, _), (11, _)], [(4200, _), (4500, _), (29, _), (3100, _)]⟩) (Le.sub0 U ⟨U, U, U, U, U, U, U, Y⟩ ⟨U, U, U, U, Y⟩) ?_
       refine AW.region ?_
       refine AWl.mv ?_
       refine AWl.p (R_add U (.no U) U (.tm U) (.const U) (fun _ => by omega)) U ?_
       refine AWl.av ?_
       refine AWl.nil ?_
       repeat (with_reducible refine BlockQ.nor ?_)
       refine Round2.next (k + 1) (pmerge O (pwL n l k)) ⟨by omega, (by rw [outP, ← he]; exact (if_pos hlk).symm)⟩ (by omega) (Le.sub0 rfl ⟨rfl, rfl, rfl, rfl, rfl, rfl, rfl, Y⟩ ⟨(by rfl), (by rfl), Y⟩)
     · skip
       try simp at h39
       have hlk : ¬ low ≤ (k : Int) := by (have h := h39; first | omega | (simp at h; omega))
       refine AW.skip ?_
       refine AW.le (σ' := ⟨_, [(1, _), (2, _), (3, _), (8, _), (9, _), (10, _), (11, _)], [(29, _), (3100, _)]⟩) (Le.sub0 U ⟨U, U, U, U, U, U, U, Y⟩ ⟨U, U, Y⟩) ?_
       refine AW.region ?_
       refine AWl.mv ?_
       refine AWl.mv ?_
       refine AWl.adds (R_call 4500 (implComposeRelations (pwL n l k) l (by omega) (by omega)) U U U (.cons (.tm U) U (.cons (.tm U) U .nil)) U U) U ?_
       refine AWl.av ?_
       refine AWl.nil ?_
       refine AW.le (Le.sw 3100 4500 _) ?_
       refine AW.region ?_
       refine AWl.mv ?_
       refine AWl.p (R_add U (.no U) U (.tm U) (.const U) (fun _ => by omega)) U ?_
       refine AWl.av ?_
       refine AWl.nil ?_
       repeat (with_reducible refine BlockQ.nor ?_)
       refine Round2.next (k + 1) (O) ⟨by omega, (by rw [outP, ← he]; exact (if_neg hlk).symm)⟩ (by omega) (Le.sub0 rfl ⟨rfl, rfl, rfl, rfl, rfl, rfl, rfl, Y⟩ ⟨(by rfl), (by rfl), Y⟩)
   · skip
     try simp at h34
     refine AW.exit ?_
     refine AW.sr ?_
     refine AWl.mv ?_
     refine AWl.av ?_
     refine AWl.nil (AW.ret ?_)
     refine Res.one U (.tmp U .nil) U ?_
     unfold powL; rw [he, show k = high.toNat + 1 by have h := h34; first | omega | (simp at h; omega)]; rfl
theorem implLetterRelation (g : TGraph) (hg : validG g = true) (k : Int) (hkr : 0 ≤ k ∧ k ≤ 8) : FnT Tryz.prog 107 [.agg (cGraph g), .one (.v (.int .i64 k))] (.a (.one (.sl 2 ((letL g k).map cPair)))) := by
 refine FnT.walk Tryz.func107 U (by kernel_rfl) Tryz.ntmps107 U fun hlen w0 => ?_
 try simp [cPair, cToken, cExpr, cEdge, cGraph] at hlen
 have hG := validG_len hg
 have hl : inB k 0 8 = true := by unfold inB; simp; omega
 have hAl : (arcsV g).length = g.Values.length := by unfold arcsV; simp
 refine AW.sr ?_
 refine AWl.p (R_boxz U U U (.tm U) (ts := _) (by rfl)) U ?_
 refine AWl.ac ?_
 refine AWl.nilS (i := 4) 20001 2 U U ?_
 refine AWl.nil (AW.seq ?_)
 refine AW.sr ?_
 refine AWl.p (by exact R_load U (.no U) U (.tm U) ty27 U U) U ?_
 refine AWl.p (R_callz (FnT.fr (implIsValidGraph g)) U (.no U) U (.cons (.tm U) U .nil)) U ?_
 refine AWl.p (R_not U (.no U) U (.tm U)) U ?_
 refine AWl.mv ?_
 refine AWl.p (R_move U (by exact .not1 U U U U) U (.tmp U (by exact fun _ => rfl))) U ?_
 refine AWl.p (R_callz (FnT.fr (implisLetter k)) U (by exact .not1 U U U U) U (.cons (.tmp U (by exact id)) U .nil)) U ?_
 refine AWl.p (R_not U (by exact .not1 U U U U) U (.tmp U (by exact id))) U ?_
 refine AWl.p (R_or U (.no U) U (.tm U) (.tmp U (by exact id))) U ?_
 refine AWl.nil ?_
 refine AW.cond (.tm U) (fun h17 => ?_) (fun h17 => ?_)
 · exact absurd h17 (by simp [hg, hl])
 · skip
   try simp at h17
   refine AW.skip ?_
   refine AW.seq ?_
   refine AW.le (σ' := ⟨_, [(0, _), (1, _), (2, _), (4, _)], [(20001, _)]⟩) (Le.sub0 U ⟨U, U, U, U, Y⟩ ⟨U, Y⟩) ?_
   refine AW.region ?_
   refine AWl.add (R_empty 18 U U U Tryz.underlying58 ty63 U) U ?_
   refine AWl.av ?_
   refine AWl.nil (AW.seq ?_)
   refine AW.sr ?_
   refine AWl.p (by exact R_load U (.no U) U (.tm U) ty27 U U) U ?_
   refine AWl.p (R_callz (FnT.fr (implarcs g hg)) U (.no U) U (.cons (.tm U) U .nil)) U ?_
   refine AWl.p (by exact R_lenm U (.no U) U (.tm U) (by exact .t) Tryz.underlying143) U ?_
   refine AWl.p (R_move U (.no U) U (.const U)) U ?_
   refine AWl.nil (AW.block ?_)
   refine AW.loop1 (fun (x : Nat) => (x ≤ g.Values.length) ∧ True) (fun (x : Nat) => ⟨_, [(22, (true, .a (.one (.t (.v (.int .i64 (x : Nat))))))), (5, (true, .a (.one (.rf 18)))), (1, _), (2, _), (4, _), (20, _), (21, _)], [(18, .row 2 ((arcTo g k x).map cPair))]⟩) (fun (x : Nat) => g.Values.length - x) (0) ⟨Nat.zero_le _, Y⟩ (Le.sub0 U ⟨U, U, U, U, U, U, U, Y⟩ ⟨(by refine congrArg (fun r => some (R.row 2 r)) ?_; first | rfl | (simp [arcRow]; done) | (simp [arcTo]; done)), Y⟩) ?_
   rintro x ⟨hk, he⟩
   refine AW.sr ?_
   refine AWl.p (R_lt U (.no U) U (.tm U) (.tm U)) U ?_
   refine AWl.nil (AW.seq ?_)
   refine AW.cond (.tm U) (fun h23 => ?_) (fun h23 => ?_)
   · skip
     try simp at h23
     obtain ⟨v, hv⟩ : ∃ v, g.Values[x]? = some v := ⟨_, List.getElem?_eq_getElem (by omega)⟩
     have hga : (arcsV g)[x]? = some (arcsAt g x) := by unfold arcsV; exact range_get _ (by omega)
     have hto := arcTo_len g k x
     have hal : (arcsAt g x).length ≤ 24 := Nat.le_trans (arcsL_len _ _) (by omega)
     have hx5 : x * (2 * g.Edges.length + 1) ≤ 5 * 25 := Nat.mul_le_mul (by omega) (by omega)
     have hsl := selfP_len g k x
     refine AW.skip ?_
     refine AW.seq ?_
     refine AW.block ?_
     refine AW.sr ?_
     refine AWl.mv ?_
     refine AWl.p (by exact R_indexAddr U (.no U) U (.tm U) (.tm U) Tryz.underlying143 ty145 (fun _ => ⟨by omega, (by exact map_get hga)⟩)) U ?_
     refine AWl.p (by exact R_load U (.no U) U (.tm U) ty145 U U) U ?_
     refine AWl.av ?_
     refine AWl.av ?_
     refine AWl.nil (AW.seq ?_)
     refine AW.sr ?_
     refine AWl.mv ?_
     refine AWl.p (by exact R_lenm U (.no U) U (.tm U) (by exact .t) Tryz.underlying145) U ?_
     refine AWl.p (R_move U (.no U) U (.const U)) U ?_
     refine AWl.nil (AW.block ?_)
     refine AW.loop1 (fun (j : Nat) => (j ≤ (arcsAt g x).length) ∧ True) (fun (j : Nat) => ⟨_, [(29, (true, .a (.one (.t (.v (.int .i64 (j : Nat))))))), (5, (true, .a (.one (.rf 18)))), (1, _), (2, _), (4, _), (6, _), (20, _), (21, _), (22, _), (27, _), (28, _)], [(18, .row 2 ((arcTo g k x ++ arcRow g k x j).map cPair))]⟩) (fun (j : Nat) => (arcsAt g x).length - j) (0) ⟨Nat.zero_le _, Y⟩ (Le.sub0 U ⟨U, U, U, U, U, U, U, U, U, U, U, Y⟩ ⟨(by refine congrArg (fun r => some (R.row 2 r)) ?_; first | rfl | (simp [arcRow]; done) | (simp [arcTo]; done)), Y⟩) ?_
     rintro j ⟨hk1, he1⟩
     refine AW.sr ?_
     refine AWl.p (R_lt U (.no U) U (.tm U) (.tm U)) U ?_
     refine AWl.nil (AW.seq ?_)
     refine AW.cond (.tm U) (fun h30 => ?_) (fun h30 => ?_)
     · skip
       try simp at h30
       obtain ⟨y, hy⟩ : ∃ ξ, (arcsAt g x)[j]? = some ξ := ⟨_, List.getElem?_eq_getElem (by omega)⟩
       have hrw := arcRow_len g k x j
       refine AW.skip ?_
       refine AW.seq ?_
       refine AW.block ?_
       refine AW.sr ?_
       refine AWl.p (by exact R_indexAddr U (.no U) U (.tm U) (.tm U) Tryz.underlying145 ty149 (fun _ => ⟨by omega, (by exact map_get hy)⟩)) U ?_
       refine AWl.p (by exact R_load U (.no U) U (.tm U) ty149 U U) U ?_
       refine AWl.add (R_alloc 9 U U U in149 U U U) U ?_
       refine AWl.chgb (R_store_pb U U U (.tm U) (.tm U) U ty149 U U U (by kernel_rfl) U) ?_
       refine AWl.nil (AW.sr ?_)
       refine AWl.p (by exact R_fieldAddr_pp U (.no U) U (.tm U) fl149_1) U ?_
       refine AWl.p (by exact R_load_pp U (.no U) U (.tm U) U ty3 U U) U ?_
       refine AWl.mv ?_
       refine AWl.p (R_eq U (.no U) U (.tm U) (.tm U)) U ?_
       refine AWl.nil ?_
       refine AW.cond (.tm U) (fun h36 => ?_) (fun h36 => ?_)
       · skip
         try simp at h36
         refine AW.le (σ' := ⟨_, [(1, _), (2, _), (4, _), (5, _), (6, _), (9, _), (20, _), (21, _), (22, _), (27, _), (28, _), (29, _)], [(18, _), (9, _)]⟩) (Le.sub0 U ⟨U, U, U, U, U, U, U, U, U, U, U, U, Y⟩ ⟨U, U, Y⟩) ?_
         refine AW.region ?_
         refine AWl.mv ?_
         refine AWl.mv ?_
         refine AWl.p (by exact R_fieldAddr_pp U (.no U) U (.tm U) fl149_2) U ?_
         refine AWl.p (by exact R_load_pp U (.no U) U (.tm U) U ty3 U U) U ?_
         refine AWl.p (R_build (ps := [(0, .tmp 38), (1, .tmp 40)]) U U U in63 U U st63 (.cons (.tm U) U U fp63_0 (.cons (.tm U) U U fp63_1 .nil)) U) U ?_
         refine AWl.absadd (R_list (xs := [.tmp 41]) 42 U U U (.cons (.tm U) U U .nil) Tryz.underlying58 in63 U U U U) U ?_
         refine AWl.chgput (R_append U U U (.tm U) U (.tm U) (by exact .rf U) (by rfl) Tryz.underlying58 in63 U (by (simp [chunk]; omega)) (by (unfold maxLen; simp [chunk]; omega))) U ?_
         refine AWl.le (σ' := ⟨_, [(1, _), (2, _), (4, _), (5, _), (6, _), (9, _), (20, _), (21, _), (22, _), (27, _), (28, _), (29, _), (43, _)], [(18, _), (9, _), (42, _)]⟩) (Le.sub0 U ⟨U, U, U, U, U, U, U, U, U, U, U, U, U, Y⟩ ⟨U, U, U, Y⟩) ?_
         refine AWl.av ?_
         refine AWl.nil (AW.region ?_)
         refine AWl.p (R_add U (.no U) U (.tm U) (.const U) (fun _ => by omega)) U ?_
         refine AWl.mv ?_
         refine AWl.nil ?_
         repeat (with_reducible refine BlockQ.nor ?_)
         refine Round1.next (j + 1) ⟨by omega, Y⟩ (by omega) (Le.sub0 rfl ⟨rfl, rfl, rfl, rfl, rfl, rfl, rfl, rfl, rfl, rfl, rfl, Y⟩ ⟨(by refine congrArg (fun r => some (R.row 2 r)) ?_; first | (rw [arcRow_at hy]; unfold arcP; rw [if_pos (by simpa using h36)]; simp [chunk, cPair]; done) | (rw [arcRow_at hy]; unfold arcP; rw [if_neg (by simpa using h36)]; simp; done) | (rw [arcTo_succ, selfP_at hv, if_pos (by simpa using h48), show j = (arcsAt g x).length by omega]; simp [chunk, cPair]; done) | (rw [arcTo_succ, selfP_at hv, if_neg (by simpa using h48), show j = (arcsAt g x).length by omega]; simp; done) | (simp [arcRow]; done)), Y⟩)
       · skip
         try simp at h36
         refine AW.skip ?_
         refine AW.le (σ' := ⟨_, [(1, _), (2, _), (4, _), (5, _), (6, _), (9, _), (20, _), (21, _), (22, _), (27, _), (28, _), (29, _)], [(18, _), (9, _)]⟩) (Le.sub0 U ⟨U, U, U, U, U, U, U, U, U, U, U, U, Y⟩ ⟨U, U, Y⟩) ?_
         refine AW.region ?_
         refine AWl.p (R_add U (.no U) U (.tm U) (.const U) (fun _ => by omega)) U ?_
         refine AWl.mv ?_
         refine AWl.nil ?_
         repeat (with_reducible refine BlockQ.nor ?_)
         refine Round1.next (j + 1) ⟨by omega, Y⟩ (by omega) (Le.sub0 rfl ⟨rfl, rfl, rfl, rfl, rfl, rfl, rfl, rfl, rfl, rfl, rfl, Y⟩ ⟨(by refine congrArg (fun r => some (R.row 2 r)) ?_; first | (rw [arcRow_at hy]; unfold arcP; rw [if_pos (by simpa using h36)]; simp [chunk, cPair]; done) | (rw [arcRow_at hy]; unfold arcP; rw [if_neg (by simpa using h36)]; simp; done) | (rw [arcTo_succ, selfP_at hv, if_pos (by simpa using h48), show j = (arcsAt g x).length by omega]; simp [chunk, cPair]; done) | (rw [arcTo_succ, selfP_at hv, if_neg (by simpa using h48), show j = (arcsAt g x).length by omega]; simp; done) | (simp [arcRow]; done)), Y⟩)
     · skip
       try simp at h30
       have hrw := arcRow_len g k x j
       refine AW.exit ?_
       refine AW.sr ?_
       refine AWl.p (by exact R_load U (.no U) U (.tm U) ty27 U U) U ?_
       refine AWl.mv ?_
       refine AWl.mv ?_
       refine AWl.p (R_callz (FnT.fr (implHoldsAt g hg (x : Int) k v (by omega) (by simpa using hv) hkr)) U (.no U) U (.cons (.tm U) U (.cons (.tm U) U (.cons (.tm U) U .nil)))) U ?_
       refine AWl.nil ?_
       refine AW.cond (.tm U) (fun h48 => ?_) (fun h48 => ?_)
       · skip
         try simp at h48
         refine AW.region ?_
         refine AWl.mv ?_
         refine AWl.mv ?_
         refine AWl.mv ?_
         refine AWl.p (R_build (ps := [(0, .tmp 50), (1, .tmp 51)]) U U U in63 U U st63 (.cons (.tm U) U U fp63_0 (.cons (.tm U) U U fp63_1 .nil)) U) U ?_
         refine AWl.absadd (R_list (xs := [.tmp 52]) 53 U U U (.cons (.tm U) U U .nil) Tryz.underlying58 in63 U U U U) U ?_
         refine AWl.chgput (R_append U U U (.tm U) U (.tm U) (by exact .rf U) (by rfl) Tryz.underlying58 in63 U (by (simp [chunk]; omega)) (by (unfold maxLen; simp [chunk]; omega))) U ?_
         refine AWl.le (σ' := ⟨_, [(1, _), (2, _), (4, _), (5, _), (6, _), (20, _), (21, _), (22, _), (27, _), (28, _), (29, _), (30, _), (48, _), (54, _)], [(18, _), (53, _)]⟩) (Le.sub0 U ⟨U, U, U, U, U, U, U, U, U, U, U, U, U, U, Y⟩ ⟨U, U, Y⟩) ?_
         refine AWl.av ?_
         refine AWl.nil (AW.region ?_)
         refine AWl.p (R_add U (.no U) U (.tm U) (.const U) (fun _ => by omega)) U ?_
         refine AWl.mv ?_
         refine AWl.nil ?_
         repeat (with_reducible refine BlockQ.nor ?_)
         refine Round1.next (x + 1) ⟨by omega, Y⟩ (by omega) (Le.sub0 rfl ⟨rfl, rfl, rfl, rfl, rfl, rfl, rfl, Y⟩ ⟨(by refine congrArg (fun r => some (R.row 2 r)) ?_; first | (rw [arcRow_at hy]; unfold arcP; rw [if_pos (by simpa using h36)]; simp [chunk, cPair]; done) | (rw [arcRow_at hy]; unfold arcP; rw [if_neg (by simpa using h36)]; simp; done) | (rw [arcTo_succ, selfP_at hv, if_pos (by simpa using h48), show j = (arcsAt g x).length by omega]; simp [chunk, cPair]; done) | (rw [arcTo_succ, selfP_at hv, if_neg (by simpa using h48), show j = (arcsAt g x).length by omega]; simp; done) | (simp [arcRow]; done)), Y⟩)
       · skip
         try simp at h48
         refine AW.skip ?_
         refine AW.region ?_
         refine AWl.p (R_add U (.no U) U (.tm U) (.const U) (fun _ => by omega)) U ?_
         refine AWl.mv ?_
         refine AWl.nil ?_
         repeat (with_reducible refine BlockQ.nor ?_)
         refine Round1.next (x + 1) ⟨by omega, Y⟩ (by omega) (Le.sub0 rfl ⟨rfl, rfl, rfl, rfl, rfl, rfl, rfl, Y⟩ ⟨(by refine congrArg (fun r => some (R.row 2 r)) ?_; first | (rw [arcRow_at hy]; unfold arcP; rw [if_pos (by simpa using h36)]; simp [chunk, cPair]; done) | (rw [arcRow_at hy]; unfold arcP; rw [if_neg (by simpa using h36)]; simp; done) | (rw [arcTo_succ, selfP_at hv, if_pos (by simpa using h48), show j = (arcsAt g x).length by omega]; simp [chunk, cPair]; done) | (rw [arcTo_succ, selfP_at hv, if_neg (by simpa using h48), show j = (arcsAt g x).length by omega]; simp; done) | (simp [arcRow]; done)), Y⟩)
   · skip
     try simp at h23
     refine AW.exit ?_
     refine AW.seq ?_
     refine AW.le (σ' := ⟨_, [(1, _), (2, _), (4, _), (5, _), (20, _), (21, _), (22, _)], [(18, .row 2 ((arcTo g k g.Values.length).map cPair))]⟩) (Le.sub0 U ⟨U, U, U, U, U, U, U, Y⟩ ⟨by rw [show x = g.Values.length by omega]; rfl, Y⟩) ?_
     refine AW.region ?_
     refine AWl.mv ?_
     refine AWl.adds (R_call 5700 (implpairSet (arcTo g k g.Values.length) (by have := arcTo_len g k g.Values.length; have : g.Values.length * (2 * g.Edges.length + 1) ≤ 5 * 25 := Nat.mul_le_mul (by omega) (by omega); omega)) U U U (.cons (.tm U) U .nil) U U) U ?_
     refine AWl.av ?_
     refine AWl.nil (AW.ret ?_)
     refine Res.one U (.tmp U .nil) U ?_
     rw [arcTo_let hg]; rfl
end Go.Proofs.YtbkhopfpejhnlaaGreat
