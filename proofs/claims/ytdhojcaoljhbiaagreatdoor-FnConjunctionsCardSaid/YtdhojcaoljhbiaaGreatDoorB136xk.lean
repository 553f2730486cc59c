import Derived.Test.YtdhojcaoljhbiaaGreatDoorB50xk
import Derived.Test.YtdhojcaoljhbiaaGreatDoorB08xk
import Derived.Test.YtdhojcaoljhbiaaGreatDoorB26xk
import Derived.Test.YtdhojcaoljhbiaaGreatDoorB80xk
import Derived.Test.YtdhojcaoljhbiaaGreatDoorB107xk
import Derived.Test.YtdhojcaoljhbiaaGreatDoorB98xk
import Derived.Test.YtdhojcaoljhbiaaGreatDoorAbs1xk
import Derived.Shelf.RegionOpenPlain
import Derived.Lib.Overlaps
import Derived.Lib.AppendZeros
import Derived.Lib.AppendZerosOnto
import Derived.Lib.SliceRun
import Derived.Laws.Externs
import Derived.Test.YtdhojcaoljhbiaaGreatDoorPvxk
import Derived.Test.YtdhojcaoljhbiaaGreatDoorB127xk
import Derived.Test.YtdhojcaoljhbiaaGreatDoorB126xk
import Derived.Laws.BytesArg
set_option linter.unusedVariables false
set_option linter.unusedSimpArgs false
set_option maxRecDepth 100000
set_option maxHeartbeats 1000000
set_option maxRecDepth 100000
namespace Go.Q
open Go.D
theorem relOf_none {g:TGraph} {x:Tr} (h:x.kids=[]):relOf g x=if x.tok.Kind=2 then idL g.Values.length else if x.tok.Kind=3 then letL g x.tok.Letter else []:=by
 cases x with
 | leaf t=>rfl
 | un t y=>cases h
 | bin t y z=>cases h
theorem relOf_one {g:TGraph} {x y:Tr} (h:x.kids=[y]):relOf g x=if x.tok.Kind=6 then closeL g.Values.length (relOf g y) else powL g.Values.length (relOf g y) x.tok.Low x.tok.High:=by
 cases x with
 | leaf t=>cases h
 | un t z=>simp only [Tr.kids,List.cons.injEq,and_true] at h;subst h;rfl
 | bin t z z'=>simp [Tr.kids] at h
theorem relOf_two {g:TGraph} {x y z:Tr} (h:x.kids=[y,z]):relOf g x=if x.tok.Kind=4 then compL (relOf g y) (relOf g z) else pmerge (relOf g y) (relOf g z):=by
 cases x with
 | leaf t=>cases h
 | un t y'=>simp [Tr.kids] at h
 | bin t y' z'=>simp only [Tr.kids,List.cons.injEq,and_true] at h;obtain⟨rfl,rfl⟩:=h;rfl
theorem good_letter {x:Tr} (hg:good x) (h:x.tok.Kind=3):0≤x.tok.Letter∧x.tok.Letter≤8:=by
 have ha:=good_arity hg
 unfold arity at ha
 rw [if_neg (by omega),if_pos h] at ha
 split at ha
 · rename_i hc;simp only [Bool.and_eq_true,inB,decide_eq_true_eq] at hc;omega
 omega
theorem good_high {x:Tr} (hg:good x) (h:x.tok.Kind=7):0≤x.tok.High∧x.tok.High≤3:=by
 have ha:=good_arity hg
 unfold arity at ha
 rw [if_neg (by omega),if_neg (by omega),if_neg (by omega),if_neg (by omega),if_pos h] at ha
 split at ha
 · rename_i hc;simp only [Bool.and_eq_true,inB,decide_eq_true_eq] at hc;omega
 omega
def evalE (g:TGraph) (e:TExpr):List TPair×Bool:=if validG g&&isValidExpr e then (match treeM e.Tokens with|some x=>(relOf g x,true)|none=>([],true)) else ([],false)
theorem evalE_some {g:TGraph} {e:TExpr} {x:Tr} (hg:validG g=true) (he:isValidExpr e=true) (hx:treeM e.Tokens=some x):evalE g e=(relOf g x,true):=by unfold evalE;rw [hg,he,hx];rfl
theorem evalE_bad {g:TGraph} {e:TExpr} (h:(validG g&&isValidExpr e)=false):evalE g e=([],false):=by unfold evalE;rw [h];rfl
end Go.Q
namespace Go.Proofs.YtdhojcaoljhbiaaGreatDoor
open Go.RowKit Go.Q Go.D
theorem implrelation1 (g:TGraph) (hg:validG g=true) (x:Tr) (hgx:good x) (ih:∀ y∈x.kids,FnT Tryz.prog 137 [.one (.ad (treeCells y)),.agg (cGraph g)] (.a (.one (.sl 2 ((relOf g y).map cPair))))):FnT Tryz.prog 137 [.one (.ad (treeCells x)),.agg (cGraph g)] (.a (.one (.sl 2 ((relOf g x).map cPair)))):=by
 refine Ay Tryz.func137 U (by kernel_rfl) Tryz.ntmps137 U fun hlen w0=>?_
 try simp [cPair,cToken,cExpr,cEdge,cGraph,cStep,cWalk,cChange,cBatch,cHistory,cPositions,cAutomaton,cProductStep,cPathAtom,cConjunction,cView,cDelta,cRegistered,cRegistry] at hlen
 clear hlen;rw [treeCells_eq];obtain⟨hlow,hlow3,-⟩:=good_cases hgx;have hG:=validG_len hg
 refine Ae (Ag (B9 U U U (.tm U) (ts:=_) (by rfl)) U ?_);refine Ak ?_;refine By (i:=4) 20001 2 U U ?_;refine Aa (Ae (A7 Cv ?_));refine Aq Ca ?_;refine Bc (.t) Tryz.underlying34 ?_;refine Ah ?_;refine Aa (Ac (Ae (Ab ?_)));refine Ag (Dd U (.no U) U (.tm U)) U ?_;refine A7 fl211_0 ?_;refine A7 fl137_0 ?_;refine Aq ty3 ?_;refine Aa (AW.block (Ac (Am (As [0,1,3,4,5,13] [20001]) ?_)));refine Ad (Br ?_);refine Ah ?_;refine Aa (Ai (.tm U) (fun h14=>?_) (fun h14=>?_))
 · try simp at h14
   refine Ae (Ab ?_);refine B8 (Cd 1700 (implIdentityRelation g.Values.length hG.2.1) U U U (.cons (.tm U) U .nil) U U) U ?_;refine Ah ?_;refine Aa (Al (Res.one U (.tmp U .nil) U ?_))
   rw [relOf_none (kind_no' hgx (by omega)),if_pos h14];rfl
 try simp at h14
 refine Ae (Br ?_);refine Ah ?_;refine Aa (Ai (.tm U) (fun h18=>?_) (fun h18=>?_))
 · try simp at h18
   refine Ac (Bq 8 (nthB [[],[],[1],[1,2],[1,2,3],[1,2,3,4],[0,1,2,3,4,5],[0,1,2,3,4,5,6]]) (by kernel_rfl) (by kernel_rfl) (by kernel_rfl) ?_);refine A5 Bz ?_;refine Ap ?_;refine DrawC.s (fun _ hs=>(Dd U (.no U) (Af hs U) (hs.tm U))) ?_;refine Cb fl211_0 ?_;refine Cb Dv ?_;refine A5 ty3 ?_;refine Cw U U U (Loc.ofs U fun σ' hs hf=>Cd 2600 (implLetterRelation g hg x.tok.Letter (good_letter hgx h18)) U U (Af hs U) (.cons (hs.tm U) (readA_sup hs U) (.cons (hs.tm U) (readA_sup hs U) .nil)) U (all_fresh hf)) ?_;refine DrawC.s (fun _ hs=>C0 U (.no U) (Af hs U) (hs.tm U)) ?_;refine Bi U U ?_;refine Aa (Al (Res.one U (.tmp U .nil) U ?_))
   rw [relOf_none (kind_no' hgx (by omega)),if_neg h14,if_pos h18];rfl
 try simp at h18
 refine Ae (Br ?_);refine Ah ?_;refine Aa (Ai (.tm U) (fun h27=>?_) (fun h27=>?_))
 · try simp at h27
   obtain⟨y,z,hk2,-,hgy,hgz⟩:=kind_two' hgx (by omega)
   have hi0:(x.kids.map cKid)[(0:Int).toNat]?=some (cKid y):=by rw [hk2];rfl
   have hi1:(x.kids.map cKid)[(1:Int).toNat]?=some (cKid z):=by rw [hk2];rfl
   have hry:=relOf_len hg y
   have hrz:=relOf_len hg z
   have hln:x.kids.length=2:=by rw [hk2];rfl
   refine Ac (Am (As [0,1,3,4,5,13] [20001]) ?_);refine Bq 18 (nthB [[],[0],[0,1],[0,1,2],[0,1,2,3],[0,1,2,3,4],[],[0,1,2,3,4,5,6],[],[8],[8,9],[8,9,10],[8,9,10,11],[8,9,10,11,12],[],[0,1,2,3,4,5,6,7,8,9,10,11,12,13,14],[0,1,2,3,4,5,6,7,8,9,10,11,12,13,14,15],[0,1,2,3,4,5,6,7,8,9,10,11,12,13,14,15,16]]) (by kernel_rfl) (by kernel_rfl) (by kernel_rfl) ?_;refine Ap ?_;refine DrawC.s (fun _ hs=>(by exact Dd U (.no U) (Af hs U) (hs.tm U))) ?_;refine Cb fl211_1 ?_;refine A5 ty207 ?_;refine DrawC.s (fun _ hs=>(by exact An U (.no U) (Af hs U) (hs.tm U) (.const U) Tryz.underlying207 ty175 (fun _=>⟨by omega,(by exact hi0)⟩))) ?_;refine A5 ty175 ?_;refine A5 Bz ?_;refine DrawC.s (fun _ hs=>A3 (FnT.fr (ih y (by rw [hk2];simp))) U (.no U) (Af hs U) (.cons (hs.tm U) (readA_sup hs U) (.cons (hs.tm U) (readA_sup hs U) .nil))) ?_;refine Ap ?_
   refine DrawC.s (fun _ hs=>(by exact Dd U (.no U) (Af hs U) (hs.tm U))) ?_;refine Cb fl211_1 ?_;refine A5 ty207 ?_;refine DrawC.s (fun _ hs=>(by exact An U (.no U) (Af hs U) (hs.tm U) (.const U) Tryz.underlying207 ty175 (fun _=>⟨by omega,(by exact hi1)⟩))) ?_;refine A5 ty175 ?_;refine A5 Bz ?_;refine DrawC.s (fun _ hs=>A3 (FnT.fr (ih z (by rw [hk2];simp))) U (.no U) (Af hs U) (.cons (hs.tm U) (readA_sup hs U) (.cons (hs.tm U) (readA_sup hs U) .nil))) ?_;refine Cw U U U (Loc.ofs U fun σ' hs hf=>Cd 4500 (implComposeRelations (relOf g y) (relOf g z) (by omega) (by omega)) U U (Af hs U) (.cons (hs.tm U) (readA_sup hs U) (.cons (hs.tm U) (readA_sup hs U) .nil)) U (all_fresh hf)) ?_;refine DrawC.s (fun _ hs=>C0 U (.no U) (Af hs U) (hs.tm U)) ?_;refine Bi U U ?_;refine Aa (Al (Res.one U (.tmp U .nil) U ?_))
   rw [relOf_two hk2,if_pos h27];rfl
 try simp at h27
 refine Ac (Am (As [0,1,3,4,5,13] [20001]) ?_);refine Ad (Br ?_);refine Ah ?_;refine Aa (Ai (.tm U) (fun h46=>?_) (fun h46=>?_))
 · try simp at h46
   obtain⟨y,z,hk2,-,hgy,hgz⟩:=kind_two' hgx (by omega)
   have hi0:(x.kids.map cKid)[(0:Int).toNat]?=some (cKid y):=by rw [hk2];rfl
   have hi1:(x.kids.map cKid)[(1:Int).toNat]?=some (cKid z):=by rw [hk2];rfl
   have hry:=relOf_len hg y
   have hrz:=relOf_len hg z
   have hln:x.kids.length=2:=by rw [hk2];rfl
   refine Ac (Bq 18 (nthB [[],[0],[0,1],[0,1,2],[0,1,2,3],[0,1,2,3,4],[],[0,1,2,3,4,5,6],[],[8],[8,9],[8,9,10],[8,9,10,11],[8,9,10,11,12],[],[0,1,2,3,4,5,6,7,8,9,10,11,12,13,14],[0,1,2,3,4,5,6,7,8,9,10,11,12,13,14,15],[0,1,2,3,4,5,6,7,8,9,10,11,12,13,14,15,16]]) (by kernel_rfl) (by kernel_rfl) (by kernel_rfl) ?_);refine Ap ?_;refine DrawC.s (fun _ hs=>(by exact Dd U (.no U) (Af hs U) (hs.tm U))) ?_;refine Cb fl211_1 ?_;refine A5 ty207 ?_;refine DrawC.s (fun _ hs=>(by exact An U (.no U) (Af hs U) (hs.tm U) (.const U) Tryz.underlying207 ty175 (fun _=>⟨by omega,(by exact hi0)⟩))) ?_;refine A5 ty175 ?_;refine A5 Bz ?_;refine DrawC.s (fun _ hs=>A3 (FnT.fr (ih y (by rw [hk2];simp))) U (.no U) (Af hs U) (.cons (hs.tm U) (readA_sup hs U) (.cons (hs.tm U) (readA_sup hs U) .nil))) ?_;refine Ap ?_;refine DrawC.s (fun _ hs=>(by exact Dd U (.no U) (Af hs U) (hs.tm U))) ?_;refine Cb fl211_1 ?_
   refine A5 ty207 ?_;refine DrawC.s (fun _ hs=>(by exact An U (.no U) (Af hs U) (hs.tm U) (.const U) Tryz.underlying207 ty175 (fun _=>⟨by omega,(by exact hi1)⟩))) ?_;refine A5 ty175 ?_;refine A5 Bz ?_;refine DrawC.s (fun _ hs=>A3 (FnT.fr (ih z (by rw [hk2];simp))) U (.no U) (Af hs U) (.cons (hs.tm U) (readA_sup hs U) (.cons (hs.tm U) (readA_sup hs U) .nil))) ?_;refine Cw U U U (Loc.ofs U fun σ' hs hf=>Cd 6400 (implMergePairs (relOf g y) (relOf g z) (by omega)) U U (Af hs U) (.cons (hs.tm U) (readA_sup hs U) (.cons (hs.tm U) (readA_sup hs U) .nil)) U (all_fresh hf)) ?_;refine DrawC.s (fun _ hs=>C0 U (.no U) (Af hs U) (hs.tm U)) ?_;refine Bi U U ?_;refine Aa (Al (Res.one U (.tmp U .nil) U ?_))
   rw [relOf_two hk2,if_neg h27];rfl
 try simp at h46
 refine Ae (Br ?_);refine Ah ?_;refine Aa (Ai (.tm U) (fun h65=>?_) (fun h65=>?_))
 · try simp at h65
   obtain⟨y,hk2,-,hgy⟩:=kind_one' hgx (by omega)
   have hi0:(x.kids.map cKid)[(0:Int).toNat]?=some (cKid y):=by rw [hk2];rfl
   have hln:x.kids.length=1:=by rw [hk2];rfl
   have hro:=relOf_ok hg y
   refine Ac (Bq 11 (nthB [[],[],[1],[1,2],[1,2,3],[1,2,3,4],[1,2,3,4,5],[],[1,2,3,4,5,6,7],[0,1,2,3,4,5,6,7,8],[0,1,2,3,4,5,6,7,8,9]]) (by kernel_rfl) (by kernel_rfl) (by kernel_rfl) ?_);refine Ap ?_;refine Ap ?_;refine DrawC.s (fun _ hs=>(by exact Dd U (.no U) (Af hs U) (hs.tm U))) ?_;refine Cb fl211_1 ?_;refine A5 ty207 ?_;refine DrawC.s (fun _ hs=>(by exact An U (.no U) (Af hs U) (hs.tm U) (.const U) Tryz.underlying207 ty175 (fun _=>⟨by omega,(by exact hi0)⟩))) ?_;refine A5 ty175 ?_;refine A5 Bz ?_;refine DrawC.s (fun _ hs=>A3 (FnT.fr (ih y (by rw [hk2];simp))) U (.no U) (Af hs U) (.cons (hs.tm U) (readA_sup hs U) (.cons (hs.tm U) (readA_sup hs U) .nil))) ?_
   refine Cw U U U (Loc.ofs U fun σ' hs hf=>Cd 7600 (implClosureRelation g.Values.length ⟨hG.1,hG.2.1⟩ (relOf g y) hro.1 hro.2) U U (Af hs U) (.cons (hs.tm U) (readA_sup hs U) (.cons (hs.tm U) (readA_sup hs U) .nil)) U (all_fresh hf)) ?_;refine DrawC.s (fun _ hs=>C0 U (.no U) (Af hs U) (hs.tm U)) ?_;refine Bi U U ?_;refine Aa (Al (Res.one U (.tmp U .nil) U ?_))
   rw [relOf_one hk2,if_pos h65];rfl
 try simp at h65
 refine Ae (Br ?_);refine Ah ?_;refine Aa (Ai (.tm U) (fun h77=>?_) (fun h77=>?_))
 · try simp at h77
   obtain⟨y,hk2,-,hgy⟩:=kind_one' hgx (by omega)
   have hi0:(x.kids.map cKid)[(0:Int).toNat]?=some (cKid y):=by rw [hk2];rfl
   have hln:x.kids.length=1:=by rw [hk2];rfl
   have hro:=relOf_ok hg y
   refine Ac (Am (As [0,1,3,4,5,13] [20001]) ?_);refine Bq 21 (nthB [[],[],[1],[1,2],[1,2,3],[1,2,3,4],[1,2,3,4,5],[],[1,2,3,4,5,6,7],[],[9],[9,10],[9,10,11],[9,10,11,12],[],[14],[14,15],[14,15,16],[14,15,16,17],[0,1,2,3,4,5,6,7,8,9,10,11,12,13,14,15,16,17,18],[0,1,2,3,4,5,6,7,8,9,10,11,12,13,14,15,16,17,18,19]]) (by kernel_rfl) (by kernel_rfl) (by kernel_rfl) ?_;refine Ap ?_;refine Ap ?_;refine DrawC.s (fun _ hs=>(by exact Dd U (.no U) (Af hs U) (hs.tm U))) ?_;refine Cb fl211_1 ?_;refine A5 ty207 ?_;refine DrawC.s (fun _ hs=>(by exact An U (.no U) (Af hs U) (hs.tm U) (.const U) Tryz.underlying207 ty175 (fun _=>⟨by omega,(by exact hi0)⟩))) ?_;refine A5 ty175 ?_;refine A5 Bz ?_;refine DrawC.s (fun _ hs=>A3 (FnT.fr (ih y (by rw [hk2];simp))) U (.no U) (Af hs U) (.cons (hs.tm U) (readA_sup hs U) (.cons (hs.tm U) (readA_sup hs U) .nil))) ?_;refine Ap ?_
   refine DrawC.s (fun _ hs=>(Dd U (.no U) (Af hs U) (hs.tm U))) ?_;refine Cb fl211_0 ?_;refine Cb Dp ?_;refine A5 ty3 ?_;refine Ap ?_;refine DrawC.s (fun _ hs=>(by exact Dd U (.no U) (Af hs U) (hs.tm U))) ?_;refine Cb fl211_0 ?_;refine Cb Df ?_;refine A5 ty3 ?_;refine Cw U U U (Loc.ofs U fun σ' hs hf=>Cd 9800 (implPowerRelation g.Values.length ⟨hG.1,hG.2.1⟩ (relOf g y) hro.1 hro.2 x.tok.Low x.tok.High hlow (good_high hgx h77)) U U (Af hs U) (.cons (hs.tm U) (readA_sup hs U) (.cons (hs.tm U) (readA_sup hs U) (.cons (hs.tm U) (readA_sup hs U) (.cons (hs.tm U) (readA_sup hs U) .nil)))) U (all_fresh hf)) ?_;refine DrawC.s (fun _ hs=>C0 U (.no U) (Af hs U) (hs.tm U)) ?_;refine Bi U U ?_;refine Aa (Al (Res.one U (.tmp U .nil) U ?_))
   rw [relOf_one hk2,if_neg h65];rfl
 try simp at h77
 refine Aj (Ac (Am (As [0,1,3,4,5,13] [20001]) ?_));refine Ad (A6 (Ce 99 U U U Tryz.underlying89 Cj U) U ?_);refine Ah ?_;refine Aa (Al (Res.one U (.tmp U .nil) U ?_))
 rw [relOf_none (kind_no' hgx (by omega)),if_neg h14,if_neg h18];rfl
theorem implrelation (g:TGraph) (hg:validG g=true):∀ x:Tr,good x→FnT Tryz.prog 137 [.one (.ad (treeCells x)),.agg (cGraph g)] (.a (.one (.sl 2 ((relOf g x).map cPair)))):=
 Tr.ind fun x ih hgx=>implrelation1 g hg x hgx fun y hy=>ih y hy (good_kids hgx y hy)
theorem specl16Eval1 (g:TGraph) (hg:validG g=true) (x:Tr) (hgx:good x) (hz:(toks x).length≤1048576) (ih:∀ y∈x.kids,∀ L,L=(toks y).map cToken→FnT Tryz.prog 57 [.agg (cGraph g),.one (.sl 4 L)] (.a (.one (.sl 2 ((relOf g y).map cPair))))):FnT Tryz.prog 57 [.agg (cGraph g),.one (.sl 4 ((toks x).map cToken))] (.a (.one (.sl 2 ((relOf g x).map cPair)))):=by
 refine Ay Tryz.func57 U (by kernel_rfl) Tryz.ntmps57 U fun hlen w0=>?_
 try simp [cPair,cToken,cExpr,cEdge,cGraph,cStep,cWalk,cChange,cBatch,cHistory,cPositions,cAutomaton,cProductStep,cPathAtom,cConjunction,cView,cDelta,cRegistered,cRegistry] at hlen
 clear hlen;obtain⟨hlow,hlow3,-⟩:=good_cases hgx;have hG:=validG_len hg;have hlast:=tok_last x;have hpos:=toks_pos x
 refine Ae (Ag (B9 U U U (.tm U) (ts:=_) (by rfl)) U ?_);refine Ak ?_;refine By (i:=4) 20001 2 U U ?_;refine Aa (Ae (Ab ?_));refine Bc (.t) Tryz.underlying91 ?_;refine C6 ?_;refine Ah ?_;refine Aa (Ae (Ab ?_));refine Ab ?_;refine Ag (An U (.no U) U (.tm U) (.tm U) Tryz.underlying91 Cg (fun _=>⟨by omega,Ao hlast⟩)) U ?_;refine Aq Cg ?_;refine A6 (Bo 6 U U U Ck U U U) U ?_;refine A4 Cg ?_;refine Aa (Ac (Ac (Am (As [0,1,2,4,5,6] [20001,6]) ?_)));refine Ad (B6 fl137_0 ?_);refine Bp ty3 ?_;refine Aa (AW.block (Ae (Br ?_)));refine Ah ?_;refine Aa (Ai (.tm U) (fun h18=>?_) (fun h18=>?_))
 · try simp at h18
   refine Ae (A7 Cv ?_);refine Aq Ca ?_;refine Bc (.t) Tryz.underlying34 ?_;refine B8 (Cd 2300 (specIdentityRelation g.Values.length hG.2.1) U U U (.cons (.tm U) U .nil) U U) U ?_;refine Ah ?_;refine Aa (Al (Res.one U (.tmp U .nil) U ?_))
   rw [relOf_none (kind_no' hgx (by omega)),if_pos h18];rfl
 try simp at h18
 refine Ae (Br ?_);refine Ah ?_;refine Aa (Ai (.tm U) (fun h24=>?_) (fun h24=>?_))
 · try simp at h24
   refine Ae (Aq Bz ?_);refine B6 Dv ?_;refine Bp ty3 ?_;refine B8 (Cd 2900 (specLetterRelation g hg x.tok.Letter (good_letter hgx h24)) U U U (.cons (.tm U) U (.cons (.tm U) U .nil)) U U) U ?_;refine Ah ?_;refine Aa (Al (Res.one U (.tmp U .nil) U ?_))
   rw [relOf_none (kind_no' hgx (by omega)),if_neg h18,if_pos h24];rfl
 try simp at h24
 refine Ae (Br ?_);refine Ah ?_;refine Aa (Ai (.tm U) (fun h30=>?_) (fun h30=>?_))
 · try simp at h30
   obtain⟨y,z,hk2,hte,hgy,hgz⟩:=kind_two' hgx (by omega)
   have hln:(toks x).length=(toks y).length+(toks z).length+1:=by rw [hte];simp;omega
   have hry:=relOf_len hg y
   have hrz:=relOf_len hg z
   refine Ac (Am (As [0,1,2,4,5,6,17] [20001,6]) ?_);refine Ad (Ab ?_);refine Ab ?_;refine Ag (R_slice (m:=(toks y).length+(toks z).length) U (.no U) U (.tm U) .no (.yes (.tm U) (fun _=>by first|omega|(simp<;>omega))) Tryz.underlying91 Cg (fun _=>⟨by omega,by first|omega|(simp;omega)⟩)) U ?_;refine Ag (A3 (FnT.fr (l8Start_at hgz (pre:=toks y) (by simp;omega) _ (sl_pre2 hte))) U (.no U) U (.cons (.tm U) U .nil)) U ?_;refine Ah ?_;refine Aa (Ac (Bq 13 (nthB [[],[],[],[1,2],[0,1,2,3],[],[],[],[],[6,7,8],[0,1,2,3,4,5,6,7,8,9],[0,1,2,3,4,5,6,7,8,9,10],[0,1,2,3,4,5,6,7,8,9,10,11]]) (by kernel_rfl) (by kernel_rfl) (by kernel_rfl) ?_));refine A5 Bz ?_;refine Ap ?_;refine Ap ?_;refine DrawC.s (fun _ hs=>R_slice (m:=(toks y).length) U (.no U) (Af hs U) (hs.tm U) .no (.yes (hs.tm U) (fun _=>by first|omega|(simp<;>omega))) Tryz.underlying91 Cg (fun _=>⟨by omega,by first|omega|(simp;omega)⟩)) ?_
   refine DrawC.s (fun _ hs=>A3 (FnT.fr (ih y (by rw [hk2];simp) _ (sl_pre (by rw [hte,List.append_assoc])))) U (.no U) (Af hs U) (.cons (hs.tm U) (readA_sup hs U) (.cons (hs.tm U) (readA_sup hs U) .nil))) ?_;refine A5 Bz ?_;refine Ap ?_;refine Ap ?_;refine Ap ?_;refine DrawC.s (fun _ hs=>R_slice (n:=(toks y).length) (m:=(toks y).length+(toks z).length) U (.no U) (Af hs U) (hs.tm U) (.yes (hs.tm U) (fun _=>by first|omega|(simp<;>omega))) (.yes (hs.tm U) (fun _=>by first|omega|(simp<;>omega))) Tryz.underlying91 Cg (fun _=>⟨by omega,by first|omega|(simp;omega)⟩)) ?_;refine DrawC.s (fun _ hs=>A3 (FnT.fr (ih z (by rw [hk2];simp) _ (sl_mid hte))) U (.no U) (Af hs U) (.cons (hs.tm U) (readA_sup hs U) (.cons (hs.tm U) (readA_sup hs U) .nil))) ?_
   refine Cw U U U (Loc.ofs U fun σ' hs hf=>Cd 4700 (specComposeRelations (relOf g y) (relOf g z) (by omega) (by omega)) U U (Af hs U) (.cons (hs.tm U) (readA_sup hs U) (.cons (hs.tm U) (readA_sup hs U) .nil)) U (all_fresh hf)) ?_;refine DrawC.s (fun _ hs=>C0 U (.no U) (Af hs U) (hs.tm U)) ?_;refine Bi U U ?_;refine Aa (Al (Res.one U (.tmp U .nil) U ?_))
   rw [relOf_two hk2,if_pos h30];rfl
 try simp at h30
 refine Ac (Am (As [0,1,2,4,5,6,17] [20001,6]) ?_);refine Ad (Br ?_);refine Ah ?_;refine Aa (Ai (.tm U) (fun h48=>?_) (fun h48=>?_))
 · try simp at h48
   obtain⟨y,z,hk2,hte,hgy,hgz⟩:=kind_two' hgx (by omega)
   have hln:(toks x).length=(toks y).length+(toks z).length+1:=by rw [hte];simp;omega
   have hry:=relOf_len hg y
   have hrz:=relOf_len hg z
   refine Ae (Ab ?_);refine Ab ?_;refine Ag (R_slice (m:=(toks y).length+(toks z).length) U (.no U) U (.tm U) .no (.yes (.tm U) (fun _=>by first|omega|(simp<;>omega))) Tryz.underlying91 Cg (fun _=>⟨by omega,by first|omega|(simp;omega)⟩)) U ?_;refine Ag (A3 (FnT.fr (l8Start_at hgz (pre:=toks y) (by simp;omega) _ (sl_pre2 hte))) U (.no U) U (.cons (.tm U) U .nil)) U ?_;refine Ah ?_;refine Aa (Ac (Am (As [0,1,2,4,5,6,8,17] [20001,6]) ?_));refine Bq 13 (nthB [[],[],[],[1,2],[0,1,2,3],[],[],[],[],[6,7,8],[0,1,2,3,4,5,6,7,8,9],[0,1,2,3,4,5,6,7,8,9,10],[0,1,2,3,4,5,6,7,8,9,10,11]]) (by kernel_rfl) (by kernel_rfl) (by kernel_rfl) ?_;refine A5 Bz ?_;refine Ap ?_;refine Ap ?_;refine DrawC.s (fun _ hs=>R_slice (m:=(toks y).length) U (.no U) (Af hs U) (hs.tm U) .no (.yes (hs.tm U) (fun _=>by first|omega|(simp<;>omega))) Tryz.underlying91 Cg (fun _=>⟨by omega,by first|omega|(simp;omega)⟩)) ?_
   refine DrawC.s (fun _ hs=>A3 (FnT.fr (ih y (by rw [hk2];simp) _ (sl_pre (by rw [hte,List.append_assoc])))) U (.no U) (Af hs U) (.cons (hs.tm U) (readA_sup hs U) (.cons (hs.tm U) (readA_sup hs U) .nil))) ?_;refine A5 Bz ?_;refine Ap ?_;refine Ap ?_;refine Ap ?_;refine DrawC.s (fun _ hs=>R_slice (n:=(toks y).length) (m:=(toks y).length+(toks z).length) U (.no U) (Af hs U) (hs.tm U) (.yes (hs.tm U) (fun _=>by first|omega|(simp<;>omega))) (.yes (hs.tm U) (fun _=>by first|omega|(simp<;>omega))) Tryz.underlying91 Cg (fun _=>⟨by omega,by first|omega|(simp;omega)⟩)) ?_;refine DrawC.s (fun _ hs=>A3 (FnT.fr (ih z (by rw [hk2];simp) _ (sl_mid hte))) U (.no U) (Af hs U) (.cons (hs.tm U) (readA_sup hs U) (.cons (hs.tm U) (readA_sup hs U) .nil))) ?_
   refine Cw U U U (Loc.ofs U fun σ' hs hf=>Cd 6500 (specMergePairs (relOf g y) (relOf g z) (by omega)) U U (Af hs U) (.cons (hs.tm U) (readA_sup hs U) (.cons (hs.tm U) (readA_sup hs U) .nil)) U (all_fresh hf)) ?_;refine DrawC.s (fun _ hs=>C0 U (.no U) (Af hs U) (hs.tm U)) ?_;refine Bi U U ?_;refine Aa (Al (Res.one U (.tmp U .nil) U ?_))
   rw [relOf_two hk2,if_neg h30];rfl
 try simp at h48
 refine Ae (Br ?_);refine Ah ?_;refine Aa (Ai (.tm U) (fun h66=>?_) (fun h66=>?_))
 · try simp at h66
   obtain⟨y,hk2,hte,hgy⟩:=kind_one' hgx (by omega)
   have hln:(toks x).length=(toks y).length+1:=by rw [hte];simp
   have hro:=relOf_ok hg y
   refine Ac (Bq 10 (nthB [[],[0],[0,1],[],[],[],[4,5],[3,4,5,6],[0,1,2,3,4,5,6,7],[0,1,2,3,4,5,6,7,8]]) (by kernel_rfl) (by kernel_rfl) (by kernel_rfl) ?_);refine Cb Cv ?_;refine A5 Ca ?_;refine DrawC.s (fun _ hs=>(by exact C4 U (.no U) (Af hs U) (hs.tm U) (by exact .t) Tryz.underlying34)) ?_;refine A5 Bz ?_;refine Ap ?_;refine Ap ?_;refine DrawC.s (fun _ hs=>R_slice (m:=(toks y).length) U (.no U) (Af hs U) (hs.tm U) .no (.yes (hs.tm U) (fun _=>by first|omega|(simp<;>omega))) Tryz.underlying91 Cg (fun _=>⟨by omega,by first|omega|(simp;omega)⟩)) ?_;refine DrawC.s (fun _ hs=>A3 (FnT.fr (ih y (by rw [hk2];simp) _ (sl_pre hte))) U (.no U) (Af hs U) (.cons (hs.tm U) (readA_sup hs U) (.cons (hs.tm U) (readA_sup hs U) .nil))) ?_
   refine Cw U U U (Loc.ofs U fun σ' hs hf=>Cd 7600 (specClosureRelation g.Values.length ⟨hG.1,hG.2.1⟩ (relOf g y) hro.1 hro.2) U U (Af hs U) (.cons (hs.tm U) (readA_sup hs U) (.cons (hs.tm U) (readA_sup hs U) .nil)) U (all_fresh hf)) ?_;refine DrawC.s (fun _ hs=>C0 U (.no U) (Af hs U) (hs.tm U)) ?_;refine Bi U U ?_;refine Aa (Al (Res.one U (.tmp U .nil) U ?_))
   rw [relOf_one hk2,if_pos h66];rfl
 try simp at h66
 refine Ae (Br ?_);refine Ah ?_;refine Aa (Ai (.tm U) (fun h77=>?_) (fun h77=>?_))
 · try simp at h77
   obtain⟨y,hk2,hte,hgy⟩:=kind_one' hgx (by omega)
   have hln:(toks x).length=(toks y).length+1:=by rw [hte];simp
   have hro:=relOf_ok hg y
   refine Ac (Am (As [0,1,2,4,5,6,17] [20001,6]) ?_);refine Bq 14 (nthB [[],[0],[0,1],[],[],[],[4,5],[3,4,5,6],[],[8],[],[10],[0,1,2,3,4,5,6,7,8,9,10,11],[0,1,2,3,4,5,6,7,8,9,10,11,12]]) (by kernel_rfl) (by kernel_rfl) (by kernel_rfl) ?_;refine Cb Cv ?_;refine A5 Ca ?_;refine DrawC.s (fun _ hs=>(by exact C4 U (.no U) (Af hs U) (hs.tm U) (by exact .t) Tryz.underlying34)) ?_;refine A5 Bz ?_;refine Ap ?_;refine Ap ?_;refine DrawC.s (fun _ hs=>R_slice (m:=(toks y).length) U (.no U) (Af hs U) (hs.tm U) .no (.yes (hs.tm U) (fun _=>by first|omega|(simp<;>omega))) Tryz.underlying91 Cg (fun _=>⟨by omega,by first|omega|(simp;omega)⟩)) ?_;refine DrawC.s (fun _ hs=>A3 (FnT.fr (ih y (by rw [hk2];simp) _ (sl_pre hte))) U (.no U) (Af hs U) (.cons (hs.tm U) (readA_sup hs U) (.cons (hs.tm U) (readA_sup hs U) .nil))) ?_;refine DrawC.s (fun _ hs=>(Av U (.no U) (Af hs U) (hs.tm U) Dp)) ?_
   refine DrawC.s (fun _ hs=>(by exact Ax U (.no U) (Af hs U) (hs.tm U) (hs.res _ _ U) ty3 U U)) ?_;refine DrawC.s (fun _ hs=>(by exact Av U (.no U) (Af hs U) (hs.tm U) Df)) ?_;refine DrawC.s (fun _ hs=>(by exact Ax U (.no U) (Af hs U) (hs.tm U) (hs.res _ _ U) ty3 U U)) ?_;refine Cw U U U (Loc.ofs U fun σ' hs hf=>Cd 9100 (specPowerRelation g.Values.length ⟨hG.1,hG.2.1⟩ (relOf g y) hro.1 hro.2 x.tok.Low x.tok.High hlow (good_high hgx h77)) U U (Af hs U) (.cons (hs.tm U) (readA_sup hs U) (.cons (hs.tm U) (readA_sup hs U) (.cons (hs.tm U) (readA_sup hs U) (.cons (hs.tm U) (readA_sup hs U) .nil)))) U (all_fresh hf)) ?_;refine DrawC.s (fun _ hs=>C0 U (.no U) (Af hs U) (hs.tm U)) ?_;refine Bi U U ?_;refine Aa (Al (Res.one U (.tmp U .nil) U ?_))
   rw [relOf_one hk2,if_neg h66];rfl
 try simp at h77
 refine Aj (Ac (Am (As [0,1,2,4,5,6,17] [20001,6]) ?_));refine Ad (A6 (Ce 92 U U U Tryz.underlying89 Cj U) U ?_);refine Ah ?_;refine Aa (Al (Res.one U (.tmp U .nil) U ?_))
 rw [relOf_none (kind_no' hgx (by omega)),if_neg h18,if_neg h24];rfl
theorem specl16Eval' (g:TGraph) (hg:validG g=true):∀ x:Tr,good x→(toks x).length≤1048576→∀ L,L=(toks x).map cToken→FnT Tryz.prog 57 [.agg (cGraph g),.one (.sl 4 L)] (.a (.one (.sl 2 ((relOf g x).map cPair)))):=
 Tr.ind fun x ih hgx hz L hL=>by subst hL;exact specl16Eval1 g hg x hgx hz fun y hy L hL=>ih y hy (good_kids hgx y hy) (by have:=kids_toks hy;omega) L hL
theorem specl16Eval (g:TGraph) (hg:validG g=true) (e:TExpr) (he:isValidExpr e=true):FnT Tryz.prog 57 [.agg (cGraph g),.one (.sl 4 (e.Tokens.map cToken))] (.a (.one (.sl 2 ((evalE g e).1.map cPair)))):=by
 obtain⟨x,hx,htk,hgx,hl⟩:=valid_tree he
 rw [evalE_some hg he hx]
 exact specl16Eval' g hg x hgx (by rw [htk];omega) _ (by rw [htk])
theorem implEvaluateExpr (g:TGraph) (e:TExpr):FnT Tryz.prog 96 [.agg (cGraph g),.agg (cExpr e)] (.tup [.one (.sl 2 ((evalE g e).1.map cPair)),.one (.v (.bool (evalE g e).2))]):=by
 refine Ay Tryz.func96 U (by kernel_rfl) Tryz.ntmps96 U fun hlen w0=>?_
 try simp [cPair,cToken,cExpr,cEdge,cGraph,cStep,cWalk,cChange,cBatch,cHistory,cPositions,cAutomaton,cProductStep,cPathAtom,cConjunction,cView,cDelta,cRegistered,cRegistry] at hlen
 skip
 refine Ae (Ag (B9 U U U (.tm U) (ts:=_) (by rfl)) U ?_);refine Ag (B9 U U U (.tm U) (ts:=_) (by rfl)) U ?_;refine Ak ?_;refine By (i:=4) 20001 2 U U ?_;refine Ak ?_;refine Aa (Ac (Ae (Aq Bz ?_)));refine Bl (implIsValidGraph g) ?_;refine C1 ?_;refine Ab ?_;refine Ag (Bw U (by exact .not1 U U U U) U (.tmp U (by exact fun _=>rfl)) Ci U U) U ?_;refine Ag (A3 (FnT.fr (implIsValidExpr e)) U (by exact .not1 U U U U) U (.cons (.tmp U (by exact id)) U .nil)) U ?_;refine Ag (Cy U (by exact .not1 U U U U) U (.tmp U (by exact id))) U ?_;refine Cf ?_;refine Aa (Ai (.tm U) (fun h13=>?_) (fun h13=>?_))
 · try simp at h13
   have hno:(validG g&&isValidExpr e)=false:=by (revert h13;cases validG g<;>cases isValidExpr e<;>simp)
   refine Ac (Am (As [0,1,2,3,4,5] [20001]) ?_);refine Ad (Ak ?_);refine By (i:=4) 20002 2 U U ?_;refine Ak ?_;refine Aa (Al (Cz U (.tmp U (.tmp U .nil)) U ?_ (by simp)))
   rw [evalE_bad hno];rfl
 try simp at h13
 have hyes:validG g=true∧isValidExpr e=true:=by (revert h13;cases validG g<;>cases isValidExpr e<;>simp)
 obtain⟨hg,he⟩:=hyes
 obtain⟨x,hx,htk,hgx,hl⟩:=valid_tree he
 have htr:=impltreeOf e (by omega)
 rw [treeV_some hx] at htr
 refine Aj (Ac (Am (As [0,1,2,3,4,5] [20001]) ?_));refine Bq 6 (nthB [[],[0],[],[0,1,2],[0,1,2,3],[0,1,2,3,4]]) (by kernel_rfl) (by kernel_rfl) (by kernel_rfl) ?_;refine A5 Ci ?_;refine DrawC.s (fun _ hs=>A3 (htr) U (.no U) (Af hs U) (.cons (hs.tm U) (readA_sup hs U) .nil)) ?_;refine A5 Bz ?_;refine Cw U U U (Loc.ofs U fun σ' hs hf=>Cd 1700 (implrelation g hg x hgx) U U (Af hs U) (.cons (hs.tm U) (readA_sup hs U) (.cons (hs.tm U) (readA_sup hs U) .nil)) U (all_fresh hf)) ?_;refine DrawC.s (fun _ hs=>C0 U (.no U) (Af hs U) (hs.tm U)) ?_;refine DrawC.s (fun _ hs=>C0 U (.no U) (Af hs U) (.const U)) ?_;refine Bi U U ?_;refine Aa (Al (Cz U (.tmp U (.tmp U .nil)) U ?_ (by simp)))
 rw [evalE_some hg he hx];rfl
end Go.Proofs.YtdhojcaoljhbiaaGreatDoor
set_option maxHeartbeats 1000000
set_option maxRecDepth 100000
namespace Go.Q
open Go.D
def sup1 (R:List Int) (i:Nat) (S:List Int) (k:Int):List Int:=if 0≤atI R i∧atI R k=atI R i+1 then S.set k.toNat (atI S k+1) else S
def supRow (R:List Int) (i:Nat) (S:List Int) (l:List Int):List Int:=l.foldl (sup1 R i) S
def supAll (nx:Nat→List Int) (R:List Int) (S:List Int):Nat→List Int
 | 0=>S
 | n+1=>supRow R n (supAll nx R S n) (nx n)
structure SupI (N:Nat) (b:Int) (S:List Int):Prop where
 len:S.length=N
 val:∀ v∈S,0≤v∧v≤b
theorem SupI.le {N:Nat} {b b':Int} {S:List Int} (h:SupI N b S) (hb:b≤b'):SupI N b' S:=⟨h.len,fun v hv=>by have:=h.val v hv;omega⟩
theorem SupI.at {N:Nat} {b:Int} {S:List Int} (h:SupI N b S) {k:Int} (hk:k.toNat<N):0≤atI S k∧atI S k≤b:=h.val _ (List.mem_of_getElem? (atI_get (by rw [h.len];exact hk)))
theorem SupI.one {N:Nat} {b:Int} {R S:List Int} {i:Nat} {k:Int} (h:SupI N b S) (hk:0≤k∧k<N):SupI N (b+1) (sup1 R i S k):=by
 unfold sup1
 split
 · refine⟨by simpa using h.len,fun v hv=>?_⟩
   rcases List.mem_or_eq_of_mem_set hv with hv|rfl
   · have:=h.val v hv;omega
   have:=h.at (k:=k) (by omega);omega
 exact h.le (by omega)
theorem SupI.row {N:Nat} {R:List Int} {i:Nat}:∀ {l:List Int} {b:Int} {S:List Int},SupI N b S→(∀ k∈l,0≤k∧k<N)→SupI N (b+l.length) (supRow R i S l)
 | [],b,S,h,_=>by simpa [supRow] using h
 | k::l,b,S,h,hl=>by
  have e:supRow R i S (k::l)=supRow R i (sup1 R i S k) l:=rfl
  rw [e]
  exact (SupI.row (h.one (hl k (by simp))) fun k hk=>hl k (by simp [hk])).le (by simp;omega)
theorem SupI.all {nx:Nat→List Int} {N c:Nat} {R:List Int} (hn:∀ p,p<N→∀ k∈nx p,0≤k∧k<N) (hc:∀ p,p<N→(nx p).length≤c):∀ {n:Nat},n≤N→SupI N ((n*c:Nat):Int) (supAll nx R (List.replicate N 0) n)
 | 0,_=>⟨by simp [supAll],fun v hv=>by rw [(List.mem_replicate.1 hv).2];simp⟩
 | n+1,h=>by
  rw [supAll,Nat.succ_mul]
  refine (SupI.row (SupI.all hn hc (n:=n) (by omega)) (hn n (by omega))).le ?_
  have:=hc n (by omega)
  omega
end Go.Q
namespace Go.Proofs.YtdhojcaoljhbiaaGreatDoor
open Go.RowKit Go.Q Go.D
end Go.Proofs.YtdhojcaoljhbiaaGreatDoor
set_option maxHeartbeats 1000000
set_option maxRecDepth 100000
namespace Go.Q
open Go.D
end Go.Q
namespace Go.Proofs.YtdhojcaoljhbiaaGreatDoor
open Go.RowKit Go.Q Go.D
end Go.Proofs.YtdhojcaoljhbiaaGreatDoor
namespace Go.Q
open Go.RowKit
section
variable {P:Program} {ops:Array Oper} {o:Oper} {σ:St} {q:Bool}
end
end Go.Q
set_option maxHeartbeats 1000000
set_option maxRecDepth 100000
namespace Go.Q
open Go.D
end Go.Q
namespace Go.Proofs.YtdhojcaoljhbiaaGreatDoor
open Go.RowKit Go.Q Go.D
end Go.Proofs.YtdhojcaoljhbiaaGreatDoor
set_option maxHeartbeats 1000000
set_option maxRecDepth 100000
namespace Go.Q
open Go.D
end Go.Q
namespace Go.Proofs.YtdhojcaoljhbiaaGreatDoor
open Go.RowKit Go.Q Go.D
end Go.Proofs.YtdhojcaoljhbiaaGreatDoor
set_option maxHeartbeats 1000000
set_option maxRecDepth 100000
namespace Go.Q
open Go.D
end Go.Q
set_option maxHeartbeats 1000000
set_option maxRecDepth 100000
namespace Go.Q
open Go.D
end Go.Q
namespace Go.Proofs.YtdhojcaoljhbiaaGreatDoor
open Go.RowKit Go.Q Go.D
end Go.Proofs.YtdhojcaoljhbiaaGreatDoor
set_option maxHeartbeats 1000000
set_option maxRecDepth 100000
namespace Go.Q
open Go.D
def gle (h g:TGraph):Prop:=h.Values=g.Values∧∀ e∈h.Edges,e∈g.Edges
theorem gle.refl (g:TGraph):gle g g:=⟨rfl,fun _ h=>h⟩
theorem gle.trans {a b c:TGraph} (h1:gle a b) (h2:gle b c):gle a c:=⟨h1.1.trans h2.1,fun e he=>h2.2 e (h1.2 e he)⟩
end Go.Q
set_option maxHeartbeats 1000000
set_option maxRecDepth 100000
namespace Go.Q
open Go.RowKit
section
variable {P:Program}
theorem Chg.setRow (w:World) (g:Nat) (arr:Array Value):Chg w (w.setRow g arr) [g]:=⟨rfl,rfl,rfl,by simp [World.setRow],fun b _ hb=>setRow_other w g b arr (fun e=>hb (by simp [e]))⟩
def Front (cs:List Value) (cur:Array Value):Prop:=∀ (j:Nat) (v:Value),cs[j]?=some v→cur[j]?=some v
theorem Front.take {cs:List Value} {cur:Array Value} (h:Front cs cur):cur.toList.take cs.length=cs:=by
 apply List.ext_getElem?;intro j
 by_cases hj:j<cs.length
 · have:=h j _ (List.getElem?_eq_getElem hj)
   rw [List.getElem?_take_of_lt hj,Array.getElem?_toList,this,List.getElem?_eq_getElem hj]
 rw [List.getElem?_eq_none (by simp;omega),List.getElem?_eq_none (by omega)]
end
end Go.Q
namespace Go.Proofs.YtdhojcaoljhbiaaGreatDoor
open Go.RowKit Go.Q Go.D
end Go.Proofs.YtdhojcaoljhbiaaGreatDoor
set_option maxHeartbeats 1000000
set_option maxRecDepth 100000
namespace Go.Proofs.YtdhojcaoljhbiaaGreatDoor
open Go.RowKit Go.Q Go.D
end Go.Proofs.YtdhojcaoljhbiaaGreatDoor
set_option maxHeartbeats 1000000
set_option maxRecDepth 100000
namespace Go.Q
open Go.RowKit Go.D
end Go.Q
namespace Go.Proofs.YtdhojcaoljhbiaaGreatDoor
open Go.RowKit Go.Q Go.D
end Go.Proofs.YtdhojcaoljhbiaaGreatDoor
set_option maxHeartbeats 1000000
set_option maxRecDepth 100000
namespace Go.Q
open Go.D
end Go.Q
namespace Go.Proofs.YtdhojcaoljhbiaaGreatDoor
open Go.RowKit Go.Q Go.D
end Go.Proofs.YtdhojcaoljhbiaaGreatDoor
set_option maxHeartbeats 1000000
set_option maxRecDepth 100000
namespace Go.Q
open Go.D
end Go.Q
namespace Go.Proofs.YtdhojcaoljhbiaaGreatDoor
open Go.RowKit Go.Q Go.D
end Go.Proofs.YtdhojcaoljhbiaaGreatDoor
set_option maxHeartbeats 1000000
set_option maxRecDepth 100000
namespace Go.Q
open Go.RowKit Go.D
end Go.Q
namespace Go.Proofs.YtdhojcaoljhbiaaGreatDoor
open Go.RowKit Go.Q Go.D
end Go.Proofs.YtdhojcaoljhbiaaGreatDoor
set_option maxHeartbeats 1000000
set_option maxRecDepth 100000
namespace Go.Q
open Go.RowKit Go.D
end Go.Q
namespace Go.Proofs.YtdhojcaoljhbiaaGreatDoor
open Go.RowKit Go.Q Go.D
theorem specl4Node (g:TGraph):FnD Tryz.prog 48 [.agg (cGraph g)] (fun _:Int=>True) (fun x=>.a (.one (.v (.int .i64 x)))):=by
 refine FnD.walk Tryz.func48 U (by kernel_rfl) Tryz.ntmps48 U (fun g=>rfl) fun w0 g=>?_
 refine Ae (Ag (B9 U U U (.tm U) (ts:=_) (by rfl)) U ?_);refine Ak ?_;refine Aa (Ac (Ae (Ab ?_)));refine Bf (A9 600 (specl1Once _) U U U (.tm U) U U (.cons (.const U) U .nil) (fun _=>rfl) (fun _=>rfl)) ?_
 rintro _ ⟨z6,hz6,rfl⟩
 try dsimp only at hz6
 refine Aa (Ai (.tm U) (fun h6=>?_) (fun h6=>?_))
 · try simp at h6
   refine Ae (Ab ?_);refine Bh (Ch (xs:=[.const (.int .i64 (-1)),.const (.int .i64 (5)),.const (.int .i64 (9223372036854775807))]) 8 U U U (.cons (.const U) U U (.cons (.const U) U U (.cons (.const U) U U .nil))) Tryz.underlying34 in3 U U U U) U ?_;refine Bf (A9 900 (specl1PickInt [-1,5,9223372036854775807] (by decide)) U U U (.tm U) U U (.cons (.tm U) U .nil) (fun _=>rfl) (fun _=>rfl)) ?_
   rintro _ ⟨z9,hz9,rfl⟩
   try dsimp only at hz9
   refine Ah ?_;refine Aa (Al ?_);apply DRes.mk rfl
   case h=>
    refine Res.one U (.tmp U .nil) U ?_
    rfl
   case hp=>exact trivial
 try simp at h6
 refine Aj (Ae (Ab ?_));refine A7 Cv ?_;refine Aq Ca ?_;refine Bc (.t) Tryz.underlying34 ?_;refine Ag (R_max U (.no U) U (.const U) (.tm U)) U ?_;refine Bf (A9 1500 (specl1Below _) U U U (.tm U) U U (.cons (.tm U) U .nil) (fun _=>rfl) (fun _=>rfl)) ?_
 rintro _ ⟨z15,hz15,rfl⟩
 try dsimp only at hz15
 refine Ah ?_;refine Aa (Al ?_);apply DRes.mk rfl
 case h=>
  refine Res.one U (.tmp U .nil) U ?_
  rfl
 case hp=>exact trivial
end Go.Proofs.YtdhojcaoljhbiaaGreatDoor
set_option maxHeartbeats 1000000
set_option maxRecDepth 100000
namespace Go.Q
open Go.RowKit Go.D
section
variable {P:Program} {ops:Array Oper} {o:Oper} {σ:St} {q:Bool}
end
theorem validG_of {vs:List Int} {es:List TEdge} (h1:∀ v∈vs,0≤v∧v≤2) (h2:1≤vs.length∧vs.length≤5) (h3:es.length≤12) (h4:∀ e∈es,edgeOk e vs.length=true) (h5:es.Pairwise (·.ID<·.ID)):validG ⟨vs,es⟩=true:=by
 unfold validG
 simp only [Bool.and_eq_true,List.all_eq_true]
 refine⟨⟨fun v hv=>by have:=h1 v hv;unfold inB;simp;omega,fun k hk=>?_⟩,by unfold inB;simp;omega,by simpa using h3⟩
 have hk:=List.mem_range.1 hk
 unfold edgeAt
 rw [List.getElem?_eq_getElem hk]
 simp only [Bool.and_eq_true,Bool.not_eq_true',Bool.and_eq_false_iff,decide_eq_false_iff_not]
 refine⟨h4 _ (List.getElem_mem hk),?_⟩
 by_cases h0:0<k
 · right
   rw [List.getElem?_eq_getElem (by omega)]
   have:=List.pairwise_iff_getElem.1 h5 (k-1) k (by omega) hk (by omega)
   simp only [Option.getD_some]
   omega
 exact .inl h0
def esOk (n:Nat) (id:Int) (es:List TEdge):Prop:=(∀ e∈es,edgeOk e n=true∧e.ID≤id)∧es.Pairwise (·.ID<·.ID)
theorem esOk_nil (n:Nat):esOk n 0 []:=⟨by simp,List.Pairwise.nil⟩
theorem esOk_more {n:Nat} {id:Int} {es:List TEdge} {e:TEdge} (h:esOk n id es) (h0:0≤id) (h1:id<e.ID) (h2:e.ID≤99) (h3:0≤e.From∧e.From≤n-1) (h4:0≤e.To∧e.To≤n-1) (h5:0≤e.Label∧e.Label≤2):esOk n e.ID (es++[e]):=by
 refine⟨fun x hx=>?_,?_⟩
 · rcases List.mem_append.1 hx with hx|hx
   · have:=h.1 x hx;exact⟨this.1,by omega⟩
   rw [List.mem_singleton.1 hx]
   refine⟨?_,Int.le_refl _⟩
   unfold edgeOk inB;simp;omega
 rw [List.pairwise_append]
 refine⟨h.2,List.pairwise_singleton _ _,fun x hx y hy=>?_⟩
 rw [List.mem_singleton.1 hy]
 have:=h.1 x hx;omega
end Go.Q
namespace Go.Proofs.YtdhojcaoljhbiaaGreatDoor
open Go.RowKit Go.Q Go.D
theorem specl3GraphV:FnD Tryz.prog 88 [] (fun g:TGraph=>validG g=true) (fun g=>.a (.agg (cGraph g))):=by
 refine FnD.walk Tryz.func88 U (by kernel_rfl) Tryz.ntmps88 U (fun g=>rfl) fun w0 g=>?_
 refine Ae (A6 (Bo 2 U U U in37 U U U) U ?_);refine Aa (Ae (Ag (Bd (ps:=[]) U U U in37 U U st37 .nil U) U ?_));refine Dn (i:=7) 20001 1 0 U U U ?_;refine Dn (i:=7) 20002 4 1 U U U ?_;refine A6 (Bo 3 U U U in37 U U U) U ?_;refine A4 Bz ?_;refine Aa (Ac (Ae (Ab ?_)));refine Bh (Ch (xs:=[.const (.int .i64 (2)),.const (.int .i64 (3)),.const (.int .i64 (4)),.const (.int .i64 (4)),.const (.int .i64 (5))]) 9 U U U (.cons (.const U) U U (.cons (.const U) U U (.cons (.const U) U U (.cons (.const U) U U (.cons (.const U) U U .nil))))) Tryz.underlying34 in3 U U U U) U ?_;refine Bf (A9 1000 (specl1PickInt [2,3,4,4,5] (by decide)) U U U (.tm U) U U (.cons (.tm U) U .nil) (fun _=>rfl) (fun _=>rfl)) ?_
 rintro _ ⟨z10,hz10,rfl⟩
 try dsimp only at hz10
 refine Ah ?_;refine Aa (AW.block ?_);refine Dz (fun (n:Int) (vs:List Int)=>((n≤5-vs.length∧vs.length≤5)∧(0<vs.length∨0<n)∧∀ v∈vs,0≤v∧v≤2)∧True) (fun (n:Int) (vs:List Int)=>⟨_,[(4,(true,.a (.one (.t (.v (.int .i64 n)))))),(0,_),(2,_),(3,_)],[(2,.box [.t (.v (.slice none 0 0)),.t (.v (.slice none 0 0))]),(3,.box [.rf 20001,.rf 20002]),(20001,.row 1 (vs.map cInt)),(20002,.row 4 []),(888888,.cur g)]⟩) (fun (n:Int) (vs:List Int)=>n.toNat) (z10) ([]) ⟨by simp at hz10;simp;omega,Y⟩ Bm ?_
 rintro n vs ⟨hk,he⟩
 refine Ac (Ae (Ab ?_));refine AWl.gc ?_;refine Aa (Ai (.tm U) (fun h12=>?_) (fun h12=>?_))
 · try simp at h12
   refine Aj (Ac (AW.block (Am (As [0,2,3,4,11,12] [2,3,20001,20002,888888]) ?_)));apply C5 (N:=5) (k:=2) (Hs:=[0,1,2]) (ms:=[[],[3],[3,4]]) (es:=[(0,3,1),(1,4,2)]) (σ1:=_) (SM:=⟨_,[(0,_),(2,_),(3,_),(4,_),(11,_),(12,_),(15,_),(16,_),(17,_)],[(2,_),(3,_),(20001,_),(20002,_),(888888,_)]⟩)
   case hm=>kernel_rfl
   case hB=>kernel_rfl
   case hP=>kernel_rfl
   case hL=>kernel_rfl
   case hN=>rfl
   case hpre=>
    apply Aw (P:=Tryz.prog) 0 rfl ((by exact Av rfl (.no rfl) rfl (.tm rfl) Cv)) (by exact .pp) rfl rfl rfl;apply Aw (P:=Tryz.prog) 1 rfl ((by exact Ax rfl (.no rfl) rfl (.tm rfl) rfl Ca rfl rfl)) (by exact HasV.load (x:=.tmp 15) (.tm rfl) rfl Ca rfl rfl) rfl rfl rfl;apply Aw (P:=Tryz.prog) 2 rfl (Az rfl (.no rfl) rfl (.tm rfl)) (by exact HasV.slot (t:=0) rfl) rfl rfl rfl;exact PreOk.nil
   case hS=>exact Bk
   case hH=>
    refine LocsH.fq Cv ?_;refine LocsH.lq Ca ?_;refine LocsH.mv ?_
    trivial
   apply Dh.drw0 (i:=3)
   case ha=>rfl
   case ho=>rfl
   case hE=>
    intro  hp
    obtain _:=hp
    exact A9 1800 (specl1Below _) rfl rfl rfl (.tm rfl) rfl rfl (.cons (.const rfl) rfl .nil) (fun _=>rfl) (fun _=>rfl)
   case hb=>rfl
   case hL=>
    intro  z18 hp hy;exact C2 (As [0,2,3,4,11,12,15,16,17,18] [2,3,20001,20002,888888]) U
   case hS=>intros;exact Bk
   apply Dh.new1 (i:=4);rfl;rfl;rfl
   · intro w9 z18 hp
     obtain⟨_,hz18⟩:=hp
     refine Bh (Ch (xs:=[.tmp 18]) 19 U U U (.cons (.tm U) U U .nil) Tryz.underlying34 in3 U U U U) U ?_;exact Bg [0,2,3,4,11,12,15,16,17,19] [2,3,20001,20002,888888,19]
   intros;exact Bk
   refine Dh.fin1 (k:=2) rfl ?_;intro z18 hp
   obtain⟨_,hz18⟩:=hp
   refine Bu (B7 U U U (.tm U) U (.tm U) (by exact .rf U) (by rfl) Tryz.underlying34 in3 U (by (simp [chunk];omega)) (by (unfold maxLen;simp [chunk];omega))) U ?_;refine Bt (As [0,2,3,4,12,20] [2,3,20001,20002,888888,19]) ?_;refine B6 Cv ?_;refine A4 Ca ?_;refine Aa (Ad (Ab ?_));refine C6 ?_;refine Ah ?_;refine Aa ?_
   repeat (with_reducible refine Au ?_)
   refine Round2.next (n-1) (vs++[z18]) ⟨by (try simp at h12);refine⟨by simp;omega,by simp,fun v hv=>?_⟩;rcases List.mem_append.1 hv with hv|hv;exact hk.2.2 v hv;rw [List.mem_singleton.1 hv];omega,Y⟩ (by (try simp at h12);omega) (Ar rfl ⟨rfl,rfl,rfl,rfl,Y⟩ ⟨(by rfl),(by rfl),(by (refine congrArg (fun r=>some (R.row _ r)) ?_;simp [chunk,List.map_set,cInt,cBool,cIntS,cPair,cToken,cExpr,cEdge,cGraph,cStep,cWalk,cChange,cBatch,cHistory,cPositions,cAutomaton,cProductStep,cPathAtom,cConjunction,cView,cDelta,cRegistered,cRegistry])),(by rfl),(by rfl),Y⟩)
 try simp at h12
 refine Ba (Ae (Ak ?_));refine Aa (Ac (Ae (Ab ?_)));refine Ab ?_;refine Bh (Ch (xs:=[.const (.int .i64 (4)),.const (.int .i64 (8)),.const (.int .i64 (11))]) 24 U U U (.cons (.const U) U U (.cons (.const U) U U (.cons (.const U) U U .nil))) Tryz.underlying34 in3 U U U U) U ?_;refine Bf (A9 2500 (specl1PickInt [4,8,11] (by decide)) U U U (.tm U) U U (.cons (.tm U) U .nil) (fun _=>rfl) (fun _=>rfl)) ?_
 rintro _ ⟨z25,hz25,rfl⟩
 try dsimp only at hz25
 refine Bf (A9 2600 (specl1Below _) U U U (.tm U) U U (.cons (.tm U) U .nil) (fun _=>rfl) (fun _=>rfl)) ?_
 rintro _ ⟨z26,hz26,rfl⟩
 try dsimp only at hz26
 refine Ah ?_;refine Aa (AW.block ?_);refine AW.loop3 (fun (n2:Int) (id:Int) (es:List TEdge)=>((n2≤11-es.length∧es.length≤11∧0≤id∧id≤3*es.length)∧esOk vs.length id es)∧True) (fun (n2:Int) (id:Int) (es:List TEdge)=>⟨_,[(6,(true,.a (.one (.t (.v (.int .i64 n2)))))),(5,(true,.a (.one (.t (.v (.int .i64 id)))))),(0,_),(2,_),(3,_)],[(2,.box [.t (.v (.slice none 0 0)),.t (.v (.slice none 0 0))]),(3,.box [.rf 20001,.rf 20002]),(20001,.row 1 (vs.map cInt)),(20002,.row 4 (es.map cEdge)),(888888,.cur g)]⟩) (fun (n2:Int) (id:Int) (es:List TEdge)=>n2.toNat) (z26) (0) ([]) ⟨by simp at hz25;exact⟨by simp;omega,esOk_nil _⟩,Y⟩ Bm ?_
 rintro n2 id es ⟨hk2,he2⟩
 refine Ac (Ae (Ab ?_));refine AWl.gc ?_;refine Aa (Ai (.tm U) (fun h28=>?_) (fun h28=>?_))
 · try simp at h28
   refine Aj (Ac (AW.block (Ae (Ab ?_))));refine A8 ?_;refine Ab ?_;refine Bf (A9 3400 (specl1Below _) U U U (.tm U) U U (.cons (.const U) U .nil) (fun _=>rfl) (fun _=>rfl)) ?_
   rintro _ ⟨z34,hz34,rfl⟩
   try dsimp only at hz34
   refine Ag (R_add U (.no U) U (.tm U) (.tm U) (fun _=>by omega)) U ?_;refine Ah ?_;refine Aa (Am (As [0,2,3,5,6] [2,3,20001,20002,888888]) ?_);refine Am (As [0,2,3,5,6] [2,3,20001,20002,888888]) ?_;apply C5 (N:=18) (k:=8) (Hs:=[0,1,2,3,4,5,6,8,9,10,11,13]) (ms:=[[],[7],[14],[7,12],[7,14],[7,12,14],[7,12,14,15],[7,12,14,15,16],[7,12,14,15,16,17]]) (es:=[(0,7,1),(0,14,2),(1,12,3),(1,14,4),(2,7,4),(3,14,5),(4,12,5),(5,15,6),(6,16,7),(7,17,8)]) (σ1:=_) (SM:=⟨_,[(0,_),(2,_),(3,_),(5,_),(6,_),(36,_),(37,_),(38,_),(39,_),(40,_),(41,_),(42,_),(44,_),(45,_),(46,_),(47,_),(49,_)],[(2,_),(3,_),(20001,_),(20002,_),(888888,_)]⟩)
   case hm=>kernel_rfl
   case hB=>kernel_rfl
   case hP=>kernel_rfl
   case hL=>kernel_rfl
   case hN=>rfl
   case hpre=>
    apply Aw (P:=Tryz.prog) 0 rfl ((by exact Av rfl (.no rfl) rfl (.tm rfl) Dr)) (by exact .pp) rfl rfl rfl;apply Aw (P:=Tryz.prog) 1 rfl ((by exact Ax rfl (.no rfl) rfl (.tm rfl) rfl ty35 rfl rfl)) (by exact HasV.load (x:=.tmp 36) (.tm rfl) rfl ty35 rfl rfl) rfl rfl rfl;apply Aw (P:=Tryz.prog) 2 rfl (Az rfl (.no rfl) rfl (.tm rfl)) (by exact HasV.slot (t:=5) rfl) rfl rfl rfl;apply Aw (P:=Tryz.prog) 3 rfl (Az rfl (.no rfl) rfl (.tm rfl)) (by exact HasV.slot (t:=0) rfl) rfl rfl rfl;apply Aw (P:=Tryz.prog) 4 rfl ((by exact Av rfl (.no rfl) rfl (.tm rfl) Cv)) (by exact .pp) rfl rfl rfl;apply Aw (P:=Tryz.prog) 5 rfl ((by exact Ax rfl (.no rfl) rfl (.tm rfl) rfl Ca rfl rfl)) (by exact HasV.load (x:=.tmp 40) (.tm rfl) rfl Ca rfl rfl) rfl rfl rfl;apply Aw (P:=Tryz.prog) 6 rfl ((by exact C4 rfl (.no rfl) rfl (.tm rfl) (by exact .rf rfl) Tryz.underlying34)) (by exact .val rfl) rfl rfl rfl
    apply Aw (P:=Tryz.prog) 8 rfl (Az rfl (.no rfl) rfl (.tm rfl)) (by exact HasV.slot (t:=0) rfl) rfl rfl rfl;apply Aw (P:=Tryz.prog) 9 rfl ((by exact Av rfl (.no rfl) rfl (.tm rfl) Cv)) (by exact .pp) rfl rfl rfl;apply Aw (P:=Tryz.prog) 10 rfl ((by exact Ax rfl (.no rfl) rfl (.tm rfl) rfl Ca rfl rfl)) (by exact HasV.load (x:=.tmp 45) (.tm rfl) rfl Ca rfl rfl) rfl rfl rfl;apply Aw (P:=Tryz.prog) 11 rfl ((by exact C4 rfl (.no rfl) rfl (.tm rfl) (by exact .rf rfl) Tryz.underlying34)) (by exact .val rfl) rfl rfl rfl;apply Aw (P:=Tryz.prog) 13 rfl (Az rfl (.no rfl) rfl (.tm rfl)) (by exact HasV.slot (t:=0) rfl) rfl rfl rfl;exact PreOk.nil
   case hS=>exact Bk
   case hH=>
    refine LocsH.fq Dr ?_;refine LocsH.lq ty35 ?_;refine LocsH.mv ?_;refine LocsH.mv ?_;refine LocsH.fq Cv ?_;refine LocsH.lq Ca ?_
    refine⟨⟨_,_,_,rfl,rfl,rfl,fun σ' hs=>(by exact C4 rfl (.no rfl) (Af hs rfl) (.tm (hs.slots _ _ rfl)) (by exact .rf (hs.res _ _ rfl)) Tryz.underlying34)⟩,?_⟩
    refine LocsH.mv ?_;refine LocsH.fq Cv ?_;refine LocsH.lq Ca ?_
    refine⟨⟨_,_,_,rfl,rfl,rfl,fun σ' hs=>(by exact C4 rfl (.no rfl) (Af hs rfl) (.tm (hs.slots _ _ rfl)) (by exact .rf (hs.res _ _ rfl)) Tryz.underlying34)⟩,?_⟩
    refine LocsH.mv ?_
    trivial
   apply Dh.drw0 (i:=7)
   case ha=>rfl
   case ho=>rfl
   case hE=>
    intro  hp
    obtain _:=hp
    exact A9 4300 (specl1Below _) rfl rfl rfl (.tm rfl) rfl rfl (.cons (.tm rfl) rfl .nil) (fun _=>rfl) (fun _=>rfl)
   case hb=>rfl
   case hL=>
    intro  z43 hp hy;exact C2 (As [0,2,3,5,6,36,37,38,39,40,41,42,43,44,45,46,47,49] [2,3,20001,20002,888888]) U
   case hS=>intros;exact Bk
   apply Dh.new0 (i:=14);rfl;rfl;rfl
   · intro w9 _;refine Bh (Ch (xs:=[.const (.int .i64 (0)),.const (.int .i64 (0)),.const (.int .i64 (1)),.const (.int .i64 (2))]) 50 U U U (.cons (.const U) U U (.cons (.const U) U U (.cons (.const U) U U (.cons (.const U) U U .nil)))) Tryz.underlying34 in3 U U U U) U ?_;exact Bg [0,2,3,5,6,36,37,38,39,40,41,42,44,45,46,47,49,50] [2,3,20001,20002,888888,50]
   intros;exact Bk
   apply Dh.drw1 (i:=12)
   case ha=>rfl
   case ho=>rfl
   case hE=>
    intro z43 hp
    obtain⟨_,hz43⟩:=hp
    exact A9 4800 (specl1Below _) rfl rfl rfl (.tm rfl) rfl rfl (.cons (.tm rfl) rfl .nil) (fun _=>rfl) (fun _=>rfl)
   case hb=>rfl
   case hL=>
    intro z43 z48 hp hy;exact C2 (As [0,2,3,5,6,36,37,38,39,40,41,42,43,44,45,46,47,48,49] [2,3,20001,20002,888888]) U
   case hS=>intros;exact Bk
   apply Dh.new1 (i:=14);rfl;rfl;rfl
   · intro w9 z43 hp
     obtain⟨_,hz43⟩:=hp
     refine Bh (Ch (xs:=[.const (.int .i64 (0)),.const (.int .i64 (0)),.const (.int .i64 (1)),.const (.int .i64 (2))]) 50 U U U (.cons (.const U) U U (.cons (.const U) U U (.cons (.const U) U U (.cons (.const U) U U .nil)))) Tryz.underlying34 in3 U U U U) U ?_;exact Bg [0,2,3,5,6,36,37,38,39,40,41,42,43,44,45,46,47,49,50] [2,3,20001,20002,888888,50]
   intros;exact Bk
   apply Dh.odr0 (i:=7)
   case ha=>rfl
   case ho=>rfl
   case hE=>
    intro  hp
    obtain _:=hp
    exact A9 4300 (specl1Below _) rfl rfl rfl (.tm rfl) rfl rfl (.cons (.tm rfl) rfl .nil) (fun _=>rfl) (fun _=>rfl)
   case hb=>rfl
   case hL=>
    intro  z43 hp hy;exact Bm
   apply Dh.new2 (i:=14);rfl;rfl;rfl
   · intro w9 z43 z48 hp
     obtain⟨⟨_,hz43⟩,hz48⟩:=hp
     refine Bh (Ch (xs:=[.const (.int .i64 (0)),.const (.int .i64 (0)),.const (.int .i64 (1)),.const (.int .i64 (2))]) 50 U U U (.cons (.const U) U U (.cons (.const U) U U (.cons (.const U) U U (.cons (.const U) U U .nil)))) Tryz.underlying34 in3 U U U U) U ?_;exact Bg [0,2,3,5,6,36,37,38,39,40,41,42,43,44,45,46,47,48,49,50] [2,3,20001,20002,888888,50]
   intros;exact Bk
   apply Dh.odr1 (i:=12)
   case ha=>rfl
   case ho=>rfl
   case hE=>
    intro z43 hp
    obtain⟨_,hz43⟩:=hp
    exact A9 4800 (specl1Below _) rfl rfl rfl (.tm rfl) rfl rfl (.cons (.tm rfl) rfl .nil) (fun _=>rfl) (fun _=>rfl)
   case hb=>rfl
   case hL=>
    intro z43 z48 hp hy;exact Bm
   apply Dh.drw2 (i:=15)
   case ha=>rfl
   case ho=>rfl
   case hE=>
    intro z43 z48 hp
    obtain⟨⟨_,hz43⟩,hz48⟩:=hp
    exact A9 5100 (specl1PickInt [0,0,1,2] (by decide)) rfl rfl rfl (.tm rfl) rfl rfl (.cons (.tm rfl) rfl .nil) (fun _=>rfl) (fun _=>rfl)
   case hb=>rfl
   case hL=>
    intro z43 z48 z51 hp hy;exact C2 (As [0,2,3,5,6,36,37,38,39,40,41,42,43,44,45,46,47,48,49,51] [2,3,20001,20002,888888,50]) U
   case hS=>intros;exact Bk
   apply Dh.new3 (i:=16);rfl;rfl;rfl
   · intro w9 z43 z48 z51 hp
     obtain⟨⟨⟨_,hz43⟩,hz48⟩,hz51⟩:=hp
     refine Ag (Bd (ps:=[(0,.tmp 38),(1,.tmp 43),(2,.tmp 48),(3,.tmp 51)]) U U U in101 U U st101 (.cons (.tm U) U U fp101_0 (.cons (.tm U) U U fp101_1 (.cons (.tm U) U U fp101_2 (.cons (.tm U) U U fp101_3 .nil)))) U) U ?_;exact Bg [0,2,3,5,6,36,37,38,39,40,41,42,44,45,46,47,49,52] [2,3,20001,20002,888888,50]
   intros;exact Bk
   apply Dh.new3 (i:=17);rfl;rfl;rfl
   · intro w9 z43 z48 z51 hp
     obtain⟨⟨⟨_,hz43⟩,hz48⟩,hz51⟩:=hp
     refine Bh (Ch (xs:=[.tmp 52]) 53 U U U (.cons (.tm U) U U .nil) Tryz.underlying35 in101 U U U U) U ?_;exact Bg [0,2,3,5,6,36,37,38,39,40,41,42,44,45,46,47,49,53] [2,3,20001,20002,888888,50,53]
   intros;exact Bk
   refine Dh.fin3 (k:=8) rfl ?_;intro z43 z48 z51 hp
   obtain⟨⟨⟨_,hz43⟩,hz48⟩,hz51⟩:=hp
   refine Bu (B7 U U U (.tm U) U (.tm U) (by exact .rf U) (by rfl) Tryz.underlying35 in101 U (by (simp [chunk];omega)) (by (unfold maxLen;simp [chunk];omega))) U ?_;refine Bt (As [0,2,3,5,6,54] [2,3,20001,20002,888888,50,53]) ?_;refine B6 Dr ?_;refine A4 ty35 ?_;refine Aa (Ad (Ab ?_));refine C6 ?_;refine Ah ?_;refine Aa ?_
   repeat (with_reducible refine Au ?_)
   refine Round3.next (n2-1) (id+1+z34) (es++[⟨id+1+z34,z43,z48,z51⟩]) ⟨by (try simp at h28);(try simp at hz51);exact⟨by simp;omega,esOk_more hk2.2 (by omega) (by simp only;omega) (by simp only;omega) (by simp only;omega) (by simp only;omega) (by simp only;omega)⟩,Y⟩ (by (try simp at h28);omega) (Ar rfl ⟨rfl,rfl,rfl,rfl,rfl,Y⟩ ⟨(by rfl),(by rfl),(by rfl),(by (refine congrArg (fun r=>some (R.row _ r)) ?_;simp [chunk,List.map_set,cInt,cBool,cIntS,cPair,cToken,cExpr,cEdge,cGraph,cStep,cWalk,cChange,cBatch,cHistory,cPositions,cAutomaton,cProductStep,cPathAtom,cConjunction,cView,cDelta,cRegistered,cRegistry])),(by rfl),Y⟩)
 try simp at h28
 refine Ba (Ae (Bp Bz ?_));refine A4 Bz ?_;refine Aa (Al ?_);apply DRes.mk (x:=⟨vs,es⟩) rfl
 case h=>
  refine Res.one U (.cell U U Bz U U .nil) U ?_
  rfl
 case hp=>exact validG_of hk.2.2 (by (try simp at h12);omega) (by omega) (fun e he=>(hk2.2.1 e he).1) hk2.2.2
end Go.Proofs.YtdhojcaoljhbiaaGreatDoor
