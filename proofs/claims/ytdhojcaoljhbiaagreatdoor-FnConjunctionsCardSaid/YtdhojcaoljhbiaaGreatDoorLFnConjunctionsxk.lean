import Derived.Test.YtdhojcaoljhbiaaGreatDoorRows
import Derived.Test.YtdhojcaoljhbiaaGreatDoorTie
import Derived.Test.YtdhojcaoljhbiaaGreatDoorCards
import Derived.Test.YtdhojcaoljhbiaaGreatDoorB08xk
import Derived.Test.YtdhojcaoljhbiaaGreatDoorB184xk
import Derived.WalkKit
import Derived.Handy
import Derived.Lay
import Derived.SevenTiedAt
import Derived.MakeChecks
import Derived.Stop.LaidErr
set_option linter.unusedVariables false
set_option linter.unusedSimpArgs false
set_option maxRecDepth 100000
namespace Go.Proofs.YtdhojcaoljhbiaaGreatDoor
open Go.RowKit Go.Q Go.D Go.ChangeShapes Go.WideShapes Go.ChangeAt Go.Deep
open Go.ChangeMaps (open_string shut_string)
set_option maxHeartbeats 1000000 in
theorem lawFnConjunctions (bs:List Int) (hb:∀ n∈bs,0≤n∧n<256):FnT Tryz.prog 4 [.one (.sl 1 (byR bs))] (.a (.one (.v (.bool true)))):=by
 refine Ay Tryz.func4 U (by kernel_rfl) Tryz.ntmps4 U fun hlen w0=>?_
 try simp [cPair,cToken,cExpr,cEdge,cGraph,cStep,cWalk,cChange,cBatch,cHistory,cPositions,cAutomaton,cProductStep,cPathAtom,cConjunction,cView,cDelta,cRegistered,cRegistry] at hlen
 clear hlen;refine Ae (Ak ?_);refine Aa (Ac (Ae (Ab ?_)));refine Bl (lawsbig bs) ?_;refine Aa (Ai (.tm U) (fun h16=>?_) (fun h16=>?_))
 · try simp at h16
   refine Ae (Ak ?_);refine Aa (Al (Bb U U ?_))
   rfl
 try simp at h16
 refine Aj (Ae (Ab ?_));refine Bf (R_calleX (specDrawHoldsBinding bs hb) U U U (.cons (.tm U) U .nil)) ?_
 rintro _ ⟨z19,hz19,rfl⟩
 try dsimp only at hz19
 refine Ag (Db U (.no U) U U fun _=>rfl) U ?_;refine Ag (Bn U (.no U) U U (fun _=>rfl) U) U ?_;refine Ag (Bn U (.no U) U U (fun _=>rfl) U) U ?_;refine Ag (Bn U (.no U) U U (fun _=>rfl) U) U ?_;refine A6 (Bo 3 U U U in37 U U U) U ?_;refine A6 (Bo 4 U U U in40 U U U) U ?_;refine A4 Bz ?_;refine A4 Cc ?_;refine Ah ?_;refine Aa (Ae (Ag ((by first|exact Bw U (.no U) U (.tm U) Bz U U|exact Ax U (.no U) U (.tm U) U Bz U U|exact Co U (.no U) U (.tm U) Bz U U|exact Bx U (.no U) U (.tm U) U (Ao hr) Bz U U)) U ?_));refine Ag ((by first|exact Bw U (.no U) U (.tm U) Cc U U|exact Ax U (.no U) U (.tm U) U Cc U U|exact Co U (.no U) U (.tm U) Cc U U|exact Bx U (.no U) U (.tm U) U (Ao hr) Cc U U)) U ?_;refine Ab ?_;refine Ag (A3 (FnT.fr (implHoldsBinding z19.1 z19.2.1 z19.2.2 (by omega))) U (.no U) U (.cons (.tm U) U (.cons (.tm U) U (.cons (.tm U) U .nil)))) U ?_;refine Ah ?_
 refine Aa (Ae (Ag ((by first|exact Bw U (.no U) U (.tm U) Bz U U|exact Ax U (.no U) U (.tm U) U Bz U U|exact Co U (.no U) U (.tm U) Bz U U|exact Bx U (.no U) U (.tm U) U (Ao hr) Bz U U)) U ?_));refine Ag ((by first|exact Bw U (.no U) U (.tm U) Cc U U|exact Ax U (.no U) U (.tm U) U Cc U U|exact Co U (.no U) U (.tm U) Cc U U|exact Bx U (.no U) U (.tm U) U (Ao hr) Cc U U)) U ?_;refine Ag (A3 (FnT.fr (implEvaluateConjunction z19.1 z19.2.1 (by omega))) U (.no U) U (.cons (.tm U) U (.cons (.tm U) U .nil))) U ?_;refine Ah ?_;refine Aa (Ac (Ae (Ab ?_)));refine Ag ((by first|exact Bw U (.no U) U (.tm U) Bz U U|exact Ax U (.no U) U (.tm U) U Bz U U|exact Co U (.no U) U (.tm U) Bz U U|exact Bx U (.no U) U (.tm U) U (Ao hr) Bz U U)) U ?_
 refine Ag ((by first|exact Bw U (.no U) U (.tm U) Cc U U|exact Ax U (.no U) U (.tm U) U Cc U U|exact Co U (.no U) U (.tm U) Cc U U|exact Bx U (.no U) U (.tm U) U (Ao hr) Cc U U)) U ?_;refine Ab ?_;refine Ag (A3 (FnT.fr (specHoldsBinding z19.1 z19.2.1 z19.2.2 (by omega))) U (.no U) U (.cons (.tm U) U (.cons (.tm U) U (.cons (.tm U) U .nil)))) U ?_;refine Ag (R_neb U (.no U) U (.tm U) (.tm U) Tryz.underlying4) U ?_;refine Ab ?_;refine Ag (Az U (by first|exact .not1 U U U U|exact .not U U U U) U (.tmp U (by first|exact fun _=>rfl|exact id|simp))) U ?_
 refine Ag ((by first|exact Bw U (by first|exact .not1 U U U U|exact .not U U U U) U (.tmp U (by first|exact fun _=>rfl|exact id|simp)) Bz U U|exact Ax U (by first|exact .not1 U U U U|exact .not U U U U) U (.tmp U (by first|exact fun _=>rfl|exact id|simp)) U Bz U U|exact Co U (by first|exact .not1 U U U U|exact .not U U U U) U (.tmp U (by first|exact fun _=>rfl|exact id|simp)) Bz U U|exact Bx U (by first|exact .not1 U U U U|exact .not U U U U) U (.tmp U (by first|exact fun _=>rfl|exact id|simp)) U (Ao hr) Bz U U)) U ?_
 refine Ag ((by first|exact Bw U (by first|exact .not1 U U U U|exact .not U U U U) U (.tmp U (by first|exact fun _=>rfl|exact id|simp)) Cc U U|exact Ax U (by first|exact .not1 U U U U|exact .not U U U U) U (.tmp U (by first|exact fun _=>rfl|exact id|simp)) U Cc U U|exact Co U (by first|exact .not1 U U U U|exact .not U U U U) U (.tmp U (by first|exact fun _=>rfl|exact id|simp)) Cc U U|exact Bx U (by first|exact .not1 U U U U|exact .not U U U U) U (.tmp U (by first|exact fun _=>rfl|exact id|simp)) U (Ao hr) Cc U U)) U ?_;refine Ag (Dw U (by first|exact .not1 U U U U|exact .not U U U U) U (.cons (.tmp U (by first|exact fun _=>rfl|exact id|simp)) U (.cons (.tmp U (by first|exact fun _=>rfl|exact id|simp)) U .nil)) fun hq=>FnT.fr (specEvaluateConjunction z19.1 z19.2.1 (by omega))) U ?_
 refine Ag (Dw U (by first|exact .not1 U U U U|exact .not U U U U) U (.cons (.tmp U (by first|exact fun _=>rfl|exact id|simp)) U (.cons (.tmp U (by first|exact fun _=>rfl|exact id|simp)) U .nil)) fun hq=>FnT.fr (lawssameRows (evalC z19.1 z19.2.1) (evalC z19.1 z19.2.1))) U ?_;refine Ag (Cy U (by first|exact .not1 U U U U|exact .not U U U U) U (.tmp U (by first|exact fun _=>rfl|exact id|simp))) U ?_;refine Ag (R_or U (.no U) U (.tm U) (.tmp U (by first|exact fun _=>rfl|exact id|simp))) U ?_;refine Aa (Ai (.tm U) (fun h43=>?_) (fun h43=>?_))
 · exact absurd h43 (by simp)
 try simp at h43
 refine Aj (Ae (Ak ?_));refine Aa (Ac (Ae (Ak ?_)));refine Aa (AW.block ?_);refine Dz (fun (i:Nat) (f:Bool)=>(i≤(evalC z19.1 z19.2.1).length)∧f=decide (z19.2.2∈(evalC z19.1 z19.2.1).take i)) (fun (i:Nat) (f:Bool)=>⟨_,[(9,(true,.a (.one (.t (.v (.int .i64 (i:Nat))))))),(8,(true,.a (.one (.t (.v (.bool f)))))),(0,_),(3,_),(4,_),(5,_),(6,_),(7,_)],[(3,.box [.t (.sl 1 (z19.1.Values.map cInt)),.t (.sl 4 (z19.1.Edges.map cEdge))]),(4,.box [.t (.v (.int .i64 z19.2.1.VariableCount)),.t (.sl 3 (z19.2.1.Atoms.map cPathAtom))])]⟩) (fun (i:Nat) (f:Bool)=>(evalC z19.1 z19.2.1).length-i) (0) (false) ⟨Nat.zero_le _,by simp⟩ Bm ?_
 rintro i f ⟨hk,he⟩
 refine Ac (Ae (Ab ?_));refine Ab ?_;refine Ag ((by first|exact C4 U (.no U) U (.tm U) (by first|exact .t|exact .rf U|exact .vw|exact .nil) Tryz.underlying44|exact R_len U (.no U) U (.tm U) (by first|exact .t|exact .rf U|exact .vw|exact .nil) Tryz.underlying44)) U ?_;refine AWl.lt ?_;refine Aa (Ai (.tm U) (fun h47=>?_) (fun h47=>?_))
 · try simp at h47
   obtain⟨r,hr⟩:∃ ξ,(evalC z19.1 z19.2.1)[i]?=some ξ:=⟨_,List.getElem?_eq_getElem (by first|omega|(simp at h47;omega))⟩
   have hsz:=(evalC_sz z19.1 z19.2.1).1
   have hrh:=evalC_holds.1 (List.mem_of_getElem? hr)
   refine Aj (Ac (AW.block (Ae (Ab ?_))));refine Ab ?_;refine Ag (Az U (by first|exact .not1 U U U U|exact .not U U U U) U (.tmp U (by first|exact fun _=>rfl|exact id|simp))) U ?_;refine Ag (Az U (by first|exact .not1 U U U U|exact .not U U U U) U (.tmp U (by first|exact fun _=>rfl|exact id|simp))) U ?_
   refine Ag ((by first|exact An U (by first|exact .not1 U U U U|exact .not U U U U) U (.tmp U (by first|exact fun _=>rfl|exact id|simp)) (.tmp U (by first|exact fun _=>rfl|exact id|simp)) Tryz.underlying44 Ca (fun hq=>by (try simp at hq);exact⟨by omega,(Ao hr)⟩)|exact Dt U (by first|exact .not1 U U U U|exact .not U U U U) U (.tmp U (by first|exact fun _=>rfl|exact id|simp)) (.tmp U (by first|exact fun _=>rfl|exact id|simp)) Tryz.underlying44 Ca (fun hq=>by (try simp at hq);exact⟨by omega,(Ao hr)⟩)|exact Be U (by first|exact .not1 U U U U|exact .not U U U U) U (.tmp U (by first|exact fun _=>rfl|exact id|simp)) U (.tmp U (by first|exact fun _=>rfl|exact id|simp)) Tryz.underlying44 Ca (fun hq=>by (try simp at hq);exact⟨by omega,(Ao hr)⟩))) U ?_
   refine Ag ((by first|exact Bw U (by first|exact .not1 U U U U|exact .not U U U U) U (.tmp U (by first|exact fun _=>rfl|exact id|simp)) Ca U U|exact Ax U (by first|exact .not1 U U U U|exact .not U U U U) U (.tmp U (by first|exact fun _=>rfl|exact id|simp)) U Ca U U|exact Co U (by first|exact .not1 U U U U|exact .not U U U U) U (.tmp U (by first|exact fun _=>rfl|exact id|simp)) Ca U U|exact Bx U (by first|exact .not1 U U U U|exact .not U U U U) U (.tmp U (by first|exact fun _=>rfl|exact id|simp)) U (Ao hr) Ca U U)) U ?_;refine Ag (Az U (by first|exact .not1 U U U U|exact .not U U U U) U (.tmp U (by first|exact fun _=>rfl|exact id|simp))) U ?_;refine Ag (Dw U (by first|exact .not1 U U U U|exact .not U U U U) U (.cons (.tmp U (by first|exact fun _=>rfl|exact id|simp)) U (.cons (.tmp U (by first|exact fun _=>rfl|exact id|simp)) U .nil)) fun hq=>FnT.fr (lawssameIntsQ r z19.2.2)) U ?_
   refine Ag (R_or U (.no U) U (.tm U) (.tmp U (by first|exact fun _=>rfl|exact id|simp))) U ?_;refine Ah ?_;refine Aa (Ac (Bq 12 (nthB [[],[0],[0,1],[0,1,2],[0,1,2],[0,1,2],[0,1,2],[0,1,2,5,6],[0,1,2,5,6,7],[0,1,2,3,4,5,6,7,8],[0,1,2,3,4,5,6,7,8,9],[0,1,2,3,4,5,6,7,8,9,10]]) (by kernel_rfl) (by kernel_rfl) (by kernel_rfl) ?_));refine Ap ?_;refine DrawC.s (fun _ hs=>R_lt U (.no U) (Af hs U) (hs.tm U) (.const U)) ?_;refine Ap ?_
   refine DrawC.s (fun _ hs=>(by first|exact Bw U (by first|exact .yes1 U U (hs.slots _ _ U) (by rw [hs.n];rfl)|exact .yes U U (hs.slots _ _ U) (by rw [hs.n];rfl)) (Af hs U) (.tmp (hs.slots _ _ U) (by first|exact fun _=>rfl|exact id|simp)) Bz U U|exact Ax U (by first|exact .yes1 U U (hs.slots _ _ U) (by rw [hs.n];rfl)|exact .yes U U (hs.slots _ _ U) (by rw [hs.n];rfl)) (Af hs U) (.tmp (hs.slots _ _ U) (by first|exact fun _=>rfl|exact id|simp)) (hs.res _ _ U) Bz U U|exact Co U (by first|exact .yes1 U U (hs.slots _ _ U) (by rw [hs.n];rfl)|exact .yes U U (hs.slots _ _ U) (by rw [hs.n];rfl)) (Af hs U) (.tmp (hs.slots _ _ U) (by first|exact fun _=>rfl|exact id|simp)) Bz U U|exact Bx U (by first|exact .yes1 U U (hs.slots _ _ U) (by rw [hs.n];rfl)|exact .yes U U (hs.slots _ _ U) (by rw [hs.n];rfl)) (Af hs U) (.tmp (hs.slots _ _ U) (by first|exact fun _=>rfl|exact id|simp)) (hs.res _ _ U) (Ao hr) Bz U U)) ?_
   refine DrawC.s (fun _ hs=>(by first|exact Bw U (by first|exact .yes1 U U (hs.slots _ _ U) (by rw [hs.n];rfl)|exact .yes U U (hs.slots _ _ U) (by rw [hs.n];rfl)) (Af hs U) (.tmp (hs.slots _ _ U) (by first|exact fun _=>rfl|exact id|simp)) Cc U U|exact Ax U (by first|exact .yes1 U U (hs.slots _ _ U) (by rw [hs.n];rfl)|exact .yes U U (hs.slots _ _ U) (by rw [hs.n];rfl)) (Af hs U) (.tmp (hs.slots _ _ U) (by first|exact fun _=>rfl|exact id|simp)) (hs.res _ _ U) Cc U U|exact Co U (by first|exact .yes1 U U (hs.slots _ _ U) (by rw [hs.n];rfl)|exact .yes U U (hs.slots _ _ U) (by rw [hs.n];rfl)) (Af hs U) (.tmp (hs.slots _ _ U) (by first|exact fun _=>rfl|exact id|simp)) Cc U U|exact Bx U (by first|exact .yes1 U U (hs.slots _ _ U) (by rw [hs.n];rfl)|exact .yes U U (hs.slots _ _ U) (by rw [hs.n];rfl)) (Af hs U) (.tmp (hs.slots _ _ U) (by first|exact fun _=>rfl|exact id|simp)) (hs.res _ _ U) (Ao hr) Cc U U)) ?_
   refine DrawC.s (fun _ hs=>Az U (by first|exact .yes1 U U (hs.slots _ _ U) (by rw [hs.n];rfl)|exact .yes U U (hs.slots _ _ U) (by rw [hs.n];rfl)) (Af hs U) (.tmp (hs.slots _ _ U) (by first|exact fun _=>rfl|exact id|simp))) ?_;refine DrawC.s (fun _ hs=>Az U (by first|exact .yes1 U U (hs.slots _ _ U) (by rw [hs.n];rfl)|exact .yes U U (hs.slots _ _ U) (by rw [hs.n];rfl)) (Af hs U) (.tmp (hs.slots _ _ U) (by first|exact fun _=>rfl|exact id|simp))) ?_
   refine DrawC.s (fun _ hs=>(by first|exact An U (by first|exact .yes1 U U (hs.slots _ _ U) (by rw [hs.n];rfl)|exact .yes U U (hs.slots _ _ U) (by rw [hs.n];rfl)) (Af hs U) (.tmp (hs.slots _ _ U) (by first|exact fun _=>rfl|exact id|simp)) (.tmp (hs.slots _ _ U) (by first|exact fun _=>rfl|exact id|simp)) Tryz.underlying44 Ca (fun hq=>by (try simp at hq);exact⟨by omega,(Ao hr)⟩)|exact Dt U (by first|exact .yes1 U U (hs.slots _ _ U) (by rw [hs.n];rfl)|exact .yes U U (hs.slots _ _ U) (by rw [hs.n];rfl)) (Af hs U) (.tmp (hs.slots _ _ U) (by first|exact fun _=>rfl|exact id|simp)) (.tmp (hs.slots _ _ U) (by first|exact fun _=>rfl|exact id|simp)) Tryz.underlying44 Ca (fun hq=>by (try simp at hq);exact⟨by omega,(Ao hr)⟩)|exact Be U (by first|exact .yes1 U U (hs.slots _ _ U) (by rw [hs.n];rfl)|exact .yes U U (hs.slots _ _ U) (by rw [hs.n];rfl)) (Af hs U) (.tmp (hs.slots _ _ U) (by first|exact fun _=>rfl|exact id|simp)) (hs.res _ _ U) (.tmp (hs.slots _ _ U) (by first|exact fun _=>rfl|exact id|simp)) Tryz.underlying44 Ca (fun hq=>by (try simp at hq);exact⟨by omega,(Ao hr)⟩))) ?_
   refine DrawC.s (fun _ hs=>(by first|exact Bw U (by first|exact .yes1 U U (hs.slots _ _ U) (by rw [hs.n];rfl)|exact .yes U U (hs.slots _ _ U) (by rw [hs.n];rfl)) (Af hs U) (.tmp (hs.slots _ _ U) (by first|exact fun _=>rfl|exact id|simp)) Ca U U|exact Ax U (by first|exact .yes1 U U (hs.slots _ _ U) (by rw [hs.n];rfl)|exact .yes U U (hs.slots _ _ U) (by rw [hs.n];rfl)) (Af hs U) (.tmp (hs.slots _ _ U) (by first|exact fun _=>rfl|exact id|simp)) (hs.res _ _ U) Ca U U|exact Co U (by first|exact .yes1 U U (hs.slots _ _ U) (by rw [hs.n];rfl)|exact .yes U U (hs.slots _ _ U) (by rw [hs.n];rfl)) (Af hs U) (.tmp (hs.slots _ _ U) (by first|exact fun _=>rfl|exact id|simp)) Ca U U|exact Bx U (by first|exact .yes1 U U (hs.slots _ _ U) (by rw [hs.n];rfl)|exact .yes U U (hs.slots _ _ U) (by rw [hs.n];rfl)) (Af hs U) (.tmp (hs.slots _ _ U) (by first|exact fun _=>rfl|exact id|simp)) (hs.res _ _ U) (Ao hr) Ca U U)) ?_
   refine DrawC.s (fun _ hs=>Dw U (by first|exact .yes1 U U (hs.slots _ _ U) (by rw [hs.n];rfl)|exact .yes U U (hs.slots _ _ U) (by rw [hs.n];rfl)) (Af hs U) (.cons (.tmp (hs.slots _ _ U) (by first|exact fun _=>rfl|exact id|simp)) (readA_sup hs U) (.cons (.tmp (hs.slots _ _ U) (by first|exact fun _=>rfl|exact id|simp)) (readA_sup hs U) (.cons (.tmp (hs.slots _ _ U) (by first|exact fun _=>rfl|exact id|simp)) (readA_sup hs U) .nil))) fun hq=>FnT.fr (implHoldsBinding z19.1 z19.2.1 r (by omega))) ?_;refine DrawC.s (fun _ hs=>Cy U (by first|exact .yes1 U U (hs.slots _ _ U) (by rw [hs.n];rfl)|exact .yes U U (hs.slots _ _ U) (by rw [hs.n];rfl)) (Af hs U) (.tmp (hs.slots _ _ U) (by first|exact fun _=>rfl|exact id|simp))) ?_;refine DrawC.s (fun _ hs=>R_and U (.no U) (Af hs U) (hs.tm U) (.tmp (hs.slots _ _ U) (by first|exact fun _=>rfl|exact id|simp))) ?_;refine Bi U U ?_
   refine Aa (Ai (.tm U) (fun h70=>?_) (fun h70=>?_))
   · exact absurd h70 (by simp [hrh])
   try simp at h70
   refine Aj (Ad (Ab ?_));refine A8 ?_;refine Ah ?_;refine Aa ?_
   repeat (with_reducible refine Au ?_)
   refine Round2.next (i+1) ((or f (decide (r=z19.2.2)))) ⟨by omega,(found_succ he hr)⟩ (by omega) (Ar rfl ⟨rfl,rfl,rfl,rfl,rfl,rfl,rfl,rfl,Y⟩ ⟨(by first|rfl|(refine congrArg (fun r=>some (R.row _ r)) ?_;simp [chunk,List.map_set,cInt,cBool,cIntS,cPair,cToken,cExpr,cEdge,cGraph,cStep,cWalk,cChange,cBatch,cHistory,cPositions,cAutomaton,cProductStep,cPathAtom,cConjunction,cView,cDelta,cRegistered,cRegistry])),(by first|rfl|(refine congrArg (fun r=>some (R.row _ r)) ?_;simp [chunk,List.map_set,cInt,cBool,cIntS,cPair,cToken,cExpr,cEdge,cGraph,cStep,cWalk,cChange,cBatch,cHistory,cPositions,cAutomaton,cProductStep,cPathAtom,cConjunction,cView,cDelta,cRegistered,cRegistry])),Y⟩)
 try simp at h47
 have hf:f=holdsB z19.1 z19.2.1 z19.2.2:=(by have hi:(evalC z19.1 z19.2.1).length≤i:=(by first|omega|(simp at h47;omega));rw [he,List.take_of_length_le hi,Bool.eq_iff_iff,decide_eq_true_iff];exact evalC_holds)
 refine Ba (Ac (Ae (Ag ((by first|exact Bw U (.no U) U (.tm U) Bz U U|exact Ax U (.no U) U (.tm U) U Bz U U|exact Co U (.no U) U (.tm U) Bz U U|exact Bx U (.no U) U (.tm U) U (Ao hr) Bz U U)) U ?_)));refine Bl (specIsValidGraph z19.1) ?_;refine Ab ?_;refine Ag (Az U (by first|exact .yes1 U U U U|exact .yes U U U U) U (.tmp U (by first|exact fun _=>rfl|exact id|simp))) U ?_;refine Ag (Az U (by first|exact .yes1 U U U U|exact .yes U U U U) U (.tmp U (by first|exact fun _=>rfl|exact id|simp))) U ?_;refine Ag (R_neb U (by first|exact .yes1 U U U U|exact .yes U U U U) U (.tmp U (by first|exact fun _=>rfl|exact id|simp)) (.tmp U (by first|exact fun _=>rfl|exact id|simp)) Tryz.underlying4) U ?_;refine Ag (R_and U (.no U) U (.tm U) (.tmp U (by first|exact fun _=>rfl|exact id|simp))) U ?_;refine Aa (Ai (.tm U) (fun h77=>?_) (fun h77=>?_))
 · exact absurd h77 (by simp [hf])
 try simp at h77
 refine Aj (Ae (Ag ((by first|exact Bw U (.no U) U (.tm U) Cc U U|exact Ax U (.no U) U (.tm U) U Cc U U|exact Co U (.no U) U (.tm U) Cc U U|exact Bx U (.no U) U (.tm U) U (Ao hr) Cc U U)) U ?_));refine Bl (implFormatConjunction z19.2.1) ?_;refine Ah ?_;refine Aa (Ae (Ab ?_));refine Ag (A3 (FnT.fr (implParseConjunctionL (fmtConj z19.2.1) (by have:=conj_small z19.2.1;omega))) U (.no U) U (.cons (.tm U) U .nil)) U ?_;refine Ag (Db U (.no U) U U fun _=>rfl) U ?_;refine Ag (Bn U (.no U) U U (fun _=>rfl) U) U ?_;refine Ag (Bn U (.no U) U U (fun _=>rfl) U) U ?_;refine A6 (Bo 11 U U U in40 U U U) U ?_;refine A4 Cc ?_;refine Ah ?_;refine Aa (Ae (Ab ?_));refine Bf (R_calleX (specDrawProjectBindings bs hb) U U U (.cons (.tm U) U .nil)) ?_
 rintro _ ⟨z87,hz87,rfl⟩
 try dsimp only at hz87
 refine Ag (Db U (.no U) U U fun _=>rfl) U ?_;refine Ag (Bn U (.no U) U U (fun _=>rfl) U) U ?_;refine Ag (Bn U (.no U) U U (fun _=>rfl) U) U ?_;refine Ah ?_;refine Ah ?_;refine Aa (Ac (Ae (Ab ?_)));refine Ab ?_;refine Bl (implProjectBindings z87.1 z87.2 hz87.1.1 hz87.1.2 hz87.2) ?_;refine Ab ?_;refine Ab ?_;refine Bl (specProjectBindings z87.1 z87.2 hz87.1.1 hz87.1.2 hz87.2) ?_;refine Bl (lawssameRows (projB z87.1 z87.2) (projB z87.1 z87.2)) ?_;refine C1 ?_;refine Aa (Ai (.tm U) (fun h97=>?_) (fun h97=>?_))
 · exact absurd h97 (by simp)
 try simp at h97
 refine Aj (Ae (Ab ?_));refine Ag ((by first|exact Bw U (.no U) U (.tm U) Cc U U|exact Ax U (.no U) U (.tm U) U Cc U U|exact Co U (.no U) U (.tm U) Cc U U|exact Bx U (.no U) U (.tm U) U (Ao hr) Cc U U)) U ?_;refine Bl (specIsValidConjunction z19.2.1) ?_;refine Ag (R_eqb U (.no U) U (.tm U) (.tm U) Tryz.underlying4) U ?_;refine Ab ?_;refine Ag (Az U (by first|exact .yes1 U U U U|exact .yes U U U U) U (.tmp U (by first|exact fun _=>rfl|exact id|simp))) U ?_;refine Ag (Cy U (by first|exact .yes1 U U U U|exact .yes U U U U) U (.tmp U (by first|exact fun _=>rfl|exact id|simp))) U ?_;refine Ag (Az U (by first|exact .yes1 U U U U|exact .yes U U U U) U (.tmp U (by first|exact fun _=>rfl|exact id|simp))) U ?_
 refine Ag ((by first|exact Bw U (by first|exact .not1 U U U U|exact .not U U U U) U (.tmp U (by first|exact fun _=>rfl|exact id|simp)) Cc U U|exact Ax U (by first|exact .not1 U U U U|exact .not U U U U) U (.tmp U (by first|exact fun _=>rfl|exact id|simp)) U Cc U U|exact Co U (by first|exact .not1 U U U U|exact .not U U U U) U (.tmp U (by first|exact fun _=>rfl|exact id|simp)) Cc U U|exact Bx U (by first|exact .not1 U U U U|exact .not U U U U) U (.tmp U (by first|exact fun _=>rfl|exact id|simp)) U (Ao hr) Cc U U)) U ?_;refine Ag (Dw U (by first|exact .not1 U U U U|exact .not U U U U) U (.cons (.tmp U (by first|exact fun _=>rfl|exact id|simp)) U .nil) fun hq=>FnT.fr (implFormatConjunction (parseC (fmtConj z19.2.1)).1)) U ?_;refine Ag (Az U (by first|exact .not1 U U U U|exact .not U U U U) U (.tmp U (by first|exact fun _=>rfl|exact id|simp))) U ?_
 refine Ag (R_eqstr U (by first|exact .not1 U U U U|exact .not U U U U) U (.tmp U (by first|exact fun _=>rfl|exact id|simp)) (.tmp U (by first|exact fun _=>rfl|exact id|simp))) U ?_;refine Ag (R_or U (by first|exact .yes1 U U U U|exact .yes U U U U) U (.tmp U (by first|exact fun _=>rfl|exact id|simp)) (.tmp U (by first|exact fun _=>rfl|exact id|simp))) U ?_;refine Ag (R_and U (.no U) U (.tm U) (.tmp U (by first|exact fun _=>rfl|exact id|simp))) U ?_;refine Ah ?_;refine Aa (Al (Bb U U ?_))
 have hc:=conj_round z19.2.1;cases h1:(parseC (fmtConj z19.2.1)).2<;>simp_all
namespace LFnConjunctions
theorem opensByte:OpensT cByte Tryz.prog 5:=opensTByte Tryz.underlying5
theorem opensByteS:OpensT (fun (l:List (Fin 256))=>[T.sl 1 (l.map cByte)]) Tryz.prog 22:=opensTSlice (c:=cByte) Tryz.underlying22 (by kernel_rfl) (by decide) (fun _=>rfl) opensByte
theorem ownFnConjunctions:ownKnob Tryz.prog.godebug=none:=by kernel_rfl
theorem laidOutFnConjunctions:laidOutB Tryz.prog=true:=by kernel_rfl
theorem liftedFnConjunctions (os:Os) (started:os.Started) (H:Type) (enc:TypeId×Value→H) :
 ReturnsInHanded {} Tryz.checked os 4 .any (fun w args=>(Rows.fnConjunctionsSpec.pre enc Tryz.prog Tryz.f4 Rows.fnConjunctionsRow.domain false w args∧laidMetH Tryz.prog Rows.fnConjunctionsRow.laid w)∧sizedMet enc Tryz.prog Tryz.f4 (OpenSpec.ofChange Rows.fnConjunctionsSpec) false w args) (Rows.fnConjunctionsSpec.post enc Tryz.prog Tryz.f4 false true false false):=by
 refine frame_laid (C:=Tryz.checked) (X:=fun w=>laidMetH Tryz.prog Rows.fnConjunctionsRow.laid w) (fun _ _ hh h=>h.of_heap hh) ownFnConjunctions started (by kernel_rfl) Tryz.func4
  (ChangeSpec.witness_shaped (enc:=enc) (C:=Tryz.checked) (os:=os) (X:=fun w _=>laidMetH Tryz.prog Rows.fnConjunctionsRow.laid w) false (World.laidAll Tryz.prog os Rows.fnConjunctionsRow.laid) #[.slice none 0 0] 8 (World.laidAll_os _ _ _)
   (World.shaped_of_ZipB (by kernel_rfl) (by kernel_rfl)) (by kernel_rfl) (by kernel_rfl) (by kernel_rfl)
   (by rw [MakeChecks.laidMetH_plain _ _ _ (by kernel_rfl)];exact laidMet_laidAll _ (by kernel_rfl) (by kernel_rfl))) ?_
 intro W base args ds gs before hval0 hW hX hsh
 rw [MakeChecks.laidMetH_plain _ _ _ (by kernel_rfl)] at hX
 have hes:∃ tp p,W.var? Tryz.prog "strconv.ErrSyntax"=some #[.iface tp p]:=by
  obtain⟨a0,s0,hv0,_⟩:=laid_sentinel (g:=((Tryz.prog).globalNamed "strconv.ErrSyntax").getD 0) (laid_one "strconv.ErrSyntax" (x:=("strconv.ErrSyntax",Rows.laid_strconv_ErrSyntax)) hX (by kernel_rfl)) (by kernel_rfl) (by kernel_rfl) Tryz.underlying150
   (fun u h=>typeName_ptr_named (nm:= "errors.errorString") (tp:=283) (by rw [show "*"++ "errors.errorString"= "*errors.errorString" by decide];kernel_rfl) (by kernel_rfl) (by decide) u (by rw [show "*"++ "errors.errorString"= "*errors.errorString" by decide];exact h)) Tryz.underlying283 Tryz.underlying285 rfl rfl Tryz.underlying9 (by kernel_rfl) (by kernel_rfl)
  exact⟨_,_,hv0⟩
 have hgood:Go.Q.Good W []:=Go.Q.good_of ⟨hsh,Lib.tabIs_of_head (g:=((Tryz.prog).globalNamed "internal/strconv.uint64pow10").getD 0) (t:=(((Tryz.prog).globals[((Tryz.prog).globalNamed "internal/strconv.uint64pow10").getD 0]?).map (·.type)).getD 0) (e:=197) (n:=20) (by kernel_rfl) (by kernel_rfl) (by kernel_rfl) (by kernel_rfl) (by kernel_rfl) (by kernel_rfl) (laid_one "internal/strconv.uint64pow10" (x:=("internal/strconv.uint64pow10",Lib.tabData .u64 Lib.pow10Tab)) hX (by kernel_rfl)),hes⟩
 have hval:∀ (j:Nat) t v,Tryz.f4.params[j]?=some t→args[j]?=some v→Value.okWide Tryz.prog W .any base t v:=hval0
 have hW':=hW
 obtain⟨p,q,hA0,hV,rfl,hfz,hnd⟩:=hW
 have hA:DataW.TrodAll enc Tryz.prog W 0 (fun _=>true) true Tryz.f4.params.toList args.toList ds p:=hA0
 rw [Tryz.params4] at hA hval
 obtain⟨v0,vs0,d0,ds0,p0,q0,hargs,rfl,rfl,h0,r0⟩:=trodAll_cons hA
 obtain⟨rfl,rfl,rfl⟩:=trodAll_nil r0
 obtain rfl:args=#[v0]:=by cases args;simp_all
 obtain⟨rfl,rfl⟩:=trodVars_none hV
 obtain⟨a0,len0,cap0,rfl⟩:=okWide_slice Tryz.underlying22 (hval 0 22 v0 rfl rfl)
 have k0:=h0
 have lt0:∀ x∈p0,x.block<W.heap.size:=by obtain⟨m,hm⟩:=k0;exact DataW.trod_lt m _ _ _ hm
 obtain⟨x0,F0,hs0⟩:=OpensT.vl opensByteS h0
 clear hA0 hval0;refine ((lawFnConjunctions _ (fin_range x0)).2 W _ _ hgood ⟨_,_,_,_,rfl,(show V0r false W (.one _) _ _ from C_fin (Cs_one_inv hs0)),⟨rfl,rfl⟩,rfl⟩).mono fun e W' ⟨v,F,he,hv,_,_,bel⟩=>?_
 have hv2:v=.bool true:=by unfold Vr V0r C at hv;exact hv.1
 subst hv2;subst he
 exact⟨_,rfl,_,_,_,[],_,[],hW',trodAll_mk1 (shut_bool Tryz.underlying4 _),(trodAll_cons_mk (Below.trod laidOutFnConjunctions (by kernel_rfl) (of_decide_eq_true (by kernel_rfl)) k0 bel lt0) trodAll_mk0),rfl,Below.frame bel _,fun h=>by cases h⟩
theorem jfa:(Rows.fnConjunctionsRow.inPlace == Tryz.prog.inPlace 4)=true:=by kernel_rfl
theorem jfb:(Rows.fnConjunctionsRow.unfollowed == Tryz.prog.unfollowed 4)=true:=by kernel_rfl
theorem jfc:(Rows.fnConjunctionsRow.recurses == Tryz.prog.recurses 4)=true:=by kernel_rfl
theorem jfd:(Rows.fnConjunctionsRow.named == Tryz.prog.varsNamed 4)=true:=by kernel_rfl
theorem jfe:mapsRowed Tryz.prog=true:=by kernel_rfl
theorem jff:joinedFacts Tryz.prog 4 Tryz.f4 Rows.fnConjunctionsSpec Rows.fnConjunctionsRow=true:=by
 unfold joinedFacts
 rw [laidOutFnConjunctions,jfa,jfb,jfc,jfd,jfe]
 kernel_rfl
theorem provedFnConjunctions:Rows.FnConjunctionsSaid:=
 OpenClaim.holds_of_wide 4 Tryz.f4 rfl rfl rfl rfl rfl rfl rfl ⟨rfl,rfl,rfl,rfl,rfl⟩ rfl rfl rfl rfl rfl (by kernel_rfl) Tryz.func4 jff
  (of_decide_eq_true (by kernel_rfl)) (by unfold Func.isWrapper;first|(rw [if_pos (by decide +kernel)];kernel_rfl)|(rw [if_neg (by decide +kernel)];exact⟨rfl,rfl⟩))
  (fun os started H enc _=>liftedFnConjunctions os started H enc)
theorem cardFnConjunctions:Rows.FnConjunctionsCardSaid:=
 Claim7.holds_tied_plain_at .later [] [.data,.data,.data,.data,.sentinel,.sentinel,.pinned] true (true,"4b893531fc6f468b3df9ea1337f67a412cc80c76606fb2324e9bf69a106f3e29") true provedFnConjunctions (fun _ h=>by cases h) (by kernel_rfl) (fun _ h=>by cases h) fnConjunctions_row_tie rfl ⟨rfl,rfl⟩ (by kernel_rfl) rfl
  (fun f fn hf hfn=>by
   obtain rfl:f=4:=Option.some.inj ((show Tryz.prog.funcNamed "loop.example/g01922/laws.FnConjunctions"=some 4 by kernel_rfl).symm.trans hf) |>.symm
   obtain rfl:fn=Tryz.f4:=(Option.some.inj (Tryz.func4.symm.trans hfn)).symm
   exact⟨by kernel_rfl,fun j t ht=>by
    rw [Tryz.params4] at ht
    have hm:t∈[22]:=by simpa using Array.mem_of_getElem? ht
    have hall:([22].all fun u=>!Tryz.prog.wantsStandIn u)=true:=by kernel_rfl
    exact (show Tryz.prog.wantsStandIn t=false by simpa using List.all_eq_true.1 hall t hm)⟩)
  (by kernel_rfl)
#print axioms cardFnConjunctions
#print axioms provedFnConjunctions
end LFnConjunctions
end Go.Proofs.YtdhojcaoljhbiaaGreatDoor
