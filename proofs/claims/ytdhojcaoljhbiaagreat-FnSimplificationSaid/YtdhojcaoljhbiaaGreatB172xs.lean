import Derived.Test.YtdhojcaoljhbiaaGreatB162xs
import Derived.Test.YtdhojcaoljhbiaaGreatB163xs
import Derived.Test.YtdhojcaoljhbiaaGreatB05xs
set_option linter.unusedVariables false
set_option linter.unusedSimpArgs false
set_option maxRecDepth 100000
set_option maxHeartbeats 1000000
set_option maxRecDepth 100000
namespace Go.Q
open Go.RowKit Go.D
theorem gB_get {l:List Bool} {i:Nat} (h:i<l.length):l[i]?=some (gB l i):=by unfold gB;rw [List.getElem?_eq_getElem h];rfl
theorem gI_get {l:List Int} {i:Nat} (h:i<l.length):l[i]?=some (gI l i):=by unfold gI;rw [List.getElem?_eq_getElem h];rfl
theorem acA_get {a:TAutomaton} {i:Nat} (h:i<a.Accept.length):a.Accept[i]?=some (acA a i):=by unfold acA;rw [List.getElem?_eq_getElem h];rfl
theorem ShA.ent {a:TAutomaton} (h:ShA a) {s k:Nat} (hs:s<a.Accept.length) (hk:k<9):∃ r,a.Next[s]?=some r∧r[k]?=some (nxA a s k):=by
 have hl:s<a.Next.length:=by rw [h.nl];exact hs
 refine⟨a.Next[s],List.getElem?_eq_getElem hl,?_⟩
 have h9:=h.rl _ (List.getElem_mem hl)
 unfold nxA
 rw [List.getElem?_eq_getElem hl,Option.getD_some,List.getElem?_eq_getElem (by omega)];rfl
theorem keyA_k (a:TAutomaton) (c:List Int) (s k:Nat):gI c s::(List.range (k+1)).map (entA a c s)=(gI c s::(List.range k).map (entA a c s))++[entA a c s k]:=by
 rw [List.range_succ,List.map_append];rfl
end Go.Q
namespace Go.Proofs.YtdhojcaoljhbiaaGreat
open Go.RowKit Go.Q Go.D
theorem specl11LiveE (a:TAutomaton) (hA:ShA a) (hN:a.Accept.length≤1000):FnE Tryz.prog 99 [.agg (cAutomaton a)] (LiveOf a) (fun l=>.a (.one (.sl 1 (l.map cBool)))):=by
 refine FnE.walk Tryz.func99 rfl (by kernel_rfl) Tryz.ntmps99 rfl fun w0=>?_
 refine Af (Ac (Bo U U U (.tm U) (ts:=_) (by rfl)) U ?_);refine AWl.ac ?_;refine AWl.nilS (i:=2) 20001 1 U U ?_;refine Aa (Af (Aq (Dj 7 U U U Tryz.underlying33 ty4 U) U ?_));refine A8 Ct ?_;refine Ak ty33 ?_;refine Bg (By U U U (.tm U) U (.tm U) (by exact .t) (by exact isV_map (fun _=>rfl) _) Tryz.underlying33 in4 U (by (simp [chunk];omega)) (by (unfold maxLen;simp [chunk];omega))) U ?_;refine Bm (Ap [0,1,2,10] [20001,7]) ?_;refine Ag ?_;refine Aa (Ae (Af (AWl.ac ?_)));refine Aa (AW.block (C6 (fun (n:Nat) (O:List Bool)=>(n≤a.Accept.length∧LvR a n O)∧True) (fun (n:Nat) (O:List Bool)=>⟨_,[(4,(true,.a (.one (.t (.v (.int .i64 (n:Nat))))))),(3,(true,.a (.one (.rf 7)))),(1,_),(2,_)],[(7,.row 1 (O.map cBool))]⟩) (fun (n:Nat) (O:List Bool)=>a.Accept.length-n) (0) (a.Accept) ⟨⟨Nat.zero_le _,LvR.start a⟩,Y⟩ Bi ?_))
 rintro n O ⟨hk,he⟩
 refine Ae (Af (Ab ?_));refine A8 Ct ?_;refine Ak ty33 ?_;refine Br (.t) Tryz.underlying33 ?_;refine AWl.lt ?_;refine Aa (Ah (.tm U) (fun h15=>?_) (fun h15=>?_))
 · try simp at h15
   refine AW.skip (Ae (AW.block (Af (AWl.ac ?_))));refine Aa (AW.block (C6 (fun (s:Nat) (O1:List Bool)=>(s≤a.Accept.length∧LvM a O O1 s 0)∧True) (fun (s:Nat) (O1:List Bool)=>⟨_,[(5,(true,.a (.one (.t (.v (.int .i64 (s:Nat))))))),(3,(true,.a (.one (.rf 7)))),(1,_),(2,_),(4,_)],[(7,.row 1 (O1.map cBool))]⟩) (fun (s:Nat) (O1:List Bool)=>a.Accept.length-s) (0) (O) ⟨⟨Nat.zero_le _,hk.2.round⟩,Y⟩ Bi ?_))
   rintro s O1 ⟨hk1,he1⟩
   refine Ae (Af (Ab ?_));refine A8 Ct ?_;refine Ak ty33 ?_;refine Br (.t) Tryz.underlying33 ?_;refine AWl.lt ?_;refine Aa (Ah (.tm U) (fun h22=>?_) (fun h22=>?_))
   · try simp at h22
     refine AW.skip (Ae (AW.block (Af (AWl.ac ?_))));refine Aa (AW.block ?_);refine C6 (fun (k:Nat) (O2:List Bool)=>(k≤9∧LvM a O O2 s k)∧True) (fun (k:Nat) (O2:List Bool)=>⟨_,[(6,(true,.a (.one (.t (.v (.int .i64 (k:Nat))))))),(3,(true,.a (.one (.rf 7)))),(1,_),(2,_),(4,_),(5,_)],[(7,.row 1 (O2.map cBool))]⟩) (fun (k:Nat) (O2:List Bool)=>9-k) (0) (O1) ⟨⟨by omega,hk1.2⟩,Y⟩ Bi ?_
     rintro k O2 ⟨hk2,he2⟩
     refine Ae (Af (Ab ?_));refine Cv ?_;refine Aa (Ah (.tm U) (fun h26=>?_) (fun h26=>?_))
     · try simp at h26
       obtain⟨r,hr,hx⟩:=hA.ent (s:=s) (k:=k) (by omega) (by omega)
       have hrg:=hA.rg s k (by omega) (by omega)
       have hol:=hk2.2.len
       have hr9:=hA.rl r (List.mem_of_getElem? hr)
       have hnl:=hA.nl
       refine AW.skip (Ae (AW.block (Af (A8 Dc ?_))));refine Ak ty34 ?_;refine Ab ?_;refine Ac (An U (.no U) U (.tm U) (.tm U) Tryz.underlying34 C7 (fun _=>⟨by omega,(by exact Am hr)⟩)) U ?_;refine Ak C7 ?_;refine Ab ?_;refine Ac (An U (.no U) U (.tm U) (.tm U) Tryz.underlying40 ty3 (fun _=>⟨by omega,(by exact Am hx)⟩)) U ?_;refine Ak ty3 ?_;refine AWl.gd ?_;refine Ab ?_;refine Cl ?_;refine AWl.fy Dc ?_;refine Cu ty34 ?_;refine Cl ?_;refine Ac (by exact An U (by exact .yes1 U U U U) U (.tmp U (by exact id)) (.tmp U (by exact id)) Tryz.underlying34 C7 (fun hq=>by (try simp at hq);exact⟨by omega,(by exact Am hr)⟩)) U ?_;refine Cu C7 ?_;refine Cl ?_;refine Ac (by exact An U (by exact .yes1 U U U U) U (.tmp U (by exact id)) (.tmp U (by exact id)) Tryz.underlying40 ty3 (fun hq=>by (try simp at hq);exact⟨by omega,(by exact Am hx)⟩)) U ?_;refine Cu ty3 ?_
       refine Ac ((by exact Ay U (by exact .yes1 U U U U) U (.tmp U (by exact id)) U (.tmp U (by exact id)) Tryz.underlying33 ty4 (fun hq=>by (try simp at hq);exact⟨by omega,(by exact Am (gB_get (l:=O2) (i:=(nxA a s k).toNat) (by omega)))⟩))) U ?_;refine Ac ((Bt U (by exact .yes1 U U U U) U (.tmp U (by exact id)) U (by exact Am (gB_get (l:=O2) (i:=(nxA a s k).toNat) (by omega))) ty4 U U)) U ?_;refine Cb ?_;refine Aa (Ah (.tm U) (fun h50=>?_) (fun h50=>?_))
       · try simp at h50
         refine Al (Ap [1,2,3,4,5,6] [7]) ?_;refine Ad (Ab ?_);refine Ab ?_;refine Ac ((Ay U (.no U) U (.tm U) U (.tm U) Tryz.underlying33 ty4 (fun _=>⟨by omega,(by exact Am (gB_get (l:=O2) (i:=s) (by omega)))⟩))) U ?_;refine AWl.absupd (R_store_pr U U U (.const U) U (.tm U) U (by exact Am (gB_get (l:=O2) (i:=s) (by omega))) ty4 U U U U) ?_;refine Aa (Ad (Ab ?_));refine Bk ?_;refine Ag ?_;refine Aa ?_
         repeat (with_reducible refine A7 ?_)
         refine Round2.next (k+1) (O2.set s true) ⟨⟨by omega,hk2.2.hit (by omega) (by omega) h50.1 h50.2⟩,Y⟩ (by omega) (Az rfl ⟨rfl,rfl,rfl,rfl,rfl,rfl,Y⟩ ⟨(by (refine congrArg (fun r=>some (R.row _ r)) ?_;simp [chunk,List.map_set,cInt,cBool,cIntS,cPair,cToken,cExpr,cEdge,cGraph,cStep,cWalk,cChange,cBatch,cHistory,cPositions,cAutomaton,cProductStep,cPathAtom,cConjunction,cView,cDelta,cRegistered,cRegistry])),Y⟩)
       try simp at h50
       refine AW.skip (Al (Ap [1,2,3,4,5,6] [7]) ?_);refine Ad (Ab ?_);refine Bk ?_;refine Ag ?_;refine Aa ?_
       repeat (with_reducible refine A7 ?_)
       refine Round2.next (k+1) (O2) ⟨⟨by omega,hk2.2.skip (fun h=>by have h5:=h50 h.1;rw [h.2] at h5;cases h5)⟩,Y⟩ (by omega) (Az rfl ⟨rfl,rfl,rfl,rfl,rfl,rfl,Y⟩ ⟨(by rfl),Y⟩)
     try simp at h26
     refine Bz (Ad (Ab ?_));refine Bk ?_;refine Ag ?_;refine Aa ?_
     repeat (with_reducible refine A7 ?_)
     refine Round2.next (s+1) (O2) ⟨⟨by omega,hk2.2.row (by omega)⟩,Y⟩ (by omega) (Az rfl ⟨rfl,rfl,rfl,rfl,rfl,Y⟩ ⟨(by rfl),Y⟩)
   try simp at h22
   refine Bz (Ad (Ab ?_));refine Bk ?_;refine Ag ?_;refine Aa ?_
   repeat (with_reducible refine A7 ?_)
   refine Round2.next (n+1) (O1) ⟨⟨by omega,hk1.2.fin hk.2 (by omega)⟩,Y⟩ (by omega) (Az rfl ⟨rfl,rfl,rfl,rfl,Y⟩ ⟨(by rfl),Y⟩)
 try simp at h15
 refine Bz (Af (Ab ?_));refine Ag ?_;refine Aa (Ai ?_);apply ERes.mk (x:=O)
 case h=>
  refine A4 U (.tmp U .nil) U ?_
  rfl
 case hp=>exact hk.2.live hA (by omega)
theorem specl12Key (a:TAutomaton) (hA:ShA a) (c:List Int) (hc:c.length=a.Accept.length) (s:Nat) (hs:s<a.Accept.length):FnT Tryz.prog 150 [.agg (cAutomaton a),.one (.sl 1 (c.map cInt)),.one (.v (.int .i64 (s:Int)))] (.a (.one (.sl 1 ((keyA a c s).map cInt)))):=by
 refine A6 Tryz.func150 U (by kernel_rfl) Tryz.ntmps150 U fun hlen w0=>?_
 try simp [cPair,cToken,cExpr,cEdge,cGraph,cStep,cWalk,cChange,cBatch,cHistory,cPositions,cAutomaton,cProductStep,cPathAtom,cConjunction,cView,cDelta,cRegistered,cRegistry] at hlen
 have hnl:=hA.nl
 refine Af (Ac (Bo U U U (.tm U) (ts:=_) (by rfl)) U ?_);refine AWl.ac ?_;refine AWl.nilS (i:=6) 20001 1 U U ?_;refine Aa (Af (Ab ?_));refine Ab ?_;refine Ac ((An U (.no U) U (.tm U) (.tm U) Tryz.underlying40 ty3 (fun _=>⟨by omega,(by exact Am (gI_get (l:=c) (i:=s) (by omega)))⟩))) U ?_;refine Ak ty3 ?_;refine Bs (Cn (xs:=[.tmp 13]) 14 U U U (.cons (.tm U) U U .nil) Tryz.underlying40 in3 U U U U) U ?_;refine Ag ?_;refine Aa (Ae (Af (AWl.ac ?_)));refine Aa (AW.block ?_);refine Dp (fun (k:Nat)=>(k≤9)∧True) (fun (k:Nat)=>⟨_,[(8,(true,.a (.one (.t (.v (.int .i64 (k:Nat))))))),(7,(true,.a (.one (.rf 14)))),(1,_),(2,_),(3,_),(6,_)],[(14,.row 1 ((gI c s::(List.range k).map (entA a c s)).map cInt))]⟩) (fun (k:Nat)=>9-k) (0) ⟨by omega,Y⟩ Bi ?_
 rintro k ⟨hk,he⟩
 refine Ae (Af (Ab ?_));refine Cv ?_;refine Aa (Ah (.tm U) (fun h16=>?_) (fun h16=>?_))
 · try simp at h16
   obtain⟨r,hr,hx⟩:=hA.ent (s:=s) (k:=k) (by omega) (by omega)
   have hrg:=hA.rg s k (by omega) (by omega)
   have hr9:=hA.rl r (List.mem_of_getElem? hr)
   refine AW.skip (Ae (AW.block (Af (A8 Dc ?_))));refine Ak ty34 ?_;refine Ab ?_;refine Ac (An U (.no U) U (.tm U) (.tm U) Tryz.underlying34 C7 (fun _=>⟨by omega,(by exact Am hr)⟩)) U ?_;refine Ak C7 ?_;refine Ab ?_;refine Ac (An U (.no U) U (.tm U) (.tm U) Tryz.underlying40 ty3 (fun _=>⟨by omega,(by exact Am hx)⟩)) U ?_;refine Ak ty3 ?_;refine Ag ?_;refine Aa (Ae (Al (Ap [1,2,3,6,7,8,9] [14]) ?_));refine Ad (Ab ?_);refine Cv ?_;refine Aa (Ah (.tm U) (fun h28=>?_) (fun h28=>?_))
   · try simp at h28
     refine Ad (Ab ?_);refine Ac (Ch (xs:=[.const (.int .i64 (-1))]) (rows:=[cInt (-1)]) U U U (.cons (.const U) U U .nil) Tryz.underlying40 in3 U U (U)) U ?_;refine Bg (By U U U (.tm U) U (.tm U) (by exact .t) (by rfl) Tryz.underlying40 in3 U (by (simp [chunk];omega)) (by (unfold maxLen;simp [chunk];omega))) U ?_;refine Bm (Ap [1,2,3,6,7,8,9,28,31] [14]) ?_;refine Ag ?_;refine Aa (Ad (Ab ?_));refine Bk ?_;refine Ag ?_;refine Aa ?_
     repeat (with_reducible refine A7 ?_)
     refine Round1.next (k+1) ⟨by omega,Y⟩ (by omega) (Az rfl ⟨rfl,rfl,rfl,rfl,rfl,rfl,Y⟩ ⟨(by refine congrArg (fun r=>some (R.row 1 r)) ?_;rw [keyA_k,List.map_append];first|(rw [show entA a c s k=-1 from if_pos h28];rfl)|(rw [show entA a c s k=gI c (nxA a s k).toNat from if_neg (by omega)];rfl)),Y⟩)
   try simp at h28
   refine Ad (Ab ?_);refine Ab ?_;refine Ab ?_;refine Ac ((An U (.no U) U (.tm U) (.tm U) Tryz.underlying40 ty3 (fun _=>⟨by omega,(by exact Am (gI_get (l:=c) (i:=(nxA a s k).toNat) (by omega)))⟩))) U ?_;refine Ak ty3 ?_;refine Ac (Ch (xs:=[.tmp 36]) (rows:=[cInt (gI c (nxA a s k).toNat)]) U U U (.cons (.tm U) U U .nil) Tryz.underlying40 in3 U U (U)) U ?_;refine Bg (By U U U (.tm U) U (.tm U) (by exact .t) (by rfl) Tryz.underlying40 in3 U (by (simp [chunk];omega)) (by (unfold maxLen;simp [chunk];omega))) U ?_;refine Bm (Ap [1,2,3,6,7,8,9,28,38] [14]) ?_;refine Ag ?_;refine Aa (Ad (Ab ?_));refine Bk ?_;refine Ag ?_;refine Aa ?_
   repeat (with_reducible refine A7 ?_)
   refine Round1.next (k+1) ⟨by omega,Y⟩ (by omega) (Az rfl ⟨rfl,rfl,rfl,rfl,rfl,rfl,Y⟩ ⟨(by refine congrArg (fun r=>some (R.row 1 r)) ?_;rw [keyA_k,List.map_append];first|(rw [show entA a c s k=-1 from if_pos h28];rfl)|(rw [show entA a c s k=gI c (nxA a s k).toNat from if_neg (by omega)];rfl)),Y⟩)
 try simp at h16
 refine Bz (Af (Ab ?_));refine Ag ?_;refine Aa (Ai (A4 U (.tmp U .nil) U ?_))
 (have hk9:k=9:=by (first|omega|(simp at h16;omega)));subst hk9;rfl
theorem specl12ClassesE (a:TAutomaton) (hA:ShA a) (hN:a.Accept.length≤1000):FnE Tryz.prog 98 [.agg (cAutomaton a)] (ClsOf a) (fun l=>.a (.one (.sl 1 (l.map cInt)))):=by
 refine FnE.walk Tryz.func98 rfl (by kernel_rfl) Tryz.ntmps98 rfl fun w0=>?_
 refine Af (Ac (Bo U U U (.tm U) (ts:=_) (by rfl)) U ?_);refine AWl.ac ?_;refine AWl.nilS (i:=2) 20001 1 U U ?_;refine Aa (Af (Ak Cm ?_));refine Bl (C8 1500 (specl11LiveE a hA hN) U U U (.cons (.tm U) U .nil) (fun _=>rfl) (fun _=>rfl)) ?_
 rintro _ ⟨z15,hz15,rfl⟩
 try dsimp only at hz15
 refine Ag ?_;refine Aa (Af (Aq (Dj 16 U U U Tryz.underlying40 ty3 U) U ?_));refine Ag ?_;refine Aa (Ae (Af (AWl.ac ?_)));refine Aa (AW.block (Dp (fun (s:Nat)=>(s≤a.Accept.length)∧True) (fun (s:Nat)=>⟨_,[(5,(true,.a (.one (.t (.v (.int .i64 (s:Nat))))))),(4,(true,.a (.one (.rf 16)))),(3,(true,.a (.one (.rf 1500)))),(1,_),(2,_)],[(16,.row 1 (((List.range s).map (cls0 a z15)).map cInt)),(1500,.row 1 (z15.map cBool))]⟩) (fun (s:Nat)=>a.Accept.length-s) (0) ⟨Nat.zero_le _,Y⟩ (Az U ⟨U,U,U,U,U,Y⟩ ⟨(by refine congrArg (fun r=>some (R.row 1 r)) ?_;first|rfl|(rw [show s=a.Accept.length by omega];done)),U,Y⟩) ?_))
 rintro s ⟨hk,he⟩
 refine Ae (Af (Ab ?_));refine A8 Ct ?_;refine Ak ty33 ?_;refine Br (.t) Tryz.underlying33 ?_;refine AWl.lt ?_;refine Aa (Ah (.tm U) (fun h21=>?_) (fun h21=>?_))
 · try simp at h21
   have hll:=hz15.1
   have hac:=acA_get (a:=a) (i:=s) (by omega)
   have hlg:=gB_get (l:=z15) (i:=s) (by omega)
   refine AW.skip (Ae (AW.block (Af (AWl.ac ?_))));refine Aa (Ae (Af (A8 Ct ?_)));refine Ak ty33 ?_;refine Ab ?_;refine Ac ((An U (.no U) U (.tm U) (.tm U) Tryz.underlying33 ty4 (fun _=>⟨by omega,(by exact Am (by assumption))⟩))) U ?_;refine Ak ty4 ?_;refine Aa (Ah (.tm U) (fun h28=>?_) (fun h28=>?_))
   · try simp at h28
     refine Al (Ap [1,2,3,4,5,6] [16,1500]) ?_;refine Ad (AWl.ac ?_);refine Aa (Ae (Af (Ab ?_)));refine Ab ?_;refine Ac ((Ay U (.no U) U (.tm U) U (.tm U) Tryz.underlying33 ty4 (fun _=>⟨by omega,(by exact Am (by assumption))⟩))) U ?_;refine Ac (Bt U (.no U) U (.tm U) U (by exact Am (by assumption)) ty4 U U) U ?_;refine Cw ?_;refine Aa (Ah (.tm U) (fun h33=>?_) (fun h33=>?_))
     · try simp at h33
       refine Ad (AWl.ac ?_);refine Aa (Ad (Ab ?_));refine Ab ?_;refine Ac (Ch (xs:=[.tmp 35]) (rows:=[cInt _]) U U U (.cons (.tm U) U U .nil) Tryz.underlying40 in3 U U (U)) U ?_;refine Bg (By U U U (.tm U) U (.tm U) (by exact .t) (by rfl) Tryz.underlying40 in3 U (by (simp [chunk];omega)) (by (unfold maxLen;simp [chunk];omega))) U ?_;refine Bm (Ap [1,2,3,4,5,6,33,37] [16,1500]) ?_;refine Ag ?_;refine Aa (Ad (Ab ?_));refine Bk ?_;refine Ag ?_;refine Aa ?_
       repeat (with_reducible refine A7 ?_)
       refine Round1.next (s+1) ⟨by omega,Y⟩ (by omega) (Az rfl ⟨rfl,rfl,rfl,rfl,rfl,Y⟩ ⟨(by refine congrArg (fun r=>some (R.row 1 r)) ?_;first|rfl|(rw [List.range_succ,List.map_append,List.map_append];congr 1;show [cInt _]=[cInt (cls0 a z15 s)];unfold cls0;simp [*];done)),(by rfl),Y⟩)
     try simp at h33
     refine AW.skip (Ad (Ab ?_));refine Ab ?_;refine Ac (Ch (xs:=[.tmp 35]) (rows:=[cInt _]) U U U (.cons (.tm U) U U .nil) Tryz.underlying40 in3 U U (U)) U ?_;refine Bg (By U U U (.tm U) U (.tm U) (by exact .t) (by rfl) Tryz.underlying40 in3 U (by (simp [chunk];omega)) (by (unfold maxLen;simp [chunk];omega))) U ?_;refine Bm (Ap [1,2,3,4,5,6,33,37] [16,1500]) ?_;refine Ag ?_;refine Aa (Ad (Ab ?_));refine Bk ?_;refine Ag ?_;refine Aa ?_
     repeat (with_reducible refine A7 ?_)
     refine Round1.next (s+1) ⟨by omega,Y⟩ (by omega) (Az rfl ⟨rfl,rfl,rfl,rfl,rfl,Y⟩ ⟨(by refine congrArg (fun r=>some (R.row 1 r)) ?_;first|rfl|(rw [List.range_succ,List.map_append,List.map_append];congr 1;show [cInt _]=[cInt (cls0 a z15 s)];unfold cls0;simp [*];done)),(by rfl),Y⟩)
   try simp at h28
   refine AW.skip (Ae (Ae (Al (Ap [1,2,3,4,5,6] [16,1500]) ?_)));refine Ad (Ab ?_);refine Ab ?_;refine Ac ((Ay U (.no U) U (.tm U) U (.tm U) Tryz.underlying33 ty4 (fun _=>⟨by omega,(by exact Am (by assumption))⟩))) U ?_;refine Ac (Bt U (.no U) U (.tm U) U (by exact Am (by assumption)) ty4 U U) U ?_;refine Cw ?_;refine Aa (Ah (.tm U) (fun h33=>?_) (fun h33=>?_))
   · try simp at h33
     refine Ad (AWl.ac ?_);refine Aa (Ad (Ab ?_));refine Ab ?_;refine Ac (Ch (xs:=[.tmp 35]) (rows:=[cInt _]) U U U (.cons (.tm U) U U .nil) Tryz.underlying40 in3 U U (U)) U ?_;refine Bg (By U U U (.tm U) U (.tm U) (by exact .t) (by rfl) Tryz.underlying40 in3 U (by (simp [chunk];omega)) (by (unfold maxLen;simp [chunk];omega))) U ?_;refine Bm (Ap [1,2,3,4,5,6,33,37] [16,1500]) ?_;refine Ag ?_;refine Aa (Ad (Ab ?_));refine Bk ?_;refine Ag ?_;refine Aa ?_
     repeat (with_reducible refine A7 ?_)
     refine Round1.next (s+1) ⟨by omega,Y⟩ (by omega) (Az rfl ⟨rfl,rfl,rfl,rfl,rfl,Y⟩ ⟨(by refine congrArg (fun r=>some (R.row 1 r)) ?_;first|rfl|(rw [List.range_succ,List.map_append,List.map_append];congr 1;show [cInt _]=[cInt (cls0 a z15 s)];unfold cls0;simp [*];done)),(by rfl),Y⟩)
   try simp at h33
   refine AW.skip (Ad (Ab ?_));refine Ab ?_;refine Ac (Ch (xs:=[.tmp 35]) (rows:=[cInt _]) U U U (.cons (.tm U) U U .nil) Tryz.underlying40 in3 U U (U)) U ?_;refine Bg (By U U U (.tm U) U (.tm U) (by exact .t) (by rfl) Tryz.underlying40 in3 U (by (simp [chunk];omega)) (by (unfold maxLen;simp [chunk];omega))) U ?_;refine Bm (Ap [1,2,3,4,5,6,33,37] [16,1500]) ?_;refine Ag ?_;refine Aa (Ad (Ab ?_));refine Bk ?_;refine Ag ?_;refine Aa ?_
   repeat (with_reducible refine A7 ?_)
   refine Round1.next (s+1) ⟨by omega,Y⟩ (by omega) (Az rfl ⟨rfl,rfl,rfl,rfl,rfl,Y⟩ ⟨(by refine congrArg (fun r=>some (R.row 1 r)) ?_;first|rfl|(rw [List.range_succ,List.map_append,List.map_append];congr 1;show [cInt _]=[cInt (cls0 a z15 s)];unfold cls0;simp [*];done)),(by rfl),Y⟩)
 try simp at h21
 refine Bz (Ae (Af (AWl.ac ?_)));refine Aa (AW.block (C6 (fun (n:Nat) (C:List Int)=>(n≤a.Accept.length+1∧ClM a n C)∧True) (fun (n:Nat) (C:List Int)=>⟨_,[(7,(true,.a (.one (.t (.v (.int .i64 (n:Nat))))))),(4,(true,.a (.one (.rf 16)))),(1,_)],[(16,.row 1 (C.map cInt))]⟩) (fun (n:Nat) (C:List Int)=>a.Accept.length+1-n) (0) ((List.range a.Accept.length).map (cls0 a z15)) ⟨⟨Nat.zero_le _,ClM.start hz15⟩,Y⟩ (Az U ⟨U,U,U,Y⟩ ⟨(by refine congrArg (fun r=>some (R.row 1 r)) ?_;first|rfl|(rw [show s=a.Accept.length by omega];done)),Y⟩) ?_))
 rintro n C ⟨hk1,he1⟩
 refine Ae (Af (Ab ?_));refine A8 Ct ?_;refine Ak ty33 ?_;refine Br (.t) Tryz.underlying33 ?_;refine Ac (R_le U (.no U) U (.tm U) (.tm U)) U ?_;refine Aa (Ah (.tm U) (fun h42=>?_) (fun h42=>?_))
 · try simp at h42
   refine AW.skip (Ae (AW.block (Af (Aq (Dj 45 U U U Tryz.underlying34 C7 U) U ?_))));refine Ag ?_;refine Aa (Ae (Al (Ap [1,4,7,8] [16,45]) ?_));refine Ad (Aq (Dj 46 U U U Tryz.underlying40 ty3 U) U ?_);refine Ag ?_;refine Aa (Ae (Af (AWl.ac ?_)))
   refine Aa (AW.block (AW.loop3 (fun (t:Nat) (K:List (List Int)) (M:List Int)=>(t≤a.Accept.length∧RdM a C t K M)∧True) (fun (t:Nat) (K:List (List Int)) (M:List Int)=>⟨_,[(10,(true,.a (.one (.t (.v (.int .i64 (t:Nat))))))),(4,(true,.a (.one (.rf 16)))),(8,(true,.a (.one (.rf 45)))),(9,(true,.a (.one (.rf 46)))),(1,_),(7,_)],[(16,.row 1 (C.map cInt)),(45,.row 1 (K.map cIntS)),(46,.row 1 (M.map cInt))]⟩) (fun (t:Nat) (K:List (List Int)) (M:List Int)=>a.Accept.length-t) (0) ([]) ([]) ⟨⟨Nat.zero_le _,RdM.start a C⟩,Y⟩ (Az U ⟨U,U,U,U,U,U,Y⟩ ⟨(by refine congrArg (fun r=>some (R.row 1 r)) ?_;first|rfl|(rw [show s=a.Accept.length by omega];done)),U,U,Y⟩) ?_))
   rintro t K M ⟨hk2,he2⟩
   refine Ae (Af (Ab ?_));refine A8 Ct ?_;refine Ak ty33 ?_;refine Br (.t) Tryz.underlying33 ?_;refine AWl.lt ?_;refine Aa (Ah (.tm U) (fun h51=>?_) (fun h51=>?_))
   · try simp at h51
     have hMl:=hk2.2.len
     have hKl:=hk2.2.kl
     have hcg:=gI_get (l:=C) (i:=t) (by have:=hk1.2.len;omega)
     refine AW.skip (Ae (AW.block (Ae (Af (Ab ?_)))));refine Ab ?_;refine Ac ((Ay U (.no U) U (.tm U) U (.tm U) Tryz.underlying40 ty3 (fun _=>⟨by omega,(by exact Am (by assumption))⟩))) U ?_;refine Ac (Bt U (.no U) U (.tm U) U (by exact Am (by assumption)) ty3 U U) U ?_;refine Cv ?_;refine Aa (Ah (.tm U) (fun h58=>?_) (fun h58=>?_))
     · try simp at h58
       refine Ae (Al (Ap [1,4,7,8,9,10] [16,45,46]) ?_);refine Ad (Ab ?_);refine Ac (Ch (xs:=[.const (.int .i64 (-1))]) (rows:=[cInt (-1)]) U U U (.cons (.const U) U U .nil) Tryz.underlying40 in3 U U (U)) U ?_;refine Bg (By U U U (.tm U) U (.tm U) (by exact .t) (by rfl) Tryz.underlying40 in3 U (by (simp [chunk];omega)) (by (unfold maxLen;simp [chunk];omega))) U ?_;refine Bm (Ap [1,4,7,8,9,10,61] [16,45,46]) ?_;refine Ag ?_;refine Aa (Bz (Ad (Ab ?_)));refine Bk ?_;refine Ag ?_;refine Aa ?_
       repeat (with_reducible refine A7 ?_)
       refine Round3.next (t+1) (K) (M++[-1]) ⟨⟨by omega,hk2.2.skip (by omega)⟩,Y⟩ (by omega) (Az rfl ⟨rfl,rfl,rfl,rfl,rfl,rfl,Y⟩ ⟨(by refine congrArg (fun r=>some (R.row 1 r)) ?_;first|rfl|(rw [List.range_succ,List.map_append,List.map_append];congr 1;show [cInt _]=[cInt (cls0 a z15 s)];unfold cls0;simp [*];done)),(by rfl),(by (refine congrArg (fun r=>some (R.row _ r)) ?_;simp [chunk,List.map_set,cInt,cBool,cIntS,cPair,cToken,cExpr,cEdge,cGraph,cStep,cWalk,cChange,cBatch,cHistory,cPositions,cAutomaton,cProductStep,cPathAtom,cConjunction,cView,cDelta,cRegistered,cRegistry])),Y⟩)
     try simp at h58
     refine AW.skip (Ae (Al (Ap [1,4,7,8,9,10] [16,45,46]) ?_));refine Ad (Ak Cm ?_);refine Ab ?_;refine Ab ?_;refine Bc (Bq 6500 (specl12Key a hA C hk1.2.len t (by omega)) U U U (.cons (.tm U) U (.cons (.tm U) U (.cons (.tm U) U .nil))) U U) U ?_;refine Ag ?_;refine Aa (Af (AWl.ac ?_));refine Aa (Ae (Af (AWl.ac ?_)))
     refine Aa (AW.block (C6 (fun (j:Nat) (q:Int)=>(j≤K.length∧((q=-1∧∀ i,i<j→K[i]?≠some (keyA a C t))∨∃ i:Nat,q=(i:Int)∧K[i]?=some (keyA a C t)))∧True) (fun (j:Nat) (q:Int)=>⟨_,[(13,(true,.a (.one (.t (.v (.int .i64 (j:Nat))))))),(12,(true,.a (.one (.t (.v (.int .i64 q)))))),(4,(true,.a (.one (.rf 16)))),(8,(true,.a (.one (.rf 45)))),(9,(true,.a (.one (.rf 46)))),(11,(true,.a (.one (.rf 6500)))),(1,_),(7,_),(10,_)],[(16,.row 1 (C.map cInt)),(45,.row 1 (K.map cIntS)),(46,.row 1 (M.map cInt)),(6500,.row 1 ((keyA a C t).map cInt))]⟩) (fun (j:Nat) (q:Int)=>K.length-j) (0) (-1) ⟨⟨Nat.zero_le _,.inl ⟨U,fun i hi=>absurd hi (Nat.not_lt_zero i)⟩⟩,Y⟩ (Az U ⟨U,U,U,U,U,U,U,U,U,Y⟩ ⟨(by refine congrArg (fun r=>some (R.row 1 r)) ?_;first|rfl|(rw [show s=a.Accept.length by omega];done)),U,U,U,Y⟩) ?_))
     rintro j q ⟨hk3,he3⟩
     refine Ae (Af (Ab ?_));refine Ab ?_;refine Br (.rf U) Tryz.underlying34 ?_;refine AWl.lt ?_;refine Aa (Ah (.tm U) (fun h69=>?_) (fun h69=>?_))
     · try simp at h69
       obtain⟨x,hx⟩:∃ ξ,K[j]?=some ξ:=⟨_,List.getElem?_eq_getElem (by omega)⟩
       refine AW.skip (Ae (AW.block (Af (Ab ?_))));refine Ab ?_;refine Ac ((Ay U (.no U) U (.tm U) U (.tm U) Tryz.underlying34 C7 (fun _=>⟨by omega,(by exact Am (by assumption))⟩))) U ?_;refine Ac (Bt U (.no U) U (.tm U) U (by exact Am (by assumption)) C7 U U) U ?_;refine Ab ?_;refine Bu (specl2Cmp x (keyA a C t)) ?_;refine Ba ?_;refine Aa (Ah (.tm U) (fun h78=>?_) (fun h78=>?_))
       · try simp at h78
         have hxe:x=keyA a C t:=of_decide_eq_true ((cmpL_zero x (keyA a C t)).symm.trans (decide_eq_true h78))
         refine Al (Ap [1,4,7,8,9,10,11,12,13] [16,45,46,6500]) ?_;refine Ad (Ab ?_);refine Ag ?_;refine Aa (Ad (Ab ?_));refine Bk ?_;refine Ag ?_;refine Aa ?_
         repeat (with_reducible refine A7 ?_)
         refine Round2.next (j+1) ((j:Int)) ⟨⟨by omega,.inr ⟨j,rfl,by rw [hx,hxe]⟩⟩,Y⟩ (by omega) (Az rfl ⟨rfl,rfl,rfl,rfl,rfl,rfl,rfl,rfl,rfl,Y⟩ ⟨(by refine congrArg (fun r=>some (R.row 1 r)) ?_;first|rfl|(rw [List.range_succ,List.map_append,List.map_append];congr 1;show [cInt _]=[cInt (cls0 a z15 s)];unfold cls0;simp [*];done)),(by rfl),(by rfl),(by rfl),Y⟩)
       try simp at h78
       have hxe:x≠keyA a C t:=fun e=>h78 (of_decide_eq_true ((cmpL_zero x (keyA a C t)).trans (decide_eq_true e)))
       refine AW.skip (Al (Ap [1,4,7,8,9,10,11,12,13] [16,45,46,6500]) ?_);refine Ad (Ab ?_);refine Bk ?_;refine Ag ?_;refine Aa ?_
       repeat (with_reducible refine A7 ?_)
       refine Round2.next (j+1) (q) ⟨⟨by omega,hk3.2.elim (fun h=>.inl ⟨h.1,fun i hi=>by rcases Nat.lt_or_eq_of_le (Nat.le_of_lt_succ hi) with h1|h1;exact h.2 i h1;(rw [h1,hx];exact fun e=>hxe (Option.some.inj e))⟩) .inr⟩,Y⟩ (by omega) (Az rfl ⟨rfl,rfl,rfl,rfl,rfl,rfl,rfl,rfl,rfl,Y⟩ ⟨(by refine congrArg (fun r=>some (R.row 1 r)) ?_;first|rfl|(rw [List.range_succ,List.map_append,List.map_append];congr 1;show [cInt _]=[cInt (cls0 a z15 s)];unfold cls0;simp [*];done)),(by rfl),(by rfl),(by rfl),Y⟩)
     try simp at h69
     refine Bz (Ae (Af (Ab ?_)));refine Cv ?_;refine Aa (Ah (.tm U) (fun h81=>?_) (fun h81=>?_))
     · try simp at h81
       have hnm:keyA a C t∉K:=(fun hm=>by (obtain⟨i,hi⟩:=List.getElem?_of_mem hm);(have hil:=(List.getElem?_eq_some_iff.1 hi).1);rcases hk3.2 with h|⟨i',h1,_⟩;(exact h.2 i (by omega) hi);(omega))
       refine Ae (Al (Ap [1,4,7,8,9,10,11,12,13] [16,45,46,6500]) ?_);refine Ad (Ab ?_);refine Br (.rf U) Tryz.underlying34 ?_;refine Ag ?_;refine Aa (Ad (Ab ?_));refine Ab ?_;refine Bs (Cn (xs:=[.tmp 85]) 86 U U U (.cons (.tm U) U U .nil) Tryz.underlying34 in40 U U U U) U ?_;refine C1 (C9 U U U (.tm U) U (.tm U) U U Tryz.underlying34 in40 U (by (simp [chunk];omega)) (by (unfold maxLen;simp [chunk];omega))) U ?_;refine Bm (Ap [1,4,7,8,9,10,11,12,13,87] [16,45,46]) ?_;refine Ag ?_;refine Aa (Ad (Ab ?_));refine Ab ?_;refine Ac (Ch (xs:=[.tmp 89]) (rows:=[cInt _]) U U U (.cons (.tm U) U U .nil) Tryz.underlying40 in3 U U (U)) U ?_;refine Bg (By U U U (.tm U) U (.tm U) (by exact .t) (by rfl) Tryz.underlying40 in3 U (by (simp [chunk];omega)) (by (unfold maxLen;simp [chunk];omega))) U ?_;refine Bm (Ap [1,4,7,8,9,10,11,12,13,91] [16,45,46]) ?_;refine Ag ?_;refine Aa (Ad (Ab ?_))
       refine Bk ?_;refine Ag ?_;refine Aa ?_
       repeat (with_reducible refine A7 ?_)
       refine Round3.next (t+1) (K++[keyA a C t]) (M++[(K.length:Int)]) ⟨⟨by omega,hk2.2.new (by omega) hnm⟩,Y⟩ (by omega) (Az rfl ⟨rfl,rfl,rfl,rfl,rfl,rfl,Y⟩ ⟨(by refine congrArg (fun r=>some (R.row 1 r)) ?_;first|rfl|(rw [List.range_succ,List.map_append,List.map_append];congr 1;show [cInt _]=[cInt (cls0 a z15 s)];unfold cls0;simp [*];done)),(by (refine congrArg (fun r=>some (R.row _ r)) ?_;simp [chunk,List.map_set,cInt,cBool,cIntS,cPair,cToken,cExpr,cEdge,cGraph,cStep,cWalk,cChange,cBatch,cHistory,cPositions,cAutomaton,cProductStep,cPathAtom,cConjunction,cView,cDelta,cRegistered,cRegistry])),(by (refine congrArg (fun r=>some (R.row _ r)) ?_;simp [chunk,List.map_set,cInt,cBool,cIntS,cPair,cToken,cExpr,cEdge,cGraph,cStep,cWalk,cChange,cBatch,cHistory,cPositions,cAutomaton,cProductStep,cPathAtom,cConjunction,cView,cDelta,cRegistered,cRegistry])),Y⟩)
     try simp at h81
     obtain⟨i0,hqe,hqk⟩:∃ i:Nat,q=(i:Int)∧K[i]?=some (keyA a C t):=hk3.2.resolve_left (fun h=>by omega)
     refine AW.skip (Al (Ap [1,4,7,8,9,10,11,12,13] [16,45,46,6500]) ?_);refine Ad (Ab ?_);refine Ab ?_;refine Ac (Ch (xs:=[.tmp 89]) (rows:=[cInt _]) U U U (.cons (.tm U) U U .nil) Tryz.underlying40 in3 U U (U)) U ?_;refine Bg (By U U U (.tm U) U (.tm U) (by exact .t) (by rfl) Tryz.underlying40 in3 U (by (simp [chunk];omega)) (by (unfold maxLen;simp [chunk];omega))) U ?_;refine Bm (Ap [1,4,7,8,9,10,11,12,13,91] [16,45,46,6500]) ?_;refine Ag ?_;refine Aa (Ad (Ab ?_));refine Bk ?_;refine Ag ?_;refine Aa ?_
     repeat (with_reducible refine A7 ?_)
     refine Round3.next (t+1) (K) (M++[q]) ⟨⟨by omega,by rw [hqe];exact hk2.2.old (by omega) hqk⟩,Y⟩ (by omega) (Az rfl ⟨rfl,rfl,rfl,rfl,rfl,rfl,Y⟩ ⟨(by refine congrArg (fun r=>some (R.row 1 r)) ?_;first|rfl|(rw [List.range_succ,List.map_append,List.map_append];congr 1;show [cInt _]=[cInt (cls0 a z15 s)];unfold cls0;simp [*];done)),(by rfl),(by (refine congrArg (fun r=>some (R.row _ r)) ?_;simp [chunk,List.map_set,cInt,cBool,cIntS,cPair,cToken,cExpr,cEdge,cGraph,cStep,cWalk,cChange,cBatch,cHistory,cPositions,cAutomaton,cProductStep,cPathAtom,cConjunction,cView,cDelta,cRegistered,cRegistry])),Y⟩)
   try simp at h51
   refine Bz (Ae (Af (Ab ?_)));refine Ab ?_;refine Bu (specl2Cmp M C) ?_;refine Ba ?_;refine Aa (Ah (.tm U) (fun h95=>?_) (fun h95=>?_))
   · try simp at h95
     have hMC:M=C:=of_decide_eq_true ((cmpL_zero M C).symm.trans (decide_eq_true h95))
     have hR:RdM a C a.Accept.length K C:=(by have h:=hk2.2;rwa [show t=a.Accept.length by omega,hMC] at h)
     refine Ae (Al (Ap [1,4,7,8,9,10] [16,45,46]) ?_);refine Ad (Ab ?_);refine Ag ?_;refine Aa (Ai ?_);apply ERes.mk (x:=C)
     case h=>
      refine A4 U (.tmp U .nil) U ?_
      rfl
     case hp=>exact hk1.2.end2 hA hR
   try simp at h95
   have hR:RdM a C a.Accept.length K M:=(by have h:=hk2.2;rwa [show t=a.Accept.length by omega] at h)
   refine AW.skip (Al (Le.sw 16 46 _) ?_);refine Al (Ap [1,4,7,8,9,10] [46,45,16]) ?_;refine Ad (Ab ?_);refine Ag ?_;refine Aa (Ad (Ab ?_));refine Bk ?_;refine Ag ?_;refine Aa ?_
   repeat (with_reducible refine A7 ?_)
   refine Round2.next (n+1) (M) ⟨⟨by omega,hk1.2.next hA hR⟩,Y⟩ (by omega) (Az rfl ⟨rfl,rfl,rfl,Y⟩ ⟨(by refine congrArg (fun r=>some (R.row 1 r)) ?_;first|rfl|(rw [List.range_succ,List.map_append,List.map_append];congr 1;show [cInt _]=[cInt (cls0 a z15 s)];unfold cls0;simp [*];done)),Y⟩)
 try simp at h42
 refine Bz (Af (Ab ?_));refine Ag ?_;refine Aa (Ai ?_);apply ERes.mk (x:=C)
 case h=>
  refine A4 U (.tmp U .nil) U ?_
  rfl
 case hp=>exact hk1.2.end1 hA (by omega)
end Go.Proofs.YtdhojcaoljhbiaaGreat
set_option maxHeartbeats 1000000
set_option maxRecDepth 100000
namespace Go.Q
open Go.RowKit Go.D
structure TNo where
 a:Int
 b:Int
 ap:Bool
 fr:Int
 bl:Int
def cNo (x:TNo):List T:=[.v (.int .i64 x.a),.v (.int .i64 x.b),.v (.bool x.ap),.v (.int .i64 x.fr),.v (.int .i64 x.bl)]
def runA (b:TAutomaton) (s:Int) (w:List Nat):Int:=w.foldl (stA b) s
theorem runA_snoc (b:TAutomaton) (s:Int) (w:List Nat) (c:Nat):runA b s (w++[c])=stA b (runA b s w) c:=by unfold runA;rw [List.foldl_append];rfl
theorem LA_run (b:TAutomaton):∀ (w:List Nat) (s:Int),LA b s w=LA b (runA b s w) []
 | [],_=>rfl
 | k::w,s=>by
  have:=LA_run b w (stA b s k)
  exact this
def accI (b:TAutomaton) (s:Int):Bool:=decide (0≤s)&&acA b s.toNat
theorem LA_acc (b:TAutomaton) (s:Int) (w:List Nat):LA b s w=accI b (runA b s w):=by rw [LA_run];rfl
theorem stA_rg {b:TAutomaton} (hA:ShA b) {s:Int} (hs:-1≤s∧s<b.Accept.length) {c:Nat} (hc:c<9):-1≤stA b s c∧stA b s c<b.Accept.length:=by
 unfold stA
 split
 · omega
 exact hA.rg s.toNat c (by omega) hc
theorem runA_rg {b:TAutomaton} (hA:ShA b):∀ (w:List Nat) (s:Int),inW w→ -1≤s∧s<b.Accept.length→ -1≤runA b s w∧runA b s w<b.Accept.length
 | [],_,_,hs=>hs
 | c::w,s,hw,hs=>by
  obtain⟨hc,hw⟩:=inW_cons.1 hw
  exact runA_rg hA w (stA b s c) hw (stA_rg hA hs hc)
def NoOk (b:TAutomaton) (W:List (List Nat)) (j:Nat) (x:TNo) (w:List Nat):Prop:=
 inW w∧x.ap=false∧x.b=runA b b.Start w∧((j=0∧x.a=0∧x.fr=0∧w=[])∨(x.a=-1∧∃ (i c:Nat) (v:List Nat),x.fr=(i:Int)∧i<j∧x.bl=(c:Int)∧c<9∧W[i]?=some v∧w=v++[c]))
structure DfI (b:TAutomaton) (k n:Nat) (L:List TNo) (W:List (List Nat)):Prop where
 wl:W.length=L.length
 l0:1≤L.length
 nd:∀ (j:Nat) (x:TNo),L[j]?=some x→∃ w,W[j]?=some w∧NoOk b W j x w
 mo:∀ (i j:Nat) (w v:List Nat),i≤j→W[i]?=some w→W[j]?=some v→w.length≤v.length
 hi:∀ (j:Nat) (w v:List Nat),W[k]?=some v→W[j]?=some w→w.length≤v.length+1
 cl:∀ (j:Nat) (x:TNo) (w:List Nat) (c:Nat),L[j]?=some x→W[j]?=some w→c<9→(j<k∨j=k∧c<n)→∃ (i:Nat) (y:TNo) (v:List Nat),L[i]?=some y∧W[i]?=some v∧y.b=stA b x.b c∧v.length≤w.length+1
 na:∀ (j:Nat) (x:TNo),L[j]?=some x→j<k→accI b x.b=false
 no:(L.tail.map fun x=>x.b).Nodup
theorem DfI.start {b:TAutomaton}:DfI b 0 0 [⟨0,b.Start,false,0,0⟩] [[]]:=by
 refine⟨rfl,by simp,fun j x hx=>?_,fun i j w v hij hi hj=>?_,fun j w v hv hw=>?_,fun j x w c _ _ _ h=>by omega,fun j x _ h=>absurd h (Nat.not_lt_zero j),by simp⟩
 · cases j with
   | zero=>simp at hx;subst hx;exact⟨[],rfl,inW_nil,rfl,rfl,.inl ⟨rfl,rfl,rfl,rfl⟩⟩
   | succ j=>simp at hx
 · cases i with
   | zero=>simp at hi;subst hi;simp
   | succ i=>simp at hi
 cases j with
 | zero=>simp at hw;subst hw;simp
 | succ j=>simp at hw
section
variable {b:TAutomaton} {k n:Nat} {L:List TNo} {W:List (List Nat)} {x:TNo} {w:List Nat}
theorem DfI.at (h:DfI b k n L W) {j:Nat} (hj:j<L.length):∃ x w,L[j]?=some x∧W[j]?=some w∧NoOk b W j x w:=by
 have hx:L[j]?=some L[j]:=List.getElem?_eq_getElem hj
 obtain⟨w,h1,h2⟩:=h.nd j _ hx
 exact⟨_,w,hx,h1,h2⟩
theorem NoOk.a (h:NoOk b W k x w):x.a=0∨x.a=-1:=by
 rcases h.2.2.2 with ⟨_,h,_⟩|⟨h,_⟩
 · exact .inl h
 exact .inr h
theorem NoOk.rg (hA:ShA b) (h:NoOk b W k x w):-1≤x.b∧x.b<b.Accept.length:=by
 rw [h.2.2.1]
 exact runA_rg hA w _ h.1 (by have:=hA.st;omega)
theorem DfI.len (hA:ShA b) (h:DfI b k n L W):L.length≤b.Accept.length+2:=by
 have h1:=nodup_leA h.no (r:=(List.range (b.Accept.length+1)).map fun i:Nat=>(i:Int)-1) fun q hq=>by
  obtain⟨x,hx,rfl⟩:=List.mem_map.1 hq
  obtain⟨j,hj⟩:=List.getElem?_of_mem (List.mem_of_mem_tail hx)
  obtain⟨w,_,h2⟩:=h.nd j x hj
  have:=h2.rg hA
  exact List.mem_map.2 ⟨(x.b+1).toNat,List.mem_range.2 (by omega),by omega⟩
 simp at h1
 have:=h.l0
 omega
theorem DfI.old (h:DfI b k n L W) {x:TNo} (hx:L[k]?=some x) (hn:n<9) {y:TNo} (hy:y∈L) (hb:y.b=stA b x.b n):DfI b k (n+1) L W:=by
 refine⟨h.wl,h.l0,h.nd,h.mo,h.hi,fun j z w c hz hw hc hj=>?_,h.na,h.no⟩
 by_cases e:j=k∧c=n
 · obtain⟨rfl,rfl⟩:=e
   rw [hx] at hz
   cases hz
   obtain⟨i,hi⟩:=List.getElem?_of_mem hy
   obtain⟨v,h1,_⟩:=h.nd i y hi
   exact⟨i,y,v,hi,h1,hb,h.hi i v w hw h1⟩
 exact h.cl j z w c hz hw hc (by omega)
theorem DfI.new (h:DfI b k n L W) {x:TNo} {w:List Nat} (hx:L[k]?=some x) (hw:W[k]?=some w) (hn:n<9) (hno:∀ y∈L,¬ (y.a=-1∧y.b=stA b x.b n∧y.ap=false)):DfI b k (n+1) (L++[⟨-1,stA b x.b n,false,(k:Int),(n:Int)⟩]) (W++[w++[n]]):=by
 have hkl:=(List.getElem?_eq_some_iff.1 hx).1
 obtain⟨w',hw',hok⟩:=h.nd k x hx
 rw [hw] at hw'
 cases hw'
 have hLl:∀ (j:Nat) (y:TNo),(L++[⟨-1,stA b x.b n,false,(k:Int),(n:Int)⟩])[j]?=some y→(L[j]?=some y)∨(j=L.length∧y=⟨-1,stA b x.b n,false,(k:Int),(n:Int)⟩):=fun j y hy=>by
  rcases Nat.lt_or_ge j L.length with hj|hj
  · rw [List.getElem?_append_left hj] at hy;exact .inl hy
  rw [List.getElem?_append_right hj] at hy
  rcases Nat.eq_zero_or_pos (j-L.length) with hz|hz
  · rw [hz] at hy;simp at hy;exact .inr ⟨by omega,hy.symm⟩
  rw [List.getElem?_eq_none (show [_].length≤_ by show 1≤_;omega)] at hy;cases hy
 have hWl:∀ (j:Nat) (v:List Nat),(W++[w++[n]])[j]?=some v→(W[j]?=some v∧j<L.length)∨(j=L.length∧v=w++[n]):=fun j v hv=>by
  rcases Nat.lt_or_ge j W.length with hj|hj
  · rw [List.getElem?_append_left hj] at hv;exact .inl ⟨hv,by rw [←h.wl];exact hj⟩
  rw [List.getElem?_append_right hj] at hv
  rcases Nat.eq_zero_or_pos (j-W.length) with hz|hz
  · rw [hz] at hv;simp at hv;exact .inr ⟨by rw [←h.wl];omega,hv.symm⟩
  rw [List.getElem?_eq_none (show [_].length≤_ by show 1≤_;omega)] at hv;cases hv
 have hWk:∀ (j:Nat) (v:List Nat),W[j]?=some v→(W++[w++[n]])[j]?=some v:=fun j v hv=>by
  rw [List.getElem?_append_left (List.getElem?_eq_some_iff.1 hv).1];exact hv
 have hLk:∀ (j:Nat) (y:TNo),L[j]?=some y→(L++[⟨-1,stA b x.b n,false,(k:Int),(n:Int)⟩])[j]?=some y:=fun j y hy=>by
  rw [List.getElem?_append_left (List.getElem?_eq_some_iff.1 hy).1];exact hy
 have hnl:(L++[⟨-1,stA b x.b n,false,(k:Int),(n:Int)⟩])[L.length]?=some (⟨-1,stA b x.b n,false,(k:Int),(n:Int)⟩:TNo):=by rw [List.getElem?_append_right (Nat.le_refl _)];simp
 have hnw:(W++[w++[n]])[L.length]?=some (w++[n]):=by rw [←h.wl,List.getElem?_append_right (Nat.le_refl _)];simp
 have hlen:(w++[n]).length=w.length+1:=by simp
 refine⟨by simp [h.wl],by simp,fun j y hy=>?_,fun i j u v hij hi hj=>?_,fun j u v hv hu=>?_,fun j y u c hy hu hc hj=>?_,fun j y hy hj=>?_,?_⟩
 · rcases hLl j y hy with hy|⟨rfl,rfl⟩
   · obtain⟨u,h1,h2,h3,h4,h5⟩:=h.nd j y hy
     refine⟨u,hWk j u h1,h2,h3,h4,h5.imp id fun ⟨g1,i,c,v,g2,g3,g4,g5,g6,g7⟩=>⟨g1,i,c,v,g2,g3,g4,g5,hWk i v g6,g7⟩⟩
   refine⟨_,hnw,fun q hq=>?_,rfl,?_,.inr ⟨rfl,k,n,w,rfl,hkl,rfl,hn,hWk k w hw,rfl⟩⟩
   · rcases List.mem_append.1 hq with hq|hq
     · exact hok.1 q hq
     rw [List.mem_singleton] at hq;omega
   rw [runA_snoc,←hok.2.2.1]
 · rcases hWl i u hi with ⟨hi,hil⟩|⟨rfl,rfl⟩
   · rcases hWl j v hj with ⟨hj,_⟩|⟨rfl,rfl⟩
     · exact h.mo i j u v hij hi hj
     have:=h.hi i u w hw hi;omega
   rcases hWl j v hj with ⟨hj,hjl⟩|⟨rfl,rfl⟩
   · omega
   exact Nat.le_refl _
 · rcases hWl k v hv with ⟨hv,_⟩|⟨e,_⟩
   · rw [hw] at hv
     cases hv
     rcases hWl j u hu with ⟨hu,_⟩|⟨_,rfl⟩
     · exact h.hi j u w hw hu
     omega
   omega
 · rcases hLl j y hy with hy|⟨rfl,rfl⟩
   · rcases hWl j u hu with ⟨hu,_⟩|⟨e,_⟩
     · by_cases e:j=k∧c=n
       · obtain⟨e1,e2⟩:=e
         rw [e1,hx] at hy
         cases hy
         rw [e1,hw] at hu
         cases hu
         exact⟨L.length,_,_,hnl,hnw,by rw [e2],by omega⟩
       obtain⟨i,z,v,g1,g2,g3,g4⟩:=h.cl j y u c hy hu hc (by omega)
       exact⟨i,z,v,hLk i z g1,hWk i v g2,g3,g4⟩
     have:=(List.getElem?_eq_some_iff.1 hy).1;omega
   omega
 · rcases hLl j y hy with hy|⟨rfl,_⟩
   · exact h.na j y hy hj
   omega
 have e:(L++[(⟨-1,stA b x.b n,false,(k:Int),(n:Int)⟩:TNo)]).tail=L.tail++[(⟨-1,stA b x.b n,false,(k:Int),(n:Int)⟩:TNo)]:=by
  cases hL:L with
  | nil=>have:=h.l0;rw [hL] at this;simp at this
  | cons y l=>rfl
 rw [e,List.map_append,List.nodup_append]
 refine⟨h.no,by simp,fun q hq r hr e2=>?_⟩
 simp at hr
 subst hr;subst e2
 obtain⟨y,hy,hyb⟩:=List.mem_map.1 hq
 obtain⟨j,hj⟩:=List.getElem?_of_mem hy
 rw [List.getElem?_tail] at hj
 obtain⟨u,_,h2,h3,h4,h5⟩:=h.nd (j+1) y hj
 rcases h5 with ⟨h5,_⟩|⟨h5,_⟩
 · omega
 exact hno y (List.mem_of_mem_tail hy) ⟨h5,hyb,h3⟩
theorem DfI.on (h:DfI b k n L W) (hn:9≤n) {x:TNo} (hx:L[k]?=some x) (ha:accI b x.b=false):DfI b (k+1) 0 L W:=by
 obtain⟨w,hw,_⟩:=h.nd k x hx
 refine⟨h.wl,h.l0,h.nd,h.mo,fun j u v hv hu=>?_,fun j y u c hy hu hc hj=>h.cl j y u c hy hu hc (by omega),fun j y hy hj=>?_,h.no⟩
 · have:=h.hi j u w hw hu
   have:=h.mo k (k+1) w v (by omega) hw hv
   omega
 rcases Nat.lt_or_eq_of_le (Nat.le_of_lt_succ hj) with hj|hj
 · exact h.na j y hy hj
 subst hj;rw [hx] at hy;cases hy;exact ha
theorem DfI.path (hA:ShA b) (h:DfI b k 0 L W) (v:List Nat) (hv:inW v) (ha:LA b b.Start v=true):∃ (j:Nat) (u:List Nat),k≤j∧W[j]?=some u∧u.length≤v.length:=by
 have key:∀ m,m≤v.length→(∃ (j:Nat) (u:List Nat),k≤j∧W[j]?=some u∧u.length≤m)∨∃ (j:Nat) (x:TNo) (u:List Nat),j<k∧L[j]?=some x∧W[j]?=some u∧u.length≤m∧x.b=runA b b.Start (v.take m):=by
  intro m
  induction m with
  | zero=>
   intro _
   obtain⟨x,w,h1,h2,h3⟩:=h.at (j:=0) (by have:=h.l0;omega)
   have e:w=[]∧x.b=b.Start:=by
    rcases h3.2.2.2 with ⟨_,_,_,e⟩|⟨_,i,c,u,_,h,_⟩
    · exact⟨e,by rw [h3.2.2.1,e];rfl⟩
    omega
   rcases Nat.lt_or_ge 0 k with hk|hk
   · exact .inr ⟨0,x,w,hk,h1,h2,by rw [e.1];simp,by rw [e.2];simp [runA]⟩
   exact .inl ⟨0,w,hk,h2,by rw [e.1];simp⟩
  | succ m ih=>
   intro hm
   rcases ih (by omega) with ⟨j,u,h1,h2,h3⟩|⟨j,x,u,h1,h2,h3,h4,h5⟩
   · exact .inl ⟨j,u,h1,h2,by omega⟩
   have hc:v[m]?=some v[m]:=List.getElem?_eq_getElem (by omega)
   obtain⟨i,y,u',g1,g2,g3,g4⟩:=h.cl j x u v[m] h2 h3 (hv _ (List.getElem_mem _)) (.inl h1)
   rcases Nat.lt_or_ge i k with hik|hik
   · refine .inr ⟨i,y,u',hik,g1,g2,by omega,?_⟩
     rw [g3,h5,take_at hc,runA_snoc]
   exact .inl ⟨i,u',hik,g2,by omega⟩
 rcases key v.length (Nat.le_refl _) with ⟨j,u,h1,h2,h3⟩|⟨j,x,u,h1,h2,h3,h4,h5⟩
 · exact⟨j,u,h1,h2,h3⟩
 rw [List.take_length] at h5
 have h6:=h.na j x h2 h1
 rw [LA_acc,←h5,h6] at ha
 cases ha
theorem DfI.found (hA:ShA b) (h:DfI b k 0 L W) {x:TNo} {w:List Nat} (hx:L[k]?=some x) (hw:W[k]?=some w) (ha:accI b x.b=true):inW w∧LA b b.Start w=true∧∀ v,inW v→LA b b.Start v=true→w.length≤v.length:=by
 obtain⟨w',hw',hok⟩:=h.nd k x hx
 rw [hw] at hw'
 cases hw'
 refine⟨hok.1,by rw [LA_acc,←hok.2.2.1];exact ha,fun v hv hl=>?_⟩
 obtain⟨j,u,h1,h2,h3⟩:=h.path hA v hv hl
 have:=h.mo k j w u h1 hw h2
 omega
theorem DfI.none (hA:ShA b) (h:DfI b k 0 L W) (hk:L.length≤k):∀ v,inW v→LA b b.Start v=false:=fun v hv=>by
 cases hl:LA b b.Start v with
 | false=>rfl
 | true=>
  obtain⟨j,u,h1,h2,h3⟩:=h.path hA v hv hl
  have:=(List.getElem?_eq_some_iff.1 h2).1
  rw [h.wl] at this
  omega
end
def shortP (b:TAutomaton) (z:List Int×Bool):Prop:=(z.2=true→∃ w:List Nat,z.1.length=w.length∧inW w∧LA b b.Start w=true∧∀ v,inW v→LA b b.Start v=true→w.length≤v.length)∧(z.2=false→∀ v,inW v→LA b b.Start v=false)
end Go.Q
