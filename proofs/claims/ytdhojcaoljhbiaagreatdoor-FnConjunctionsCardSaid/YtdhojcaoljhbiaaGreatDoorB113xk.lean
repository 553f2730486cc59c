import Derived.Test.YtdhojcaoljhbiaaGreatDoorB112xk
import Derived.Test.YtdhojcaoljhbiaaGreatDoorB80xk
import Derived.Test.YtdhojcaoljhbiaaGreatDoorPvxk
set_option linter.unusedVariables false
set_option linter.unusedSimpArgs false
set_option maxHeartbeats 1000000
set_option maxRecDepth 100000
namespace Go.Q
open Go.RowKit Go.D
def okAtom (g:TGraph) (row:List Int) (x:TPathAtom):Bool:=!decide (max x.From x.To=(row.length:Int)-1)||bindOk g row x
theorem okRow_eq (g:TGraph) (q:TConjunction) (row:List Int):okRow g q row=q.Atoms.all (okAtom g row):=rfl
theorem flatMap_few {α:Type} {l:List Nat} {f:Nat→List α} {m:Nat} (h:∀ x∈l,(f x).length≤m):(l.flatMap f).length≤l.length*m:=by
 induction l with
 | nil=>simp
 | cons x l ih=>
  rw [List.flatMap_cons,List.length_append,List.length_cons,Nat.succ_mul]
  have:=h x (by simp)
  have:=ih fun y hy=>h y (by simp [hy])
  omega
theorem walkV_len {n:Nat} (hn:n≤5) (ok:List Int→Bool):∀ (d:Nat) (row:List Int),(walkV n ok d row).length≤5^d
 | 0,row=>by rw [walkV];split<;>simp
 | d+1,row=>by
  rw [walkV]
  split
  · refine Nat.le_trans (flatMap_few fun x _=>walkV_len hn ok d _) ?_
    rw [List.length_range,Nat.pow_succ,Nat.mul_comm]
    exact Nat.mul_le_mul_left _ hn
  simp
def walkTo (n:Nat) (ok:List Int→Bool) (d:Nat) (row:List Int) (x:Nat):List (List Int):=(List.range x).flatMap fun v=>walkV n ok d (row++[((v:Nat):Int)])
theorem walkTo_succ (n:Nat) (ok:List Int→Bool) (d:Nat) (row:List Int) (x:Nat):walkTo n ok d row (x+1)=walkTo n ok d row x++walkV n ok d (row++[((x:Nat):Int)]):=by
 unfold walkTo
 rw [List.range_succ,List.flatMap_append];simp
theorem walkTo_len {n:Nat} (hn:n≤5) (ok:List Int→Bool) (d:Nat) (row:List Int) (x:Nat):(walkTo n ok d row x).length≤x*5^d:=by
 have:=flatMap_few (l:=List.range x) (f:=fun v=>walkV n ok d (row++[((v:Nat):Int)])) fun y _=>walkV_len hn ok d _
 rwa [List.length_range] at this
theorem walkV_end {n:Nat} {ok:List Int→Bool} {d:Nat} {row:List Int} (hd:0<d) (h:ok row=true):walkV n ok d row=walkTo n ok (d-1) row n:=by
 obtain⟨e,rfl⟩:∃ e,d=e+1:=⟨d-1,by omega⟩
 rw [walkV,if_pos h];rfl
theorem pow_step {d:Nat} (hd:0<d):5^d=5*5^(d-1):=by
 obtain⟨e,rfl⟩:∃ e,d=e+1:=⟨d-1,by omega⟩
 rw [Nat.pow_succ,Nat.mul_comm];rfl
end Go.Q
namespace Go.Proofs.YtdhojcaoljhbiaaGreatDoor
open Go.RowKit Go.Q Go.D
theorem specl26Walk (g:TGraph) (q:TConjunction) (hv:validConj q=true) (hn:g.Values.length≤5):∀ (d:Nat) (row:List Int) (out:List (List Int)),row.length+d=q.VariableCount.toNat→out.length+5^d≤100000→
 FnC Tryz.prog 58 [(false,.agg (cConjunction q)),(false,.one (.sl 1 ((relsV g q).map cPairS))),(false,.one (.v (.int .i64 (g.Values.length:Nat)))),(false,.one (.sl 1 (row.map cInt))),(true,.one (.sl 1 (out.map cIntS)))] (.a (.one (.sl 1 ((out++walkV g.Values.length (okRow g q) d row).map cIntS)))):=by
 intro d
 induction d using Nat.strongRecOn with
 | _ d ih=>
 intro row out hd hz
 have hvt:=conj_atoms hv
 refine FnC.walk Tryz.func58 rfl (by kernel_rfl) Tryz.ntmps58 rfl (by rfl) fun w0=>?_
 refine Am (As [0,1,2,3,4] [1200]) ?_
 try simp [cPair,cToken,cEdge,cGraph,cPathAtom,cConjunction] at hlen
 have hrl4:row.length≤4:=(by omega)
 have hp0:0<5^d:=Nat.pow_pos (by omega)
 refine Ae (Ag (B9 U U U (.tm U) (ts:=_) (by rfl)) U ?_);refine Ak ?_;refine By (i:=10) 20001 1 U U ?_;refine Aa (Ac (Ae (Ak ?_)));refine Aa (AW.block (Bj (fun (k:Nat)=>(k≤q.Atoms.length∧∀ j y,j<k→q.Atoms[j]?=some y→okAtom g row y=true)∧True) (fun (k:Nat)=>⟨_,[(11,(true,.a (.one (.t (.v (.int .i64 (k:Nat))))))),(1,_),(2,_),(3,_),(4,_),(5,_)],[(1200,.row 1 (out.map cIntS))]⟩) (fun (k:Nat)=>q.Atoms.length-k) (0) ⟨⟨Nat.zero_le _,fun j y hj=>absurd hj (Nat.not_lt_zero j)⟩,Y⟩ (Ar U ⟨U,U,U,U,U,U,Y⟩ ⟨(by refine congrArg (fun r=>some (R.row 1 r)) ?_;simp [walkTo]),Y⟩) ?_))
 rintro k ⟨hk,he⟩
 refine Ac (Ae (Ab ?_));refine A7 Cl ?_;refine Aq Dl ?_;refine Bc (.t) Tryz.underlying38 ?_;refine AWl.lt ?_;refine Aa (Ai (.tm U) (fun h18=>?_) (fun h18=>?_))
 · try simp at h18
   obtain⟨x,hx⟩:∃ ξ,q.Atoms[k]?=some ξ:=⟨_,List.getElem?_eq_getElem (by omega)⟩
   have hxm:=List.mem_of_getElem? hx
   have hxr:=hvt.2.2 x hxm
   have hrl:(relsV g q)[k]?=some (evalE g x.Expr).1:=by (unfold relsV;rw [List.getElem?_map,hx];rfl)
   refine Aj (Ac (AW.block (Ae (A7 Cl ?_))));refine Aq Dl ?_;refine Ab ?_;refine Ag (An U (.no U) U (.tm U) (.tm U) Tryz.underlying38 ty95 (fun _=>⟨by omega,(by exact Ao hx)⟩)) U ?_;refine Aq ty95 ?_;refine A6 (Bo 12 U U U in95 U U U) U ?_;refine A4 ty95 ?_;refine Aa (Ac (Am (As [1,2,3,4,5,11,12] [1200,12]) ?_))
   refine Bq 28 (nthB [[],[0],[],[2],[0,1,2,3],[],[5],[5,6],[0,1,2,3,4,5,6,7],[0,1,2,3,4,5,6,7,8],[0,1,2,3,4,5,6,7,8,9],[0,1,2,3,4,5,6,7,8,9],[0,1,2,3,4,5,6,7,8,9,10,11],[0,1,2,3,4,5,6,7,8,9,10,11,12],[0,1,2,3,4,5,6,7,8,9],[0,1,2,3,4,5,6,7,8,9],[0,1,2,3,4,5,6,7,8,9,15],[0,1,2,3,4,5,6,7,8,9,14,15,16],[0,1,2,3,4,5,6,7,8,9,14,15,16,17],[0,1,2,3,4,5,6,7,8,9],[0,1,2,3,4,5,6,7,8,9],[0,1,2,3,4,5,6,7,8,9,20],[0,1,2,3,4,5,6,7,8,9,19,20,21],[0,1,2,3,4,5,6,7,8,9,19,20,21,22],[0,1,2,3,4,5,6,7,8,9,14,15,16,17,18,19,20,21,22,23],[0,1,2,3,4,5,6,7,8,9,10,11,12,13,14,15,16,17,18,19,20,21,22,23,24],[0,1,2,3,4,5,6,7,8,9,10,11,12,13,14,15,16,17,18,19,20,21,22,23,24,25],[0,1,2,3,4,5,6,7,8,9,10,11,12,13,14,15,16,17,18,19,20,21,22,23,24,25,26]]) (by kernel_rfl) (by kernel_rfl) (by kernel_rfl) ?_;refine DrawC.s (fun _ hs=>(by exact Av U (.no U) (Af hs U) (hs.tm U) fl95_0)) ?_
   refine DrawC.s (fun _ hs=>(by exact Ax U (.no U) (Af hs U) (hs.tm U) (hs.res _ _ U) ty3 U U)) ?_;refine DrawC.s (fun _ hs=>(by exact Av U (.no U) (Af hs U) (hs.tm U) fl95_1)) ?_;refine DrawC.s (fun _ hs=>(by exact Ax U (.no U) (Af hs U) (hs.tm U) (hs.res _ _ U) ty3 U U)) ?_;refine DrawC.s (fun _ hs=>R_max U (.no U) (Af hs U) (hs.tm U) (hs.tm U)) ?_;refine Ap ?_;refine DrawC.s (fun _ hs=>(by exact C4 U (.no U) (Af hs U) (hs.tm U) (by exact .t) Tryz.underlying34)) ?_;refine DrawC.s (fun _ hs=>Dy U (.no U) (Af hs U) (hs.tm U) (.const U) (fun _=>by omega)) ?_;refine DrawC.s (fun _ hs=>R_eq U (.no U) (Af hs U) (hs.tm U) (hs.tm U)) ?_;refine Ap ?_;refine DrawC.s (fun _ hs=>Az U (by exact hs.y1) (Af hs U) (hs.tm U)) ?_;refine DrawC.s (fun _ hs=>Az U (by exact hs.y1) (Af hs U) (hs.tm U)) ?_
   refine DrawC.s (fun _ hs=>(by exact An U (by exact hs.y1) (Af hs U) (hs.ti U) (hs.ti U) Tryz.underlying83 ty89 (fun hq=>by (try simp at hq);exact⟨by omega,(by exact Ao hrl)⟩))) ?_;refine DrawC.s (fun _ hs=>(by exact Bw U (by exact hs.y1) (Af hs U) (hs.ti U) ty89 U U)) ?_;refine DrawC.s (fun _ hs=>Az U (by exact hs.y1) (Af hs U) (hs.tm U)) ?_;refine DrawC.s (fun _ hs=>(by exact Av U (by exact hs.y1) (Af hs U) (hs.tm U) fl95_0)) ?_;refine DrawC.s (fun _ hs=>(by exact Ax U (by exact hs.y1) (Af hs U) (hs.ti U) (hs.res _ _ U) ty3 U U)) ?_;refine DrawC.s (fun _ hs=>(by exact An U (by exact hs.y1) (Af hs U) (hs.ti U) (hs.ti U) Tryz.underlying34 ty3 (fun hq=>by simp at hq;exact⟨by omega,Ao (atI_get (by omega))⟩))) ?_;refine DrawC.s (fun _ hs=>(by exact Bw U (by exact hs.y1) (Af hs U) (hs.ti U) ty3 U U)) ?_;refine DrawC.s (fun _ hs=>Az U (by exact hs.y1) (Af hs U) (hs.tm U)) ?_
   refine DrawC.s (fun _ hs=>(by exact Av U (by exact hs.y1) (Af hs U) (hs.tm U) fl95_1)) ?_;refine DrawC.s (fun _ hs=>(by exact Ax U (by exact hs.y1) (Af hs U) (hs.ti U) (hs.res _ _ U) ty3 U U)) ?_;refine DrawC.s (fun _ hs=>(by exact An U (by exact hs.y1) (Af hs U) (hs.ti U) (hs.ti U) Tryz.underlying34 ty3 (fun hq=>by simp at hq;exact⟨by omega,Ao (atI_get (by omega))⟩))) ?_;refine DrawC.s (fun _ hs=>(by exact Bw U (by exact hs.y1) (Af hs U) (hs.ti U) ty3 U U)) ?_;refine DrawC.s (fun _ hs=>R_grd (by exact hs.y1) (Af hs U) fun hq=>Bd (ps:=[(0,.tmp 44),(1,.tmp 49)]) U U (Af hs U) Du U U st97 (.cons (.tmp (hs.slots _ _ U) (by exact fun _=>hq)) U U fp97_0 (.cons (.tmp (hs.slots _ _ U) (by exact fun _=>hq)) U U fp97_1 .nil)) U) ?_
   refine DrawC.s (fun _ hs=>Dw U (by exact hs.y1) (Af hs U) (.cons (hs.ti U) (readA_sup hs U) (.cons (hs.ti U) (readA_sup hs U) .nil)) fun hq=>FnT.fr (specl15Has (evalE g x.Expr).1 (bindP row x))) ?_;refine DrawC.s (fun _ hs=>Cy U (by exact hs.y1) (Af hs U) (hs.ti U)) ?_;refine DrawC.s (fun _ hs=>R_and U (.no U) (Af hs U) (hs.tm U) (hs.ti U)) ?_;refine Bi U U ?_;refine Aa (Ai (.tm U) (fun h53=>?_) (fun h53=>?_))
   · skip
     skip
     have hno:okAtom g row x=false:=(by unfold okAtom bindOk;simpa using h53)
     refine Ac (Am (As [1,2,3,4,5,11,12] [1200,12]) ?_);refine Ad (Ab ?_);refine Ah ?_;refine Aa (Al (Res.one U (.tmp U .nil) U ?_))
     rw [show walkV g.Values.length (okRow g q) d row=[] by (have hf:okRow g q row=false:=(by rw [okRow_eq,List.all_eq_false];exact⟨x,hxm,by rw [hno];simp⟩);cases d<;>simp [walkV,hf])];simp;rfl
   skip
   skip
   have hyes:okAtom g row x=true:=(by unfold okAtom bindOk;simp only [Bool.or_eq_true,Bool.not_eq_true',decide_eq_false_iff_not,decide_eq_true_eq];exact Classical.or_iff_not_imp_left.2 fun hm=>by simp at h53;exact h53 (Classical.not_not.1 hm))
   refine Aj (Am (As [1,2,3,4,5,11,12] [1200,12]) ?_);refine Ad (Ab ?_);refine A8 ?_;refine Ah ?_;refine Aa ?_
   repeat (with_reducible refine Au ?_)
   refine Round1.next (k+1) ⟨⟨by omega,each_succ hk.2 hx hyes⟩,Y⟩ (by omega) (Ar rfl ⟨rfl,rfl,rfl,rfl,rfl,rfl,Y⟩ ⟨(by rfl),Y⟩)
 try simp at h18
 have hall:okRow g q row=true:=(by rw [okRow_eq,List.all_eq_true];intro y hy;obtain⟨j,hj⟩:=List.getElem?_of_mem hy;exact hk.2 j y (by have:=(List.getElem?_eq_some_iff.1 hj).1;omega) hj)
 refine Ba (Ac (Ae (Ab ?_)));refine Bc (.t) Tryz.underlying34 ?_;refine A7 C7 ?_;refine Aq ty3 ?_;refine AWl.eq ?_;refine Aa (Ai (.tm U) (fun h59=>?_) (fun h59=>?_))
 · try simp at h59
   have hd0:d=0:=(by omega)
   refine Ac (Am (As [1,2,3,4,5,11] [1200]) ?_);refine Ad (Ab ?_);refine A6 (Ce 61 U U U Tryz.underlying34 ty3 U) U ?_;refine Ab ?_;refine Bu (B7 U U U (.tm U) U (.tm U) (by exact .t) (by exact isV_map (fun _=>rfl) _) Tryz.underlying34 in3 U (by (simp [chunk];omega)) (by (unfold maxLen;simp [chunk];omega))) U ?_;refine Bt (As [1,2,3,4,5,11,60,63] [1200,61]) ?_;refine Bh (Ch (xs:=[.tmp 63]) 64 U U U (.cons (.tm U) U U .nil) Tryz.underlying44 in34 U U U U) U ?_;refine Ct (Cx U U U (.tm U) U (.tm U) U U Tryz.underlying44 in34 U (by (simp [chunk];omega)) (by (unfold maxLen;simp [chunk];omega))) U ?_;refine Bt (As [1,2,3,4,5,11,65] [1200]) ?_;refine Ah ?_;refine Aa (Al (Res.one U (.tmp U .nil) U ?_));subst hd0;rw [walkV,if_pos hall];refine congrArg (fun r=>[V0.one (T.sl 1 r)]) ?_;simp [chunk,cIntS]
 try simp at h59
 have hdp:0<d:=(by omega)
 have hpw:=pow_step hdp
 refine Aj (Ac (Ac (Am (As [1,2,3,4,5,11] [1200]) ?_)));refine Ad (Ak ?_);refine Aa (AW.block (Bj (fun (x2:Nat)=>(x2≤g.Values.length)∧True) (fun (x2:Nat)=>⟨_,[(13,(true,.a (.one (.t (.v (.int .i64 (x2:Nat))))))),(4,(true,.a (.one (.rf 1200)))),(1,_),(2,_),(3,_),(5,_)],[(1200,.row 1 ((out++walkTo g.Values.length (okRow g q) (d-1) row x2).map cIntS))]⟩) (fun (x2:Nat)=>g.Values.length-x2) (0) ⟨Nat.zero_le _,Y⟩ (Ar U ⟨U,U,U,U,U,U,Y⟩ ⟨(by refine congrArg (fun r=>some (R.row 1 r)) ?_;simp [walkTo]),Y⟩) ?_))
 rintro x2 ⟨hk1,he1⟩
 refine Ac (Ae (Ab ?_));refine Ab ?_;refine AWl.lt ?_;refine Aa (Ai (.tm U) (fun h68=>?_) (fun h68=>?_))
 · try simp at h68
   have hwl:=walkTo_len hn (okRow g q) (d-1) row x2
   have hxm2:x2*5^(d-1)+5^(d-1)≤5*5^(d-1):=(by rw [←Nat.succ_mul];exact Nat.mul_le_mul_right _ (by omega))
   refine Aj (Ac (AW.block (Am (As [1,2,3,4,5,13,66,67,68] [1200]) ?_)));refine AW.drawK 10 (nthB [[],[],[],[],[],[3,4],[],[6],[3,4,5,6,7],[]]) [(5,74),(8,74)] (by kernel_rfl) (by kernel_rfl) (by kernel_rfl) ?_;refine DrawK.step (LocK.of U fun σ' hs=>(by exact Bw U (.no U) (Af hs U) (hs.tm U) Cc U U)) ?_;refine DrawK.step (LocK.of U fun σ' hs=>Az U (.no U) (Af hs U) (hs.tm U)) ?_;refine DrawK.step (LocK.of U fun σ' hs=>Az U (.no U) (Af hs U) (hs.tm U)) ?_;refine DrawK.step (LocK.of1 U fun σ' hs hf=>Ce 74 U U (Af hs U) Tryz.underlying34 ty3 hf) ?_;refine DrawK.step (LocK.of U fun σ' hs=>Az U (.no U) (Af hs U) (hs.tm U)) ?_;refine DrawK.step (LocK.ofc U U fun σ' hs=>B7 (id:=74) U U (Af hs U) (hs.tm U) (hs.res _ _ U) (hs.tm U) (by exact .t) (by exact isV_map (fun _=>rfl) _) Tryz.underlying34 in3 U (by (simp [chunk];omega)) (by (unfold maxLen;simp [chunk];omega))) ?_
   refine DrawK.step (LocK.of U fun σ' hs=>Az U (.no U) (Af hs U) (hs.tm U)) ?_;refine DrawK.step (LocK.of U fun σ' hs=>Di (xs:=[.tmp 77]) (rows:=[cInt (x2:Int)]) U U (Af hs U) (.cons (hs.tm U) U U .nil) Tryz.underlying34 in3 U U (U)) ?_;refine DrawK.step (LocK.ofc U U fun σ' hs=>B7 (id:=74) U U (Af hs U) (hs.tm U) (hs.res _ _ U) (hs.tm U) (by exact .t) (by rfl) Tryz.underlying34 in3 U (by (simp [chunk];omega)) (by (unfold maxLen;simp [chunk];omega))) ?_;refine DrawK.step (LocK.of U fun σ' hs=>Az U (.no U) (Af hs U) (hs.tm U)) ?_;refine DrawK.fin U U U ?_;refine Bt (As [1,2,3,4,5,13,68,71,72,73,79,80] [1200,74]) ?_;refine Bt (Le.frzRe 74 79 ((row++[((x2:Nat):Int)]).map cInt) (by simp [cInt]) U U) ?_;apply Cu
   case ho=>
    apply Da (xo:=.tmp 80) 1200 (ih (d-1) (by omega) (row++[((x2:Nat):Int)]) (out++walkTo g.Values.length (okRow g q) (d-1) row x2) (by simp;omega) (by rw [List.length_append];omega)) rfl rfl rfl (.tm rfl)
    case ha=>rfl
    case hargs=>exact (ArgC.agg (.tm rfl) (ArgC.one (.tm rfl) (ArgC.one (.tm rfl) (ArgC.one (.tm rfl) (ArgC.own .nil)))))
    all_goals rfl
   case hd=>rfl
   refine Ah ?_;refine Aa (Am (As [1,2,3,4,5,13] [1200]) ?_);refine Ad (Ab ?_);refine A8 ?_;refine Ah ?_;refine Aa ?_
   repeat (with_reducible refine Au ?_)
   refine Round1.next (x2+1) ⟨by omega,Y⟩ (by omega) (Ar rfl ⟨rfl,rfl,rfl,rfl,rfl,rfl,Y⟩ ⟨(by (refine congrArg (fun r=>some (R.row 1 r)) ?_;rw [walkTo_succ,List.append_assoc])),Y⟩)
 try simp at h68
 refine Ba (Ae (Ab ?_));refine Ah ?_;refine Aa (Al (Res.one U (.tmp U .nil) U ?_))
 rw [walkV_end hdp hall,show g.Values.length=x2 by omega];rfl
theorem specEvaluateConjunction (g:TGraph) (q:TConjunction) (hz:q.Atoms.length≤1048576):FnT Tryz.prog 17 [.agg (cGraph g),.agg (cConjunction q)] (.a (.one (.sl 1 ((evalC g q).map cIntS)))):=by
 refine Ay Tryz.func17 U (by kernel_rfl) Tryz.ntmps17 U fun hlen w0=>?_
 try simp [cPair,cToken,cEdge,cGraph,cPathAtom,cConjunction] at hlen
 refine Ae (Ag (B9 U U U (.tm U) (ts:=_) (by rfl)) U ?_);refine Ag (B9 U U U (.tm U) (ts:=_) (by rfl)) U ?_;refine Ak ?_;refine By (i:=4) 20001 1 U U ?_;refine Aa (Ae (A6 (Ce 8 U U U Tryz.underlying44 Ca U) U ?_));refine Ah ?_;refine Aa (Ac (Ae (Aq Bz ?_)));refine Bl (specIsValidGraph g) ?_;refine C1 ?_;refine Ab ?_;refine Ag (Bw U (by exact .not1 U U U U) U (.tmp U (by exact fun _=>rfl)) Cc U U) U ?_;refine Ag (A3 (FnT.fr (specIsValidConjunction q)) U (by exact .not1 U U U U) U (.cons (.tmp U (by exact id)) U .nil)) U ?_;refine Ag (Cy U (by exact .not1 U U U U) U (.tmp U (by exact id))) U ?_;refine Cf ?_;refine Aa (Ai (.tm U) (fun h16=>?_) (fun h16=>?_))
 · try simp at h16
   have hno:evalC g q=[]:=by (unfold evalC;rw [if_neg (by intro h;simp only [Bool.and_eq_true] at h;simp [h.1,h.2] at h16)])
   refine Ac (Am (As [0,1,2,3,4,5] [20001,8]) ?_);refine Ad (Ab ?_);refine Ah ?_;refine Aa (Al (Res.one U (.tmp U .nil) U ?_))
   rw [hno];rfl
 try simp at h16
 have hg:validG g=true:=by (first|exact h16.1|(simp at h16;exact h16.1))
 have hv:validConj q=true:=by (first|exact h16.2|(simp at h16;exact h16.2))
 have hG:=validG_len hg
 have hvt:=conj_atoms hv
 refine Aj (Ac (Am (As [0,1,2,3,4,5] [20001,8]) ?_));refine Ad (A6 (Ce 18 U U U Tryz.underlying83 ty89 U) U ?_);refine Ah ?_;refine Aa (Ac (Ae (Ak ?_)));refine Aa (AW.block (Bj (fun (k:Nat)=>(k≤q.Atoms.length)∧True) (fun (k:Nat)=>⟨_,[(7,(true,.a (.one (.t (.v (.int .i64 (k:Nat))))))),(6,(true,.a (.one (.rf 18)))),(2,_),(3,_),(4,_),(5,_)],[(8,.row 1 []),(18,.row 1 (((q.Atoms.take k).map fun x=>(evalE g x.Expr).1).map cPairS))]⟩) (fun (k:Nat)=>q.Atoms.length-k) (0) ⟨Nat.zero_le _,Y⟩ Bm ?_))
 rintro k ⟨hk,he⟩
 refine Ac (Ae (Ab ?_));refine A7 Cl ?_;refine Aq Dl ?_;refine Bc (.t) Tryz.underlying38 ?_;refine AWl.lt ?_;refine Aa (Ai (.tm U) (fun h23=>?_) (fun h23=>?_))
 · try simp at h23
   obtain⟨x,hx⟩:∃ ξ,q.Atoms[k]?=some ξ:=⟨_,List.getElem?_eq_getElem (by omega)⟩
   refine Aj (Ac (AW.block (AW.dagn 13 45 [[],[0],[1],[2],[4],[0,1],[0,2],[0,4],[1,2],[1,4],[2,3],[2,4],[0,1,2],[0,1,4],[0,2,3],[0,2,4],[1,2,3],[1,2,4],[2,3,4],[0,1,2,3],[0,1,2,4],[0,2,3,4],[1,2,3,4],[2,3,4,5],[0,1,2,3,4],[0,2,3,4,5],[1,2,3,4,5],[2,3,4,5,6],[0,1,2,3,4,5],[0,2,3,4,5,6],[1,2,3,4,5,6],[2,3,4,5,6,7],[0,1,2,3,4,5,6],[0,2,3,4,5,6,7],[1,2,3,4,5,6,7],[2,3,4,5,6,7,8],[0,1,2,3,4,5,6,7],[0,2,3,4,5,6,7,8],[1,2,3,4,5,6,7,8],[0,1,2,3,4,5,6,7,8],[1,2,3,4,5,6,7,8,9],[0,1,2,3,4,5,6,7,8,9],[1,2,3,4,5,6,7,8,9,10],[0,1,2,3,4,5,6,7,8,9,10],[0,1,2,3,4,5,6,7,8,9,10,11],[0,1,2,3,4,5,6,7,8,9,10,11,12]] [(0,0,1),(0,1,2),(0,2,3),(0,4,4),(1,1,5),(2,0,5),(1,2,6),(3,0,6),(1,4,7),(4,0,7),(2,2,8),(3,1,8),(2,4,9),(4,1,9),(3,3,10),(3,4,11),(4,2,11),(5,2,12),(8,0,12),(6,1,12),(5,4,13),(9,0,13),(7,1,13),(6,3,14),(10,0,14),(6,4,15),(11,0,15),(7,2,15),(8,3,16),(10,1,16),(8,4,17),(11,1,17),(9,2,17),(10,4,18),(11,3,18),(12,3,19),(16,0,19),(14,1,19),(12,4,20),(17,0,20),(15,1,20),(13,2,20),(14,4,21),(18,0,21),(15,3,21),(16,4,22),(18,1,22),(17,3,22),(18,5,23),(19,4,24),(22,0,24),(21,1,24),(20,3,24),(21,5,25),(23,0,25),(22,5,26),(23,1,26),(23,6,27),(24,5,28),(26,0,28),(25,1,28),(25,6,29),(27,0,29),(26,6,30),(27,1,30),(27,7,31),(28,6,32),(30,0,32),(29,1,32),(29,7,33),(31,0,33),(30,7,34),(31,1,34),(31,8,35),(32,7,36),(34,0,36),(33,1,36),(33,8,37),(35,0,37),(34,8,38),(35,1,38),(36,8,39),(38,0,39),(37,1,39),(38,9,40),(39,9,41),(40,0,41),(40,10,42),(41,10,43),(42,0,43),(43,11,44),(44,12,45)] (by kernel_rfl) (by kernel_rfl) (by kernel_rfl) ?_)))
   apply Bv (i:=0);rfl;rfl;rfl
   · intro w9;refine Ab ?_;exact Bg [2,3,4,5,6,7,23,26] [8,18]
   apply Bv (i:=1);rfl;rfl;rfl
   · intro w9;refine Aq Bz ?_;exact Bg [2,3,4,5,6,7,23,27] [8,18]
   apply Bv (i:=2);rfl;rfl;rfl
   · intro w9;refine A7 Cl ?_;exact Bg [2,3,4,5,6,7,23,28] [8,18]
   apply Bv (i:=4);rfl;rfl;rfl
   · intro w9;refine Ab ?_;exact Bg [2,3,4,5,6,7,23,30] [8,18]
   apply Bv (i:=1);rfl;rfl;rfl
   · intro w9;refine Aq Bz ?_;exact Bg [2,3,4,5,6,7,23,26,27] [8,18]
   apply Bs (i:=0);rfl;rfl;rfl
   · intro w9;refine Ab ?_;exact Aa Bm
   apply Bv (i:=2);rfl;rfl;rfl
   · intro w9;refine A7 Cl ?_;exact Bg [2,3,4,5,6,7,23,26,28] [8,18]
   apply Bs (i:=0);rfl;rfl;rfl
   · intro w9;refine Ab ?_;exact Aa Bm
   apply Bv (i:=4);rfl;rfl;rfl
   · intro w9;refine Ab ?_;exact Bg [2,3,4,5,6,7,23,26,30] [8,18]
   apply Bs (i:=0);rfl;rfl;rfl
   · intro w9;refine Ab ?_;exact Aa Bm
   apply Bv (i:=2);rfl;rfl;rfl
   · intro w9;refine A7 Cl ?_;exact Bg [2,3,4,5,6,7,23,27,28] [8,18]
   apply Bs (i:=1);rfl;rfl;rfl
   · intro w9;refine Aq Bz ?_;exact Aa Bm
   apply Bv (i:=4);rfl;rfl;rfl
   · intro w9;refine Ab ?_;exact Bg [2,3,4,5,6,7,23,27,30] [8,18]
   apply Bs (i:=1);rfl;rfl;rfl
   · intro w9;refine Aq Bz ?_;exact Aa Bm
   apply Bv (i:=3);rfl;rfl;rfl
   · intro w9;refine Aq Dl ?_;exact Bg [2,3,4,5,6,7,23,29] [8,18]
   apply Bv (i:=4);rfl;rfl;rfl
   · intro w9;refine Ab ?_;exact Bg [2,3,4,5,6,7,23,28,30] [8,18]
   apply Bs (i:=2);rfl;rfl;rfl
   · intro w9;refine A7 Cl ?_;exact Aa Bm
   apply Bv (i:=2);rfl;rfl;rfl
   · intro w9;refine A7 Cl ?_;exact Bg [2,3,4,5,6,7,23,26,27,28] [8,18]
   apply Bs (i:=0);rfl;rfl;rfl
   · intro w9;refine Ab ?_;exact Aa Bm
   apply Bs (i:=1);rfl;rfl;rfl
   · intro w9;refine Aq Bz ?_;exact Aa Bm
   apply Bv (i:=4);rfl;rfl;rfl
   · intro w9;refine Ab ?_;exact Bg [2,3,4,5,6,7,23,26,27,30] [8,18]
   apply Bs (i:=0);rfl;rfl;rfl
   · intro w9;refine Ab ?_;exact Aa Bm
   apply Bs (i:=1);rfl;rfl;rfl
   · intro w9;refine Aq Bz ?_;exact Aa Bm
   apply Bv (i:=3);rfl;rfl;rfl
   · intro w9;refine Aq Dl ?_;exact Bg [2,3,4,5,6,7,23,26,29] [8,18]
   apply Bs (i:=0);rfl;rfl;rfl
   · intro w9;refine Ab ?_;exact Aa Bm
   apply Bv (i:=4);rfl;rfl;rfl
   · intro w9;refine Ab ?_;exact Bg [2,3,4,5,6,7,23,26,28,30] [8,18]
   apply Bs (i:=0);rfl;rfl;rfl
   · intro w9;refine Ab ?_;exact Aa Bm
   apply Bs (i:=2);rfl;rfl;rfl
   · intro w9;refine A7 Cl ?_;exact Aa Bm
   apply Bv (i:=3);rfl;rfl;rfl
   · intro w9;refine Aq Dl ?_;exact Bg [2,3,4,5,6,7,23,27,29] [8,18]
   apply Bs (i:=1);rfl;rfl;rfl
   · intro w9;refine Aq Bz ?_;exact Aa Bm
   apply Bv (i:=4);rfl;rfl;rfl
   · intro w9;refine Ab ?_;exact Bg [2,3,4,5,6,7,23,27,28,30] [8,18]
   apply Bs (i:=1);rfl;rfl;rfl
   · intro w9;refine Aq Bz ?_;exact Aa Bm
   apply Bs (i:=2);rfl;rfl;rfl
   · intro w9;refine A7 Cl ?_;exact Aa Bm
   apply Bv (i:=4);rfl;rfl;rfl
   · intro w9;refine Ab ?_;exact Bg [2,3,4,5,6,7,23,29,30] [8,18]
   apply Bs (i:=3);rfl;rfl;rfl
   · intro w9;refine Aq Dl ?_;exact Aa Bm
   apply Bv (i:=3);rfl;rfl;rfl
   · intro w9;refine Aq Dl ?_;exact Bg [2,3,4,5,6,7,23,26,27,29] [8,18]
   apply Bs (i:=0);rfl;rfl;rfl
   · intro w9;refine Ab ?_;exact Aa Bm
   apply Bs (i:=1);rfl;rfl;rfl
   · intro w9;refine Aq Bz ?_;exact Aa Bm
   apply Bv (i:=4);rfl;rfl;rfl
   · intro w9;refine Ab ?_;exact Bg [2,3,4,5,6,7,23,26,27,28,30] [8,18]
   apply Bs (i:=0);rfl;rfl;rfl
   · intro w9;refine Ab ?_;exact Aa Bm
   apply Bs (i:=1);rfl;rfl;rfl
   · intro w9;refine Aq Bz ?_;exact Aa Bm
   apply Bs (i:=2);rfl;rfl;rfl
   · intro w9;refine A7 Cl ?_;exact Aa Bm
   apply Bv (i:=4);rfl;rfl;rfl
   · intro w9;refine Ab ?_;exact Bg [2,3,4,5,6,7,23,26,29,30] [8,18]
   apply Bs (i:=0);rfl;rfl;rfl
   · intro w9;refine Ab ?_;exact Aa Bm
   apply Bs (i:=3);rfl;rfl;rfl
   · intro w9;refine Aq Dl ?_;exact Aa Bm
   apply Bv (i:=4);rfl;rfl;rfl
   · intro w9;refine Ab ?_;exact Bg [2,3,4,5,6,7,23,27,29,30] [8,18]
   apply Bs (i:=1);rfl;rfl;rfl
   · intro w9;refine Aq Bz ?_;exact Aa Bm
   apply Bs (i:=3);rfl;rfl;rfl
   · intro w9;refine Aq Dl ?_;exact Aa Bm
   apply Bv (i:=5);rfl;rfl;rfl
   · intro w9;refine Ag (An U (.no U) U (.tm U) (.tm U) Tryz.underlying38 ty95 (fun _=>⟨by omega,(Ao hx)⟩)) U ?_;exact Bg [2,3,4,5,6,7,23,31] [8,18]
   apply Bv (i:=4);rfl;rfl;rfl
   · intro w9;refine Ab ?_;exact Bg [2,3,4,5,6,7,23,26,27,29,30] [8,18]
   apply Bs (i:=0);rfl;rfl;rfl
   · intro w9;refine Ab ?_;exact Aa Bm
   apply Bs (i:=1);rfl;rfl;rfl
   · intro w9;refine Aq Bz ?_;exact Aa Bm
   apply Bs (i:=3);rfl;rfl;rfl
   · intro w9;refine Aq Dl ?_;exact Aa Bm
   apply Bv (i:=5);rfl;rfl;rfl
   · intro w9;refine Ag (An U (.no U) U (.tm U) (.tm U) Tryz.underlying38 ty95 (fun _=>⟨by omega,(Ao hx)⟩)) U ?_;exact Bg [2,3,4,5,6,7,23,26,31] [8,18]
   apply Bs (i:=0);rfl;rfl;rfl
   · intro w9;refine Ab ?_;exact Aa Bm
   apply Bv (i:=5);rfl;rfl;rfl
   · intro w9;refine Ag (An U (.no U) U (.tm U) (.tm U) Tryz.underlying38 ty95 (fun _=>⟨by omega,(Ao hx)⟩)) U ?_;exact Bg [2,3,4,5,6,7,23,27,31] [8,18]
   apply Bs (i:=1);rfl;rfl;rfl
   · intro w9;refine Aq Bz ?_;exact Aa Bm
   apply Bv (i:=6);rfl;rfl;rfl
   · intro w9;refine A7 fl95_2 ?_;exact Bg [2,3,4,5,6,7,23,32] [8,18]
   apply Bv (i:=5);rfl;rfl;rfl
   · intro w9;refine Ag (An U (.no U) U (.tm U) (.tm U) Tryz.underlying38 ty95 (fun _=>⟨by omega,(Ao hx)⟩)) U ?_;exact Bg [2,3,4,5,6,7,23,26,27,31] [8,18]
   apply Bs (i:=0);rfl;rfl;rfl
   · intro w9;refine Ab ?_;exact Aa Bm
   apply Bs (i:=1);rfl;rfl;rfl
   · intro w9;refine Aq Bz ?_;exact Aa Bm
   apply Bv (i:=6);rfl;rfl;rfl
   · intro w9;refine A7 fl95_2 ?_;exact Bg [2,3,4,5,6,7,23,26,32] [8,18]
   apply Bs (i:=0);rfl;rfl;rfl
   · intro w9;refine Ab ?_;exact Aa Bm
   apply Bv (i:=6);rfl;rfl;rfl
   · intro w9;refine A7 fl95_2 ?_;exact Bg [2,3,4,5,6,7,23,27,32] [8,18]
   apply Bs (i:=1);rfl;rfl;rfl
   · intro w9;refine Aq Bz ?_;exact Aa Bm
   apply Bv (i:=7);rfl;rfl;rfl
   · intro w9;refine A7 Cr ?_;exact Bg [2,3,4,5,6,7,23,33] [8,18]
   apply Bv (i:=6);rfl;rfl;rfl
   · intro w9;refine A7 fl95_2 ?_;exact Bg [2,3,4,5,6,7,23,26,27,32] [8,18]
   apply Bs (i:=0);rfl;rfl;rfl
   · intro w9;refine Ab ?_;exact Aa Bm
   apply Bs (i:=1);rfl;rfl;rfl
   · intro w9;refine Aq Bz ?_;exact Aa Bm
   apply Bv (i:=7);rfl;rfl;rfl
   · intro w9;refine A7 Cr ?_;exact Bg [2,3,4,5,6,7,23,26,33] [8,18]
   apply Bs (i:=0);rfl;rfl;rfl
   · intro w9;refine Ab ?_;exact Aa Bm
   apply Bv (i:=7);rfl;rfl;rfl
   · intro w9;refine A7 Cr ?_;exact Bg [2,3,4,5,6,7,23,27,33] [8,18]
   apply Bs (i:=1);rfl;rfl;rfl
   · intro w9;refine Aq Bz ?_;exact Aa Bm
   apply Bv (i:=8);rfl;rfl;rfl
   · intro w9;refine Aq Dq ?_;exact Bg [2,3,4,5,6,7,23,34] [8,18]
   apply Bv (i:=7);rfl;rfl;rfl
   · intro w9;refine A7 Cr ?_;exact Bg [2,3,4,5,6,7,23,26,27,33] [8,18]
   apply Bs (i:=0);rfl;rfl;rfl
   · intro w9;refine Ab ?_;exact Aa Bm
   apply Bs (i:=1);rfl;rfl;rfl
   · intro w9;refine Aq Bz ?_;exact Aa Bm
   apply Bv (i:=8);rfl;rfl;rfl
   · intro w9;refine Aq Dq ?_;exact Bg [2,3,4,5,6,7,23,26,34] [8,18]
   apply Bs (i:=0);rfl;rfl;rfl
   · intro w9;refine Ab ?_;exact Aa Bm
   apply Bv (i:=8);rfl;rfl;rfl
   · intro w9;refine Aq Dq ?_;exact Bg [2,3,4,5,6,7,23,27,34] [8,18]
   apply Bs (i:=1);rfl;rfl;rfl
   · intro w9;refine Aq Bz ?_;exact Aa Bm
   apply Bv (i:=8);rfl;rfl;rfl
   · intro w9;refine Aq Dq ?_;exact Bg [2,3,4,5,6,7,23,26,27,34] [8,18]
   apply Bs (i:=0);rfl;rfl;rfl
   · intro w9;refine Ab ?_;exact Aa Bm
   apply Bs (i:=1);rfl;rfl;rfl
   · intro w9;refine Aq Bz ?_;exact Aa Bm
   apply Bv (i:=9);rfl;rfl;rfl
   · intro w9;refine B8 (Cd 3500 (specl16Eval g hg x.Expr (hvt.2.2 x (List.mem_of_getElem? hx)).2) U U U (.cons (.tm U) U (.cons (.tm U) U .nil)) U U) U ?_;exact Bg [2,3,4,5,6,7,23,35] [8,18,3500]
   apply Bv (i:=9);rfl;rfl;rfl
   · intro w9;refine B8 (Cd 3500 (specl16Eval g hg x.Expr (hvt.2.2 x (List.mem_of_getElem? hx)).2) U U U (.cons (.tm U) U (.cons (.tm U) U .nil)) U U) U ?_;exact Bg [2,3,4,5,6,7,23,26,35] [8,18,3500]
   apply Bs (i:=0);rfl;rfl;rfl
   · intro w9;refine Ab ?_;exact Aa Bm
   apply Bv (i:=10);rfl;rfl;rfl
   · intro w9;refine Bh (Ch (xs:=[.tmp 35]) 36 U U U (.cons (.tm U) U U .nil) Tryz.underlying83 in89 U U U U) U ?_;exact Bg [2,3,4,5,6,7,23,36] [8,18,36]
   apply Bv (i:=10);rfl;rfl;rfl
   · intro w9;refine Bh (Ch (xs:=[.tmp 35]) 36 U U U (.cons (.tm U) U U .nil) Tryz.underlying83 in89 U U U U) U ?_;exact Bg [2,3,4,5,6,7,23,26,36] [8,18,36]
   apply Bs (i:=0);rfl;rfl;rfl
   · intro w9;refine Ab ?_;exact Aa Bm
   apply Bv (i:=11);rfl;rfl;rfl
   · intro w9;refine Ct (Cx U U U (.tm U) U (.tm U) U U Tryz.underlying83 in89 U (by (simp [chunk];omega)) (by (unfold maxLen;simp [chunk];omega))) U ?_;exact Bg [2,3,4,5,6,7,23,37] [8,18]
   apply Bv (i:=12);rfl;rfl;rfl
   · intro w9;refine Ah ?_;exact Bg [2,3,4,5,6,7,23] [8,18]
   refine Dag.fin (k:=45) U ?_;refine Aa (Ad (Ab ?_));refine A8 ?_;refine Ah ?_;refine Aa ?_
   repeat (with_reducible refine Au ?_)
   refine Round1.next (k+1) ⟨by omega,Y⟩ (by omega) (Ar rfl ⟨rfl,rfl,rfl,rfl,rfl,rfl,Y⟩ ⟨(by rfl),(by refine congrArg (fun r=>some (R.row 1 r)) ?_;rw [take_at hx];simp [cPairS,chunk];done),Y⟩)
 try simp at h23
 refine Ba (Ac (Am (σ':=⟨_,[(2,_),(3,_),(4,_),(5,_),(6,_),(7,_)],[(8,_),(18,.row 1 ((relsV g q).map cPairS))]⟩) (Ar U ⟨U,U,U,U,U,U,Y⟩ ⟨U,(by refine congrArg (fun r=>some (R.row 1 r)) ?_;unfold relsV;rw [List.take_of_length_le (by omega)]),Y⟩) ?_));refine Ad (Aq Cc ?_);refine Ab ?_;refine Bt (Le.frzR 18 39 U U) ?_;refine A7 Cv ?_;refine Aq Ca ?_;refine Bc (.t) Tryz.underlying34 ?_;refine A6 (Ce 43 U U U Tryz.underlying34 ty3 U) U ?_;refine Bt (Le.frzR 43 43 U U) ?_;refine Ab ?_;apply Cu
 case ho=>
  apply Da (xo:=.tmp 44) 4500 (specl26Walk g q hv (by omega) q.VariableCount.toNat [] [] (by simp) (by have:=Nat.pow_le_pow_right (show 5>0 by omega) (show q.VariableCount.toNat≤4 by omega);simp;omega)) rfl rfl rfl (.tm rfl)
  case ha=>rfl
  case hargs=>exact (ArgC.agg (.tm rfl) (ArgC.one (.tm rfl) (ArgC.one (.tm rfl) (ArgC.one (.tm rfl) (ArgC.own .nil)))))
  all_goals rfl
 case hd=>rfl
 refine Ah ?_;refine Aa (Al (Res.one U (.tmp U .nil) U ?_))
 rw [walkV_evalC g q hv];unfold evalC;rw [if_pos (by rw [hg,hv];rfl)];simp;rfl
end Go.Proofs.YtdhojcaoljhbiaaGreatDoor
