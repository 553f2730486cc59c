import Derived.Test.YtdhojcaoljhbiaaGreatB172xs
import Derived.Test.YtdhojcaoljhbiaaGreatAbsIxs
set_option linter.unusedVariables false
set_option linter.unusedSimpArgs false
set_option maxRecDepth 100000
set_option maxHeartbeats 1000000
set_option maxRecDepth 100000
namespace Go.Q
open Go.RowKit Go.D
def minP (a:TAutomaton) (z:TAutomaton):Prop:=CanA z∧∀ w,inW w→LA z 0 w=LA a a.Start w
def nothA:TAutomaton:=⟨0,[false],[[-1,-1,-1,-1,-1,-1,-1,-1,-1]]⟩
theorem findA {l:List Int} {v:Int}:∀ k:Nat,(findI (fun x=>decide (v=x)) l k=-1∧v∉l)∨∃ j:Nat,findI (fun x=>decide (v=x)) l k=((k+j:Nat):Int)∧l[j]?=some v:=by
 induction l with
 | nil=>exact fun k=>.inl ⟨rfl,by simp⟩
 | cons x l ih=>
  intro k
  rw [findI]
  split
  · rename_i h
    rw [decide_eq_true_eq] at h
    exact .inr ⟨0,by simp,by rw [h];rfl⟩
  rename_i h
  rw [decide_eq_true_eq] at h
  rcases ih (k+1) with ⟨h1,h2⟩|⟨j,h1,h2⟩
  · exact .inl ⟨h1,by simp [h,h2]⟩
  exact .inr ⟨j+1,by rw [h1];omega,by rw [List.getElem?_cons_succ];exact h2⟩
section
variable {a:TAutomaton} {lv:List Bool} {c:List Int} {i k r:Nat} {O:List Int} {Rl:List Nat} {X:List Bool} {Yv:List (List Int)} {row:List Int}
theorem NumI.same (hR:Rl[i]?=some r) {q:Nat} (hq:Rl[i]?=some q):q=r:=by rw [hR] at hq;exact (Option.some.inj hq).symm
theorem NumI.pushN (h:NumI a lv c i O Rl X Yv row) (hi:i<O.length) (hw:row.length=k) (hk:k<9) (hR:Rl[i]?=some r) (h0:0≤nxA a r k) (hl:gB lv (nxA a r k).toNat=true) (hrg:nxA a r k<a.Accept.length) (hf:findI (fun x=>decide (gI c (nxA a r k).toNat=x)) O 0<0):NumI a lv c i (O++[gI c (nxA a r k).toNat]) (Rl++[(nxA a r k).toNat]) X Yv (row++[(O.length:Int)]):=by
 subst hw
 have hnm:gI c (nxA a r row.length).toNat∉O:=by
  rcases findA (l:=O) (v:=gI c (nxA a r row.length).toNat) 0 with ⟨_,h2⟩|⟨j,h1,_⟩
  · exact h2
  omega
 refine h.push hi hk (.inr ⟨_,rfl,rfl,rfl,hnm,by omega,hl⟩) (by omega) fun q hq=>?_
 rw [NumI.same hR hq]
 unfold entN
 rw [if_pos ⟨h0,hl⟩]
 exact⟨O.length,_,rfl,by rw [h.ol,List.getElem?_append_right (Nat.le_refl _)];simp,rfl⟩
theorem NumI.pushO (h:NumI a lv c i O Rl X Yv row) (hi:i<O.length) (hw:row.length=k) (hk:k<9) (hR:Rl[i]?=some r) (h0:0≤nxA a r k) (hl:gB lv (nxA a r k).toNat=true) (hf:¬ findI (fun x=>decide (gI c (nxA a r k).toNat=x)) O 0<0):NumI a lv c i O Rl X Yv (row++[findI (fun x=>decide (gI c (nxA a r k).toNat=x)) O 0]):=by
 subst hw
 rcases findA (l:=O) (v:=gI c (nxA a r row.length).toNat) 0 with ⟨h1,_⟩|⟨j,h1,h2⟩
 · omega
 rw [Nat.zero_add] at h1
 rw [h1]
 have hj:=(List.getElem?_eq_some_iff.1 h2).1
 refine h.push hi hk (.inl ⟨rfl,rfl,by omega⟩) (by omega) fun q hq=>?_
 rw [NumI.same hR hq]
 unfold entN
 rw [if_pos ⟨h0,hl⟩]
 have hr:Rl[j]?=some (Rl[j]'(by rw [←h.ol];exact hj)):=List.getElem?_eq_getElem _
 have ho:=(h.oc j _ hr).2.2
 rw [h2] at ho
 exact⟨j,_,rfl,hr,Option.some.inj ho⟩
theorem NumI.pushD (h:NumI a lv c i O Rl X Yv row) (hi:i<O.length) (hw:row.length=k) (hk:k<9) (hR:Rl[i]?=some r) (hn:¬ (0≤nxA a r k∧gB lv (nxA a r k).toNat=true)):NumI a lv c i O Rl X Yv (row++[-1]):=by
 subst hw;refine h.push hi hk (.inl ⟨rfl,rfl,by omega⟩) (by omega) fun q hq=>?_
 rw [NumI.same hR hq]
 unfold entN
 rw [if_neg hn]
end
end Go.Q
namespace Go.Proofs.YtdhojcaoljhbiaaGreat
open Go.RowKit Go.Q Go.D
theorem specl11FindA (l:List Int) (v:Int):FnT Tryz.prog 95 [.one (.sl 1 (l.map cInt)),.one (.v (.int .i64 v))] (.a (.one (.v (.int .i64 (findI (fun x=>decide (v=x)) l 0))))):=by
 refine A6 Tryz.func95 U (by kernel_rfl) Tryz.ntmps95 U fun hlen w0=>?_
 try simp [cPair,cToken,cExpr,cEdge,cGraph,cStep,cWalk,cChange,cBatch,cHistory,cPositions,cAutomaton,cProductStep,cPathAtom,cConjunction,cView,cDelta,cRegistered,cRegistry] at hlen
 refine Af (AWl.ac ?_);refine Aa (Ae (Af (AWl.ac ?_)));refine Aa (AW.block (Dl (β:=Nat) (fun x=>x≤(l).length∧∀ j y,j<x→(l)[j]?=some y→(fun x=>!decide (v=x)) y=true) (fun x=>⟨_,[(5,(true,.a (.one (.t (.v (.int .i64 (x:Nat))))))),(0,_),(1,_)],[]⟩) (fun x=>(l).length-x) (0) ⟨Nat.zero_le _,fun j y hj=>absurd hj (Nat.not_lt_zero j)⟩ (Az U ⟨U,U,U,Y⟩ trivial) ?_));intro k hk;refine Ae (Af (Ab ?_));refine Ab ?_;refine Br (.t) Tryz.underlying40 ?_;refine AWl.lt ?_;refine Aa (Ah (.tm U) (fun hlt=>?_) (fun hlt=>?_))
 · try simp at hlt
   obtain⟨x,hx⟩:∃ ξ,(l)[k]?=some ξ:=⟨_,List.getElem?_eq_getElem (by exact hlt)⟩
   refine AW.skip (Ae (AW.block (Af (Ab ?_))));refine Ab ?_;refine Ac ((An U (.no U) U (.tm U) (.tm U) Tryz.underlying40 ty3 (fun _=>⟨by omega,(by exact Am (by assumption))⟩))) U ?_;refine Ak ty3 ?_;refine Ab ?_;refine AWl.eq ?_;refine Aa (Ah (.tm U) (fun h17=>?_) (fun h17=>?_))
   · try simp at h17
     refine Ae (Al (Ap [0,1,5] []) ?_);refine Ad (Ab ?_);refine Ag ?_;refine Aa (Ai (Bb U U ?_))
     rw [findI_at (k:=k) hk.2 hx (by have h:=h17;first|(simp;omega)|(simp at h ⊢;omega))];simp
   try simp at h17
   refine AW.skip (Al (Ap [0,1,5] []) ?_);refine Ad (Ab ?_);refine Bk ?_;refine Ag ?_;refine Aa ?_;refine Round.next (k+1) ⟨by omega,each_succ hk.2 hx (by (have h:=h17;first|(simp;omega)|(simp at h ⊢;omega)))⟩ (by omega) (Az rfl ⟨rfl,rfl,rfl,Y⟩ trivial)
 try simp at hlt
 refine Bz (Af (AWl.ac ?_));refine Aa (Ai (Bb U U ?_))
 rw [findI_none hk.2 (by omega)]
theorem specl11Nothing:FnT Tryz.prog 50 [] (.a (.agg (cAutomaton nothA))):=by
 refine A6 Tryz.func50 U (by kernel_rfl) Tryz.ntmps50 U fun hlen w0=>?_
 try simp [cPair,cToken,cExpr,cEdge,cGraph,cStep,cWalk,cChange,cBatch,cHistory,cPositions,cAutomaton,cProductStep,cPathAtom,cConjunction,cView,cDelta,cRegistered,cRegistry] at hlen
 refine Af (Aq (Au 0 U U U in36 U U U) U ?_);refine Aa (Af (Aq (Dj 3 U U U Tryz.underlying40 ty3 U) U ?_));refine Ag ?_;refine Aa (Ae (Af (AWl.ac ?_)));refine Aa (AW.block ?_);refine Dp (fun (k:Nat)=>(k≤9)∧True) (fun (k:Nat)=>⟨_,[(2,(true,.a (.one (.t (.v (.int .i64 (k:Nat))))))),(1,(true,.a (.one (.rf 3)))),(0,_)],[(3,.row 1 ((List.replicate k (-1:Int)).map cInt)),(0,.box [.t (.v (.int .i64 0)),.t (.v (.slice none 0 0)),.t (.v (.slice none 0 0))])]⟩) (fun (k:Nat)=>9-k) (0) ⟨by omega,Y⟩ Bi ?_
 rintro k ⟨hk,he⟩
 refine Ae (Af (Ab ?_));refine Cv ?_;refine Aa (Ah (.tm U) (fun h5=>?_) (fun h5=>?_))
 · try simp at h5
   refine AW.skip (Ae (AW.block (Ad (Ab ?_))));refine Ac (Ch (xs:=[.const (.int .i64 (-1))]) (rows:=[cInt (-1)]) U U U (.cons (.const U) U U .nil) Tryz.underlying40 in3 U U (U)) U ?_;refine Bg (By U U U (.tm U) U (.tm U) (by exact .t) (by rfl) Tryz.underlying40 in3 U (by (simp [chunk];omega)) (by (unfold maxLen;simp [chunk];omega))) U ?_;refine Bm (Ap [0,1,2,5,10] [3,0]) ?_;refine Ag ?_;refine Aa (Ad (Ab ?_));refine Bk ?_;refine Ag ?_;refine Aa ?_
   repeat (with_reducible refine A7 ?_)
   refine Round1.next (k+1) ⟨by omega,Y⟩ (by omega) (Az rfl ⟨rfl,rfl,rfl,Y⟩ ⟨(by refine congrArg (fun r=>some (R.row 1 r)) ?_;rw [List.replicate_succ',List.map_append];rfl),(by rfl),Y⟩)
 try simp at h5
 refine Bz (Af (Bs (Cn (xs:=[.const (.bool false)]) 11 U U U (.cons (.const U) U U .nil) Tryz.underlying33 in4 U U U U) U ?_));refine Ab ?_;refine Bs (Cn (xs:=[.tmp 12]) 13 U U U (.cons (.tm U) U U .nil) Tryz.underlying34 in40 U U U U) U ?_;refine Ac (A9 (ps:=[(1,.tmp 11),(2,.tmp 13)]) U U U in36 U U st36 (.cons (.tm U) U U fp36_1 (.cons (.tm U) U U fp36_2 .nil)) U) U ?_;refine Ao Cm ?_;refine Aa (Ai (A4 U (.cell U U Cm U U .nil) U ?_))
 (have hk9:k=9:=by (first|omega|(simp at h5;omega)));subst hk9;rfl
theorem specl11NumberE (a:TAutomaton) (hA:ShA a) (hN:a.Accept.length≤1000) (c:List Int) (hc:ClsOf a c) (lv:List Bool) (hl:LiveOf a lv):FnE Tryz.prog 97 [.agg (cAutomaton a),.one (.sl 1 (c.map cInt)),.one (.sl 1 (lv.map cBool))] (minP a) (fun z=>.a (.agg (cAutomaton z))):=by
 refine FnE.walk Tryz.func97 rfl (by kernel_rfl) Tryz.ntmps97 rfl fun w0=>?_
 have hst:=hA.st
 have hcl:=hc.1
 have hll:=hl.1
 have hnl:=hA.nl
 have hs1:=gB_get (l:=lv) (i:=a.Start.toNat) (by omega)
 have hs2:=gI_get (l:=c) (i:=a.Start.toNat) (by omega)
 refine Af (Ac (Bo U U U (.tm U) (ts:=_) (by rfl)) U ?_);refine Aq (Au 6 U U U in36 U U U) U ?_;refine Cr (b:=6) 20001 1 1 U U U ?_;refine Cr (b:=6) 20002 1 2 U U U ?_;refine Aa (Ae (Af (Ab ?_)));refine A8 fl36_0 ?_;refine Ak ty3 ?_;refine Ac ((An U (.no U) U (.tm U) (.tm U) Tryz.underlying33 ty4 (fun _=>⟨by omega,(by exact Am (by assumption))⟩))) U ?_;refine Ak ty4 ?_;refine Cw ?_;refine Aa (Ah (.tm U) (fun h20=>?_) (fun h20=>?_))
 · try simp at h20
   refine Ae (Al (Ap [0,1,2,3,6] [6,20001,20002]) ?_);refine Ad (Bc (Bq 2100 (specl11Nothing) U U U .nil U U) U ?_);refine Ao Cm ?_;refine Aa (Ai ?_);apply ERes.mk (x:=nothA)
   case h=>
    refine A4 U (.cell U U Cm U U .nil) U ?_
    rfl
   case hp=>exact⟨nothing_can,nothing_lang hA hl h20⟩
 try simp at h20
 refine AW.skip (Ae (Al (Ap [0,1,2,3,6] [6,20001,20002]) ?_));refine Ad (Ac (A9 (ps:=[]) U U U in36 U U st36 .nil U) U ?_);refine B7 (i:=22) 20003 1 1 U U U ?_;refine B7 (i:=22) 20004 1 2 U U U ?_;refine Aq (Au 7 U U U in36 U U U) U ?_;refine Ao Cm ?_;refine Aa (Af (Ab ?_));refine A8 fl36_0 ?_;refine Ak ty3 ?_;refine Ac ((An U (.no U) U (.tm U) (.tm U) Tryz.underlying40 ty3 (fun _=>⟨by omega,(by exact Am (by assumption))⟩))) U ?_;refine Ak ty3 ?_;refine Bs (Cn (xs:=[.tmp 27]) 28 U U U (.cons (.tm U) U U .nil) Tryz.underlying40 in3 U U U U) U ?_;refine Ag ?_;refine Aa (Ae (Al (Ap [0,1,2,3,6,7,8] [6,20001,20002,20003,20004,7,28]) ?_));refine Ad (A8 fl36_0 ?_);refine Ak ty3 ?_;refine Bs (Cn (xs:=[.tmp 30]) 31 U U U (.cons (.tm U) U U .nil) Tryz.underlying40 in3 U U U U) U ?_;refine Ag ?_;refine Aa (Ae (Af (AWl.ac ?_)))
 refine Aa (AW.block (AW.loop5 (fun (i:Nat) (O:List Int) (Rl:List Nat) (X:List Bool) (Yv:List (List Int))=>(i≤O.length∧NumI a lv c i O Rl X Yv [])∧True) (fun (i:Nat) (O:List Int) (Rl:List Nat) (X:List Bool) (Yv:List (List Int))=>⟨_,[(10,(true,.a (.one (.t (.v (.int .i64 (i:Nat))))))),(8,(true,.a (.one (.rf 28)))),(9,(true,.a (.one (.rf 31)))),(1,_),(2,_),(3,_),(6,_),(7,_)],[(28,.row 1 (O.map cInt)),(31,.row 1 (Rl.map fun r:Nat=>cInt (r:Int))),(6,.box [.t (.v (.int .i64 0)),.rf 20001,.rf 20002]),(20001,.row 1 []),(20002,.row 1 []),(7,.box [.t (.v (.int .i64 0)),.rf 20003,.rf 20004]),(20003,.row 1 (X.map cBool)),(20004,.row 1 (Yv.map cIntS))]⟩) (fun (i:Nat) (O:List Int) (Rl:List Nat) (X:List Bool) (Yv:List (List Int))=>a.Accept.length-i) (0) ([gI c a.Start.toNat]) ([a.Start.toNat]) ([]) ([]) ⟨⟨Nat.zero_le _,NumI.start hA h20⟩,Y⟩ (Az U ⟨U,U,U,U,U,U,U,U,Y⟩ ⟨U,(by refine congrArg (fun r=>some (R.row 1 r)) ?_;first|rfl|(show [cInt a.Start]=[cInt ((a.Start.toNat:Nat):Int)];rw [Int.toNat_of_nonneg hst.1])),U,U,U,U,U,U,Y⟩) ?_))
 rintro i O Rl X Yv ⟨hk,he⟩
 refine Ae (Af (Ab ?_));refine Ab ?_;refine Br (.rf U) Tryz.underlying40 ?_;refine AWl.lt ?_;refine Aa (Ah (.tm U) (fun h35=>?_) (fun h35=>?_))
 · try simp at h35
   have hiO:i<O.length:=by (first|omega|(simp at h35;omega))
   refine AW.skip (Ae (AW.block (Af (Aq (Dj 38 U U U Tryz.underlying40 ty3 U) U ?_))));refine Ag ?_;refine Aa (Ae (Af (AWl.ac ?_)))
   refine Aa (AW.block (AW.loop4 (fun (k:Nat) (row:List Int) (O1:List Int) (Rm:List Nat)=>((k≤9∧row.length=k∧i<O1.length)∧NumI a lv c i O1 Rm X Yv row)∧True) (fun (k:Nat) (row:List Int) (O1:List Int) (Rm:List Nat)=>⟨_,[(12,(true,.a (.one (.t (.v (.int .i64 (k:Nat))))))),(11,(true,.a (.one (.rf 38)))),(8,(true,.a (.one (.rf 28)))),(9,(true,.a (.one (.rf 31)))),(1,_),(2,_),(3,_),(6,_),(7,_),(10,_)],[(38,.row 1 (row.map cInt)),(28,.row 1 (O1.map cInt)),(31,.row 1 (Rm.map fun r:Nat=>cInt (r:Int))),(6,.box [.t (.v (.int .i64 0)),.rf 20001,.rf 20002]),(20001,.row 1 []),(20002,.row 1 []),(7,.box [.t (.v (.int .i64 0)),.rf 20003,.rf 20004]),(20003,.row 1 (X.map cBool)),(20004,.row 1 (Yv.map cIntS))]⟩) (fun (k:Nat) (row:List Int) (O1:List Int) (Rm:List Nat)=>9-k) (0) ([]) (O) (Rl) ⟨⟨⟨by omega,U,hiO⟩,hk.2⟩,Y⟩ (Az U ⟨U,U,U,U,U,U,U,U,U,U,Y⟩ ⟨U,U,(by refine congrArg (fun r=>some (R.row 1 r)) ?_;first|rfl|(show [cInt a.Start]=[cInt ((a.Start.toNat:Nat):Int)];rw [Int.toNat_of_nonneg hst.1])),U,U,U,U,U,U,Y⟩) ?_))
   rintro k row O1 Rm ⟨hk1,he1⟩
   refine Ae (Af (Ab ?_));refine Cv ?_;refine Aa (Ah (.tm U) (fun h40=>?_) (fun h40=>?_))
   · try simp at h40
     obtain⟨r,hR1⟩:∃ ξ,Rm[i]?=some ξ:=⟨_,List.getElem?_eq_getElem (by rw [←hk1.2.ol];omega)⟩
     have hro:=hk1.2.oc i r hR1
     obtain⟨rw1,hr1,hr2⟩:=hA.ent (s:=r) (k:=k) hro.1 (by omega)
     have hr9:=hA.rl rw1 (List.mem_of_getElem? hr1)
     have hrg:=hA.rg r k hro.1 (by omega)
     have hlg:=gB_get (l:=lv) (i:=(nxA a r k).toNat) (by omega)
     have hcg:=gI_get (l:=c) (i:=(nxA a r k).toNat) (by omega)
     have hle1:=hk1.2.le hcl
     have hol1:=hk1.2.ol
     refine AW.skip (Ae (AW.block (Ae (Al (Ap [1,2,3,6,7,8,9,10,11,12,39,40] [38,28,31,6,20001,20002,7,20003,20004]) ?_))));apply Cz (N:=9) (k:=4) (Hs:=[0,1,2,3,8]) (ms:=[[],[4],[4,5],[4,5,6],[4,5,6,7]]) (es:=[(0,4,1),(1,5,2),(2,6,3),(3,7,4)]) (σ1:=_) (SM:=⟨_,[(1,_),(2,_),(3,_),(6,_),(7,_),(8,_),(9,_),(10,_),(11,_),(12,_),(39,_),(40,_),(43,_),(44,_),(45,_),(46,_),(51,_)],[(38,_),(28,_),(31,_),(6,_),(20001,_),(20002,_),(7,_),(20003,_),(20004,_)]⟩)
     case hm=>kernel_rfl
     case hB=>kernel_rfl
     case hP=>kernel_rfl
     case hL=>kernel_rfl
     case hN=>rfl
     case hpre=>
      apply As (P:=Tryz.prog) 0 rfl ((B9 rfl (.no rfl) rfl (.tm rfl) Dc)) (by exact HasV.ad (x:=.tmp 3) (.tm rfl)) rfl rfl rfl;apply As (P:=Tryz.prog) 1 rfl ((by exact Ca rfl (.no rfl) rfl (.tm rfl) ty34 rfl rfl)) (by exact HasV.ld (x:=.tmp 43) (.tm rfl) rfl rfl) rfl rfl rfl;apply As (P:=Tryz.prog) 2 rfl (Bf rfl (.no rfl) rfl (.tm rfl)) (by exact HasV.slot (t:=9) rfl) rfl rfl rfl;apply As (P:=Tryz.prog) 3 rfl (Bf rfl (.no rfl) rfl (.tm rfl)) (by exact HasV.slot (t:=10) rfl) rfl rfl rfl;apply As (P:=Tryz.prog) 8 rfl (Bf rfl (.no rfl) rfl (.tm rfl)) (by exact HasV.slot (t:=12) rfl) rfl rfl rfl;exact PreOk.nil
     case hS=>exact A5
     case hH=>
      refine⟨⟨_,_,_,rfl,rfl,rfl,fun σ' hs=>(by exact B9 rfl (.no rfl) (Aj hs rfl) (.tm (hs.slots _ _ rfl)) Dc)⟩,?_⟩
      refine⟨⟨_,_,_,rfl,rfl,rfl,fun σ' hs=>(by exact Ca rfl (.no rfl) (Aj hs rfl) (.tm (hs.slots _ _ rfl)) ty34 rfl rfl)⟩,?_⟩
      refine LocsH.mv ?_;refine LocsH.mv ?_;refine LocsH.mv ?_
      trivial
     apply Dh.new0 (i:=4);rfl;rfl;rfl
     · intro w9 _;refine Ac ((by exact Ay U (.no U) U (.tm U) U (.tm U) Tryz.underlying40 ty3 (fun _=>⟨by omega,(by exact Am (by assumption))⟩))) U ?_;exact Ax [1,2,3,6,7,8,9,10,11,12,39,40,43,44,45,46,47,51] [38,28,31,6,20001,20002,7,20003,20004]
     intros;exact A5
     apply Dh.new0 (i:=5);rfl;rfl;rfl
     · intro w9 _;refine Ac (Bt U (.no U) U (.tm U) U (by exact Am (by assumption)) ty3 U U) U ?_;exact Ax [1,2,3,6,7,8,9,10,11,12,39,40,43,44,45,46,48,51] [38,28,31,6,20001,20002,7,20003,20004]
     intros;exact A5
     apply Dh.new0 (i:=6);rfl;rfl;rfl
     · intro w9 _;refine Ac ((An U (.no U) U (.tm U) (.tm U) Tryz.underlying34 C7 (fun _=>⟨by omega,(by exact Am (by assumption))⟩))) U ?_;exact Ax [1,2,3,6,7,8,9,10,11,12,39,40,43,44,45,46,49,51] [38,28,31,6,20001,20002,7,20003,20004]
     intros;exact A5
     apply Dh.new0 (i:=7);rfl;rfl;rfl
     · intro w9 _;refine Ak C7 ?_;exact Ax [1,2,3,6,7,8,9,10,11,12,39,40,43,44,45,46,50,51] [38,28,31,6,20001,20002,7,20003,20004]
     intros;exact A5
     refine Dh.fin0 (k:=4) rfl ?_;intro  hp
     obtain _:=hp
     refine Ac ((An U (.no U) U (.tm U) (.tm U) Tryz.underlying40 ty3 (fun _=>⟨by omega,(by exact Am (by assumption))⟩))) U ?_;refine Ak ty3 ?_;refine Ag ?_;refine Aa (Ae (Al (Ap [1,2,3,6,7,8,9,10,11,12,13] [38,28,31,6,20001,20002,7,20003,20004]) ?_));refine Ad (AWl.ac ?_);refine Aa (Ae (Af (Ab ?_)));refine AWl.gd ?_;refine Ab ?_;refine Cl ?_;refine Cl ?_;refine Ac ((by exact An U (by exact .yes1 U U U U) U (.tmp U (by exact id)) (.tmp U (by exact id)) Tryz.underlying33 ty4 (fun hq=>by (try simp at hq);exact⟨by omega,(by exact Am (by assumption))⟩))) U ?_;refine Cu ty4 ?_;refine Cb ?_;refine Aa (Ah (.tm U) (fun h61=>?_) (fun h61=>?_))
     · try simp at h61
       refine Ae (Al (Ap [1,2,3,6,7,8,9,10,11,12,13,14] [38,28,31,6,20001,20002,7,20003,20004]) ?_);refine Ad (Ab ?_);refine Ab ?_;refine Ab ?_;refine Ac ((An U (.no U) U (.tm U) (.tm U) Tryz.underlying40 ty3 (fun _=>⟨by omega,(by exact Am (by assumption))⟩))) U ?_;refine Ak ty3 ?_;refine Bu (specl11FindA O1 (gI c (nxA a r k).toNat)) ?_;refine Ag ?_;refine Aa (Ae (Al (Ap [1,2,3,6,7,8,9,10,11,12,13,14] [38,28,31,6,20001,20002,7,20003,20004]) ?_));refine Ad (Ab ?_);refine Cv ?_;refine Aa (Ah (.tm U) (fun h69=>?_) (fun h69=>?_))
       · try simp at h69
         have hpn:=hk1.2.pushN (k:=k) (by omega) (by omega) (by omega) hR1 h61.1 h61.2 hrg.2 h69
         refine Af (Ab ?_);refine Br (.rf U) Tryz.underlying40 ?_;refine Ag ?_;refine Aa (Af (Ab ?_));refine Ab ?_;refine Ab ?_;refine Ac ((An U (.no U) U (.tm U) (.tm U) Tryz.underlying40 ty3 (fun _=>⟨by omega,(by exact Am (by assumption))⟩))) U ?_;refine Ak ty3 ?_;refine Ac (Ch (xs:=[.tmp 76]) (rows:=[cInt _]) U U U (.cons (.tm U) U U .nil) Tryz.underlying40 in3 U U (U)) U ?_;refine Bg (By U U U (.tm U) U (.tm U) (by exact .t) (by rfl) Tryz.underlying40 in3 U (by (simp [chunk];omega)) (by (unfold maxLen;simp [chunk];omega))) U ?_;refine Bm (Ap [1,2,3,6,7,8,9,10,11,12,13,14,69,78] [38,28,31,6,20001,20002,7,20003,20004]) ?_;refine Ag ?_;refine Aa (Ad (Ab ?_));refine Ab ?_;refine Ac (Ch (xs:=[.tmp 80]) (rows:=[cInt _]) U U U (.cons (.tm U) U U .nil) Tryz.underlying40 in3 U U (U)) U ?_
         refine Bg (By U U U (.tm U) U (.tm U) (by exact .t) (by rfl) Tryz.underlying40 in3 U (by (simp [chunk];omega)) (by (unfold maxLen;simp [chunk];omega))) U ?_;refine Bm (Ap [1,2,3,6,7,8,9,10,11,12,13,14,69,82] [38,28,31,6,20001,20002,7,20003,20004]) ?_;refine Ag ?_;refine Aa (Ad (Ab ?_));refine Ab ?_;refine Ac (Ch (xs:=[.tmp 84]) (rows:=[cInt _]) U U U (.cons (.tm U) U U .nil) Tryz.underlying40 in3 U U (U)) U ?_;refine Bg (By U U U (.tm U) U (.tm U) (by exact .t) (by rfl) Tryz.underlying40 in3 U (by (simp [chunk];omega)) (by (unfold maxLen;simp [chunk];omega))) U ?_;refine Bm (Ap [1,2,3,6,7,8,9,10,11,12,13,14,69,86] [38,28,31,6,20001,20002,7,20003,20004]) ?_;refine Ag ?_;refine Aa (Ad (Ab ?_));refine Bk ?_;refine Ag ?_;refine Aa ?_
         repeat (with_reducible refine A7 ?_)
         refine Round4.next (k+1) (row++[(O1.length:Int)]) (O1++[gI c (nxA a r k).toNat]) (Rm++[(nxA a r k).toNat]) ⟨⟨⟨by omega,by simp;omega,by simp;omega⟩,hpn⟩,Y⟩ (by omega) (Az rfl ⟨rfl,rfl,rfl,rfl,rfl,rfl,rfl,rfl,rfl,rfl,Y⟩ ⟨(by (refine congrArg (fun r=>some (R.row _ r)) ?_;simp [chunk,List.map_set,cInt,cBool,cIntS,cPair,cToken,cExpr,cEdge,cGraph,cStep,cWalk,cChange,cBatch,cHistory,cPositions,cAutomaton,cProductStep,cPathAtom,cConjunction,cView,cDelta,cRegistered,cRegistry])),(by (refine congrArg (fun r=>some (R.row _ r)) ?_;simp [chunk,List.map_set,cInt,cBool,cIntS,cPair,cToken,cExpr,cEdge,cGraph,cStep,cWalk,cChange,cBatch,cHistory,cPositions,cAutomaton,cProductStep,cPathAtom,cConjunction,cView,cDelta,cRegistered,cRegistry])),(by refine congrArg (fun r=>some (R.row 1 r)) ?_;first|rfl|(rw [List.map_append];refine congrArg (_++·) ?_;show [cInt (nxA a r k)]=[cInt (((nxA a r k).toNat:Nat):Int)];rw [Int.toNat_of_nonneg h61.1])),(by rfl),(by rfl),(by rfl),(by rfl),(by rfl),(by rfl),Y⟩)
       try simp at h69
       have hpo:=hk1.2.pushO (k:=k) (by omega) (by omega) (by omega) hR1 h61.1 h61.2 (by omega)
       refine AW.skip (Ad (Ab ?_));refine Ab ?_;refine Ac (Ch (xs:=[.tmp 84]) (rows:=[cInt _]) U U U (.cons (.tm U) U U .nil) Tryz.underlying40 in3 U U (U)) U ?_;refine Bg (By U U U (.tm U) U (.tm U) (by exact .t) (by rfl) Tryz.underlying40 in3 U (by (simp [chunk];omega)) (by (unfold maxLen;simp [chunk];omega))) U ?_;refine Bm (Ap [1,2,3,6,7,8,9,10,11,12,13,14,69,86] [38,28,31,6,20001,20002,7,20003,20004]) ?_;refine Ag ?_;refine Aa (Ad (Ab ?_));refine Bk ?_;refine Ag ?_;refine Aa ?_
       repeat (with_reducible refine A7 ?_)
       refine Round4.next (k+1) (row++[findI (fun x=>decide (gI c (nxA a r k).toNat=x)) O1 0]) (O1) (Rm) ⟨⟨⟨by omega,by simp;omega,by omega⟩,hpo⟩,Y⟩ (by omega) (Az rfl ⟨rfl,rfl,rfl,rfl,rfl,rfl,rfl,rfl,rfl,rfl,Y⟩ ⟨(by (refine congrArg (fun r=>some (R.row _ r)) ?_;simp [chunk,List.map_set,cInt,cBool,cIntS,cPair,cToken,cExpr,cEdge,cGraph,cStep,cWalk,cChange,cBatch,cHistory,cPositions,cAutomaton,cProductStep,cPathAtom,cConjunction,cView,cDelta,cRegistered,cRegistry])),(by rfl),(by refine congrArg (fun r=>some (R.row 1 r)) ?_;first|rfl|(rw [List.map_append];refine congrArg (_++·) ?_;show [cInt (nxA a r k)]=[cInt (((nxA a r k).toNat:Nat):Int)];rw [Int.toNat_of_nonneg h61.1])),(by rfl),(by rfl),(by rfl),(by rfl),(by rfl),(by rfl),Y⟩)
     try simp at h61
     have hpd:=hk1.2.pushD (k:=k) (by omega) (by omega) (by omega) hR1 (fun h=>by have h5:=h61 h.1;rw [h.2] at h5;cases h5)
     refine AW.skip (Al (Ap [1,2,3,6,7,8,9,10,11,12,13,14] [38,28,31,6,20001,20002,7,20003,20004]) ?_);refine Ad (Ab ?_);refine Ab ?_;refine Ac (Ch (xs:=[.tmp 84]) (rows:=[cInt _]) U U U (.cons (.tm U) U U .nil) Tryz.underlying40 in3 U U (U)) U ?_;refine Bg (By U U U (.tm U) U (.tm U) (by exact .t) (by rfl) Tryz.underlying40 in3 U (by (simp [chunk];omega)) (by (unfold maxLen;simp [chunk];omega))) U ?_;refine Bm (Ap [1,2,3,6,7,8,9,10,11,12,13,14,86] [38,28,31,6,20001,20002,7,20003,20004]) ?_;refine Ag ?_;refine Aa (Ad (Ab ?_));refine Bk ?_;refine Ag ?_;refine Aa ?_
     repeat (with_reducible refine A7 ?_)
     refine Round4.next (k+1) (row++[-1]) (O1) (Rm) ⟨⟨⟨by omega,by simp;omega,by omega⟩,hpd⟩,Y⟩ (by omega) (Az rfl ⟨rfl,rfl,rfl,rfl,rfl,rfl,rfl,rfl,rfl,rfl,Y⟩ ⟨(by (refine congrArg (fun r=>some (R.row _ r)) ?_;simp [chunk,List.map_set,cInt,cBool,cIntS,cPair,cToken,cExpr,cEdge,cGraph,cStep,cWalk,cChange,cBatch,cHistory,cPositions,cAutomaton,cProductStep,cPathAtom,cConjunction,cView,cDelta,cRegistered,cRegistry])),(by rfl),(by refine congrArg (fun r=>some (R.row 1 r)) ?_;first|rfl|(rw [List.map_append];refine congrArg (_++·) ?_;show [cInt (nxA a r k)]=[cInt (((nxA a r k).toNat:Nat):Int)];rw [Int.toNat_of_nonneg h61.1])),(by rfl),(by rfl),(by rfl),(by rfl),(by rfl),(by rfl),Y⟩)
   try simp at h40
   have hle1:=hk1.2.le hcl
   have hxl1:=hk1.2.xl
   have hyl1:=hk1.2.yl
   obtain⟨r,hR1⟩:∃ ξ,Rm[i]?=some ξ:=⟨_,List.getElem?_eq_getElem (by rw [←hk1.2.ol];omega)⟩
   have hro:=hk1.2.oc i r hR1
   have hac:=acA_get (a:=a) (i:=r) hro.1
   refine Bz (Ae (Al (Ap [1,2,3,6,7,8,9,10,11,12,39,40] [38,28,31,6,20001,20002,7,20003,20004]) ?_));apply Cz (N:=11) (k:=5) (Hs:=[0,1,2,3,4,5]) (ms:=[[],[6],[6,7],[6,7,8],[6,7,8,9],[6,7,8,9,10]]) (es:=[(0,6,1),(1,7,2),(2,8,3),(3,9,4),(4,10,5)]) (σ1:=_) (SM:=⟨_,[(1,_),(2,_),(3,_),(6,_),(7,_),(8,_),(9,_),(10,_),(11,_),(12,_),(39,_),(40,_),(87,_),(88,_),(89,_),(90,_),(91,_),(92,_)],[(38,_),(28,_),(31,_),(6,_),(20001,_),(20002,_),(7,_),(20003,_),(20004,_)]⟩)
   case hm=>kernel_rfl
   case hB=>kernel_rfl
   case hP=>kernel_rfl
   case hL=>kernel_rfl
   case hN=>rfl
   case hpre=>
    apply As (P:=Tryz.prog) 0 rfl ((Bj rfl (.no rfl) rfl (.tm rfl) Ct)) (by exact .pp) rfl rfl rfl;apply As (P:=Tryz.prog) 1 rfl ((by exact Bn rfl (.no rfl) rfl (.tm rfl) rfl ty33 rfl rfl)) (by exact HasV.load (x:=.tmp 87) (.tm rfl) rfl ty33 rfl rfl) rfl rfl rfl;apply As (P:=Tryz.prog) 2 rfl ((by exact B9 rfl (.no rfl) rfl (.tm rfl) Ct)) (by exact HasV.ad (x:=.tmp 3) (.tm rfl)) rfl rfl rfl;apply As (P:=Tryz.prog) 3 rfl ((by exact Ca rfl (.no rfl) rfl (.tm rfl) ty33 rfl rfl)) (by exact HasV.ld (x:=.tmp 89) (.tm rfl) rfl rfl) rfl rfl rfl;apply As (P:=Tryz.prog) 4 rfl (Bf rfl (.no rfl) rfl (.tm rfl)) (by exact HasV.slot (t:=9) rfl) rfl rfl rfl;apply As (P:=Tryz.prog) 5 rfl (Bf rfl (.no rfl) rfl (.tm rfl)) (by exact HasV.slot (t:=10) rfl) rfl rfl rfl;exact PreOk.nil
   case hS=>exact A5
   case hH=>
    refine LocsH.fq Ct ?_;refine LocsH.lq ty33 ?_
    refine⟨⟨_,_,_,rfl,rfl,rfl,fun σ' hs=>(by exact B9 rfl (.no rfl) (Aj hs rfl) (.tm (hs.slots _ _ rfl)) Ct)⟩,?_⟩
    refine⟨⟨_,_,_,rfl,rfl,rfl,fun σ' hs=>(by exact Ca rfl (.no rfl) (Aj hs rfl) (.tm (hs.slots _ _ rfl)) ty33 rfl rfl)⟩,?_⟩
    refine LocsH.mv ?_;refine LocsH.mv ?_
    trivial
   apply Dh.new0 (i:=6);rfl;rfl;rfl
   · intro w9 _;refine Ac ((by exact Ay U (.no U) U (.tm U) U (.tm U) Tryz.underlying40 ty3 (fun _=>⟨by omega,(by exact Am (by assumption))⟩))) U ?_;exact Ax [1,2,3,6,7,8,9,10,11,12,39,40,87,88,89,90,91,92,93] [38,28,31,6,20001,20002,7,20003,20004]
   intros;exact A5
   apply Dh.new0 (i:=7);rfl;rfl;rfl
   · intro w9 _;refine Ac (Bt U (.no U) U (.tm U) U (by exact Am (by assumption)) ty3 U U) U ?_;exact Ax [1,2,3,6,7,8,9,10,11,12,39,40,87,88,89,90,91,92,94] [38,28,31,6,20001,20002,7,20003,20004]
   intros;exact A5
   apply Dh.new0 (i:=8);rfl;rfl;rfl
   · intro w9 _;refine Ac ((An U (.no U) U (.tm U) (.tm U) Tryz.underlying33 ty4 (fun _=>⟨by omega,(by exact Am (by assumption))⟩))) U ?_;exact Ax [1,2,3,6,7,8,9,10,11,12,39,40,87,88,89,90,91,92,95] [38,28,31,6,20001,20002,7,20003,20004]
   intros;exact A5
   apply Dh.new0 (i:=9);rfl;rfl;rfl
   · intro w9 _;refine Ak ty4 ?_;exact Ax [1,2,3,6,7,8,9,10,11,12,39,40,87,88,89,90,91,92,96] [38,28,31,6,20001,20002,7,20003,20004]
   intros;exact A5
   apply Dh.new0 (i:=10);rfl;rfl;rfl
   · intro w9 _;refine Bs (Cn (xs:=[.tmp 96]) 97 U U U (.cons (.tm U) U U .nil) Tryz.underlying33 in4 U U U U) U ?_;exact Ax [1,2,3,6,7,8,9,10,11,12,39,40,87,88,89,90,91,92,97] [38,28,31,6,20001,20002,7,20003,20004,97]
   intros;exact A5
   refine Dh.fin0 (k:=5) rfl ?_;intro  hp
   obtain _:=hp
   refine Bg (By U U U (.tm U) U (.tm U) (by exact .rf U) (by rfl) Tryz.underlying33 in4 U (by (simp [chunk];omega)) (by (unfold maxLen;simp [chunk];omega))) U ?_;refine Bm (Ap [1,2,3,6,7,8,9,10,11,12,40,98] [38,28,31,6,20001,20002,7,20003,20004,97]) ?_;refine Bd Ct ?_;refine Ao ty33 ?_;refine Aa (Ad (Bd Dc ?_));refine A3 ty34 ?_;refine Ab ?_;refine Bs (Cn (xs:=[.tmp 102]) 103 U U U (.cons (.tm U) U U .nil) Tryz.underlying34 in40 U U U U) U ?_;refine C1 (C9 U U U (.tm U) U (.tm U) U U Tryz.underlying34 in40 U (by (simp [chunk];omega)) (by (unfold maxLen;simp [chunk];omega))) U ?_;refine Bm (Ap [1,2,3,6,7,8,9,10,11,12,40,104] [28,31,6,20001,20002,7,20003,20004,97]) ?_;refine Bd Dc ?_;refine Ao ty34 ?_;refine Aa (Ad (Ab ?_));refine Bk ?_;refine Ag ?_;refine Aa ?_
   repeat (with_reducible refine A7 ?_)
   refine Round5.next (i+1) (O1) (Rm) (X++[acA a r]) (Yv++[row]) ⟨⟨by omega,hk1.2.endRow (by omega) (by omega) hR1⟩,Y⟩ (by omega) (Az rfl ⟨rfl,rfl,rfl,rfl,rfl,rfl,rfl,rfl,Y⟩ ⟨(by rfl),(by refine congrArg (fun r=>some (R.row 1 r)) ?_;first|rfl|(rw [List.map_append];refine congrArg (_++·) ?_;show [cInt (nxA a r k)]=[cInt (((nxA a r k).toNat:Nat):Int)];rw [Int.toNat_of_nonneg h61.1])),(by rfl),(by rfl),(by rfl),(by rfl),(by (refine congrArg (fun r=>some (R.row _ r)) ?_;simp [chunk,List.map_set,cInt,cBool,cIntS,cPair,cToken,cExpr,cEdge,cGraph,cStep,cWalk,cChange,cBatch,cHistory,cPositions,cAutomaton,cProductStep,cPathAtom,cConjunction,cView,cDelta,cRegistered,cRegistry])),(by (refine congrArg (fun r=>some (R.row _ r)) ?_;simp [chunk,List.map_set,cInt,cBool,cIntS,cPair,cToken,cExpr,cEdge,cGraph,cStep,cWalk,cChange,cBatch,cHistory,cPositions,cAutomaton,cProductStep,cPathAtom,cConjunction,cView,cDelta,cRegistered,cRegistry])),Y⟩)
 try simp at h35
 refine Bz (Af (A3 Cm ?_));refine Ao Cm ?_;refine Aa (Ai ?_);apply ERes.mk (x:=⟨0,X,Yv⟩)
 case h=>
  refine A4 U (.cell U U Cm U U .nil) U ?_
  rfl
 case hp=>exact (hk.2.can hA hl hc (by omega) hk.1)
theorem specl12MinimizeE (a:TAutomaton) (hA:ShA a) (hN:a.Accept.length≤1000):FnE Tryz.prog 47 [.agg (cAutomaton a)] (minP a) (fun z=>.a (.agg (cAutomaton z))):=by
 refine FnE.walk Tryz.func47 rfl (by kernel_rfl) Tryz.ntmps47 rfl fun w0=>?_
 refine Af (Ac (Bo U U U (.tm U) (ts:=_) (by rfl)) U ?_);refine Aq (Au 2 U U U in36 U U U) U ?_;refine Aa (Ae (AW.dg0 7 15 [[],[0],[1],[3],[0,1],[0,3],[1,2],[1,3],[0,1,2],[0,1,3],[1,2,3],[0,1,2,3],[1,2,3,4],[0,1,2,3,4],[0,1,2,3,4,5],[0,1,2,3,4,5,6]] [(0,0,1),(0,1,2),(0,3,3),(1,1,4),(2,0,4),(1,3,5),(3,0,5),(2,2,6),(2,3,7),(3,1,7),(4,2,8),(6,0,8),(4,3,9),(5,1,9),(7,0,9),(6,3,10),(7,2,10),(8,3,11),(9,2,11),(10,0,11),(10,4,12),(11,4,13),(12,0,13),(13,5,14),(14,6,15)] (by kernel_rfl) (by kernel_rfl) (by kernel_rfl) ?_));apply Dg.new0 (i:=0)
 case ha|ho|hb=>rfl
 case hE=>
  intro w9  hp
  obtain _:=hp
  refine Ak Cm ?_;exact Ax [0,1,2,3] [2]
 apply Dg.new0 (i:=1);rfl;rfl;rfl
 · intro w9 _;refine Ak Cm ?_;exact Ax [0,1,2,4] [2]
 apply Dg.new0 (i:=3);rfl;rfl;rfl
 · intro w9 _;refine Ak Cm ?_;exact Ax [0,1,2,6] [2]
 apply Dg.new0 (i:=1);rfl;rfl;rfl
 · intro w9 _;refine Ak Cm ?_;exact Ax [0,1,2,3,4] [2]
 apply Dg.old0 (i:=0);rfl;rfl;rfl
 · intro w9 _;refine Ak Cm ?_;exact Aa Bi
 apply Dg.new0 (i:=3);rfl;rfl;rfl
 · intro w9 _;refine Ak Cm ?_;exact Ax [0,1,2,3,6] [2]
 apply Dg.old0 (i:=0);rfl;rfl;rfl
 · intro w9 _;refine Ak Cm ?_;exact Aa Bi
 apply Dg.drw0 (i:=2)
 case ha=>rfl
 case ho=>rfl
 case hE=>
  intro  hp
  obtain _:=hp
  exact C8 500 (specl12ClassesE a hA hN) rfl rfl rfl (.cons (.tm rfl) rfl .nil) (fun _=>rfl) (fun _=>rfl)
 case hb=>rfl
 case hL=>
  intro  z5 hp hy;exact EndQ.eq (Ap [0,1,2,5] [2,500]) U
 apply Dg.new0 (i:=3);rfl;rfl;rfl
 · intro w9 _;refine Ak Cm ?_;exact Ax [0,1,2,4,6] [2]
 apply Dg.old0 (i:=1);rfl;rfl;rfl
 · intro w9 _;refine Ak Cm ?_;exact Aa Bi
 apply Dg.drw0 (i:=2)
 case ha=>rfl
 case ho=>rfl
 case hE=>
  intro  hp
  obtain _:=hp
  exact C8 500 (specl12ClassesE a hA hN) rfl rfl rfl (.cons (.tm rfl) rfl .nil) (fun _=>rfl) (fun _=>rfl)
 case hb=>rfl
 case hL=>
  intro  z5 hp hy;exact EndQ.eq (Ap [0,1,2,3,5] [2,500]) U
 apply Dg.old1 (i:=0);rfl;rfl;rfl
 · intro w9 z5 hp
   obtain⟨_,hz5⟩:=hp
   refine Ak Cm ?_;exact Aa Bi
 apply Dg.new0 (i:=3);rfl;rfl;rfl
 · intro w9 _;refine Ak Cm ?_;exact Ax [0,1,2,3,4,6] [2]
 apply Dg.old0 (i:=1);rfl;rfl;rfl
 · intro w9 _;refine Ak Cm ?_;exact Aa Bi
 apply Dg.old0 (i:=0);rfl;rfl;rfl
 · intro w9 _;refine Ak Cm ?_;exact Aa Bi
 apply Dg.new1 (i:=3);rfl;rfl;rfl
 · intro w9 z5 hp
   obtain⟨_,hz5⟩:=hp
   refine Ak Cm ?_;exact Ax [0,1,2,5,6] [2,500]
 apply Dg.odr0 (i:=2)
 case ha=>rfl
 case ho=>rfl
 case hE=>
  intro  hp
  obtain _:=hp
  exact C8 500 (specl12ClassesE a hA hN) rfl rfl rfl (.cons (.tm rfl) rfl .nil) (fun _=>rfl) (fun _=>rfl)
 case hb=>rfl
 case hL=>
  intro  z5 hp hy;exact Bi
 apply Dg.new1 (i:=3);rfl;rfl;rfl
 · intro w9 z5 hp
   obtain⟨_,hz5⟩:=hp
   refine Ak Cm ?_;exact Ax [0,1,2,3,5,6] [2,500]
 apply Dg.odr0 (i:=2)
 case ha=>rfl
 case ho=>rfl
 case hE=>
  intro  hp
  obtain _:=hp
  exact C8 500 (specl12ClassesE a hA hN) rfl rfl rfl (.cons (.tm rfl) rfl .nil) (fun _=>rfl) (fun _=>rfl)
 case hb=>rfl
 case hL=>
  intro  z5 hp hy;exact Bi
 apply Dg.old1 (i:=0);rfl;rfl;rfl
 · intro w9 z5 hp
   obtain⟨_,hz5⟩:=hp
   refine Ak Cm ?_;exact Aa Bi
 apply Dg.drw1 (i:=4)
 case ha=>rfl
 case ho=>rfl
 case hE=>
  intro z5 hp
  obtain⟨_,hz5⟩:=hp
  exact C8 700 (specl11LiveE a hA hN) rfl rfl rfl (.cons (.tm rfl) rfl .nil) (fun _=>rfl) (fun _=>rfl)
 case hb=>rfl
 case hL=>
  intro z5 z7 hp hy;exact EndQ.eq (Ap [0,1,2,5,7] [2,500,700]) U
 apply Dg.drw1 (i:=4)
 case ha=>rfl
 case ho=>rfl
 case hE=>
  intro z5 hp
  obtain⟨_,hz5⟩:=hp
  exact C8 700 (specl11LiveE a hA hN) rfl rfl rfl (.cons (.tm rfl) rfl .nil) (fun _=>rfl) (fun _=>rfl)
 case hb=>rfl
 case hL=>
  intro z5 z7 hp hy;exact EndQ.eq (Ap [0,1,2,3,5,7] [2,500,700]) U
 apply Dg.old2 (i:=0);rfl;rfl;rfl
 · intro w9 z5 z7 hp
   obtain⟨⟨_,hz5⟩,hz7⟩:=hp
   refine Ak Cm ?_;exact Aa Bi
 apply Dg.drw2 (i:=5)
 case ha=>rfl
 case ho=>rfl
 case hE=>
  intro z5 z7 hp
  obtain⟨⟨_,hz5⟩,hz7⟩:=hp
  exact C8 800 (specl11NumberE a hA hN z5 hz5 z7 hz7) rfl rfl rfl (.cons (.tm rfl) rfl (.cons (.tm rfl) rfl (.cons (.tm rfl) rfl .nil))) (fun _=>rfl) (fun _=>rfl)
 case hb=>rfl
 case hL=>
  intro z5 z7 z8 hp hy;exact EndQ.eq (Ap [0,1,2,8] [2,500,700,800,801]) U
 apply Dg.new3 (i:=6);rfl;rfl;rfl
 · intro w9 z5 z7 z8 hp
   obtain⟨⟨⟨_,hz5⟩,hz7⟩,hz8⟩:=hp
   refine Ao Cm ?_;exact Ax [0,1,2] [2,500,700,800,801]
 refine Dg.fin3 (k:=15) U ?_;intro z5 z7 z8 hp
 obtain⟨⟨⟨_,hz5⟩,hz7⟩,hz8⟩:=hp
 refine Aa (Ai ?_);apply ERes.mk (x:=z8)
 case h=>
  refine A4 U (.cell U U Cm U U .nil) U ?_
  rfl
 case hp=>exact hz8
end Go.Proofs.YtdhojcaoljhbiaaGreat
