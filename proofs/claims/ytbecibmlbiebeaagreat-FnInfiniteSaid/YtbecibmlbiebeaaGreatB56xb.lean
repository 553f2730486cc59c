import Derived.Test.YtbecibmlbiebeaaGreatB55xb
import Derived.Test.YtbecibmlbiebeaaGreatB92xb
set_option linter.unusedVariables false
set_option linter.unusedSimpArgs false
set_option maxRecDepth 100000
set_option maxHeartbeats 1000000
set_option maxRecDepth 100000
namespace Go.Q
open Go.D
def usefulOk (g:TGraph) (a:TAutomaton) (x y:Int):Bool:=goodB g a x 0&&goodB g a y 0
theorem useful_both {g:TGraph} {a:TAutomaton} {x y:Int}:bothB g a [x,y]=usefulOk g a x y:=by
 unfold usefulOk
 rw [←both_good,←both_good]
 unfold bothB
 simp only [List.all_cons,List.all_nil,Bool.and_true]
 cases inB x 0 ((g.Values.length:Int)-1)<;>cases inB y 0 ((g.Values.length:Int)-1)<;>cases validG g<;>cases validA a<;>rfl
theorem useful_in {g:TGraph} {a:TAutomaton} {x y:Int}:(goodB g a x 0&&inB y 0 ((g.Values.length:Int)-1))=usefulOk g a x y:=by
 unfold usefulOk
 cases h:goodB g a x 0 with
 | false=>rfl
 | true=>
  obtain⟨hg,ha,hx⟩:=good_parts h
  rw [Bool.true_and,Bool.true_and,←both_good]
  unfold bothB
  rw [hg,ha];simp
noncomputable def usefB (g:TGraph) (a:TAutomaton) (x y:Int) (i:Nat):Bool:=decide (0≤atI (ranksOf g a x) (i:Int))&&decide (0≤atI (backOf g a y) (i:Int))
noncomputable def usefTo (g:TGraph) (a:TAutomaton) (x y:Int) (i:Nat):List Int:=((List.range i).filter (usefB g a x y)).map fun (p:Nat)=>(p:Int)
theorem usefTo_succ (g:TGraph) (a:TAutomaton) (x y:Int) (i:Nat):usefTo g a x y (i+1)=usefTo g a x y i++if usefB g a x y i then [(i:Int)] else []:=by
 unfold usefTo
 rw [range_filter_succ,List.map_append]
 cases usefB g a x y i<;>rfl
theorem usefTo_len (g:TGraph) (a:TAutomaton) (x y:Int) (i:Nat):(usefTo g a x y i).length≤i:=by
 unfold usefTo
 rw [List.length_map]
 exact Nat.le_trans (List.length_filter_le _ _) (by simp)
noncomputable def usefF (g:TGraph) (a:TAutomaton) (x y:Int):List Int:=if usefulOk g a x y then usefTo g a x y (NP g a) else []
theorem mem_usefTo {g:TGraph} {a:TAutomaton} {x y:Int} {i:Nat} {q:Int}:q∈usefTo g a x y i↔∃ p:Nat,p<i∧usefB g a x y p=true∧q=(p:Int):=by
 unfold usefTo
 simp only [List.mem_map,List.mem_filter,List.mem_range]
 constructor
 · rintro⟨p,⟨h1,h2⟩,rfl⟩;exact⟨p,h1,h2,rfl⟩
 rintro⟨p,h1,h2,rfl⟩;exact⟨p,⟨h1,h2⟩,rfl⟩
def rankTo (R:List Int) (i:Nat):List Int:=((List.range i).filter fun (p:Nat)=>decide (0≤atI R (p:Int))).map fun (p:Nat)=>(p:Int)
theorem rankTo_succ (R:List Int) (i:Nat):rankTo R (i+1)=rankTo R i++if 0≤atI R (i:Int) then [(i:Int)] else []:=by
 unfold rankTo
 rw [range_filter_succ,List.map_append]
 by_cases h:0≤atI R (i:Int)<;>simp [h]
theorem rankTo_len (R:List Int) (i:Nat):(rankTo R i).length≤i:=by
 unfold rankTo
 rw [List.length_map]
 exact Nat.le_trans (List.length_filter_le _ _) (by simp)
theorem rankTo_rng {R:List Int} {i:Nat}:∀ q∈rankTo R i,0≤q∧q<(i:Int):=by
 intro q hq
 unfold rankTo at hq
 obtain⟨p,hp,rfl⟩:=List.mem_map.1 hq
 have:=List.mem_range.1 (List.mem_filter.1 hp).1
 omega
def distTo (g:TGraph) (a:TAutomaton) (y v:Int):List Int:=spreadOf (nxL (turnedL (nextsV g a))) (turnedL (nextsV g a)).length (goalsL a y v)
theorem goals_rng {g:TGraph} {a:TAutomaton} {y v:Int} (ha:validA a=true) (hy:0≤y∧y<g.Values.length):∀ q∈goalsL a y v,0≤q∧q<(NP g a:Int):=by
 intro q hq
 unfold goalsL at hq
 obtain⟨s,hs,rfl⟩:=List.mem_map.1 hq
 have hsl:=List.mem_range.1 (List.mem_filter.1 hs).1
 have hA:=validA_len ha
 have h0:0≤y*(a.Accept.length:Int):=Int.mul_nonneg hy.1 (by omega)
 have h1:y*(a.Accept.length:Int)≤((g.Values.length:Int)-1)*(a.Accept.length:Int):=Int.mul_le_mul_of_nonneg_right (by omega) (by omega)
 have h2:((g.Values.length:Int)-1)*(a.Accept.length:Int)=(a.Accept.length:Int)*g.Values.length-a.Accept.length:=by rw [Int.sub_mul,Int.one_mul,Int.mul_comm]
 have h3:((NP g a:Nat):Int)=(a.Accept.length:Int)*g.Values.length:=by unfold NP;simp
 exact⟨by show 0≤y*(a.Accept.length:Int)+(s:Int);omega,by show y*(a.Accept.length:Int)+(s:Int)<_;omega⟩
theorem goals_iff {g:TGraph} {a:TAutomaton} {y v:Int} (ha:validA a=true) (hy:0≤y) (hv:g.Values[y.toNat]?=some v) {i:Nat} (hi:i<NP g a):(i:Int)∈goalsL a y v↔goalOf g a y i=true:=by
 have hA:=validA_len ha
 have hd:=nd_ok hA.1 (show i<a.Accept.length*g.Values.length from hi)
 have hdm:=Int.mul_ediv_add_emod (i:Int) (a.Accept.length:Int)
 unfold goalsL goalOf
 simp only [List.mem_map,List.mem_filter,List.mem_range,Bool.and_eq_true,decide_eq_true_eq]
 constructor
 · rintro⟨s,⟨hs,hacc⟩,e⟩
   have h1:(i:Int) / (a.Accept.length:Int)=y:=by
    rw [←e,Int.add_comm,Int.add_mul_ediv_right _ _ (by omega),Int.ediv_eq_zero_of_lt (by omega) (by omega),Int.zero_add]
   have h2:(i:Int)%(a.Accept.length:Int)=s:=by
    rw [←e,Int.add_comm,Int.add_mul_emod_self_right,Int.emod_eq_of_lt (by omega) (by omega)]
   refine⟨h1,?_⟩
   rw [h1,h2,hv];exact hacc
 rintro⟨h1,h2⟩
 rw [h1,hv] at h2
 refine⟨((i:Int)%(a.Accept.length:Int)).toNat,⟨by omega,?_⟩,?_⟩
 · rw [Int.toNat_of_nonneg hd.2.1];exact h2
 rw [Int.toNat_of_nonneg hd.2.1,←h1,Int.mul_comm];exact hdm
theorem CanR.congr {nx nx':Nat→List Int} {G:Nat→Bool} {N:Nat} (hn:∀ p,p<N→∀ k∈nx p,0≤k∧k<(N:Int)) (he:∀ p,p<N→nx p=nx' p) {i:Nat} (h:CanR nx G i):i<N→CanR nx' G i:=by
 induction h with
 | goal h=>exact fun _=>.goal h
 | @step i z hz _ ih=>
  intro hi
  have hb:=hn i hi z hz
  exact .step (by rw [←he i hi];exact hz) (ih (by omega))
theorem to_ok {g:TGraph} {a:TAutomaton} (ha:validA a=true) (hg:validG g=true) {y v:Int} (hy:0≤y∧y<g.Values.length) (hv:g.Values[y.toNat]?=some v):(distTo g a y v).length=NP g a∧∀ i,i<NP g a→(0≤atI (distTo g a y v) (i:Int)↔CanR (nxN g a) (goalOf g a y) i):=by
 have hnl:(nextsV g a).length=NP g a:=nextsV_len g a
 have htl:(turnedL (nextsV g a)).length=NP g a:=by rw [turnedL_len,hnl]
 have hl:(distTo g a y v).length=NP g a:=by unfold distTo;rw [(spread_ok (fun p hp k hk=>by rw [turnedL_len] at hp ⊢;exact turnedL_ok p hp k hk) (by rw [htl];exact goals_rng ha hy)).1,htl]
 refine⟨hl,fun i hi=>?_⟩
 have h1:=spread_vis (nx:=nxL (turnedL (nextsV g a))) (N:=(turnedL (nextsV g a)).length) (fun p hp k hk=>by rw [turnedL_len] at hp ⊢;exact turnedL_ok p hp k hk) (l:=goalsL a y v) (by rw [htl];exact goals_rng ha hy) (j:=(i:Int))
 have h2:=turned_can (next:=nextsV g a) (nexts_ok ha hg) (gl:=goalsL a y v) (G:=goalOf g a y) (fun j hj=>goals_iff ha hy.1 hv (by rw [←hnl];exact hj)) (by rw [hnl];exact goals_rng ha hy) (j:=i) (by rw [hnl];exact hi)
 rw [h2] at h1
 have h3:CanR (nxL (nextsV g a)) (goalOf g a y) i↔CanR (nxN g a) (goalOf g a y) i:=
  ⟨fun h=>h.congr (N:=NP g a) (fun p hp k hk=>by rw [←hnl] at hp ⊢;exact nexts_ok ha hg p hp k hk) (fun p hp=>nextsV_at hp) hi,fun h=>h.congr (N:=NP g a) (fun p hp=>nxN_ok ha hg hp) (fun p hp=>(nextsV_at hp).symm) hi⟩
 rw [←h3,←h1]
 unfold visI
 constructor
 · intro h;exact⟨by omega,by show (i:Int)<((distTo g a y v).length:Int);omega,h⟩
 exact fun h=>h.2.2
theorem back_dist {g:TGraph} {a:TAutomaton} (ha:validA a=true) (hg:validG g=true) (y:Int):IsDist (nxN g a) (goalOf g a y) (NP g a) (backOf g a y):=by
 have hnk:∀ p,p<NP g a→∀ k∈nxN g a p,0≤k∧k<(NP g a:Int):=fun p hp=>nxN_ok ha hg hp
 obtain⟨O,hO⟩:=IsDist.exists hnk (goalOf g a y)
 have:backOf g a y=O:=distOf_eq hnk hO
 rw [this];exact hO
theorem useful_same {g:TGraph} {a:TAutomaton} (ha:validA a=true) (hg:validG g=true) {x y v:Int} (hx:0≤x∧x<g.Values.length) (hy:0≤y∧y<g.Values.length) (hv:g.Values[y.toNat]?=some v):(rankTo (ranksOf g a x) (NP g a)).filter (fun i=>!decide (atI (distTo g a y v) i<0))=usefTo g a x y (NP g a):=by
 have hb:=back_dist ha hg y
 have hnk:∀ p,p<NP g a→∀ k∈nxN g a p,0≤k∧k<(NP g a:Int):=fun p hp=>nxN_ok ha hg hp
 unfold rankTo usefTo
 rw [List.filter_map,List.filter_filter]
 congr 1
 refine List.filter_congr fun i hi=>?_
 have hi:=List.mem_range.1 hi
 have h1:=(to_ok ha hg hy hv).2 i hi
 rw [←hb.can hnk hi] at h1
 unfold usefB
 show (!decide (atI (distTo g a y v) (i:Int)<0)&&_)=_
 rw [Bool.and_comm]
 congr 1
 rw [Bool.eq_iff_iff]
 simp only [Bool.not_eq_true',decide_eq_false_iff_not,decide_eq_true_eq]
 rw [←h1];omega
theorem any_congr' {α:Type} {p q:α→Bool}:∀ {l:List α},(∀ e∈l,p e=q e)→l.any p=l.any q
 | [],_=>rfl
 | x::l,h=>by rw [List.any_cons,List.any_cons,h x (by simp),any_congr' fun e he=>h e (by simp [he])]
noncomputable def infW (g:TGraph) (a:TAutomaton) (x y:Int):Bool:=usefulOk g a x y&&(usefTo g a x y (NP g a)).any fun i=>(wK (nxN g a) (NP g a) i.toNat).testBit i.toNat
theorem infW_nil {g:TGraph} {a:TAutomaton} {x y:Int} (h:(usefF g a x y).length=0):infW g a x y=false:=by
 have h:=List.eq_nil_of_length_eq_zero h
 unfold usefF at h
 unfold infW
 split at h
 · rw [h];simp
 rename_i hn;rw [Bool.eq_false_iff.2 hn];rfl
end Go.Q
namespace Go.Proofs.YtbecibmlbiebeaaGreat
open Go.RowKit Go.Q Go.D
theorem IndexFuncIntG (l:List Int) (f:FuncId) (caps:List T) (p:Int→Bool) (hp:∀ e∈l,FrT Tryz.prog f ([.one (.v (.int .i64 e))]++caps.map .one) (.a (.one (.v (.bool (p e)))))):FnT Tryz.prog 176 [.one (.sl 1 (l.map cInt)),.one (.fn (.func f) [] caps)] (.a (.one (.v (.int .i64 (findI p l 0))))):=by
 refine A7 Tryz.func176 U (by kernel_rfl) Tryz.ntmps176 U fun hlen w0=>?_
 try simp [cPair,cToken,cExpr,cEdge,cGraph,cStep,cWalk,cChange,cBatch,cHistory,cPositions,cAutomaton,cProductStep,cPathAtom,cConjunction,cView,cDelta,cRegistered,cRegistry] at hlen
 refine Af (Ak ?_);refine Aa (Ae (Af (Ab ?_)));refine Be (.t) Tryz.underlying40 ?_;refine Ad (Bh U (.no U) U (.const U)) U ?_;refine Aa (AW.block (C2 (β:=Nat) (fun x=>x≤(l).length∧∀ j y,j<x→(l)[j]?=some y→(fun e=>!p e) y=true) (fun x=>⟨_,[(8,(true,.a (.one (.t (.v (.int .i64 (x:Nat))))))),(0,_),(1,_),(7,_)],[]⟩) (fun x=>(l).length-x) (0) ⟨Nat.zero_le _,fun j y hj=>absurd hj (Nat.not_lt_zero j)⟩ (Ap U ⟨U,U,U,U,Y⟩ trivial) ?_));intro k hk;refine Af (AWl.lt ?_);refine Aa (Ae (Ai (.tm U) (fun hlt=>?_) (fun hlt=>?_)))
 · try simp at hlt
   obtain⟨x,hx⟩:∃ ξ,(l)[k]?=some ξ:=⟨_,List.getElem?_eq_getElem (by exact hlt)⟩
   refine Aj (Ae (AW.block (Af (Ab ?_))));refine Ag ?_;refine Aa (Af (Ab ?_));refine Ab ?_;refine Ab ?_;refine Ad ((As U (.no U) U (.tm U) (.tm U) Tryz.underlying40 ty3 (fun _=>⟨by omega,(by exact Al (by assumption))⟩))) U ?_;refine Aq ty3 ?_;refine Ad (R_callv U (.no U) U (.tm U) (.cons (.tm U) U .nil) (hp x (List.mem_of_getElem? hx))) U ?_;refine Aa (Ai (.tm U) (fun h16=>?_) (fun h16=>?_))
   · try simp at h16
     refine Ae (Ar (Av [0,1,5,7,8] []) ?_);refine Ac (Ab ?_);refine Ag ?_;refine Aa (Am (Bp U U ?_))
     rw [findI_at (k:=k) hk.2 hx h16];simp
   try simp at h16
   refine Aj (Ar (Av [0,1,5,7,8] []) ?_);refine Ac (A8 ?_);refine Ab ?_;refine Aa ?_;refine Round.next (k+1) ⟨by omega,each_succ hk.2 hx (by simp [h16])⟩ (by omega) (Ap rfl ⟨rfl,rfl,rfl,rfl,Y⟩ trivial)
 try simp at hlt
 refine Bb (Af (Ak ?_));refine Aa (Am (Bp U U ?_))
 rw [findI_none hk.2 (by omega)]
theorem ContainsFuncIntG (l:List Int) (f:FuncId) (caps:List T) (p:Int→Bool) (hp:∀ e∈l,FrT Tryz.prog f ([.one (.v (.int .i64 e))]++caps.map .one) (.a (.one (.v (.bool (p e)))))):FnT Tryz.prog 95 [.one (.sl 1 (l.map cInt)),.one (.fn (.func f) [] caps)] (.a (.one (.v (.bool (l.any p))))):=by
 refine A7 Tryz.func95 U (by kernel_rfl) Tryz.ntmps95 U fun hlen w0=>?_
 try simp [cPair,cToken,cExpr,cEdge,cGraph,cStep,cWalk,cChange,cBatch,cHistory,cPositions,cAutomaton,cProductStep,cPathAtom,cConjunction,cView,cDelta,cRegistered,cRegistry] at hlen
 refine Af (Ak ?_);refine Aa (Af (Ab ?_));refine Ab ?_;refine Bv (IndexFuncIntG _ _ _ _ hp) ?_;refine AWl.gd ?_;refine Ag ?_;refine Aa (Am (Bp U U ?_))
 rw [findI_any]
theorem DeleteFuncIntG (l:List Int) (f:FuncId) (caps:List T) (p:Int→Bool) (hp:∀ e∈l,FrT Tryz.prog f ([.one (.v (.int .i64 e))]++caps.map .one) (.a (.one (.v (.bool (p e)))))) (hz:l.length≤1099511627776):FnC Tryz.prog 99 [(true,.one (.sl 1 (l.map cInt))),(false,.one (.fn (.func f) [] caps))] (.a (.one (.sl 1 ((l.filter fun x=>!p x).map cInt)))):=by
 refine FnC.walk Tryz.func99 rfl (by kernel_rfl) Tryz.ntmps99 rfl (by rfl) fun w0=>?_
 refine Ar (Av [0,1] [1000]) ?_
 try simp [cPair,cToken,cExpr,cEdge,cGraph,cStep,cWalk,cChange,cBatch,cHistory,cPositions,cAutomaton,cProductStep,cPathAtom,cConjunction,cView,cDelta,cRegistered,cRegistry] at hlen
 have hfi:=findI_spec p l 0
 have hfl:=findI_lt (p:=p) (l:=l) (m:=0)
 refine Af (Ak ?_);refine Cb (i:=4) 20001 1 U U ?_;refine Aa (Af (Ab ?_));refine Ab ?_;refine Bv (IndexFuncIntG l f caps p hp) ?_;refine Ag ?_;refine Aa (Ae (Af (Ab ?_)));refine Bs ?_;refine Aa (Ai (.tm U) (fun h12=>?_) (fun h12=>?_))
 · skip
   simp only [decide_eq_true_eq,decide_eq_false_iff_not] at h12
   have hno:∀ x∈l,p x=false:=by (rcases hfi with h|⟨k,x,h1,h2,h3,h4⟩;exact h.2;omega)
   refine Af (Ab ?_);refine Ag ?_;refine Aa (Am (Res.one U (.tmp U .nil) U ?_))
   rw [filter_none hno];rfl
 skip
 simp only [decide_eq_true_eq,decide_eq_false_iff_not] at h12
 obtain⟨i0,x0,h1,h2,h3,h4⟩:=hfi.resolve_left fun h=>h12 h.1
 rw [Nat.zero_add] at h3
 rw [h3]
 have hi0:=(List.getElem?_eq_some_iff.1 h1).1
 have hs0:l.take i0=(l.take (i0+1)).filter fun x=>!p x:=by (rw [filter_take h1,filter_none h4,h2];simp)
 refine Aj (Ae (Af (Ab ?_)));refine A8 ?_;refine Ag ?_;refine Aa (AW.block ?_);refine C6 (fun (j:Nat) (i:Nat) (Rr:List Int)=>((i+1≤j∧j≤l.length∧Rr.length=l.length))∧Rr.drop j=l.drop j∧Rr.take i=(l.take j).filter fun x=>!p x) (fun (j:Nat) (i:Nat) (Rr:List Int)=>⟨_,[(6,(true,.a (.one (.t (.v (.int .i64 (j:Nat))))))),(5,(true,.a (.one (.t (.v (.int .i64 (i:Nat))))))),(0,_),(1,_),(4,_)],[(1000,.row 1 (Rr.map cInt))]⟩) (fun (j:Nat) (i:Nat) (Rr:List Int)=>l.length-j) (i0+1) (i0) (l) ⟨⟨Nat.le_refl _,by omega,U⟩,U,hs0⟩ A4 ?_
 rintro j i Rr ⟨hk,he⟩
 refine Ae (Af (Ab ?_));refine Ab ?_;refine Be (.rf U) Tryz.underlying40 ?_;refine AWl.lt ?_;refine Aa (Ai (.tm U) (fun h19=>?_) (fun h19=>?_))
 · try simp at h19
   obtain⟨x,hx⟩:∃ ξ,l[j]?=some ξ:=⟨_,List.getElem?_eq_getElem (by omega)⟩
   have hxR:Rr[j]?=some x:=by (rw [drop_get he.1 (by omega)];exact hx)
   obtain⟨r1,hr1⟩:∃ ξ,Rr[i]?=some ξ:=⟨_,List.getElem?_eq_getElem (by omega)⟩
   refine Aj (Ae (AW.block (Af (Ab ?_))));refine Ab ?_;refine Ad (Ax U (.no U) U (.tm U) U (.tm U) Tryz.underlying40 ty3 (fun _=>⟨by omega,(Al hxR)⟩)) U ?_;refine Ad (Bu U (.no U) U (.tm U) U (Al hxR) ty3 U U) U ?_;refine Ag ?_;refine Aa (Ae (Ar (Av [0,1,4,5,6,7] [1000]) ?_));refine Ac (Ab ?_);refine Ab ?_;refine Ad (R_callv U (.no U) U (.tm U) (.cons (.tm U) U .nil) (hp x (List.mem_of_getElem? hx))) U ?_;refine C1 ?_;refine Aa (Ai (.tm U) (fun h29=>?_) (fun h29=>?_))
   · try simp at h29
     refine Af (Ab ?_);refine Ab ?_;refine Ab ?_;refine Ad (Ax U (.no U) U (.tm U) U (.tm U) Tryz.underlying40 ty3 (fun _=>⟨by omega,Al hr1⟩)) U ?_;refine Ch (Cn U U U (.tm U) U (.tm U) U (Al hr1) ty3 U U U U) ?_;refine Aa (Ar (Av [0,1,4,5,6,7] [1000]) ?_);refine Ac (Ab ?_);refine A8 ?_;refine Ag ?_;refine Aa (Ac (Ab ?_));refine A8 ?_;refine Ag ?_;refine Aa ?_
     repeat (with_reducible refine Au ?_)
     refine Round3.next (j+1) (i+1) (Rr.set i x) ⟨⟨by omega,by omega,by simp;omega⟩,by rw [set_drop (by omega)];exact drop_more he.1 (by omega),by rw [set_take (by omega),he.2,filter_take hx,h29];rfl⟩ (by omega) (Ap rfl ⟨rfl,rfl,rfl,rfl,rfl,Y⟩ ⟨(by (refine congrArg (fun r=>some (R.row _ r)) ?_;simp [chunk,List.map_set,cInt,cBool,cIntS,cPair,cToken,cExpr,cEdge,cGraph,cStep,cWalk,cChange,cBatch,cHistory,cPositions,cAutomaton,cProductStep,cPathAtom,cConjunction,cView,cDelta,cRegistered,cRegistry])),Y⟩)
   try simp at h29
   refine Aj (Ac (Ab ?_));refine A8 ?_;refine Ag ?_;refine Aa ?_
   repeat (with_reducible refine Au ?_)
   refine Round3.next (j+1) (i) (Rr) ⟨⟨by omega,by omega,hk.2.2⟩,drop_more he.1 (by omega),by rw [he.2,filter_take hx,h29];simp⟩ (by omega) (Ap rfl ⟨rfl,rfl,rfl,rfl,rfl,Y⟩ ⟨(by rfl),Y⟩)
 try simp at h19
 refine Bb (Af (Ab ?_));refine Ab ?_;refine Ad ((by exact Cr (m:=i) U (.no U) U (.tm U) U (.yes (.tm U) (fun _=>by first|rfl|omega|(simp<;>omega))) Tryz.underlying40 ty3 (fun _=>by simp;omega))) U ?_;refine Ch (R_clear U U U (.tm U) U Tryz.underlying40 in3 U U) ?_;refine Aa (Ae (Ar (Av [0,1,4,5,6] [1000]) ?_));refine Ac (Ab ?_);refine Ab ?_;refine Bl (R_cut (m:=i) U U U (.tm U) U (.yes (.tm U) (fun _=>by first|rfl|omega|(simp<;>omega))) Tryz.underlying40 ty3 (by simp;omega)) U ?_;refine Bq (Av [0,1,4,5,6,41] [1000]) ?_;refine Ag ?_;refine Aa (Am (Res.one U (.tmp U .nil) U ?_));refine congrArg (fun r=>[V0.one (T.sl 1 r)]) ?_;exact cut_rows (by rw [he.2,List.take_of_length_le (by omega)]) (by omega)
theorem implturned (next:List (List Int)) (hN:next.length≤65536) (hn:∀ p,p<next.length→∀ k∈nxL next p,0≤k∧k<next.length) (hz:∀ p,p<next.length→(nxL next p).length≤65536):FnT Tryz.prog 157 [.one (.sl 1 (next.map cIntS))] (.a (.one (.sl 1 ((turnedL next).map cIntS)))):=by
 refine A7 Tryz.func157 U (by kernel_rfl) Tryz.ntmps157 U fun hlen w0=>?_
 try simp [cPair,cToken,cExpr,cEdge,cGraph,cStep,cWalk,cChange,cBatch,cHistory,cPositions,cAutomaton,cProductStep,cPathAtom,cConjunction,cView,cDelta,cRegistered,cRegistry] at hlen
 skip
 refine Af (Ak ?_);refine Cb (i:=2) 20001 1 U U ?_;refine Aa (Af (Ab ?_));refine Be (.t) Tryz.underlying34 ?_;refine A6 (R_makeSlice 10 U U U (.tm U) Tryz.underlying34 in40 U U U U (by omega)) U ?_;refine Bq (Le.nilRow (id:=10) 1 U) ?_;refine Ag ?_;refine Aa (Ae (Af (Ab ?_)));refine Be (.t) Tryz.underlying34 ?_;refine Ad (Bh U (.no U) U (.const U)) U ?_;refine Aa (AW.block (By (fun (i:Nat)=>(i≤next.length)∧True) (fun (i:Nat)=>⟨_,[(13,(true,.a (.one (.t (.v (.int .i64 (i:Nat))))))),(3,(true,.a (.one (.rf 10)))),(2,_),(11,_),(12,_)],[(10,.row 1 ((List.range next.length).map fun (k:Nat)=>[T.sl 1 ((turnAt (nxL next) i k).map cInt)]))]⟩) (fun (i:Nat)=>next.length-i) (0) ⟨Nat.zero_le _,Y⟩ (Ap U ⟨U,U,U,U,U,Y⟩ ⟨congrArg (fun r=>some (R.row 1 r)) (by apply List.ext_getElem<;>simp [turnAt,turnOne]),Y⟩) ?_))
 rintro i ⟨hk,he⟩
 refine Af (AWl.lt ?_);refine Aa (Ae (Ai (.tm U) (fun h14=>?_) (fun h14=>?_)))
 · try simp at h14
   obtain⟨l,hl⟩:∃ ξ,next[i]?=some ξ:=⟨_,List.getElem?_eq_getElem (by omega)⟩
   have hnl:nxL next i=l:=nxL_at hl
   have hiN:i<next.length:=by omega
   have hll:l.length≤65536:=by rw [←hnl];exact hz i hiN
   refine Aj (Ae (AW.block (Af (Ab ?_))));refine Ad (As U (.no U) U (.tm U) (.tm U) Tryz.underlying34 Bz (fun _=>⟨by omega,(by exact Al hl)⟩)) U ?_;refine Aq Bz ?_;refine Ag ?_;refine Ag ?_;refine Aa (Af (Ab ?_));refine Be (.t) Tryz.underlying40 ?_;refine Ad (Bh U (.no U) U (.const U)) U ?_;refine Aa (AW.block (By (fun (j:Nat)=>(j≤l.length)∧True) (fun (j:Nat)=>⟨_,[(20,(true,.a (.one (.t (.v (.int .i64 (j:Nat))))))),(3,(true,.a (.one (.rf 10)))),(2,_),(4,_),(11,_),(12,_),(13,_),(18,_),(19,_)],[(10,.row 1 ((List.range next.length).map fun (k:Nat)=>[T.sl 1 ((turnAt (nxL next) i k++turnOne i (l.take j) k).map cInt)]))]⟩) (fun (j:Nat)=>l.length-j) (0) ⟨Nat.zero_le _,Y⟩ (Ap U ⟨U,U,U,U,U,U,U,U,U,Y⟩ ⟨congrArg (fun r=>some (R.row 1 r)) (by apply List.ext_getElem<;>simp [turnAt,turnOne]),Y⟩) ?_))
   rintro j ⟨hk1,he1⟩
   refine Af (AWl.lt ?_);refine Aa (Ae (Ai (.tm U) (fun h21=>?_) (fun h21=>?_)))
   · try simp at h21
     obtain⟨y,hy⟩:∃ ξ,l[j]?=some ξ:=⟨_,List.getElem?_eq_getElem (by omega)⟩
     have hyb:=hn i hiN y (by rw [hnl];exact List.mem_of_getElem? hy)
     have hl1:=turnAt_len (nx:=nxL next) (b:=65536) (N:=next.length) hz y.toNat i (by omega)
     have hl2:=turnOne_len i (l.take j) y.toNat
     have hl3:(l.take j).length≤65536:=by (have:=hz i hiN;rw [hnl] at this;rw [List.length_take];omega)
     have hl4:(turnAt (nxL next) i y.toNat).length+(turnOne i (l.take j) y.toNat).length≤4295032832:=by omega
     refine Aj (Ae (AW.block (Af (Ad (As U (.no U) U (.tm U) (.tm U) Tryz.underlying40 ty3 (fun _=>⟨by omega,(by exact Al hy)⟩)) U ?_))));refine Aq ty3 ?_;refine Ag ?_;refine Aa (AW.takeR (id:=10) (i:=y.toNat) (p:=0) 291 292 U (range_get _ (by omega)) U (fun _=>rfl) (fun _=>rfl) fun c29=>?_);refine Ac (Ab ?_);refine Ab ?_;refine Ab ?_;refine Ab ?_;refine Ad ((Ax U (.no U) U (.tm U) U (.tm U) Tryz.underlying34 Bz (fun _=>⟨by omega,set_at _ (range_get _ (by omega))⟩))) U ?_;refine Ad ((Bu U (.no U) U (.tm U) U (set_at _ (range_get _ (by omega))) Bz U U)) U ?_;refine Ab ?_;refine Ad (B7 (xs:=[.tmp 30]) (rows:=[cInt (i:Int)]) U U U (.cons (.tm U) U U .nil) Tryz.underlying40 in3 U U (U)) U ?_;refine Bl (R_append_hd (id:=291) (hid:=292) U U U (.tm U) U U (.tm U) (by exact .t) (by rfl) Tryz.underlying40 in3 U (by (simp [chunk];omega)) (by (unfold maxLen;simp [chunk];omega))) U ?_
     refine Bq (Av [2,3,4,7,11,12,13,18,19,20,21,24,25,32] [10,291,292]) ?_;refine Ad ((Ax U (.no U) U (.tm U) U (.tm U) Tryz.underlying34 Bz (fun _=>⟨by omega,set_at _ (range_get _ (by omega))⟩))) U ?_;refine Ch (Cn U U U (.tm U) U (.tm U) U (set_at _ (range_get _ (by omega))) Bz U U U U) ?_;refine Aa (Ac (A8 ?_));refine Ab ?_;refine Aa ?_
     repeat (with_reducible refine Au ?_)
     refine Round1.next (j+1) ⟨by omega,Y⟩ (by omega) (Ap rfl ⟨rfl,rfl,rfl,rfl,rfl,rfl,rfl,rfl,rfl,Y⟩ ⟨(by refine congrArg (fun r=>some (R.row 1 r)) ?_;first|(simp only [List.set_set];refine (range_app 1 cInt (fun k=>turnAt (nxL next) i k++turnOne i (l.take j) k) (i:Int)).trans ?_;congr 1;funext k;rw [turnOne_succ hy,List.append_assoc];done)|(congr 1;funext k;rw [turnAt_succ,hnl,List.take_of_length_le (by omega)];done)|(congr 1;funext k;simp [turnOne];done)),Y⟩)
   try simp at h21
   refine Bb (Ac (A8 ?_));refine Ab ?_;refine Aa ?_
   repeat (with_reducible refine Au ?_)
   refine Round1.next (i+1) ⟨by omega,Y⟩ (by omega) (Ap rfl ⟨rfl,rfl,rfl,rfl,rfl,Y⟩ ⟨(by refine congrArg (fun r=>some (R.row 1 r)) ?_;first|(simp only [List.set_set];refine (range_app 1 cInt (fun k=>turnAt (nxL next) i k++turnOne i (l.take j) k) (i:Int)).trans ?_;congr 1;funext k;rw [turnOne_succ hy,List.append_assoc];done)|(congr 1;funext k;rw [turnAt_succ,hnl,List.take_of_length_le (by omega)];done)|(congr 1;funext k;simp [turnOne];done)),Y⟩)
 try simp at h14
 refine Bb (Af (Ab ?_));refine Ag ?_;refine Aa (Am (Res.one U (.tmp U .nil) U ?_))
 rw [show i=next.length by omega];unfold turnedL;rw [List.map_map];rfl
theorem implDistancesTo (g:TGraph) (a:TAutomaton) (ha:validA a=true) (hg:validG g=true) (y v:Int) (hy:0≤y∧y<g.Values.length) (hv:g.Values[y.toNat]?=some v):FnT Tryz.prog 98 [.agg (cGraph g),.agg (cAutomaton a),.one (.v (.int .i64 y))] (.a (.one (.sl 1 ((distTo g a y v).map cInt)))):=by
 refine A7 Tryz.func98 U (by kernel_rfl) Tryz.ntmps98 U fun hlen w0=>?_
 try simp [cPair,cToken,cExpr,cEdge,cGraph,cStep,cWalk,cChange,cBatch,cHistory,cPositions,cAutomaton,cProductStep,cPathAtom,cConjunction,cView,cDelta,cRegistered,cRegistry] at hlen
 have hA:=validA_len ha
 have hG:=validG_len hg
 have hN:=prod_le ha hg
 have hnl:(nextsV g a).length=NP g a:=nextsV_len g a
 have hNP:NP g a=a.Accept.length*g.Values.length:=rfl
 have htl:(turnedL (nextsV g a)).length=NP g a:=by rw [turnedL_len,hnl]
 have hb:bothB g a [y]=true:=by rw [both_good];unfold goodB inB;simp [ha,hg];omega
 have hnz:∀ p,p<(nextsV g a).length→(nxL (nextsV g a) p).length≤1536:=fun p hp=>by rw [nextsV_len] at hp;rw [nextsV_at hp];exact nxN_len a hg p
 have hgz:(goalsL a y v).length≤12:=by unfold goalsL;rw [List.length_map];exact Nat.le_trans (List.length_filter_le _ _) (by simp;omega)
 have htz:∀ p,p<(turnedL (nextsV g a)).length→(nxL (turnedL (nextsV g a)) p).length≤131072:=fun p hp=>by rw [turnedL_len] at hp;rw [turnedL_at hp];have:=turnAt_len (nx:=nxL (nextsV g a)) (b:=1536) (N:=(nextsV g a).length) hnz p (nextsV g a).length (Nat.le_refl _);omega
 refine Af (Ad (Bm U U U (.tm U) (ts:=_) (by rfl)) U ?_);refine Ad (Bm U U U (.tm U) (ts:=_) (by rfl)) U ?_;refine Ak ?_;refine Cb (i:=6) 20001 1 U U ?_;refine Aa (Ae (Af (Aq Bx ?_)));refine Aq Bt ?_;refine Ab ?_;refine Ad (B7 (xs:=[.tmp 9]) (rows:=[cInt y]) U U U (.cons (.tm U) U U .nil) Tryz.underlying40 in3 U U (U)) U ?_;refine Bv (implbothOk g a [y]) ?_;refine C1 ?_;refine Aa (Ai (.tm U) (fun h12=>?_) (fun h12=>?_))
 · exact absurd h12 (by simp [hb])
 try simp at h12
 refine Aj (Ae (Ar (Av [0,1,2,3,4,6] [20001]) ?_));refine B8 10 (nthB [[],[],[0,1],[0,1,2],[],[],[],[0,1,2,3,4,5,6],[0,1,2,3,4,5,6,7],[0,1,2,3,4,5,6,7,8]]) (by kernel_rfl) (by kernel_rfl) (by kernel_rfl) ?_;refine Bj Bx ?_;refine Bj Bt ?_;refine DrawC.s (fun _ hs=>Bc (FnT.fr (implnextVertices g a ha hg)) U (.no U) (Ah hs U) (.cons (hs.tm U) (readA_sup hs U) (.cons (hs.tm U) (readA_sup hs U) .nil))) ?_;refine DrawC.s (fun _ hs=>Bc (FnT.fr (implturned (nextsV g a) (by omega) (nexts_ok ha hg) (fun p hp=>Nat.le_trans (hnz p hp) (by omega)))) U (.no U) (Ah hs U) (.cons (hs.tm U) (readA_sup hs U) .nil)) ?_;refine Bj Bx ?_;refine Bj Bt ?_;refine Aw ?_;refine DrawC.s (fun _ hs=>Bc (FnT.fr (implgoals g a ha hg y v hy.1 hv)) U (.no U) (Ah hs U) (.cons (hs.tm U) (readA_sup hs U) (.cons (hs.tm U) (readA_sup hs U) (.cons (hs.tm U) (readA_sup hs U) .nil)))) ?_
 refine Dv U U U (Loc.ofs U fun σ' hs hf=>Cq 2100 (implspread (turnedL (nextsV g a)) (goalsL a y v) (by omega) (fun p hp k hk=>by rw [turnedL_len] at hp ⊢;exact turnedL_ok p hp k hk) htz (by rw [htl];exact goals_rng ha hy) (by omega)) U U (Ah hs U) (.cons (hs.tm U) (readA_sup hs U) (.cons (hs.tm U) (readA_sup hs U) .nil)) U (all_fresh hf)) ?_;refine DrawC.s (fun _ hs=>Da U (.no U) (Ah hs U) (hs.tm U)) ?_;refine DrawC.fin U U ?_;refine Aa (Am (Res.one U (.tmp U .nil) U ?_))
 rfl
theorem implReachableProduct (g:TGraph) (a:TAutomaton) (ha:validA a=true) (hg:validG g=true) (x:Int) (hx:0≤x∧x<g.Values.length):FnT Tryz.prog 100 [.agg (cGraph g),.agg (cAutomaton a),.one (.v (.int .i64 x))] (.a (.one (.sl 1 ((rankTo (ranksOf g a x) (NP g a)).map cInt)))):=by
 refine A7 Tryz.func100 U (by kernel_rfl) Tryz.ntmps100 U fun hlen w0=>?_
 try simp [cPair,cToken,cExpr,cEdge,cGraph,cStep,cWalk,cChange,cBatch,cHistory,cPositions,cAutomaton,cProductStep,cPathAtom,cConjunction,cView,cDelta,cRegistered,cRegistry] at hlen
 have hN:=prod_le ha hg
 have hNP:NP g a=a.Accept.length*g.Values.length:=rfl
 have hRl:(ranksOf g a x).length=NP g a:=(ranks_ok ha hg hx).1
 refine Af (Ad (Bm U U U (.tm U) (ts:=_) (by rfl)) U ?_);refine Ad (Bm U U U (.tm U) (ts:=_) (by rfl)) U ?_;refine Ak ?_;refine Cb (i:=6) 20001 1 U U ?_;refine Aa (Af (A6 (Cu 10 U U U Tryz.underlying40 ty3 U) U ?_));refine Ag ?_;refine Aa (Ae (Af (Aq Bx ?_)));refine Aq Bt ?_;refine Ab ?_;refine Bv (implDistancesFrom g a ha hg x hx) ?_;refine Be (.t) Tryz.underlying40 ?_;refine Ad (Bh U (.no U) U (.const U)) U ?_;refine Aa (AW.block (By (fun (i:Nat)=>(i≤NP g a)∧True) (fun (i:Nat)=>⟨_,[(16,(true,.a (.one (.t (.v (.int .i64 (i:Nat))))))),(7,(true,.a (.one (.rf 10)))),(6,_),(14,_),(15,_)],[(10,.row 1 ((rankTo (ranksOf g a x) i).map cInt))]⟩) (fun (i:Nat)=>NP g a-i) (0) ⟨Nat.zero_le _,Y⟩ A4 ?_))
 rintro i ⟨hk,he⟩
 refine Af (AWl.lt ?_);refine Aa (Ae (Ai (.tm U) (fun h17=>?_) (fun h17=>?_)))
 · try simp at h17
   have hiN:i<NP g a:=by omega
   have hgi:=atI_get (out:=ranksOf g a x) (k:=(i:Int)) (by omega)
   have hrl:=rankTo_len (ranksOf g a x) i
   refine Aj (Ae (AW.block (Af (Ab ?_))));refine Ad (As U (.no U) U (.tm U) (.tm U) Tryz.underlying40 ty3 (fun _=>⟨by omega,(Al hgi)⟩)) U ?_;refine Aq ty3 ?_;refine Ag ?_;refine Ag ?_;refine Aa (Af (Ab ?_));refine AWl.gd ?_;refine Aa (Ai (.tm U) (fun h22=>?_) (fun h22=>?_))
   · try simp at h22
     refine Ar (Av [6,7,8,9,14,15,16] [10]) ?_;refine Ac (Ab ?_);refine Ab ?_;refine Bn (Ce (xs:=[.tmp 24]) 25 U U U (.cons (.tm U) U U .nil) Tryz.underlying40 in3 U U U U) U ?_;refine Bl (Bw U U U (.tm U) U (.tm U) (by exact .rf U) (by rfl) Tryz.underlying40 in3 U (by (simp [chunk];omega)) (by (unfold maxLen;simp [chunk];omega))) U ?_;refine Bq (Av [6,7,8,9,14,15,16,26] [10,25]) ?_;refine Ag ?_;refine Aa (Ac (A8 ?_));refine Ab ?_;refine Aa ?_
     repeat (with_reducible refine Au ?_)
     refine Round1.next (i+1) ⟨by omega,Y⟩ (by omega) (Ap rfl ⟨rfl,rfl,rfl,rfl,rfl,Y⟩ ⟨(by refine congrArg (fun r=>some (R.row 1 r)) ?_;first|(rw [rankTo_succ,if_pos (by simpa using h22)];simp [chunk,cInt];done)|(rw [rankTo_succ,if_neg (by simpa using h22)];simp;done)),Y⟩)
   try simp at h22
   refine Aj (Ar (Av [6,7,8,9,14,15,16] [10]) ?_);refine Ac (A8 ?_);refine Ab ?_;refine Aa ?_
   repeat (with_reducible refine Au ?_)
   refine Round1.next (i+1) ⟨by omega,Y⟩ (by omega) (Ap rfl ⟨rfl,rfl,rfl,rfl,rfl,Y⟩ ⟨(by refine congrArg (fun r=>some (R.row 1 r)) ?_;first|(rw [rankTo_succ,if_pos (by simpa using h22)];simp [chunk,cInt];done)|(rw [rankTo_succ,if_neg (by simpa using h22)];simp;done)),Y⟩)
 try simp at h17
 refine Bb (Af (Ab ?_));refine Ag ?_;refine Aa (Am (Res.one U (.tmp U .nil) U ?_))
 rw [show i=NP g a by omega];rfl
theorem implUsefulProduct1 (tz:List Int) (e:Int) (he:0≤e∧e<tz.length):FnT Tryz.prog 101 [.one (.v (.int .i64 e)),.one (.ad [.sl 1 (tz.map cInt)])] (.a (.one (.v (.bool (decide (atI tz e<0)))))):=by
 refine A7 Tryz.func101 U (by kernel_rfl) Tryz.ntmps101 U fun hlen w0=>?_
 try simp [cPair,cToken,cExpr,cEdge,cGraph,cStep,cWalk,cChange,cBatch,cHistory,cPositions,cAutomaton,cProductStep,cPathAtom,cConjunction,cView,cDelta,cRegistered,cRegistry] at hlen
 have hge:=atI_get (out:=tz) (k:=e) (by omega)
 refine Af (Ak ?_);refine Aa (Af (Aq Bz ?_));refine Ab ?_;refine Ad (As U (.no U) U (.tm U) (.tm U) Tryz.underlying40 ty3 (fun _=>⟨by omega,(Al hge)⟩)) U ?_;refine Aq ty3 ?_;refine Du ?_;refine Ag ?_;refine Aa (Am (Bp U U ?_))
 rfl
theorem implUsefulProduct (g:TGraph) (a:TAutomaton) (x y:Int):FnT Tryz.prog 37 [.agg (cGraph g),.agg (cAutomaton a),.one (.v (.int .i64 x)),.one (.v (.int .i64 y))] (.a (.one (.sl 1 ((usefF g a x y).map cInt)))):=by
 refine A7 Tryz.func37 U (by kernel_rfl) Tryz.ntmps37 U fun hlen w0=>?_
 try simp [cPair,cToken,cExpr,cEdge,cGraph,cStep,cWalk,cChange,cBatch,cHistory,cPositions,cAutomaton,cProductStep,cPathAtom,cConjunction,cView,cDelta,cRegistered,cRegistry] at hlen
 skip
 refine Af (Ad (Bm U U U (.tm U) (ts:=_) (by rfl)) U ?_);refine Ad (Bm U U U (.tm U) (ts:=_) (by rfl)) U ?_;refine Ak ?_;refine Cb (i:=8) 20001 1 U U ?_;refine Aa (Ae (Af (Aq Bx ?_)));refine Aq Bt ?_;refine Ab ?_;refine Ab ?_;refine Ad (B7 (xs:=[.tmp 12,.tmp 13]) (rows:=[cInt x,cInt y]) U U U (.cons (.tm U) U U (.cons (.tm U) U U .nil)) Tryz.underlying40 in3 U U (U)) U ?_;refine Bv (implbothOk g a [x,y]) ?_;refine C1 ?_;refine Aa (Ai (.tm U) (fun h16=>?_) (fun h16=>?_))
 · skip
   rw [useful_both] at h16
   refine Ae (Ar (Av [0,1,2,3,4,5,8] [20001]) ?_);refine Ac (Ak ?_);refine Cb (i:=8) 20002 1 U U ?_;refine Aa (Am (Res.one U (.tmp U .nil) U ?_))
   unfold usefF;rw [show usefulOk g a x y=false by simpa using h16];rfl
 skip
 rw [useful_both] at h16
 have hok:usefulOk g a x y=true:=by simpa using h16
 have hp:=hok
 unfold usefulOk at hp;simp only [Bool.and_eq_true] at hp
 obtain⟨hg,ha,hx⟩:=good_parts hp.1
 have hy:=(good_parts hp.2).2.2
 obtain⟨v,hv⟩:∃ v,g.Values[y.toNat]?=some v:=⟨_,List.getElem?_eq_getElem (by omega)⟩
 have hto:=to_ok ha hg hy hv
 have hrl:=rankTo_len (ranksOf g a x) (NP g a)
 have hN:NP g a≤60:=(prod_le ha hg).2
 refine Aj (Ae (Ar (Av [0,1,2,3,4,5,8] [20001]) ?_));refine Ac (Aq Bx ?_);refine Aq Bt ?_;refine Ab ?_;refine Bv (implDistancesTo g a ha hg y v hy hv) ?_;refine A6 (Bi 9 U U U in40 U U U) U ?_;refine Az Bz ?_;refine Aa (Ae (Ar (Le.frz 9 9 (xs:=[.sl 1 ((distTo g a y v).map cInt)]) U U U) ?_));refine Ac (Aq Bx ?_);refine Aq Bt ?_;refine Ab ?_;refine Cc (Cq 2400 (implReachableProduct g a ha hg x hx) U U U (.cons (.tm U) U (.cons (.tm U) U (.cons (.tm U) U .nil))) U U) U ?_;refine Ad (R_makeFunc U (.no U) U (.cons (.tm U) .nil)) U ?_;apply AWl.consume
 case ho=>
  apply R_consume (xo:=.tmp 24) 2600 (DeleteFuncIntG (rankTo (ranksOf g a x) (NP g a)) 101 [.ad [.sl 1 ((distTo g a y v).map cInt)]] (fun i=>decide (atI (distTo g a y v) i<0)) (fun e he=>(implUsefulProduct1 (distTo g a y v) e (by rw [hto.1];exact rankTo_rng e he)).fr) (by omega)) rfl rfl rfl (.tm rfl)
  case ha=>rfl
  case hargs=>exact (ArgC.own (ArgRd.one (.tm rfl) .nil))
  all_goals rfl
 case hd=>rfl
 refine Ag ?_;refine Aa (Am (Res.one U (.tmp U .nil) U ?_))
 unfold usefF;rw [if_pos hok,←useful_same ha hg hx hy hv];rfl
theorem specUsefulProduct (g:TGraph) (a:TAutomaton) (x y:Int):FnT Tryz.prog 39 [.agg (cGraph g),.agg (cAutomaton a),.one (.v (.int .i64 x)),.one (.v (.int .i64 y))] (.a (.one (.sl 1 ((usefF g a x y).map cInt)))):=by
 refine A7 Tryz.func39 U (by kernel_rfl) Tryz.ntmps39 U fun hlen w0=>?_
 try simp [cPair,cToken,cExpr,cEdge,cGraph,cStep,cWalk,cChange,cBatch,cHistory,cPositions,cAutomaton,cProductStep,cPathAtom,cConjunction,cView,cDelta,cRegistered,cRegistry] at hlen
 skip
 refine Af (Ad (Bm U U U (.tm U) (ts:=_) (by rfl)) U ?_);refine Ad (Bm U U U (.tm U) (ts:=_) (by rfl)) U ?_;refine Ak ?_;refine Cb (i:=8) 20001 1 U U ?_;refine Aa (Af (A6 (Cu 13 U U U Tryz.underlying40 ty3 U) U ?_));refine Ag ?_;refine Aa (Ae (Af (Aq Bx ?_)));refine Aq Bt ?_;refine Ab ?_;refine Bv (specl14Good g a x 0) ?_;refine C1 ?_;refine Ab ?_;refine AWl.mw ?_;refine Dc Cl ?_;refine Db Bz ?_;refine Ad (Dp U (by exact .not1 U U U U) U (.tmp U (by exact id)) (by exact .t) Tryz.underlying40) U ?_;refine Ad (Dx U (by exact .not1 U U U U) U (.tmp U (by exact id)) (.const U) (fun hq=>by first|omega|(simp at hq;omega))) U ?_;refine Ad (Bc (FnT.fr (specl1In y 0 ((g.Values.length:Int)-1))) U (by exact .not1 U U U U) U (.cons (.tmp U (by exact id)) U (.cons (.const U) U (.cons (.tmp U (by exact id)) U .nil)))) U ?_;refine Ad (R_not U (by exact .not1 U U U U) U (.tmp U (by exact id))) U ?_
 refine Cx ?_;refine Aa (Ai (.tm U) (fun h27=>?_) (fun h27=>?_))
 · try simp at h27
   have hno:usefulOk g a x y=false:=by (rw [←useful_in];revert h27;cases goodB g a x 0<;>cases inB y 0 ((g.Values.length:Int)-1)<;>simp)
   refine Ae (Ar (Av [0,1,2,3,4,5,8,9] [20001,13]) ?_);refine Ac (Ab ?_);refine Ag ?_;refine Aa (Am (Res.one U (.tmp U .nil) U ?_))
   unfold usefF;rw [if_neg (by rw [hno];simp)];rfl
 try simp at h27
 have hok:usefulOk g a x y=true:=by (rw [←useful_in];revert h27;cases goodB g a x 0<;>cases inB y 0 ((g.Values.length:Int)-1)<;>simp)
 have hp:=hok
 unfold usefulOk at hp;simp only [Bool.and_eq_true] at hp
 obtain⟨hg,ha,hx⟩:=good_parts hp.1
 have hN:NP g a≤60:=(prod_le ha hg).2
 have hRl:(ranksOf g a x).length=NP g a:=(ranks_ok ha hg hx).1
 have hBl:(backOf g a y).length=NP g a:=(back_dist ha hg y).len
 refine Aj (Ae (Ar (Av [0,1,2,3,4,5,8,9] [20001,13]) ?_));refine Ac (Aq Bx ?_);refine Aq Bt ?_;refine Ab ?_;refine Bv (specl14Ranks g a ha hg x hx) ?_;refine Ag ?_;refine Aa (Af (Aq Bx ?_));refine Aq Bt ?_;refine Ab ?_;refine Bv (specl14Back g a ha hg y) ?_;refine Ag ?_;refine Aa (Ae (Ae (Ar (Av [0,1,2,3,4,5,8,9,10,11] [20001,13]) ?_)));refine Ac (Ak ?_);refine Aa (AW.block (By (fun (i:Nat)=>(i≤NP g a)∧True) (fun (i:Nat)=>⟨_,[(12,(true,.a (.one (.t (.v (.int .i64 (i:Nat))))))),(9,(true,.a (.one (.rf 13)))),(8,_),(10,_),(11,_)],[(13,.row 1 ((usefTo g a x y i).map cInt))]⟩) (fun (i:Nat)=>NP g a-i) (0) ⟨Nat.zero_le _,Y⟩ A4 ?_))
 rintro i ⟨hk,he⟩
 refine Ae (Af (Ab ?_));refine Ab ?_;refine Be (.t) Tryz.underlying40 ?_;refine AWl.lt ?_;refine Aa (Ai (.tm U) (fun h40=>?_) (fun h40=>?_))
 · try simp at h40
   have hiN:i<NP g a:=by omega
   have hgi:=atI_get (out:=ranksOf g a x) (k:=(i:Int)) (by omega)
   have hgb:=atI_get (out:=backOf g a y) (k:=(i:Int)) (by omega)
   have hrl:=usefTo_len g a x y i
   refine Aj (Ae (AW.block (Af (Ab ?_))));refine Ab ?_;refine Ad (As U (.no U) U (.tm U) (.tm U) Tryz.underlying40 ty3 (fun _=>⟨by omega,(by exact Al hgi)⟩)) U ?_;refine Aq ty3 ?_;refine AWl.gd ?_;refine Ab ?_;refine Cm ?_;refine Cm ?_;refine Ad (by exact As U (by exact .yes1 U U U U) U (.tmp U (by exact id)) (.tmp U (by exact id)) Tryz.underlying40 ty3 (fun hq=>by (try simp at hq);exact⟨by omega,(by exact Al hgb)⟩)) U ?_;refine Dj ty3 ?_;refine Ad (R_ge U (by exact .yes1 U U U U) U (.tmp U (by exact id)) (.const U)) U ?_;refine Ck ?_;refine Aa (Ai (.tm U) (fun h54=>?_) (fun h54=>?_))
   · try simp at h54
     have hhit:usefB g a x y i=true:=by (unfold usefB;simpa using h54)
     refine Ar (Av [8,9,10,11,12] [13]) ?_;refine Ac (Ab ?_);refine Ab ?_;refine Bn (Ce (xs:=[.tmp 56]) 57 U U U (.cons (.tm U) U U .nil) Tryz.underlying40 in3 U U U U) U ?_;refine Bl (Bw U U U (.tm U) U (.tm U) (by exact .rf U) (by rfl) Tryz.underlying40 in3 U (by (simp [chunk];omega)) (by (unfold maxLen;simp [chunk];omega))) U ?_;refine Bq (Av [8,9,10,11,12,58] [13,57]) ?_;refine Ag ?_;refine Aa (Ac (Ab ?_));refine A8 ?_;refine Ag ?_;refine Aa ?_
     repeat (with_reducible refine Au ?_)
     refine Round1.next (i+1) ⟨by omega,Y⟩ (by omega) (Ap rfl ⟨rfl,rfl,rfl,rfl,rfl,Y⟩ ⟨(by refine congrArg (fun r=>some (R.row 1 r)) ?_;first|(rw [usefTo_succ,hhit];simp [chunk,cInt];done)|(rw [usefTo_succ,hhit];simp;done)),Y⟩)
   try simp at h54
   have hhit:usefB g a x y i=false:=by (unfold usefB;simpa using h54)
   refine Aj (Ar (Av [8,9,10,11,12] [13]) ?_);refine Ac (Ab ?_);refine A8 ?_;refine Ag ?_;refine Aa ?_
   repeat (with_reducible refine Au ?_)
   refine Round1.next (i+1) ⟨by omega,Y⟩ (by omega) (Ap rfl ⟨rfl,rfl,rfl,rfl,rfl,Y⟩ ⟨(by refine congrArg (fun r=>some (R.row 1 r)) ?_;first|(rw [usefTo_succ,hhit];simp [chunk,cInt];done)|(rw [usefTo_succ,hhit];simp;done)),Y⟩)
 try simp at h40
 refine Bb (Af (Ab ?_));refine Ag ?_;refine Aa (Am (Res.one U (.tmp U .nil) U ?_))
 unfold usefF;rw [if_pos hok,show i=NP g a by omega];rfl
theorem implHasInfiniteWalks1 (next:List (List Int)) (hn:∀ p,p<next.length→∀ k∈nxL next p,0≤k∧k<next.length) (e:Int) (he:0≤e∧e<next.length):FnT Tryz.prog 96 [.one (.v (.int .i64 e)),.one (.ad [.sl 1 ((reachM next).map cBoolS)])] (.a (.one (.v (.bool (rB next e.toNat e.toNat))))):=by
 obtain⟨ri,hri1,hri2⟩:=reachM_at hn (i:=e.toNat) (by omega)
 have hb1:=hri2 e.toNat (by omega)
 refine A7 Tryz.func96 U (by kernel_rfl) Tryz.ntmps96 U fun hlen w0=>?_
 try simp [cPair,cToken,cExpr,cEdge,cGraph,cStep,cWalk,cChange,cBatch,cHistory,cPositions,cAutomaton,cProductStep,cPathAtom,cConjunction,cView,cDelta,cRegistered,cRegistry] at hlen
 skip
 refine Af (Ak ?_);refine Aa (Af (Aq ty131 ?_));refine Ab ?_;refine Ad (As U (.no U) U (.tm U) (.tm U) Tryz.underlying131 ty33 (fun _=>⟨by omega,(by exact Al hri1)⟩)) U ?_;refine Aq ty33 ?_;refine Ab ?_;refine Ad (As U (.no U) U (.tm U) (.tm U) Tryz.underlying33 ty4 (fun _=>⟨by omega,(by exact Al hb1)⟩)) U ?_;refine Aq ty4 ?_;refine Ag ?_;refine Aa (Am (Bp U U ?_))
 rfl
theorem implHasInfiniteWalks (g:TGraph) (a:TAutomaton) (x y:Int):FnT Tryz.prog 35 [.agg (cGraph g),.agg (cAutomaton a),.one (.v (.int .i64 x)),.one (.v (.int .i64 y))] (.a (.one (.v (.bool (infW g a x y))))):=by
 refine A7 Tryz.func35 U (by kernel_rfl) Tryz.ntmps35 U fun hlen w0=>?_
 try simp [cPair,cToken,cExpr,cEdge,cGraph,cStep,cWalk,cChange,cBatch,cHistory,cPositions,cAutomaton,cProductStep,cPathAtom,cConjunction,cView,cDelta,cRegistered,cRegistry] at hlen
 skip
 refine Af (Ad (Bm U U U (.tm U) (ts:=_) (by rfl)) U ?_);refine Ad (Bm U U U (.tm U) (ts:=_) (by rfl)) U ?_;refine Ak ?_;refine Aa (Ae (Af (Aq Bx ?_)));refine Aq Bt ?_;refine Ab ?_;refine Ab ?_;refine Ad (B7 (xs:=[.tmp 12,.tmp 13]) (rows:=[cInt x,cInt y]) U U U (.cons (.tm U) U U (.cons (.tm U) U U .nil)) Tryz.underlying40 in3 U U (U)) U ?_;refine Bv (implbothOk g a [x,y]) ?_;refine C1 ?_;refine Aa (Ai (.tm U) (fun h16=>?_) (fun h16=>?_))
 · skip
   rw [useful_both] at h16
   refine Ae (Ar (Av [0,1,2,3,4,5,8] []) ?_);refine Ac (Ak ?_);refine Aa (Am (Bp U U ?_))
   unfold infW;rw [show usefulOk g a x y=false by simpa using h16];rfl
 skip
 rw [useful_both] at h16
 have hok:usefulOk g a x y=true:=by simpa using h16
 have hp:=hok
 unfold usefulOk at hp;simp only [Bool.and_eq_true] at hp
 obtain⟨hg,ha,hx⟩:=good_parts hp.1
 have hN:1≤NP g a∧NP g a≤60:=prod_le ha hg
 have hnl:(nextsV g a).length=NP g a:=nextsV_len g a
 have hnz:∀ p,p<(nextsV g a).length→(nxL (nextsV g a) p).length≤65536:=fun p hp=>by rw [nextsV_len] at hp;rw [nextsV_at hp];have:=nxN_len a hg p;omega
 refine Aj (Ae (Ar (Av [0,1,2,3,4,5,8] []) ?_));refine Ac (Aq Bx ?_);refine Aq Bt ?_;refine Bv (implnextVertices g a ha hg) ?_;refine Ad (Bc (FnT.fr (implreachable (nextsV g a) (by omega) (nexts_ok ha hg) hnz)) U (.no U) U (.cons (.tm U) U .nil)) U ?_;refine A6 (Bi 9 U U U in131 U U U) U ?_;refine Az ty131 ?_;refine Aa (Ae (Ar (Le.frz 9 9 (xs:=[.sl 1 ((reachM (nextsV g a)).map cBoolS)]) U U U) ?_));refine Ac (Aq Bx ?_);refine Aq Bt ?_;refine Ab ?_;refine Ab ?_;refine Bv (implUsefulProduct g a x y) ?_;refine Ad (R_makeFunc U (.no U) U (.cons (.tm U) .nil)) U ?_
 refine Ad (Bc (FnT.fr (ContainsFuncIntG (usefF g a x y) 96 [.ad [.sl 1 ((reachM (nextsV g a)).map cBoolS)]] (fun i=>rB (nextsV g a) i.toNat i.toNat) (fun e he=>(implHasInfiniteWalks1 (nextsV g a) (nexts_ok ha hg) e (by unfold usefF at he;rw [if_pos hok] at he;obtain⟨p,h1,_,U⟩:=mem_usefTo.1 he;omega)).fr))) U (.no U) U (.cons (.tm U) U (.cons (.tm U) U .nil))) U ?_;refine Ag ?_;refine Aa (Am (Bp U U ?_))
 unfold infW usefF;rw [hok,if_pos rfl,Bool.true_and];congr 1;refine any_congr' fun e he=>?_;obtain⟨p,h1,_,rfl⟩:=mem_usefTo.1 he;rw [Int.toNat_natCast,rB_eq (nexts_ok ha hg) (by omega) (by omega),wK_nexts g a h1]
theorem specHasInfiniteWalks (g:TGraph) (a:TAutomaton) (x y:Int):FnT Tryz.prog 36 [.agg (cGraph g),.agg (cAutomaton a),.one (.v (.int .i64 x)),.one (.v (.int .i64 y))] (.a (.one (.v (.bool (infW g a x y))))):=by
 refine A7 Tryz.func36 U (by kernel_rfl) Tryz.ntmps36 U fun hlen w0=>?_
 try simp [cPair,cToken,cExpr,cEdge,cGraph,cStep,cWalk,cChange,cBatch,cHistory,cPositions,cAutomaton,cProductStep,cPathAtom,cConjunction,cView,cDelta,cRegistered,cRegistry] at hlen
 skip
 refine Af (Ad (Bm U U U (.tm U) (ts:=_) (by rfl)) U ?_);refine Ad (Bm U U U (.tm U) (ts:=_) (by rfl)) U ?_;refine Ak ?_;refine Aa (Af (Aq Bx ?_));refine Aq Bt ?_;refine Ab ?_;refine Ab ?_;refine Bv (specUsefulProduct g a x y) ?_;refine Ag ?_;refine Aa (Ae (Af (Ab ?_)));refine Be (.t) Tryz.underlying40 ?_;refine Bs ?_;refine Aa (Ai (.tm U) (fun h19=>?_) (fun h19=>?_))
 · try simp only [bit_at,bit_zero,shr_zero] at h19
   try simp only [Int.toNat_natCast] at h19
   try simp at h19
   refine Ae (Ar (Av [0,1,2,3,4,5,8,9] []) ?_);refine Ac (Ak ?_);refine Aa (Am (Bp U U ?_))
   rw [infW_nil (by simpa using h19)]
 try simp only [bit_at,bit_zero,shr_zero] at h19
 try simp only [Int.toNat_natCast] at h19
 try simp at h19
 have hne:usefF g a x y≠[]:=fun e=>(by rw [e] at h19;first|exact h19 rfl|simp at h19)
 have hok:usefulOk g a x y=true:=by (by_cases h:usefulOk g a x y=true;exact h;exact absurd (by unfold usefF;rw [if_neg h]) hne)
 have hp:=hok
 unfold usefulOk at hp;simp only [Bool.and_eq_true] at hp
 obtain⟨hg,ha,hx⟩:=good_parts hp.1
 have hN:1≤NP g a∧NP g a≤60:=prod_le ha hg
 have hul:(usefF g a x y).length≤60:=by (unfold usefF;rw [if_pos hok];exact Nat.le_trans (usefTo_len _ _ _ _ _) hN.2)
 refine Aj (Ae (Ar (Av [0,1,2,3,4,5,8,9] []) ?_));refine Ac (Aq Bx ?_);refine Aq Bt ?_;refine Bv (specl24Reach g a ha hg) ?_;refine Ag ?_;refine Aa (Ae (Af (Ak ?_)));refine Aa (AW.block (By (fun (i:Nat)=>(i≤(usefF g a x y).length∧∀ j z,j<i→(usefF g a x y)[j]?=some z→(wK (nxN g a) (NP g a) z.toNat).testBit z.toNat=false)∧True) (fun (i:Nat)=>⟨_,[(11,(true,.a (.one (.t (.v (.int .i64 (i:Nat))))))),(9,_),(10,_)],[]⟩) (fun (i:Nat)=>(usefF g a x y).length-i) (0) ⟨⟨Nat.zero_le _,fun j z hj=>by omega⟩,Y⟩ (Ap U ⟨U,U,U,Y⟩ trivial) ?_))
 rintro i ⟨hk,he⟩
 refine Ae (Af (Ab ?_));refine Ab ?_;refine Be (.t) Tryz.underlying40 ?_;refine AWl.lt ?_;refine Aa (Ai (.tm U) (fun h26=>?_) (fun h26=>?_))
 · try simp only [bit_at,bit_zero,shr_zero] at h26
   try simp only [Int.toNat_natCast] at h26
   try simp at h26
   obtain⟨q,hq⟩:∃ ξ,(usefF g a x y)[i]?=some ξ:=⟨_,List.getElem?_eq_getElem (by omega)⟩
   obtain⟨p,hpN,_,rfl⟩:=mem_usefTo.1 (show q∈usefTo g a x y (NP g a) by (have:=List.mem_of_getElem? hq;unfold usefF at this;rwa [if_pos hok] at this))
   have hgw:((List.range (NP g a)).map fun p=>((wK (nxN g a) (NP g a) p:Nat):Int))[p]?=some ((wK (nxN g a) (NP g a) p:Nat):Int):=range_get _ hpN
   refine Aj (Ae (AW.block (Ae (B8 14 (nthB [[],[],[],[1,2],[1,2,3],[0,1,2,3,4],[0,1,2,3,4,5],[],[],[7,8],[7,8,9],[0,1,2,3,4,5,6,7,8,9,10],[0,1,2,3,4,5,6,7,8,9,10,11],[0,1,2,3,4,5,6,7,8,9,10,11,12]]) (by kernel_rfl) (by kernel_rfl) (by kernel_rfl) ?_))));refine Aw ?_;refine Aw ?_;refine Aw ?_;refine DrawC.s (fun _ hs=>(by exact As U (.no U) (Ah hs U) (hs.tm U) (hs.tm U) Tryz.underlying40 ty3 (fun _=>⟨by omega,(by exact Al hq)⟩))) ?_;refine Bj ty3 ?_;refine DrawC.s (fun _ hs=>(by exact As U (.no U) (Ah hs U) (hs.tm U) (hs.tm U) Tryz.underlying40 ty3 (fun _=>⟨by omega,(by exact Al hgw)⟩))) ?_;refine Bj ty3 ?_;refine Aw ?_;refine Aw ?_;refine DrawC.s (fun _ hs=>(by exact As U (.no U) (Ah hs U) (hs.tm U) (hs.tm U) Tryz.underlying40 ty3 (fun _=>⟨by omega,(by exact Al hq)⟩))) ?_;refine Bj ty3 ?_;refine DrawC.s (fun _ hs=>R_shr U (.no U) (Ah hs U) (hs.tm U) (hs.tm U) (fun _=>by omega)) ?_
   refine DrawC.s (fun _ hs=>R_and1 U (.no U) (Ah hs U) (hs.tm U) (.const U) (fun _=>by first|exact Int.natCast_nonneg _|omega)) ?_;refine DrawC.s (fun _ hs=>R_eq U (.no U) (Ah hs U) (hs.tm U) (.const U)) ?_;refine DrawC.fin U U ?_;refine Aa (Ai (.tm U) (fun h42=>?_) (fun h42=>?_))
   · try simp only [bit_at,bit_zero,shr_zero] at h42
     try simp only [Int.toNat_natCast] at h42
     try simp at h42
     have hbit:(wK (nxN g a) (NP g a) p).testBit p=true:=by ((try simp only [bit_at] at h42);simpa using h42)
     refine Ae (Ar (Av [9,10,11] []) ?_);refine Ac (Ak ?_);refine Aa (Am (Bp U U ?_))
     unfold infW;rw [hok,Bool.true_and];congr 1;symm;rw [List.any_eq_true];exact⟨(p:Int),by (have:=List.mem_of_getElem? hq;unfold usefF at this;rwa [if_pos hok] at this),by simpa using hbit⟩
   try simp only [bit_at,bit_zero,shr_zero] at h42
   try simp only [Int.toNat_natCast] at h42
   try simp at h42
   have hbit:(wK (nxN g a) (NP g a) (p:Int).toNat).testBit (p:Int).toNat=false:=by ((try simp only [bit_at] at h42);simpa using h42)
   refine Aj (Ar (Av [9,10,11] []) ?_);refine Ac (Ab ?_);refine A8 ?_;refine Ag ?_;refine Aa ?_
   repeat (with_reducible refine Au ?_)
   refine Round1.next (i+1) ⟨⟨by omega,fun j z hj hz=>by rcases Nat.lt_or_eq_of_le (Nat.le_of_lt_succ hj) with h|h;exact hk.2 j z h hz;subst h;rw [hq] at hz;cases hz;exact hbit⟩,Y⟩ (by omega) (Ap rfl ⟨rfl,rfl,rfl,Y⟩ trivial)
 try simp only [bit_at,bit_zero,shr_zero] at h26
 try simp only [Int.toNat_natCast] at h26
 try simp at h26
 refine Bb (Af (Ak ?_));refine Aa (Am (Bp U U ?_))
 unfold infW;rw [hok,Bool.true_and];congr 1;symm;rw [List.any_eq_false];intro z hz;have he':usefF g a x y=usefTo g a x y (NP g a):=(by unfold usefF;rw [if_pos hok]);rw [←he'] at hz;obtain⟨j,hj⟩:=List.getElem?_of_mem hz;have hjl:=(List.getElem?_eq_some_iff.1 hj).1;rw [hk.2 j z (by omega) hj];simp
end Go.Proofs.YtbecibmlbiebeaaGreat
