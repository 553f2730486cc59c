import Derived.Test.YtdhojcaoljhbiaaGreatDoorB107xk
import Derived.Test.YtdhojcaoljhbiaaGreatDoorB98xk
import Derived.Test.YtdhojcaoljhbiaaGreatDoorB183xk
import Derived.Test.YtdhojcaoljhbiaaGreatDoorB112xk
import Derived.Test.YtdhojcaoljhbiaaGreatDoorB78xk
set_option linter.unusedVariables false
set_option linter.unusedSimpArgs false
set_option maxRecDepth 100000
set_option maxHeartbeats 1000000
set_option maxRecDepth 100000
namespace Go.Q
open Go.RowKit Go.D
def putAt (n k:Nat) (found:Bool):List Nat:=if found then List.range n else (List.range n).take k++[n]++(List.range n).drop k
theorem putAt_nodup (n k:Nat) (f:Bool):(putAt n k f).Nodup∧∀ i∈putAt n k f,i<n+1:=by
 unfold putAt
 split
 · exact⟨List.nodup_range,fun i hi=>by have:=List.mem_range.1 hi;omega⟩
 have hp:((List.range n).take k++[n]++(List.range n).drop k).Perm (n::List.range n):=by
  rw [List.append_assoc]
  have h1:(List.range n).take k++([n]++(List.range n).drop k)=(List.range n).take k++n::(List.range n).drop k:=rfl
  rw [h1]
  exact List.perm_middle.trans (by rw [List.take_append_drop])
 refine⟨hp.nodup_iff.2 (List.nodup_cons.2 ⟨by simp,List.nodup_range⟩),fun i hi=>?_⟩
 rcases List.mem_cons.1 (hp.mem_iff.1 hi) with rfl|h
 · omega
 have:=List.mem_range.1 h;omega
def lessAt (l:List (List Int)) (p:List Int) (j:Nat):Bool:=rless (l.getD j []) p
def posP (l:List (List Int)) (p:List Int):Nat:=(l.takeWhile fun r=>rless r p).length
theorem posP_eq {l:List (List Int)} {p:List Int} {k:Nat} (hk:k≤l.length) (h1:∀ j,j<k→lessAt l p j=true) (h2:k<l.length→lessAt l p k=false):posP l p=k:=by
 unfold posP
 have e:l.takeWhile (fun r=>rless r p)=l.take k:=by
  conv=>lhs;rw [←List.take_append_drop k l]
  rw [List.takeWhile_append_of_pos]
  · cases hd:l.drop k with
    | nil=>simp
    | cons y r=>
     have hkl:k<l.length:=by
      rcases Nat.lt_or_ge k l.length with h|h
      · exact h
      rw [List.drop_eq_nil_of_le h] at hd;cases hd
     have hy:l[k]?=some y:=by
      have:(l.drop k)[0]?=some y:=by rw [hd];rfl
      simpa using this
     have:=h2 hkl
     unfold lessAt at this
     rw [List.getD_eq_getElem?_getD,hy] at this
     simp [List.takeWhile_cons,show rless y p=false from this]
  intro y hy
  obtain⟨j,hj⟩:=List.getElem?_of_mem hy
  have hjk:=(List.getElem?_eq_some_iff.1 hj).1
  rw [List.length_take] at hjk
  rw [List.getElem?_take_of_lt (by omega)] at hj
  have:=h1 j (by omega)
  unfold lessAt at this
  rwa [List.getD_eq_getElem?_getD,hj] at this
 rw [e,List.length_take];omega
theorem tw_spec (q:List Int→Bool):∀ (l:List (List Int)) (y:List Int),l[(l.takeWhile q).length]?=some y→q y=false
 | [],y,h=>by simp at h
 | x::l,y,h=>by
  by_cases hx:q x=true
  · rw [List.takeWhile_cons_of_pos hx,List.length_cons,List.getElem?_cons_succ] at h;exact tw_spec q l y h
  rw [List.takeWhile_cons_of_neg hx] at h;simp at h;subst h;simpa using hx
theorem posP_spec (l:List (List Int)) (p:List Int):posP l p≤l.length∧(∀ j y,j<posP l p→l[j]?=some y→rless y p=true)∧∀ y,l[posP l p]?=some y→rless y p=false:=by
 have hpre:=List.takeWhile_prefix (p:=fun r=>rless r p) (l:=l)
 refine⟨hpre.length_le,fun j y hj hy=>?_,fun y hy=>tw_spec _ l y hy⟩
 obtain⟨t,ht⟩:=hpre
 rw [←ht,List.getElem?_append_left hj] at hy
 exact List.all_eq_true.1 (List.all_takeWhile (l:=l) (p:=fun r=>rless r p)) y (List.mem_of_getElem? hy)
def isAt (l:List (List Int)) (p:List Int):Bool:=decide (posP l p<l.length)&&decide (cmpL (l.getD (posP l p) []) p=0)
theorem putG_posP (l:List (List Int)) (p:List Int):((putAt l.length (posP l p) (isAt l p)).map fun i=>(l++[p]).getD i [])=putG rless l p:=by
 obtain⟨h1,h2,h3⟩:=posP_spec l p
 rw [putG_at h2 h3 h1]
 have hr:∀ (m:List Nat),(∀ i∈m,i<l.length)→(m.map fun i=>(l++[p]).getD i [])=m.map fun i=>l.getD i []:=fun m hm=>List.map_congr_left fun i hi=>by
  rw [List.getD_eq_getElem?_getD,List.getElem?_append_left (hm i hi),←List.getD_eq_getElem?_getD]
 have hself:((List.range l.length).map fun i=>l.getD i [])=l:=by
  apply List.ext_getElem?;intro i
  by_cases hi:i<l.length
  · rw [List.getElem?_map,List.getElem?_range hi,Option.map_some,List.getD_eq_getElem?_getD,List.getElem?_eq_getElem hi];rfl
  rw [List.getElem?_eq_none (by simp;omega),List.getElem?_eq_none (by omega)]
 have hat:isAt l p=decide (l[posP l p]?=some p):=by
  unfold isAt
  rw [Bool.eq_iff_iff,Bool.and_eq_true,decide_eq_true_eq,decide_eq_true_eq,decide_eq_true_eq]
  constructor
  · rintro⟨g1,g2⟩
    have g3:=cmpL_zero (l.getD (posP l p) []) p
    rw [decide_eq_true g2] at g3
    have g4:=of_decide_eq_true g3.symm
    rw [List.getElem?_eq_getElem g1]
    rw [List.getD_eq_getElem?_getD,List.getElem?_eq_getElem g1] at g4
    simpa using g4
  intro g
  refine⟨(List.getElem?_eq_some_iff.1 g).1,?_⟩
  rw [List.getD_eq_getElem?_getD,g]
  exact cmpL_self p
 rw [hat]
 by_cases hc:l[posP l p]?=some p
 · rw [if_pos hc,decide_eq_true hc]
   unfold putAt
   rw [if_pos rfl,hr _ fun i hi=>List.mem_range.1 hi,hself]
 rw [if_neg hc,decide_eq_false hc]
 unfold putAt
 rw [if_neg (by simp),List.map_append,List.map_append,hr _ fun i hi=>List.mem_range.1 (List.mem_of_mem_take hi),hr _ fun i hi=>List.mem_range.1 (List.mem_of_mem_drop hi),List.map_take,List.map_drop,hself]
 congr 2
 simp
end Go.Q
namespace Go.Proofs.YtdhojcaoljhbiaaGreatDoor
open Go.RowKit Go.Q Go.D
theorem l26PutH (l:List (List Int)) (p:List Int) (hd:Nat→Value) (K:List (Nat×Obj)) (hK:∀ i,i<l.length→KT K (.sl 1 ((l.getD i []).map cInt)) (hd i)) (hp:KT K (.sl 1 (p.map cInt)) (hd l.length)) (hz:l.length≤1099511627776) :
 FnCk Tryz.prog 74 K [(true,.one (.sl 1 ((List.range l.length).map (cH hd)))),(false,.one (.v (hd l.length)))] (.a (.one (.sl 1 ((putAt l.length (posP l p) (isAt l p)).map (cH hd))))):=by
 refine FnCk.walk Tryz.func74 rfl (by kernel_rfl) Tryz.ntmps74 rfl (by rfl) fun w0=>?_
 refine Am (As [0,1] [1000,999999]) ?_
 try simp [cToken,cPathAtom,cConjunction] at hlen
 refine Ae (Ak ?_);refine By (i:=4) 20001 1 U U ?_;refine Aa (Ae (Ak ?_));refine Aa (Ac (AW.block (Bj (fun (k:Nat)=>(k≤l.length∧∀ j,j<k→lessAt l p j=true)∧True) (fun (k:Nat)=>⟨_,[(5,(true,.a (.one (.t (.v (.int .i64 (k:Nat))))))),(0,_),(1,_),(4,_)],[(1000,.row 1 ((List.range l.length).map (cH hd))),(999999,.kept K)]⟩) (fun (k:Nat)=>l.length-k) (0) ⟨⟨Nat.zero_le _,fun j hj=>absurd hj (Nat.not_lt_zero j)⟩,Y⟩ Bm ?_)))
 rintro k ⟨hk,he⟩
 refine Ac (Ae (Ab ?_));refine Ab ?_;refine Bc (.rf U) Tryz.underlying44 ?_;refine AWl.lt ?_;refine Ab ?_;refine Cp ?_;refine Cp ?_;refine Ag ((by exact Be U (by exact .yes1 U U U U) U (.tmp U (by exact id)) U (.tmp U (by exact id)) Tryz.underlying44 Ca (fun hq=>by simp at hq;exact⟨by omega,Ao (l:=List.range l.length) (x:=k) (List.getElem?_range (by omega))⟩))) U ?_;refine Ag ((by exact R_load_prq U (by exact .yes1 U U U U) U (.tmp U (by exact id)) U (fun hq=>by simp at hq;exact Ao (l:=List.range l.length) (x:=k) (List.getElem?_range (by omega))) Ca U U)) U ?_;refine Cp ?_;refine Ag (R_callkq U (by exact .yes1 U U U U) U U (.cons (.tmp U (by exact id)) U (.cons (.tmp U (by exact id)) U .nil)) fun hq=>FrTk.of2 (specl2Cmp (l.getD k []) p).fr (hK k (by simp at hq;omega)) hp) U ?_;refine Ag (R_lt U (by exact .yes1 U U U U) U (.tmp U (by exact id)) (.const U)) U ?_;refine Cm ?_
 refine Aa (Ai (.tm U) (fun h18=>?_) (fun h18=>?_))
 · try simp at h18
   refine Aj (AW.block (Am (As [0,1,4,5] [1000,999999]) ?_));refine Ad (Ab ?_);refine A8 ?_;refine Ah ?_;refine Aa ?_
   repeat (with_reducible refine Au ?_)
   refine Round1.next (k+1) ⟨⟨by omega,fun j hj=>(by by_cases e:j=k;(subst e;unfold lessAt rless;exact decide_eq_true h18.2);exact hk.2 j (by omega))⟩,Y⟩ (by omega) (Ar rfl ⟨rfl,rfl,rfl,rfl,Y⟩ ⟨(by rfl),(by rfl),Y⟩)
 try simp at h18
 have hpos:posP l p=k:=posP_eq hk.1 hk.2 (fun hl=>by unfold lessAt rless;exact decide_eq_false (by simpa using h18 hl))
 refine Ba (Ac (Ac (Am (As [0,1,4,5] [1000,999999]) ?_)));refine Ad (Ab ?_);refine Ab ?_;refine Bc (.rf U) Tryz.underlying44 ?_;refine AWl.lt ?_;refine Ab ?_;refine Cp ?_;refine Cp ?_;refine Ag ((by exact Be U (by exact .yes1 U U U U) U (.tmp U (by exact id)) U (.tmp U (by exact id)) Tryz.underlying44 Ca (fun hq=>by simp at hq;exact⟨by omega,Ao (l:=List.range l.length) (x:=k) (List.getElem?_range (by omega))⟩))) U ?_;refine Ag ((by exact R_load_prq U (by exact .yes1 U U U U) U (.tmp U (by exact id)) U (fun hq=>by simp at hq;exact Ao (l:=List.range l.length) (x:=k) (List.getElem?_range (by omega))) Ca U U)) U ?_;refine Cp ?_;refine Ag (R_callkq U (by exact .yes1 U U U U) U U (.cons (.tmp U (by exact id)) U (.cons (.tmp U (by exact id)) U .nil)) fun hq=>FrTk.of2 (specl2Cmp (l.getD k []) p).fr (hK k (by simp at hq;omega)) hp) U ?_
 refine Ag (R_eq U (by exact .yes1 U U U U) U (.tmp U (by exact id)) (.const U)) U ?_;refine Cm ?_;refine Aa (Ai (.tm U) (fun h33=>?_) (fun h33=>?_))
 · try simp at h33
   refine Ac (Am (As [0,1,4,5] [1000,999999]) ?_);refine Ad (Ab ?_);refine Ah ?_;refine Aa (Al (Res.one U (.tmp U .nil) U ?_))
   rw [show isAt l p=true by (unfold isAt;rw [hpos,Bool.and_eq_true,decide_eq_true_eq,decide_eq_true_eq];exact⟨h33.1,by simpa using h33.2⟩)];rfl
 try simp at h33
 refine Aj (Ac (Am (As [0,1,4,5] [1000,999999]) ?_));refine Am (As [0,1,5] [1000,999999]) ?_;refine AW.drawK 13 (nthB [[],[],[],[1,2],[0,1,2,3],[],[5],[0,1,2,3,4,5,6],[],[],[8,9],[0,1,2,3,4,5,6,7,8,9,10],[0,1,2,3,4,5,6,7,8,9,10,11]]) [(4,35),(7,35),(11,35)] (by kernel_rfl) (by kernel_rfl) (by kernel_rfl) ?_;refine DrawK.step (LocK.of1 U fun σ' hs hf=>Ce 35 U U (Af hs U) Tryz.underlying44 Ca hf) ?_;refine DrawK.step (LocK.of U fun σ' hs=>Az U (.no U) (Af hs U) (hs.tm U)) ?_;refine DrawK.step (LocK.of U fun σ' hs=>Az U (.no U) (Af hs U) (hs.tm U)) ?_;refine DrawK.step (LocK.of U fun σ' hs=>R_slice_vwr (m:=k) U (.no U) (Af hs U) (hs.tm U) (hs.res _ _ U) .no (.yes (hs.tm U) (fun _=>by first|rfl|omega|(simp<;>omega))) Tryz.underlying44 Ca (fun _=>⟨by omega,by first|omega|(simp;omega)⟩)) ?_
 refine DrawK.step (LocK.ofc U U fun σ' hs=>B7 (id:=35) U U (Af hs U) (hs.tm U) (hs.res _ _ U) (hs.tm U) (by exact .vw) (by exact isV_part (fun _=>rfl) _ _ _) Tryz.underlying44 in34 U (by (simp [chunk];omega)) (by (unfold maxLen;simp [chunk];omega))) ?_;refine DrawK.step (LocK.of U fun σ' hs=>Az U (.no U) (Af hs U) (hs.tm U)) ?_;refine DrawK.step (LocK.of1 U fun σ' hs hf=>Ch (xs:=[.tmp 40]) 41 U U (Af hs U) (.cons (hs.tm U) U U .nil) Tryz.underlying44 in34 U U U hf) ?_;refine DrawK.step (LocK.ofc U U fun σ' hs=>B7 (id:=35) U U (Af hs U) (hs.tm U) (hs.res _ _ U) (hs.tm U) (by exact .rf (hs.res _ _ U)) (by rfl) Tryz.underlying44 in34 U (by (simp [chunk];omega)) (by (unfold maxLen;simp [chunk];omega))) ?_;refine DrawK.step (LocK.of U fun σ' hs=>Az U (.no U) (Af hs U) (hs.tm U)) ?_;refine DrawK.step (LocK.of U fun σ' hs=>Az U (.no U) (Af hs U) (hs.tm U)) ?_
 refine DrawK.step (LocK.of U fun σ' hs=>R_slice_vwr (n:=k) U (.no U) (Af hs U) (hs.tm U) (hs.res _ _ U) (.yes (hs.tm U) (fun _=>by first|rfl|omega|(simp<;>omega))) .no Tryz.underlying44 Ca (fun _=>⟨by simp;omega,by simp⟩)) ?_;refine DrawK.step (LocK.ofc U U fun σ' hs=>B7 (id:=35) U U (Af hs U) (hs.tm U) (hs.res _ _ U) (hs.tm U) (by exact .vw) (by exact isV_part (fun _=>rfl) _ _ _) Tryz.underlying44 in34 U (by (simp [chunk];omega)) (by (unfold maxLen;simp [chunk];omega))) ?_;refine DrawK.step (LocK.of U fun σ' hs=>C0 U (.no U) (Af hs U) (hs.tm U)) ?_;refine DrawK.fin U U U ?_;refine Bt (As [0,1,4,5] [1000,999999,35,41]) ?_;refine Aa (Al (Res.one U (.tmp U .nil) U ?_))
 rw [show isAt l p=false by (unfold isAt;rw [hpos];simp;exact h33),hpos];unfold putAt;rw [if_neg (by simp)];refine congrArg (fun r=>[V0.one (T.sl 1 r)]) ?_;simp [chunk,cH,List.map_take,List.map_drop,List.take_of_length_le (show (List.map (cH hd) (List.range l.length)).length≤l.length by simp)];rw [←List.map_take,List.take_range]
theorem specl26Put (l:List (List Int)) (p:List Int) (hz:l.length≤1099511627776):FnC Tryz.prog 74 (ownAll [.sl 1 (l.map cIntS),.sl 1 (p.map cInt)]) (.a (.one (.sl 1 ((putG rless l p).map cIntS)))):=by
 have hcl:Go.Q.Callee Tryz.prog 74:=⟨_,rfl,by kernel_rfl,rfl⟩
 let f:List Int→T:=fun r=>.sl 1 (r.map cInt)
 have hnd:=putAt_nodup l.length (posP l p) (isAt l p)
 have h:=FnC.lift2 (ts:=l.map f) (t0:=f p) (L:=putAt l.length (posP l p) (isAt l p)) hcl hnd.1 (by simpa using hnd.2) fun hd K hK=>by
  have:=l26PutH l p hd K (fun i hi=>hK i (f (l.getD i [])) (by rw [List.getElem?_append_left (by simpa using hi),List.getElem?_map,List.getD_eq_getElem?_getD,List.getElem?_eq_getElem hi];rfl)) (hK l.length (f p) (by rw [List.getElem?_append_right (by simp)];simp)) hz
  rw [List.length_map]
  exact this
 have e1:((l.map f).map fun t=>[t])=l.map cIntS:=by rw [List.map_map];rfl
 have e2:((putAt l.length (posP l p) (isAt l p)).map fun i=>[(l.map f++[f p]).getD i (.v undef)])=(putG rless l p).map cIntS:=by
  rw [←putG_posP,List.map_map]
  refine List.map_congr_left fun i hi=>?_
  have hil:=hnd.2 i hi
  have hm:l.map f++[f p]=(l++[p]).map f:=by simp
  rw [hm,List.getD_eq_getElem?_getD,List.getElem?_map]
  show _=cIntS ((l++[p]).getD i [])
  rw [List.getD_eq_getElem?_getD,List.getElem?_eq_getElem (by simpa using hil)]
  rfl
 rw [e1,e2] at h
 exact h
theorem specProjectBindings (rows:List (List Int)) (vars:List Int) (hz:rows.length≤1048576) (hr:∀ r∈rows,r.length≤1048576) (hv:vars.length≤1048576):FnT Tryz.prog 24 [.one (.sl 1 (rows.map cIntS)),.one (.sl 1 (vars.map cInt))] (.a (.one (.sl 1 ((projB rows vars).map cIntS)))):=by
 refine Ay Tryz.func24 U (by kernel_rfl) Tryz.ntmps24 U fun hlen w0=>?_
 try simp [cToken,cPathAtom,cConjunction] at hlen
 refine Ae (Ak ?_);refine By (i:=4) 20001 1 U U ?_;refine Aa (Ae (A6 (Ce 9 U U U Tryz.underlying44 Ca U) U ?_));refine Ah ?_;refine Aa (Ac (Ae (Ak ?_)));refine Aa (AW.block (Bj (fun (k:Nat)=>(k≤rows.length∧∀ j r,j<k→rows[j]?=some r→okVars vars r=true)∧True) (fun (k:Nat)=>⟨_,[(6,(true,.a (.one (.t (.v (.int .i64 (k:Nat))))))),(5,(true,.a (.one (.rf 9)))),(0,_),(1,_)],[(9,.row 1 ((setG rless ((rows.take k).map (projR vars))).map cIntS))]⟩) (fun (k:Nat)=>rows.length-k) (0) ⟨⟨Nat.zero_le _,fun j r hj=>absurd hj (Nat.not_lt_zero j)⟩,Y⟩ Bm ?_))
 rintro k ⟨hk,he⟩
 refine Ac (Ae (Ab ?_));refine Ab ?_;refine Bc (.t) Tryz.underlying44 ?_;refine AWl.lt ?_;refine Aa (Ai (.tm U) (fun h13=>?_) (fun h13=>?_))
 · try simp at h13
   obtain⟨x,hx⟩:∃ ξ,rows[k]?=some ξ:=⟨_,List.getElem?_eq_getElem (by omega)⟩
   have hxl:=hr x (List.mem_of_getElem? hx)
   refine Aj (Ac (AW.block (Ae (A6 (Ce 16 U U U Tryz.underlying34 ty3 U) U ?_))));refine Ah ?_;refine Aa (Ac (Ae (Ak ?_)));refine Aa (AW.block (Bj (fun (k1:Nat)=>(k1≤vars.length∧∀ j v,j<k1→vars[j]?=some v→okVar x v=true)∧True) (fun (k1:Nat)=>⟨_,[(8,(true,.a (.one (.t (.v (.int .i64 (k1:Nat))))))),(7,(true,.a (.one (.rf 16)))),(0,_),(1,_),(5,_),(6,_)],[(9,.row 1 ((setG rless ((rows.take k).map (projR vars))).map cIntS)),(16,.row 1 (((vars.take k1).map fun v=>x[v.toNat]?.getD 0).map cInt))]⟩) (fun (k1:Nat)=>vars.length-k1) (0) ⟨⟨Nat.zero_le _,fun j r hj=>absurd hj (Nat.not_lt_zero j)⟩,Y⟩ Bm ?_))
   rintro k1 ⟨hk1,he1⟩
   refine Ac (Ae (Ab ?_));refine Ab ?_;refine Bc (.t) Tryz.underlying34 ?_;refine AWl.lt ?_;refine Aa (Ai (.tm U) (fun h20=>?_) (fun h20=>?_))
   · try simp at h20
     obtain⟨y,hy⟩:∃ ξ,vars[k1]?=some ξ:=⟨_,List.getElem?_eq_getElem (by omega)⟩
     refine Aj (Ac (AW.block (Ac (Ac (Bq 12 (nthB [[],[],[0,1],[0,1,2],[],[],[4,5],[4,5,6],[4,5,6,7],[4,5,6,7,8],[0,1,2,3,4,5,6,7,8,9],[0,1,2,3,4,5,6,7,8,9,10]]) (by kernel_rfl) (by kernel_rfl) (by kernel_rfl) ?_)))));refine Ap ?_;refine Ap ?_;refine DrawC.s (fun _ hs=>(by exact An U (.no U) (Af hs U) (hs.tm U) (hs.tm U) Tryz.underlying34 ty3 (fun _=>⟨by omega,(by exact Ao hy)⟩))) ?_;refine A5 ty3 ?_;refine Ap ?_;refine Ap ?_;refine DrawC.s (fun _ hs=>(by exact An U (.no U) (Af hs U) (hs.tm U) (hs.tm U) Tryz.underlying44 Ca (fun _=>⟨by omega,(by exact Ao hx)⟩))) ?_;refine A5 Ca ?_;refine DrawC.s (fun _ hs=>(by exact C4 U (.no U) (Af hs U) (hs.tm U) (by exact .t) Tryz.underlying34)) ?_;refine DrawC.s (fun _ hs=>Dy U (.no U) (Af hs U) (hs.tm U) (.const U) (fun _=>by omega)) ?_
     refine DrawC.s (fun _ hs=>A3 (FnT.fr (specl1In _ _ _)) U (.no U) (Af hs U) (.cons (hs.tm U) (readA_sup hs U) (.cons (.const U) (readA_sup hs U) (.cons (hs.tm U) (readA_sup hs U) .nil)))) ?_;refine DrawC.s (fun _ hs=>Cy U (.no U) (Af hs U) (hs.tm U)) ?_;refine Bi U U ?_;refine Aa (Ai (.tm U) (fun h34=>?_) (fun h34=>?_))
     · skip
       skip
       have hno:okVar x y=false:=by (unfold okVar;simpa using h34)
       refine Ac (Am (As [0,1,5,6,7,8] [9,16]) ?_);refine Ad (A6 (Ce 35 U U U Tryz.underlying44 Ca U) U ?_);refine Ah ?_;refine Aa (Al (Res.one U (.tmp U .nil) U ?_))
       rw [projB_not (List.mem_of_getElem? hx) (List.mem_of_getElem? hy) hno];rfl
     skip
     skip
     have hyes:okVar x y=true:=by (unfold okVar;simpa using h34)
     have hyg:=okVar_get hyes
     refine Aj (Am (As [0,1,5,6,7,8] [9,16]) ?_);refine Am (As [0,1,5,6,7,8] [9,16]) ?_;refine AW.drawK 13 (nthB [[],[],[],[1,2],[1,2,3],[],[],[5,6],[5,6,7],[1,2,3,4,5,6,7,8],[1,2,3,4,5,6,7,8,9],[1,2,3,4,5,6,7,8,9,10],[0,1,2,3,4,5,6,7,8,9,10,11]]) [(12,16)] (by kernel_rfl) (by kernel_rfl) (by kernel_rfl) ?_;refine DrawK.step (LocK.of U fun σ' hs=>Az U (.no U) (Af hs U) (hs.tm U)) ?_;refine DrawK.step (LocK.of U fun σ' hs=>Az U (.no U) (Af hs U) (hs.tm U)) ?_;refine DrawK.step (LocK.of U fun σ' hs=>Az U (.no U) (Af hs U) (hs.tm U)) ?_;refine DrawK.step (LocK.of U fun σ' hs=>(by exact An U (.no U) (Af hs U) (hs.tm U) (hs.tm U) Tryz.underlying44 Ca (fun _=>⟨by omega,(by exact Ao hx)⟩))) ?_;refine DrawK.step (LocK.of U fun σ' hs=>(by exact Bw U (.no U) (Af hs U) (hs.tm U) Ca U U)) ?_;refine DrawK.step (LocK.of U fun σ' hs=>Az U (.no U) (Af hs U) (hs.tm U)) ?_
     refine DrawK.step (LocK.of U fun σ' hs=>Az U (.no U) (Af hs U) (hs.tm U)) ?_;refine DrawK.step (LocK.of U fun σ' hs=>(by exact An U (.no U) (Af hs U) (hs.tm U) (hs.tm U) Tryz.underlying34 ty3 (fun _=>⟨by omega,(by exact Ao hy)⟩))) ?_;refine DrawK.step (LocK.of U fun σ' hs=>(by exact Bw U (.no U) (Af hs U) (hs.tm U) ty3 U U)) ?_;refine DrawK.step (LocK.of U fun σ' hs=>(by exact An U (.no U) (Af hs U) (hs.tm U) (hs.tm U) Tryz.underlying34 ty3 (fun _=>⟨by omega,Ao hyg.2⟩))) ?_;refine DrawK.step (LocK.of U fun σ' hs=>(by exact Bw U (.no U) (Af hs U) (hs.tm U) ty3 U U)) ?_;refine DrawK.step (LocK.of U fun σ' hs=>Di (xs:=[.tmp 46]) (rows:=[cInt (x[y.toNat]?.getD 0)]) U U (Af hs U) (.cons (hs.tm U) U U .nil) Tryz.underlying34 in3 U U (U)) ?_
     refine DrawK.step (LocK.ofc U U fun σ' hs=>B7 (id:=16) U U (Af hs U) (hs.tm U) (hs.res _ _ U) (hs.tm U) (by exact .t) (by rfl) Tryz.underlying34 in3 U (by (simp [chunk];omega)) (by (unfold maxLen;simp [chunk];omega))) ?_;refine DrawK.fin U U U ?_;refine Bt (As [0,1,5,6,8,48] [9,16]) ?_;refine Ah ?_;refine Aa (Ad (Ab ?_));refine A8 ?_;refine Ah ?_;refine Aa ?_
     repeat (with_reducible refine Au ?_)
     refine Round1.next (k1+1) ⟨⟨by omega,each_succ hk1.2 hy hyes⟩,Y⟩ (by omega) (Ar rfl ⟨rfl,rfl,rfl,rfl,rfl,rfl,Y⟩ ⟨(by rfl),(by refine congrArg (fun r=>some (R.row 1 r)) ?_;simp [take_at hy,cInt,chunk]),Y⟩)
   try simp at h20
   have hvt:vars.take k1=vars:=List.take_of_length_le (by omega)
   refine Ba (Ad (Ab ?_));refine Ab ?_;apply Cu
   case ho=>
    apply R_consumeL 9 (specl26Put (setG rless ((rows.take k).map (projR vars))) ((vars.take k1).map fun v=>x[v.toNat]?.getD 0) (Nat.le_trans (setG_len _) (by simp;omega))) rfl rfl rfl
    case hx=>exact (.cons (.tm rfl) (.cons (.tm rfl) .nil))
    case ha=>rfl
    all_goals rfl
   case hd=>rfl
   refine Ah ?_;refine Aa (Am (As [0,1,5,6,7,8] [9]) ?_);refine Ad (Ab ?_);refine A8 ?_;refine Ah ?_;refine Aa ?_
   repeat (with_reducible refine Au ?_)
   refine Round1.next (k+1) ⟨⟨by omega,fun j r hj hr=>(by by_cases e:j=k;(subst e;rw [hx] at hr;cases hr;exact List.all_eq_true.2 fun v hv'=>by obtain⟨i,hi⟩:=List.getElem?_of_mem hv';exact hk1.2 i v (by have:=(List.getElem?_eq_some_iff.1 hi).1;omega) hi);exact hk.2 j r (by omega) hr)⟩,Y⟩ (by omega) (Ar rfl ⟨rfl,rfl,rfl,rfl,Y⟩ ⟨(by (refine congrArg (fun r=>some (R.row 1 r)) ?_;rw [take_at hx,List.map_append,hvt];unfold setG;rw [List.foldl_append];rfl)),Y⟩)
 try simp at h13
 refine Ba (Ae (Ab ?_));refine Ah ?_;refine Aa (Al (Res.one U (.tmp U .nil) U ?_))
 rw [projB_all (fun j r hj hr=>hk.2 j r (by omega) hr),List.take_of_length_le (by omega)];rfl
end Go.Proofs.YtdhojcaoljhbiaaGreatDoor
set_option maxHeartbeats 1000000
set_option maxRecDepth 100000
namespace Go.Q
open Go.D
theorem vcOf_at {l:List (List UInt8)} {f:List UInt8→TPathAtom} {k:Nat} {x:List UInt8} (h:l[k]?=some x):vcOf ((l.take (k+1)).map f)=max (max (vcOf ((l.take k).map f)) ((f x).From+1)) ((f x).To+1):=by
 rw [take_at h,List.map_append,List.map_singleton,vcOf_snoc]
end Go.Q
namespace Go.Proofs.YtdhojcaoljhbiaaGreatDoor
open Go.RowKit Go.Q Go.D
theorem implParseConjunctionL (l:List UInt8) (hz:l.length≤1073741824):FnT Tryz.prog 21 [.one (.v (.string (bs l)))] (.tup [.agg (cConjunction (parseC l).1),.one (.v (.bool (parseC l).2))]):=by
 have hcs:=stringsSplit (bs l) 59 (by rw [bs_size];omega)
 rw [bs_list] at hcs
 refine Ay Tryz.func21 U (by kernel_rfl) Tryz.ntmps21 U fun hlen w0=>?_
 try simp [cToken,cPathAtom,cConjunction] at hlen
 have hsz:=bs_size l
 have hcl:=splitL_len 59 l
 have hcl2:=List.count_le_length (a:=59) (l:=l)
 refine Ae (A6 (Bo 2 U U U in40 U U U) U ?_);refine Ak ?_;refine Aa (Ae (Ag (Bd (ps:=[]) U U U in40 U U st40 .nil U) U ?_));refine Dn (i:=14) 20001 3 1 U U U ?_;refine A6 (Bo 4 U U U in40 U U U) U ?_;refine A4 Cc ?_;refine Aa (Ac (Ae (Ab ?_)));refine Ag (R_eqstr U (.no U) U (.tm U) (.const U)) U ?_;refine Aa (Ai (.tm U) (fun h16=>?_) (fun h16=>?_))
 · try simp at h16
   refine Ae (Bp Cc ?_);refine A4 Cc ?_;refine Bt (As [0,2,3,4,16] [2,20001,4]) ?_;refine Ak ?_;refine Aa (Al (Cz U (.cell U U Cc U U (.tmp U .nil)) U ?_ (by simp)))
   have e:l=[]:=bs_inj (m:=[]) h16;rw [e,parseC_nil];rfl
 try simp at h16
 have hne:l≠[]:=(fun e=>h16 (by rw [e];rfl))
 refine Aj (Ac (Ae (Ab ?_)));refine Bl (hcs) ?_;refine Bc (.t) Tryz.underlying102 ?_;refine Ag (Az U (.no U) U (.const U)) U ?_;refine Aa (AW.block (Bj (fun (k:Nat)=>(k≤(splitL 59 l).length)∧True) (fun (k:Nat)=>⟨_,[(21,(true,.a (.one (.t (.v (.int .i64 (k:Nat))))))),(0,_),(2,_),(3,_),(4,_),(19,_),(20,_)],[(2,.box [.t (.v (.int .i64 0)),.t (.v (.slice none 0 0))]),(4,.box [.t (.v (.int .i64 (vcOf (((splitL 59 l).take k).map atmI)))),.rf 20001]),(20001,.row 3 ((((splitL 59 l).take k).map atmI).map cPathAtom))]⟩) (fun (k:Nat)=>(splitL 59 l).length-k) (0) ⟨Nat.zero_le _,Y⟩ Bm ?_))
 rintro k ⟨hk,he⟩
 refine Ae (AWl.lt ?_);refine Aa (Ac (Ai (.tm U) (fun h22=>?_) (fun h22=>?_)))
 · try simp at h22
   obtain⟨x,hx⟩:∃ ξ,(splitL 59 l)[k]?=some ξ:=⟨_,List.getElem?_eq_getElem (by omega)⟩
   have hxl:=(splitL_mem (c:=59) (l:=l) (x:=x) (List.mem_of_getElem? hx)).2
   have hc1:=cut1_len x 32
   have hc2:=cut1_len (Lib.cut x [32]).1 58
   have hcA:=stringsCut (bs x) [32] (by rw [bs_size];omega)
   have hcB:=stringsCut (bs (Lib.cut x [32]).1) [58] (by rw [bs_size];omega)
   rw [bs_list] at hcA hcB
   have hr1:=parseI_rng (Lib.cut (Lib.cut x [32]).1 [58]).1
   have hr2:=parseI_rng (Lib.cut (Lib.cut x [32]).1 [58]).2.1
   refine Aj (Ac (AW.block (Ae (Ag (An U (.no U) U (.tm U) (.tm U) Tryz.underlying102 ty9 (fun _=>⟨by omega,(Ao hx)⟩)) U ?_))));refine Aq ty9 ?_;refine Ah ?_;refine Aa (Ae (Ab ?_));refine Bl (hcA) ?_;refine Ag (Db U (.no U) U U fun _=>rfl) U ?_;refine Ag (Bn U (.no U) U U (fun _=>rfl) U) U ?_;refine Ag (Bn U (.no U) U U (fun _=>rfl) U) U ?_;refine Ag (Bn U (.no U) U U (fun _=>rfl) U) U ?_;refine Ah ?_;refine Ah ?_;refine Ah ?_;refine Aa (Ac (Am (As [0,2,3,4,6,7,8,19,20,21] [2,4,20001]) ?_));refine Ad (Ab ?_);refine Bl (hcB) ?_;refine Ag (Db U (.no U) U U fun _=>rfl) U ?_;refine Ag (Bn U (.no U) U U (fun _=>rfl) U) U ?_;refine Ag (Bn U (.no U) U U (fun _=>rfl) U) U ?_;refine Ag (Bn U (.no U) U U (fun _=>rfl) U) U ?_;refine Ah ?_;refine Ah ?_;refine Ah ?_;refine Aa (Ac (Am (As [0,2,3,4,6,7,8,10,11,19,20,21] [2,4,20001]) ?_));refine Ad (Ag (Bd (ps:=[]) U U U in95 U U st95 .nil U) U ?_)
   refine Dn (i:=37) 20002 4 2 U U U ?_;refine A6 (Bo 13 U U U in95 U U U) U ?_;refine A4 ty95 ?_;refine Aa (Ae (Ab ?_));refine Bl (implParseInt (Lib.cut (Lib.cut x [32]).1 [58]).1) ?_;refine Ag (Db U (.no U) U U fun _=>rfl) U ?_;refine Ag (Bn U (.no U) U U (fun _=>rfl) U) U ?_;refine Ag (Bn U (.no U) U U (fun _=>rfl) U) U ?_;refine B6 fl95_0 ?_;refine A4 ty3 ?_;refine Aa (Ac (Am (As [0,2,3,4,6,7,8,10,11,13,19,20,21] [2,4,20001,20002,13]) ?_));refine Ad (Ab ?_);refine Bl (implParseInt (Lib.cut (Lib.cut x [32]).1 [58]).2.1) ?_;refine Ag (Db U (.no U) U U fun _=>rfl) U ?_;refine Ag (Bn U (.no U) U U (fun _=>rfl) U) U ?_;refine Ag (Bn U (.no U) U U (fun _=>rfl) U) U ?_;refine B6 fl95_1 ?_;refine A4 ty3 ?_;refine Aa (Ac (Am (As [0,2,3,4,6,7,8,10,11,13,19,20,21] [2,4,20001,20002,13]) ?_));refine Ad (Ab ?_)
   refine B8 (Cd 5200 (implParseExpr (Lib.cut x [32]).2.1 (by omega)) U U U (.cons (.tm U) U .nil) U U) U ?_;refine Ag (Db U (.no U) U U fun _=>rfl) U ?_;refine Ag (Bn U (.no U) U U (fun _=>rfl) U) U ?_;refine Ag (Bn U (.no U) U U (fun _=>rfl) U) U ?_;refine B6 fl95_2 ?_;refine A4 Ci ?_;refine Aa (Ac (Am (As [0,2,3,4,6,7,8,10,11,13,19,20,21] [2,4,20001,20002,13,5200]) ?_));refine Ad (B6 C7 ?_);refine Bp ty3 ?_;refine B6 fl95_0 ?_;refine Bp ty3 ?_;refine A8 ?_;refine B6 fl95_1 ?_;refine Bp ty3 ?_;refine A8 ?_;refine Ag (R_max3 U (.no U) U (.tm U) (.tm U) (.tm U)) U ?_;refine B6 C7 ?_;refine A4 ty3 ?_;refine Aa (Am (As [0,2,3,4,6,7,8,10,11,13,19,20,21] [2,4,20001,20002,13,5200]) ?_);refine Ad (B6 Cl ?_);refine Bp Dl ?_;refine Bp ty95 ?_;refine Bh (Ch (xs:=[.tmp 68]) 69 U U U (.cons (.tm U) U U .nil) Tryz.underlying38 in95 U U U U) U ?_
   refine Ct (Cx U U U (.tm U) U (.tm U) U U Tryz.underlying38 in95 U (by (simp [chunk];omega)) (by (unfold maxLen;simp [chunk];omega))) U ?_;refine Bt (As [0,2,3,4,6,7,8,10,11,13,19,20,21,70] [2,4,20001,20002,13]) ?_;refine B6 Cl ?_;refine A4 Dl ?_;refine Aa (Ad (A8 ?_));refine Ab ?_;refine Aa ?_
   repeat (with_reducible refine Au ?_)
   refine Round1.next (k+1) ⟨by omega,Y⟩ (by omega) (Ar rfl ⟨rfl,rfl,rfl,rfl,rfl,rfl,rfl,Y⟩ ⟨(by rfl),(by rw [vcOf_at hx];rfl),(by refine congrArg (fun r=>some (R.row 3 r)) ?_;rw [take_at hx];simp [chunk,cPathAtom,atmI];done),Y⟩)
 try simp at h22
 refine Ba (Ac (Ac (Am (σ':=⟨_,[(0,_),(2,_),(3,_),(4,_),(19,_),(20,_),(21,_)],[(2,_),(4,.box [.t (.v (.int .i64 (vcOf ((splitL 59 l).map atmI)))),.rf 20001]),(20001,.row 3 (((splitL 59 l).map atmI).map cPathAtom))]⟩) (Ar U ⟨U,U,U,U,U,U,U,Y⟩ ⟨U,by rw [List.take_of_length_le (l:=splitL 59 l) (by omega)];rfl,by rw [List.take_of_length_le (l:=splitL 59 l) (by omega)];rfl,Y⟩) ?_)));refine Ad (B6 C7 ?_);refine Bp ty3 ?_;refine AWl.gc ?_;refine Ab ?_;refine Ag (Ax U (by exact .not1 U U U U) U (.tmp U (by exact fun _=>rfl)) U Cc U U) U ?_;refine Ag (A3 (FnT.fr (implFormatConjunction (cjOf ((splitL 59 l).map atmI)))) U (by exact .not1 U U U U) U (.cons (.tmp U (by exact id)) U .nil)) U ?_;refine Dj ?_;refine Ag (R_nestr U (by exact .not1 U U U U) U (.tmp U (by exact id)) (.tmp U (by exact id))) U ?_;refine Cf ?_;refine Aa (Ai (.tm U) (fun h81=>?_) (fun h81=>?_))
 · try simp at h81
   refine Ac (Am (As [0,2,3,4,19,20,21] [2,4,20001]) ?_);refine Ad (Ag (Bd (ps:=[]) U U U in40 U U st40 .nil U) U ?_);refine Dn (i:=82) 20003 3 1 U U U ?_;refine A4 Cc ?_;refine Bt (As [0,2,3,4,19,20,21] [2,4,20001,20003]) ?_;refine Ak ?_;refine Aa (Al (Cz U (.cell U U Cc U U (.tmp U .nil)) U ?_ (by simp)))
   rw [parseC_impl hne,if_pos (h81.imp id fun h e=>h (by rw [e]))];rfl
 try simp at h81
 refine Aj (Ac (Am (As [0,2,3,4,19,20,21] [2,4,20001]) ?_));refine Ad (Bp Cc ?_);refine A4 Cc ?_;refine Bt (As [0,2,3,4,19,20,21] [2,4,20001]) ?_;refine Ak ?_;refine Aa (Al (Cz U (.cell U U Cc U U (.tmp U .nil)) U ?_ (by simp)))
 rw [parseC_impl hne,if_neg (fun hh=>hh.elim (fun h=>by omega) fun h=>h (bs_inj h81.2))];rfl
end Go.Proofs.YtdhojcaoljhbiaaGreatDoor
set_option maxHeartbeats 1000000
set_option maxRecDepth 100000
namespace Go.Q
open Go.RowKit Go.D
theorem mem_extN {n:Nat}:∀ {d:Nat} {b:List Int},b∈extN n d↔b.length=d∧∀ v∈b,0≤v∧v<n
 | 0,b=>by
  simp only [extN,List.mem_singleton]
  exact⟨fun h=>by subst h;exact⟨rfl,fun v hv=>by cases hv⟩,fun h=>List.eq_nil_of_length_eq_zero h.1⟩
 | d+1,b=>by
  simp only [extN,List.mem_flatMap,List.mem_map,List.mem_range]
  constructor
  · rintro⟨v,hv,s,hs,rfl⟩
    obtain⟨h1,h2⟩:=mem_extN.1 hs
    refine⟨by simp [h1],fun x hx=>?_⟩
    rcases List.mem_cons.1 hx with rfl|hx
    · omega
    exact h2 x hx
  rintro⟨h1,h2⟩
  cases b with
  | nil=>simp at h1
  | cons v s=>
   have hv:=h2 v (by simp)
   refine⟨v.toNat,by omega,s,mem_extN.2 ⟨by simpa using h1,fun x hx=>h2 x (by simp [hx])⟩,?_⟩
   rw [Int.toNat_of_nonneg hv.1]
theorem bindOk_rg {g:TGraph} {b:List Int} {x:TPathAtom} (hg:validG g=true) (he:isValidExpr x.Expr=true) (h:bindOk g b x=true):(0≤atI b x.From∧atI b x.From<g.Values.length)∧0≤atI b x.To∧atI b x.To<g.Values.length:=by
 obtain⟨t,ht,_,_,_⟩:=valid_tree he
 unfold bindOk at h
 have hm:=of_decide_eq_true h
 rw [evalE_some hg he ht] at hm
 exact (relOf_ok hg t).1 _ hm
theorem evalC_holds {g:TGraph} {q:TConjunction} {b:List Int}:b∈evalC g q↔holdsB g q b=true:=by
 unfold evalC holdsB
 constructor
 · intro h
   split at h
   · rename_i hv
     simp only [Bool.and_eq_true] at hv
     obtain⟨h1,h2⟩:=List.mem_filter.1 h
     rw [wordsN_eq] at h1
     have hl:=(mem_extN.1 h1).1
     have hq:=(conj_atoms hv.2).2.1
     unfold okBind
     rw [hv.1,hv.2,h2,decide_eq_true (by omega)]
     rfl
   cases h
 intro h
 simp only [Bool.and_eq_true] at h
 obtain⟨hg,hq,hl⟩:=okBind_parts h.1
 rw [if_pos (by rw [hg,hq];rfl)]
 refine List.mem_filter.2 ⟨?_,h.2⟩
 rw [wordsN_eq]
 have hc:=conj_atoms hq
 refine mem_extN.2 ⟨by omega,fun v hv=>?_⟩
 obtain⟨i,hi⟩:=List.getElem?_of_mem hv
 have hil:=(List.getElem?_eq_some_iff.1 hi).1
 have hs:seenV q.Atoms i=true:=by
  unfold validConj at hq
  simp only [Bool.and_eq_true] at hq
  exact List.all_eq_true.1 hq.2 i (List.mem_range.2 (by omega))
 unfold seenV at hs
 obtain⟨x,hx,hxv⟩:=List.any_eq_true.1 hs
 have hr:=bindOk_rg hg (hc.2.2 x hx).2 (List.all_eq_true.1 h.2 x hx)
 have he:atI b (i:Int)=v:=by unfold atI;rw [Int.toNat_natCast,hi];rfl
 simp only [Bool.or_eq_true,decide_eq_true_eq] at hxv
 rcases hxv with e|e
 · rw [e,he] at hr;exact hr.1
 rw [e,he] at hr;exact hr.2
theorem found_succ {l:List (List Int)} {b r:List Int} {i:Nat} {f:Bool} (he:f=decide (b∈l.take i)) (hr:l[i]?=some r):(f||decide (r=b))=decide (b∈l.take (i+1)):=by
 rw [he,take_at hr,Bool.eq_iff_iff]
 simp only [Bool.or_eq_true,decide_eq_true_eq,List.mem_append,List.mem_singleton]
 exact⟨fun h=>h.imp id Eq.symm,fun h=>h.imp id Eq.symm⟩
theorem conj_small (q:TConjunction):(fmtConj q).length≤1000:=by
 unfold fmtConj
 split
 · rename_i hv
   have hc:=conj_atoms hv
   have h1:=joinL_len (sep:=[59]) (b:=222) (f:=fmtAtom) (l:=q.Atoms) fun a ha=>by
    have:=(hc.2.2 a ha).1
    exact fmtAtom_len (by omega) (by omega)
   have h2:q.Atoms.length*(222+[(59:UInt8)].length)≤4*223:=Nat.mul_le_mul hc.1 (Nat.le_refl _)
   omega
 simp
theorem conj_round (q:TConjunction):(parseC (fmtConj q)).2=validConj q∧((parseC (fmtConj q)).2=true→fmtConj (parseC (fmtConj q)).1=fmtConj q):=by
 by_cases h:fmtConj q=[]
 · rw [h,parseC_nil]
   refine⟨?_,fun h=>by cases h⟩
   cases hv:validConj q with
   | false=>rfl
   | true=>
    exfalso
    have hn:=conj_ne hv
    cases ha:q.Atoms with
    | nil=>exact hn ha
    | cons a r=>
     have ht:=atom_txt hv (x:=a) (by rw [ha];simp)
     unfold fmtConj at h
     rw [if_pos hv] at h
     exact joinL_ne (x:=fmtAtom a) (List.mem_map.2 ⟨a,by rw [ha];simp,rfl⟩) (by rw [ht];simp) h
 have hv:=fmtConj_valid h
 rw [parseC_fmt hv h,hv]
 exact⟨rfl,fun _=>rfl⟩
end Go.Q
namespace Go.Proofs.YtdhojcaoljhbiaaGreatDoor
open Go.RowKit Go.Q Go.D
theorem lawssameIntsQ (l r:List Int):FnT Tryz.prog 18 [.one (.sl 1 (l.map cInt)),.one (.sl 1 (r.map cInt))] (.a (.one (.v (.bool (decide (l=r)))))):=by
 refine Ay Tryz.func18 U (by kernel_rfl) Tryz.ntmps18 U fun hlen w0=>?_
 try simp [cToken,cPathAtom,cConjunction] at hlen
 refine Ae (Ak ?_);refine Aa (Ac (Ae (Ab ?_)));refine Bc (.t) Tryz.underlying34 ?_;refine Ab ?_;refine Bc (.t) Tryz.underlying34 ?_;refine Ag (R_ne U (.no U) U (.tm U) (.tm U)) U ?_;refine Aa (Ai (.tm U) (fun h10=>?_) (fun h10=>?_))
 · try simp at h10
   refine Ae (Ak ?_);refine Aa (Al (Bb U U ?_))
   congr 1;symm;exact decide_eq_false fun e=>h10 (by rw [e])
 try simp at h10
 refine Aj (Ac (Ae (Ak ?_)));refine Aa (AW.block (Dx (β:=Nat) (fun x=>x≤l.length∧∀ i,i<x→l[i]?=r[i]?) (fun x=>⟨_,[(5,(true,.a (.one (.t (.v (.int .i64 x)))))),(0,_),(1,_)],[]⟩) (fun x=>l.length-x) (0) ⟨Nat.zero_le _,by simp⟩ (Ar U ⟨U,U,U,Y⟩ trivial) ?_));intro k hk
 obtain⟨hk,he⟩:=hk
 refine Ac (Ae (Ab ?_));refine Ab ?_;refine Bc (.t) Tryz.underlying34 ?_;refine AWl.lt ?_;refine Aa (Ai (.tm U) (fun h14=>?_) (fun h14=>?_))
 · try simp at h14
   obtain⟨x,hx⟩:∃ x,l[k]?=some x:=⟨_,List.getElem?_eq_getElem h14⟩
   obtain⟨y,hy⟩:∃ y,r[k]?=some y:=⟨_,List.getElem?_eq_getElem (by omega)⟩
   refine Aj (Ac (AW.block (Ac (Bq 9 (nthB [[],[],[0,1],[0,1,2],[],[],[4,5],[4,5,6],[0,1,2,3,4,5,6,7]]) (by kernel_rfl) (by kernel_rfl) (by kernel_rfl) ?_))));refine Ap ?_;refine Ap ?_;refine DrawC.s (fun _ hs=>(by exact An U (.no U) (Af hs U) (hs.tm U) (hs.tm U) Tryz.underlying34 ty3 (fun _=>⟨by omega,(by exact Ao (by assumption))⟩))) ?_;refine A5 ty3 ?_;refine Ap ?_;refine Ap ?_;refine DrawC.s (fun _ hs=>(by exact An U (.no U) (Af hs U) (hs.tm U) (hs.tm U) Tryz.underlying34 ty3 (fun _=>⟨by omega,(by exact Ao (by assumption))⟩))) ?_;refine A5 ty3 ?_;refine DrawC.s (fun _ hs=>R_ne U (.no U) (Af hs U) (hs.tm U) (hs.tm U)) ?_;refine Bi U U ?_;refine Aa (Ai (.tm U) (fun h25=>?_) (fun h25=>?_))
   · try simp at h25
     refine Ae (Ak ?_);refine Aa (Al (Bb U U ?_))
     congr 1;symm;exact decide_eq_false fun e=>by rw [e] at hx;rw [hy] at hx;cases hx;simp at h25
   try simp at h25
   have hxy:x=y:=h25
   refine Aj (Ad (Ab ?_));refine A8 ?_;refine Ah ?_;refine Aa ?_;refine Round.next (k+1) ⟨by omega,fun i hi=>by rcases Nat.lt_or_eq_of_le (Nat.le_of_lt_succ hi) with h|rfl;exact he i h;rw [hx,hy,hxy]⟩ (by omega) (Ar rfl ⟨rfl,rfl,rfl,Y⟩ trivial)
 try simp at h14
 refine Ba (Ae (Ak ?_));refine Aa (Al (Bb U U ?_))
 congr 1;symm;exact decide_eq_true (eq_of_getElem? (by omega) fun i hi=>he i (by omega))
theorem lawssameRows (l r:List (List Int)):FnT Tryz.prog 16 [.one (.sl 1 (l.map cIntS)),.one (.sl 1 (r.map cIntS))] (.a (.one (.v (.bool (decide (l=r)))))):=by
 refine Ay Tryz.func16 U (by kernel_rfl) Tryz.ntmps16 U fun hlen w0=>?_
 try simp [cToken,cPathAtom,cConjunction] at hlen
 refine Ae (Ak ?_);refine Aa (Ac (Ae (Ab ?_)));refine Bc (.t) Tryz.underlying44 ?_;refine Ab ?_;refine Bc (.t) Tryz.underlying44 ?_;refine Ag (R_ne U (.no U) U (.tm U) (.tm U)) U ?_;refine Aa (Ai (.tm U) (fun h10=>?_) (fun h10=>?_))
 · try simp at h10
   refine Ae (Ak ?_);refine Aa (Al (Bb U U ?_))
   congr 1;symm;exact decide_eq_false fun e=>h10 (by rw [e])
 try simp at h10
 refine Aj (Ac (Ae (Ak ?_)));refine Aa (AW.block (Dx (β:=Nat) (fun x=>x≤l.length∧∀ i,i<x→l[i]?=r[i]?) (fun x=>⟨_,[(5,(true,.a (.one (.t (.v (.int .i64 x)))))),(0,_),(1,_)],[]⟩) (fun x=>l.length-x) (0) ⟨Nat.zero_le _,by simp⟩ (Ar U ⟨U,U,U,Y⟩ trivial) ?_));intro k hk
 obtain⟨hk,he⟩:=hk
 refine Ac (Ae (Ab ?_));refine Ab ?_;refine Bc (.t) Tryz.underlying44 ?_;refine AWl.lt ?_;refine Aa (Ai (.tm U) (fun h14=>?_) (fun h14=>?_))
 · try simp at h14
   obtain⟨x,hx⟩:∃ x,l[k]?=some x:=⟨_,List.getElem?_eq_getElem h14⟩
   obtain⟨y,hy⟩:∃ y,r[k]?=some y:=⟨_,List.getElem?_eq_getElem (by omega)⟩
   refine Aj (Ac (AW.block (Ac (Bq 10 (nthB [[],[],[0,1],[0,1,2],[],[],[4,5],[4,5,6],[0,1,2,3,4,5,6,7],[0,1,2,3,4,5,6,7,8]]) (by kernel_rfl) (by kernel_rfl) (by kernel_rfl) ?_))));refine Ap ?_;refine Ap ?_;refine DrawC.s (fun _ hs=>(by exact An U (.no U) (Af hs U) (hs.tm U) (hs.tm U) Tryz.underlying44 Ca (fun _=>⟨by omega,(by exact Ao hx)⟩))) ?_;refine A5 Ca ?_;refine Ap ?_;refine Ap ?_;refine DrawC.s (fun _ hs=>(by exact An U (.no U) (Af hs U) (hs.tm U) (hs.tm U) Tryz.underlying44 Ca (fun _=>⟨by omega,(by exact Ao hy)⟩))) ?_;refine A5 Ca ?_;refine DrawC.s (fun _ hs=>A3 (FnT.fr (lawssameIntsQ x y)) U (.no U) (Af hs U) (.cons (hs.tm U) (readA_sup hs U) (.cons (hs.tm U) (readA_sup hs U) .nil))) ?_;refine DrawC.s (fun _ hs=>Cy U (.no U) (Af hs U) (hs.tm U)) ?_;refine Bi U U ?_;refine Aa (Ai (.tm U) (fun h26=>?_) (fun h26=>?_))
   · try simp at h26
     refine Ae (Ak ?_);refine Aa (Al (Bb U U ?_))
     congr 1;symm;exact decide_eq_false fun e=>by rw [e] at hx;rw [hy] at hx;cases hx;simp at h26
   try simp at h26
   have hxy:x=y:=by simpa using h26
   refine Aj (Ad (Ab ?_));refine A8 ?_;refine Ah ?_;refine Aa ?_;refine Round.next (k+1) ⟨by omega,fun i hi=>by rcases Nat.lt_or_eq_of_le (Nat.le_of_lt_succ hi) with h|rfl;exact he i h;rw [hx,hy,hxy]⟩ (by omega) (Ar rfl ⟨rfl,rfl,rfl,Y⟩ trivial)
 try simp at h14
 refine Ba (Ae (Ak ?_));refine Aa (Al (Bb U U ?_))
 congr 1;symm;exact decide_eq_true (eq_of_getElem? (by omega) fun i hi=>he i (by omega))
end Go.Proofs.YtdhojcaoljhbiaaGreatDoor
