import Derived.Test.YtdhojcaoljhbiaaGreatAbs12xc
import Derived.Test.YtdhojcaoljhbiaaGreatOpenBxc
import Derived.Test.YtdhojcaoljhbiaaGreatB08xc
import Derived.Test.YtdhojcaoljhbiaaGreatB14xc
set_option linter.unusedVariables false
set_option linter.unusedSimpArgs false
set_option maxHeartbeats 1000000
set_option maxRecDepth 100000
open Go.Proofs.Tryz renaming underlying52->Z9,underlying43->ZB,prog->ZG,underlying88->ZM,underlying148->ZT,underlying40->ZX,underlying191->ZZ,underlying33->Aal,func109->Aan,ntmps109->Aao,func119->Aap,ntmps119->Aaq,func167->Aar,ntmps167->Aas,func168->Aat,ntmps168->Aau,func169->Aav,ntmps169->Aaw,underlying34->Aax
open List renaming range->ZA,all_eq_true->ZH,length_append->ZI,length_cons->ZJ,mem_of_getElem?->ZK,length_nil->ZP,length_map->ZQ,getElem?_eq_getElem->ZS,append_nil->ZU,contains_iff_mem->ZV,take_of_length_le->ZY,any_eq_true->Aad,getElem?_eq_some_iff->Aae,reverse_reverse->Aaf,getElem?_map->Aai,set_set->Aaj
open Int renaming toNat_natCast->ZC,natCast_nonneg->Aam
open Nat renaming blt->ZD,beq->ZL,zero_le->ZN,le_trans->ZO,zero_add->ZR,mul_comm->ZW,eq_of_beq_eq_true->Aab,succ_mul->Aag,mul_le_mul_right->Aah,two_pow_pos->Aak
open Bool renaming and_eq_true->ZE,or_eq_true->Aac
open Array renaming replicate->ZF
namespace Go.Q
open Go.RowKit
section
variable {P:Program}
theorem GH (L:Nat→Bool):∀ (outs:List Out) (i:Nat) (σ:St),(∀ y∈outs,y.2.2=[])→(stL L i outs σ).res=σ.res
 | [],_,_,_=>rfl
 | y::r,i,σ,h=>by
  rw [stL,GH L r (i+1) _ fun z hz=>h z (by simp [hz])]
  cases L i with
  | false=>rfl
  | true=>simp only [cond_true];rw [h y (by simp)];rfl
theorem Fb {L:Nat→Bool} {outs:List Out} {σ:St} (hno:∀ y∈outs,look σ.slots y.1=none) (hun:∀ (i j:Nat) (y z:Out),outs[i]?=some y→outs[j]?=some z→y.1=z.1→i=j) (t:Nat) (x:Bool×S) :
 look (stL L 0 outs σ).slots t=some x↔(∃ j y,outs[j]?=some y∧L j=true∧y.1=t∧y.2.1=x)∨look σ.slots t=some x:=by
 by_cases hex:∃ j y,outs[j]?=some y∧L j=true∧y.1=t
 · obtain⟨j,y,hy,hj,rfl⟩:=hex
   have e:=GG (L:=L) outs 0 σ j y hy (by rw [ZR];exact hj) rfl rfl fun k z hk e=>hun k j z y hk hy e
   rw [e,hno y (ZK hy)]
   constructor
   · intro h;exact .inl ⟨j,y,hy,hj,rfl,Option.some.inj h⟩
   rintro (⟨k,z,hz,_,h1,h2⟩|h)
   · have:=hun k j z y hz hy h1
     subst this
     rw [hy] at hz;cases hz;rw [h2]
   cases h
 rw [Ej outs 0 σ fun j z hz hj e=>hex ⟨j,z,hz,by rw [ZR] at hj;exact hj,e⟩]
 constructor
 · exact .inr
 rintro (⟨j,z,hz,hj,h1,_⟩|h)
 · exact absurd ⟨j,z,hz,hj,h1⟩ hex
 exact h
theorem Tv {L M:Nat→Bool} {outs:List Out} {σ σ':St} (hs:Sup σ σ') (hno:∀ y∈outs,look σ.slots y.1=none) (hno':∀ y∈outs,look σ'.slots y.1=none) (hun:∀ (i j:Nat) (y z:Out),outs[i]?=some y→outs[j]?=some z→y.1=z.1→i=j) (hnr:∀ y∈outs,y.2.2=[])
 (hLM:∀ j,L j=true→M j=true):Sup (stL L 0 outs σ) (stL M 0 outs σ'):=by
 refine⟨by rw [H1,H1];exact hs.n,fun t x h=>?_,fun t x h=>?_⟩
 · rw [Fb hno hun] at h
   rw [Fb hno' hun]
   rcases h with ⟨j,y,h1,h2,h3,h4⟩|h
   · exact .inl ⟨j,y,h1,hLM j h2,h3,h4⟩
   exact .inr (hs.slots _ _ h)
 rw [GH _ _ _ _ hnr] at h ⊢
 exact hs.res _ _ h
def Iv:List Nat→Bool
 | []=>true
 | x::l=>l.all (fun y=>!(ZL x y))&&Iv l
theorem RA:∀ {outs:List Out},Iv (outs.map (·.1))=true→∀ (i j:Nat) (y z:Out),outs[i]?=some y→outs[j]?=some z→y.1=z.1→i=j
 | [],_,i,j,y,z,h,_,_=>by simp at h
 | u::r,h,i,j,y,z,h1,h2,e=>by
  simp only [List.map_cons,Iv,ZE,List.all_map,ZH] at h
  have key:∀ v∈r,u.1≠v.1:=fun v hv e=>by have:=h.1 v hv;simp [e] at this
  match i,j,h1,h2 with
  | 0,0,_,_=>rfl
  | 0,j+1,h1,h2=>simp at h1 h2;subst h1;exact absurd e (key z (ZK h2))
  | i+1,0,h1,h2=>simp at h1 h2;subst h2;exact absurd e.symm (key y (ZK h1))
  | i+1,j+1,h1,h2=>rw [RA h.2 i j y z (by simpa using h1) (by simpa using h2) e]
theorem Sup.sub0 {σ σ':St} (hn:σ'.n=σ.n) (hs:Ou σ σ'.slots) (hr:Ov σ σ'.res):Sup σ' σ:=⟨hn.symm,fun i x h=>K4 hs i x h,fun i x h=>Ic hr i x h⟩
theorem Ba {σ σ':St} (hn:σ'.n=σ.n:=by exact rfl) (hs:Ou σ σ'.slots:=by (repeat refine⟨rfl,?_⟩);exact trivial) (hr:Ov σ σ'.res:=by (repeat refine⟨rfl,?_⟩);exact trivial):Sup σ' σ:=Sup.sub0 hn hs hr
def Q4 (P:Program) (ops:Array Oper) (B:Nat→List Nat) (outs:List Out) (X:Nat→Bool) (σ σ2:St):Nat→List Oper→List Out→Prop
 | i,o::l,y::r=>Loc P ops o (stL (BI (B i)) 0 outs (bif X i then σ2 else σ)) y∧Q4 P ops B outs X σ σ2 (i+1) l r
 | _,_,_=>True
theorem Q4.at {ops:Array Oper} {B:Nat→List Nat} {outs:List Out} {X:Nat→Bool} {σ σ2:St}:∀ (l:List Oper) (r:List Out) (k:Nat),Q4 P ops B outs X σ σ2 k l r→∀ i o y,l[i]?=some o→r[i]?=some y→Loc P ops o (stL (BI (B (k+i))) 0 outs (bif X (k+i) then σ2 else σ)) y
 | [],r,k,h,i,o,y,hl,hr=>by simp at hl
 | o'::l,[],k,h,i,o,y,hl,hr=>by simp at hr
 | o'::l,y'::r,k,h,0,o,y,hl,hr=>by simp at hl hr;subst hl;subst hr;exact h.1
 | o'::l,y'::r,k,h,i+1,o,y,hl,hr=>by
  have:=Q4.at l r (k+1) h.2 i o y (by simpa using hl) (by simpa using hr)
  rwa [show k+1+i=k+(i+1) by omega] at this
end
section
variable {P:Program} {ops:Array Oper} {o:Oper} {σ:St} {q:Bool}
theorem UM {t e:TypeId} {x y:Operand} {A2:A} {id k:Nat} {rows rows2:List (List T)} {z:Value} {bytes:Nat} (ho:o.op=.call { callee:=.builtin .append,args:=#[x,y],argTypes:=#[t,t] }) (hg:o.guard=none) (hd:o.dst.all (fun d=>ZD d σ.n)=true)
 (hx:∀ I w0 a w,AU I w0 σ a w→VE I w (.rf id) (a.eval x)) (hs:look σ.res id=some (.row k rows)) (hy:Get σ true y A2) (hq:Sq σ A2 k rows2) (hv:rows2.flatten.all T.isV=true) (ht:P.underlying t=some (.slice e)) (hi:(P.info? e).map (fun i=>(i.zero,i.size,i.bytes))=some (some z,k,bytes)) (hzs:z.cells.size=k)
 (hb:(rows.length+rows2.length)*bytes≤140737488355328) (hm:rows.length+rows2.length≤maxLen) :
 Op1 P ops o σ ((σ.chg id (.row k (rows++rows2))).put o.dst (true,.a (.one (.rf id)))):=
 .eff hg fun w0 a w ⟨I,hr⟩=>by
  have hv1:VE I w (.rf id) (a.eval x):=hx I w0 a w hr
  have hC:C true w (.sl k rows) (I.hd id) (I.F id):=hr.res id _ hs
  obtain⟨F2,hC2⟩:=hq.val hr (hy.va hr rfl)
  obtain⟨v',w',hrun,h⟩:=Ia (ty:=o.type) w ht hi hzs hC hC2 hb hm
  refine⟨v',w',by simp [execOp,ho,resolve,invoke,builtin,hv1.1,hrun],?_⟩
  rcases h with ⟨rfl,rfl,rfl⟩|⟨g,cap,cur,e',G,rfl,h1,h2,h3,h4,h5,h6,h7,xs,news,h8,h9,h10,h11,h12⟩
  · have:=hr.chg hs (Chg.refl _ _) (G:=I.F id) (u:=I.hd id) (r:=.row k (rows++[])) ⟨(hr.own id _ hs).1,fun b hb=>⟨((hr.own id _ hs).2 b hb).1,(hr.lt id b hb).1,((hr.own id _ hs).2 b hb).2,.inl hb⟩⟩ (by show C true _ _ _ _;simpa [Ip.set] using hC)
    exact⟨_,this.put hd ⟨by simp [Ip.set],hv1.1▸hv1.2⟩⟩
  obtain⟨h13,_⟩:=ED (o':=true) (w':=w) hv h9
  have:=hr.append hs h1 h2 h3 h4 h5 h6 h7 h8 h13 h10 h11 h12 (by simp) List.nodup_nil
  exact⟨_,this.put hd ⟨by simp [Ip.set],_,_,_,rfl⟩⟩
theorem Hq {t e:TypeId} {x y:Operand} {A2:A} {id hid k:Nat} {c0:Value} {rows rows2:List (List T)} {z:Value} {bytes:Nat} (ho:o.op=.call { callee:=.builtin .append,args:=#[x,y],argTypes:=#[t,t] }) (hg:o.guard=none) (hd:o.dst.all (fun d=>ZD d σ.n)=true)
 (hx:Get σ true x (.one (.t (.v c0)))) (hh:look σ.res hid=some (.hdr (some id) c0)) (hs:look σ.res id=some (.row k rows)) (hy:Get σ true y A2) (hq:Sq σ A2 k rows2) (hv:rows2.flatten.all T.isV=true) (ht:P.underlying t=some (.slice e)) (hi:(P.info? e).map (fun i=>(i.zero,i.size,i.bytes))=some (some z,k,bytes)) (hzs:z.cells.size=k)
 (hb:(rows.length+rows2.length)*bytes≤140737488355328) (hm:rows.length+rows2.length≤maxLen) :
 Op1 P ops o σ ((σ.chg id (.row k (rows++rows2))).put o.dst (true,.a (.one (.rf id)))):=
 UM ho hg hd (fun I w0 a w hr=>by
  obtain⟨G,k1,_⟩:VE I w (.t (.v c0)) (a.eval x):=hx.va hr rfl
  simp only [C] at k1
  have k2:I.hd id=c0:=(hr.res _ _ hh).2 id rfl
  have hC:C true w (.sl k rows) (I.hd id) (I.F id):=hr.res id _ hs
  simp only [C] at hC
  obtain⟨a1,l1,c1,e1,_⟩:=hC
  exact⟨by rw [k1.1,k2],a1,l1,c1,by rw [k1.1,←k2,e1]⟩) hs hy hq hv ht hi hzs hb hm
structure BX (P:Program) (N:Nat) (B:Nat→List Nat) (l:List Oper) (n:Nat) (sl:List (Nat×(Bool×S))) (rs:List (Nat×R)) (Fin:List Out→Prop) (acc:List Out) (k:Nat) (rest:List Oper):Prop where
 pf:acc.length=k→rest=l.drop k→∃ more:List Out,(acc.reverse++more).length=N∧
  Steps P l.toArray B (acc.reverse++more) ⟨n,sl,rs⟩ k rest more∧Fin (acc.reverse++more)
variable {N:Nat} {B:Nat→List Nat} {l:List Oper} {n:Nat} {sl:List (Nat×(Bool×S))} {rs:List (Nat×R)} {Fin:List Out→Prop} {acc:List Out} {k:Nat} {rest:List Oper}
theorem BX.step {y:Out} (hN:ZD k N=true) (hlt:((B k).all fun j=>ZD j k)=true) (hl:Loc P l.toArray o (stR (BI (B k)) k acc ⟨n,sl,rs⟩) y) (h:BX P N B l n sl rs Fin (y::acc) (k+1) rest):BX P N B l n sl rs Fin acc k (o::rest):=⟨fun ha hr=>by
 have hd:rest=l.drop (k+1):=by
  have:=congrArg (List.drop 1) hr
  simpa using this
 obtain⟨more,h1,h3,h4⟩:=h.pf (by simp [ha]) hd
 have e:(y::acc).reverse++more=acc.reverse++(y::more):=by simp
 rw [e] at h1 h3 h4
 refine⟨y::more,h1,⟨?_,h3⟩,h4⟩
 have:stL (BI (B k)) 0 (acc.reverse++(y::more)) ⟨n,sl,rs⟩=stR (BI (B k)) k acc ⟨n,sl,rs⟩:=by
  rw [HW,←ha,L1,L2]
  intro j hj
  rw [List.length_reverse,ZR,ha] at hj
  cases hm:BI (B acc.length) j with
  | false=>rfl
  | true=>
   have h1:=ZH.1 hlt j (by rw [←ha];exact CK.1 hm)
   have h2:j<k:=Nat.le_of_ble_eq_true h1
   omega
 rw [this]
 exact hl⟩
theorem BX.s {d:Nat} {x:Bool×S} (hl:∀ σ',Sup (stR (BI (B k)) k acc ⟨n,sl,rs⟩) σ'→Op1 P l.toArray o σ' (σ'.put o.dst x)) (h:BX P N B l n sl rs Fin ((d,x,[])::acc) (k+1) rest) (hN:ZD k N=true:=by exact rfl) (hlt:((B k).all fun j=>ZD j k)=true:=by exact rfl) (hd:o.dst=some d:=by exact rfl):BX P N B l n sl rs Fin acc k (o::rest):=BX.step hN hlt (Loc.of hd hl) h
theorem Dm {d i:Nat} {x:A} (h:BX P N B l n sl rs Fin ((d,(true,.a x),[])::acc) (k+1) rest) (ho:o.op=.move (.tmp i):=by exact rfl) (hg:o.guard=none:=by exact rfl) (hN:ZD k N=true:=by exact rfl) (hlt:((B k).all fun j=>ZD j k)=true:=by exact rfl) (hd:o.dst=some d:=by exact rfl) (hdn:o.dst.all (fun d=>ZD d (stR (BI (B k)) k acc ⟨n,sl,rs⟩).n)=true:=by exact rfl) (hx:look (stR (BI (B k)) k acc ⟨n,sl,rs⟩).slots i=some (true,.a x):=by exact rfl):BX P N B l n sl rs Fin acc k (o::rest):=BX.step hN hlt (Loc.of hd fun σ' hs=>Bh ho (.no hg) (Ag hs hdn) (.tm (hs.slots _ _ hx))) h
theorem BX.fin (hk:ZL k N=true) (h:Fin acc.reverse):BX P N B l n sl rs Fin acc k rest:=⟨fun ha hr=>by
 have hk':=Aab hk
 refine⟨[],by simp [ha,hk'],by unfold Steps;split<;>first|trivial|(rename_i h;cases h),by rw [ZU];exact h⟩⟩
def UO (P:Program) (w0:BB) (Q:Exit→St→Prop) (N:Nat) (B:Nat→List Nat) (l:List Oper) (σ:St) (o:Oper) (nid d:Nat) (r:R) (x:Bool×S) (outs:List Out):Prop:=
 (outs.all (fun y=>y.2.2.isEmpty)=true∧outs.map (fun y=>y.2.1.2.pur nid)=outs.map (fun y=>y.2.1.2)∧outs.all (fun y=>(look σ.slots y.1).isNone&&!(ZL y.1 d))=true∧Iv (outs.map (·.1))=true)∧
 (∀ σ',Sup (stL (BI (B N)) 0 outs σ) σ'→Op1 P l.toArray o σ' ((σ'.chg nid r).put o.dst x))∧
 AWl P w0 l.toArray Q (l.drop (N+1)) (stL (fun _=>true) 0 outs ((σ.chg nid r).put (some d) x))
theorem RH {σ:St} {id:Nat} {r:R} (t:Nat):look (σ.chg id r).slots t=(look σ.slots t).map fun x=>(x.1,x.2.pur id):=DY (fun x:Bool×S=>(x.1,x.2.pur id)) _ _
theorem AW.drawA {w0:BB} {Q:Exit→St→Prop} {id:Nat} (N:Nat) (B:Nat→List Nat) (nid d:Nat) (r:R) (x:Bool×S) (σ2:St) (hm:P.follows .mixedOrders=true) (hB:E7 l.toArray (N+1)=true) (hO:Uz l B (N+1)=true)
 (h2:Sup σ2 σ) (h2':Sup σ2 ((σ.chg nid r).put (some d) x)) (ho:l[N]?=some o) (hod:o.dst=some d) (h:BX P N B l σ2.n σ2.slots σ2.res (UO P w0 Q N B l σ o nid d r x) [] 0 l):AW P w0 (.region id l.toArray true) Q σ:=by
 obtain⟨outs,hl,hsteps,⟨hnr0,hpv0,hno0,hun0⟩,hst,hfin⟩:=h.pf rfl rfl
 simp only [List.reverse_nil,List.nil_append] at hl hsteps hnr0 hpv0 hno0 hun0 hst hfin
 have hnr:∀ y∈outs,y.2.2=[]:=fun y hy=>List.isEmpty_iff.1 (ZH.1 hnr0 y hy)
 have hpv:∀ y∈outs,y.2.1.2.pur nid=y.2.1.2:=fun y hy=>List.map_inj_left.1 hpv0 y hy
 have hun:=fun i j y z=>RA hun0 i j y z
 have hno1:∀ y∈outs,look σ.slots y.1=none∧y.1≠d:=fun y hy=>by
  have:=ZH.1 hno0 y hy
  simp only [ZE,Option.isNone_iff_eq_none,Bool.not_eq_true'] at this
  exact⟨this.1,BT this.2⟩
 have hno:∀ y∈outs,look σ.slots y.1=none:=fun y hy=>(hno1 y hy).1
 generalize hσe:(σ.chg nid r).put (some d) x=σe at h2' hfin
 have hslot:∀ t,look σe.slots t=if d=t then some x else (look σ.slots t).map fun x=>(x.1,x.2.pur nid):=fun t=>by
  rw [←hσe]
  show look ((d,x)::(σ.chg nid r).slots) t=_
  rw [AF,RH]
 have hres:σe.res=(σ.chg nid r).res:=by rw [←hσe];rfl
 have hne:σe.n=σ.n:=by rw [←hσe];rfl
 have hnoe:∀ y∈outs,look σe.slots y.1=none:=fun y hy=>by rw [hslot,if_neg (fun e=>(hno1 y hy).2 e.symm),hno y hy];rfl
 have hno2:∀ y∈outs,look σ2.slots y.1=none:=fun y hy=>by
  cases h:look σ2.slots y.1 with
  | none=>rfl
  | some x=>have:=h2.slots _ _ h;rw [hno y hy] at this;cases this
 intro a w hr;refine wp_region_any hm ?_
 have hlN:N+1≤l.length:=by
  simp only [E7,ZE,decide_eq_true_eq] at hB
  simpa using hB.1.1.1
 have inB:∀ (listed:Array Bool),HeadInv .any l.toArray (N+1) listed→∀ i o,i<N+1→l[i]?=some o→(∀ j∈Gu o,listed.getD j false=true)→∀ j∈B i,listed.getD j false=true:=by
  intro listed inv i o hi ho hd
  have hOi:=ZH.1 hO i (List.mem_range.2 hi)
  rw [ho] at hOi
  have hOi':=ZH.1 hOi
  have key:∀ d j,N+1-j≤d→j∈B i→listed.getD j false=true:=by
   intro d
   induction d with
   | zero=>
    intro j hj hm
    have:=hOi' j hm
    simp only [Aac,ZV,Aad,ZE,decide_eq_true_eq] at this
    rcases this with h|⟨m,hmB,⟨h1,h2⟩,h3⟩
    · exact hd j h
    omega
   | succ d ih=>
    intro j hj hm
    have:=hOi' j hm
    simp only [Aac,ZV,Aad,ZE,decide_eq_true_eq] at this
    rcases this with h|⟨m,hmB,⟨h1,h2⟩,h3⟩
    · exact hd j h
    have hml:=ih m (by omega) hmB
    cases hom:l[m]? with
    | none=>rw [hom] at h3;cases h3
    | some om=>
     rw [hom] at h3
     simp only [ZV] at h3
     obtain⟨e,he,hb,rfl⟩:=H9.1 h3
     exact inv.closed m om (by simpa using hom) hml e he hb
  exact fun j hm=>key (N+1-j) j (Nat.le_refl _) hm
 have H:=Gz (P:=P) (N:=N+1) (Q:=lift w0 Q) (J:=fun listed a w=>Rel w0 (stL (fun j=>listed.getD j false) 0 outs (bif listed.getD N false then σe else σ)) a w) hB (fun i o1 hi ho1 listed a w inv hd hu hJ=>?_) (fun listed a w hall hJ=>?_)
  (unl (N+1) (ZF l.toArray.size false)) (ZF l.toArray.size false) a { w with drawn:=w.drawn+1 } rfl
  ⟨by simp,fun j oj _ hl=>(by rw [getD_replicate_false] at hl;cases hl),fun t _ ht=>getD_in (by simpa using ht) (getD_replicate_false _ _)⟩ ?_
 · have hu:unl (N+1) (ZF l.toArray.size false)=N+1:=by
    unfold unl
    rw [List.countP_eq_length.2 (fun j _=>by rw [getD_replicate_false];rfl),List.length_range]
   rw [hu,show N+1+(l.toArray.size-(N+1))=l.toArray.size by simp;omega] at H
   exact H
 · -- one step
   have ho':l[i]?=some o1:=by simpa using ho1
   have hBL:=inB listed inv i o1 hi ho' hd
   have hget:∀ j,(listed.setIfInBounds i true).getD j false=if j=i then true else listed.getD j false:=by
    intro j
    by_cases e:j=i
    · subst e
      have:j<listed.size:=by rw [inv.size];simp;omega
      simp [this]
    rw [if_neg e];exact getD_set_ne false (fun h=>e h.symm)
   intro K Q' hK
   by_cases hiN:i=N
   · subst hiN
     have eo:o1=o:=by rw [ho] at ho';exact (Option.some.inj ho').symm
     subst eo
     have hst':=hst (stL (fun j=>listed.getD j false) 0 outs σ) (Tv ⟨rfl,fun _ _ h=>h,fun _ _ h=>h⟩ hno hno hun hnr fun j hj=>hBL j (CK.1 hj))
     rw [hu] at hJ
     refine hst' w0 a w hJ K Q' fun a' w' hr'=>hK a' w' ?_
     rw [hget,if_pos rfl]
     rw [hod] at hr'
     refine Rel.of_look hr' (by rw [H1];show σe.n=(stL _ 0 outs σ).n;rw [H1];exact hne) (fun t y' hx=>?_) (fun t y' hx=>?_)
     · simp only [cond_true] at hx
       rw [Fb hnoe hun] at hx
       show look ((d,x)::(St.chg (stL _ 0 outs σ) nid r).slots) t=some y'
       rw [AF,RH]
       rcases hx with ⟨j,y,h1,h2,h3,h4⟩|hx
       · have hj:j≠i:=by have:=(Aae.1 h1).1;omega
         rw [hget,if_neg hj] at h2
         have hym:=ZK h1
         rw [if_neg (fun e=>(hno1 y hym).2 (h3.trans e.symm)),(Fb hno hun t y').2 (.inl ⟨j,y,h1,h2,h3,h4⟩)]
         have:=hpv y hym
         rw [h4] at this
         simp only [Option.map_some,this]
       rw [hslot] at hx
       by_cases e:d=t
       · rw [if_pos e] at hx ⊢;exact hx
       rw [if_neg e] at hx ⊢
       cases hl:look σ.slots t with
       | none=>rw [hl] at hx;cases hx
       | some x0=>
        rw [hl] at hx
        rw [(Fb hno hun t x0).2 (.inr hl)]
        exact hx
     simp only [cond_true] at hx
     rw [GH _ _ _ _ hnr,hres] at hx
     show look (St.chg (stL _ 0 outs σ) nid r).res t=some y'
     have:(St.chg (stL (fun j=>listed.getD j false) 0 outs σ) nid r).res=(σ.chg nid r).res:=by
      simp only [St.chg,St.pur];rw [GH _ _ _ _ hnr]
     rw [this];exact hx
   have hiN':i<N:=by omega
   obtain⟨y,hy⟩:∃ y,outs[i]?=some y:=⟨outs[i]'(by omega),ZS _⟩
   have hym:=ZK hy
   have hloc:Loc P l.toArray o1 (stL (BI (B i)) 0 outs σ2) y:=by
    have:=hsteps.at l outs 0 i o1 y ho' hy
    rwa [ZR] at this
   have hcur:∀ y∈outs,look (bif listed.getD N false then σe else σ).slots y.1=none:=by
    cases listed.getD N false
    · exact hno
    exact hnoe
   have hsb:Sup σ2 (bif listed.getD N false then σe else σ):=by
    cases listed.getD N false
    · exact h2
    exact h2'
   have hsup:=Tv (L:=BI (B i)) (M:=fun j=>listed.getD j false) hsb hno2 hcur hun hnr fun j hj=>hBL j (CK.1 hj)
   refine hloc _ hsup (fun z hz=>by rw [hnr y hym] at hz;cases hz) w0 a w hJ K Q' fun a' w' hr'=>hK a' w' ?_
   rw [hget,if_neg (fun h=>hiN h.symm)]
   refine Rel.of_look hr' (by rw [H1,H1]) (fun t x hx=>?_) (fun t x hx=>?_)
   · rw [Fb hcur hun] at hx
     show look ((y.1,y.2.1)::_) t=some x
     rw [AF]
     rcases hx with ⟨j,z,h1,h2,h3,h4⟩|hx
     · by_cases e:j=i
       · subst e
         rw [hy] at h1;cases h1
         rw [if_pos h3,h4]
       rw [hget,if_neg e] at h2
       rw [if_neg (fun e'=>e (hun j i z y h1 hy (h3.trans e'.symm)))]
       exact (Fb hcur hun t x).2 (.inl ⟨j,z,h1,h2,h3,h4⟩)
     rw [if_neg (fun e'=>by rw [←e',hcur y hym] at hx;cases hx)]
     exact (Fb hcur hun t x).2 (.inr hx)
   rw [GH _ _ _ _ hnr] at hx
   rw [hnr y hym]
   show look (stL _ 0 outs _).res t=some x
   rw [GH _ _ _ _ hnr]
   exact hx
 · -- behind them
   have hall':listed.getD N false=true:=hall N (by omega)
   rw [hall'] at hJ
   have H:=hfin a w (Rel.of_look hJ (by rw [H1,H1];rfl) (fun t x hx=>?_) (fun t x hx=>?_))
   · simpa using H
   · rw [Fb hnoe hun] at hx
     simp only [cond_true]
     rw [Fb hnoe hun]
     rcases hx with ⟨j,y,h1,_,h3⟩|hx
     · exact .inl ⟨j,y,h1,hall j (by have:=(Aae.1 h1).1;omega),h3⟩
     exact .inr hx
   simp only [cond_true]
   rw [GH _ _ _ _ hnr] at hx ⊢
   exact hx
 -- the start
 have e:stL (fun j=>(ZF l.toArray.size false).getD j false) 0 outs σ=σ:=by
  have key:∀ (os:List Out) (i:Nat) (σ:St),stL (fun j=>(ZF l.toArray.size false).getD j false) i os σ=σ:=by
   intro os
   induction os with
   | nil=>intro i σ;rfl
   | cons y os ih=>
    intro i σ
    rw [stL,getD_replicate_false]
    exact ih (i+1) σ
  exact key outs 0 _
 show Rel w0 (stL (fun j=>(ZF l.toArray.size false).getD j false) 0 outs (bif (ZF l.toArray.size false).getD N false then σe else σ)) a _
 rw [getD_replicate_false,cond_false,e]
 obtain⟨I,hI⟩:=hr
 exact⟨I,hI.later (Ext.refl w).drawn⟩
theorem WJ:∀ (outs:List Out) (i:Nat) (σ:St),stL (fun _=>true) i outs σ=⟨σ.n,R6 outs.reverse σ.slots,R7 outs.reverse σ.res⟩:=fun outs i σ=>by
 have h:=SY (n:=σ.n) (sl:=σ.slots) (rs:=σ.res) outs.reverse outs.reverse.length
 rw [L1,Aaf] at h
 have key:∀ (os:List Out) (i j:Nat) (σ:St),stL (fun _=>true) i os σ=stL (fun _=>true) j os σ:=by
  intro os
  induction os with
  | nil=>intro i j σ;rfl
  | cons y os ih=>intro i j σ;rw [stL,stL];exact ih _ _ _
 rw [key outs i 0 σ]
 exact h
theorem UO.mk {w0:BB} {Q:Exit→St→Prop} {nid d:Nat} {r:R} {x:Bool×S} (h1:(acc.reverse.all (fun y=>y.2.2.isEmpty)&&(acc.reverse.all (fun y=>(look σ.slots y.1).isNone&&!(ZL y.1 d))&&Iv (acc.reverse.map (·.1))))=true) (h2:acc.reverse.map (fun y=>y.2.1.2.pur nid)=acc.reverse.map (fun y=>y.2.1.2))
 (h3:∀ σ',Sup (stR (BI (B N)) N acc σ) σ'→Op1 P l.toArray o σ' ((σ'.chg nid r).put o.dst x)) (hk:ZL acc.length N=true)
 (h4:AWl P w0 l.toArray Q (l.drop (N+1)) ⟨σ.n,R6 acc ((d,x)::(σ.chg nid r).slots),R7 acc (σ.chg nid r).res⟩):UO P w0 Q N B l σ o nid d r x acc.reverse:=by
 simp only [ZE] at h1
 have hk':=Aab hk
 refine⟨⟨h1.1,h2,by simpa only [ZE] using h1.2.1,h1.2.2⟩,fun σ' hs=>h3 σ' ?_,?_⟩
 · rw [←hk',L1,hk'];exact hs
 rw [WJ,Aaf];exact h4
end
open Go.D
theorem H6 {α:Type} (k:Nat) (c:α→List T) (F:Nat→List α) (y:α) {n i:Nat}:((ZA n).map fun x=>[T.sl k ((F x).map c)]).set i [T.sl k ((F i).map c++[c y])]=(ZA n).map fun x=>[T.sl k ((F x++if x=i then [y] else []).map c)]:=by
 rw [Pd]
 congr 1
 funext x
 by_cases h:x=i
 · subst h;simp
 simp [h]
theorem UI {l:List DL} {k:Nat} {e:DL} (h:l[k]?=some e) (h1:0≤e.From) (h2:0≤e.To) (x:Nat):(Fe (l.take k) x++if x=e.From.toNat then [⟨⟨e.ID,false⟩,FB e false,e.To⟩] else [])++(if x=e.To.toNat then [⟨⟨e.ID,true⟩,FB e true,e.From⟩] else [])=Fe (l.take (k+1)) x:=by
 rw [Jv h,Gk,List.append_assoc]
 have e1:(x=e.From.toNat)↔(e.From=(x:Int)):=by omega
 have e2:(x=e.To.toNat)↔(e.To=(x:Int)):=by omega
 simp only [e1,e2]
def nxN (g:AC) (a:AA) (i:Nat):List Int:=Lg g a ((i / a.Accept.length:Nat):Int) ((i%a.Accept.length:Nat):Int)
def H5 (nx:Nat→List Int) (p:Nat) (l:List Int) (i:Nat):List Int:=if i<p then nx i else if i=p then l else []
theorem Uu (nx:Nat→List Int) (p:Nat) (l:List Int) (y:Int) (i:Nat):H5 nx p l i++(if i=p then [y] else [])=H5 nx p (l++[y]) i:=by
 unfold H5
 by_cases h:i<p
 · rw [if_pos h,if_pos h,if_neg (by omega),ZU]
 rw [if_neg h,if_neg h]
 by_cases e:i=p
 · simp [e]
 simp [e]
theorem S5 (nx:Nat→List Int) (p:Nat) (i:Nat):H5 nx p (nx p) i=H5 nx (p+1) [] i:=by
 unfold H5
 by_cases h:i<p
 · rw [if_pos h,if_pos (by omega)]
 rw [if_neg h]
 by_cases e:i=p
 · subst e;simp
 rw [if_neg e,if_neg (by omega)];simp
theorem FQ {x s n:Nat} (h:s<n):(x*n+s) / n=x∧(x*n+s)%n=s:=by
 constructor
 · rw [ZW,Nat.mul_add_div (by omega),Nat.div_eq_of_lt h,Nat.add_zero]
 rw [ZW,Nat.mul_add_mod,Nat.mod_eq_of_lt h]
theorem SN {x s n V:Nat} (hx:x<V) (hs:s<n):x*n+s<n*V:=by
 calc x*n+s<x*n+n:=by omega
  _=(x+1)*n:=by rw [Aag]
  _≤V*n:=Aah _ hx
  _=n*V:=ZW _ _
theorem Fg {α β:Type} (f:α→List β) {l:List α} {j:Nat} {y:α} (h:l[j]?=some y):(l.take (j+1)).flatMap f=(l.take j).flatMap f++f y:=by
 rw [CO h,List.flatMap_append];simp
theorem UR {a:AA} {s v:Int} {y:DB} {u t:Nat} (h:(DA (Gw a s v y.letter))[u]?=some t):(E5 a s v y)[u]?=some (y.to*a.Accept.length+t):=by
 unfold E5
 rw [Aai,h];rfl
theorem Fm (a:AA) (s v:Int) (y:DB):(E5 a s v y).length=(DA (Gw a s v y.letter)).length:=by unfold E5;simp
theorem Gb {α β:Type} {f:α→List β} {b:Nat} (h:∀ x,(f x).length≤b):∀ l:List α,(l.flatMap f).length≤l.length*b
 | []=>by simp
 | x::l=>by
  rw [List.flatMap_cons,ZI,ZJ,Aag]
  have:=h x
  have:=Gb h l
  omega
theorem NX (g:AC) (hg:AI g=true):FnT ZG 109 [.agg (AG g)] (.a (.one (.sl 1 ((Ol g).map Oi)))):=by
 refine A8 Aan U (by kernel_rfl) Aao U fun hlen w0=>?_
 try simp [AP,AG,BG,AE,AK] at hlen
 have hG:=CA hg
 refine Af (Ac (Bg U U U (.tm U) (ts:=_) (by rfl)) U ?_);refine An ?_;refine Ch (i:=2) 20001 1 U U ?_;refine Aa (Af (A7 Ci ?_));refine Aj Cc ?_;refine Bi (.t) ZX ?_;refine A6 (Ho 9 U U U (.tm U) ZM YZ U U U U (by omega)) U ?_;refine Bv (Le.nilRow (id:=9) 4 U) ?_;refine Ah ?_;refine Aa (Ae (Af (A7 Ct ?_)));refine Aj D0 ?_;refine Bi (.t) ZB ?_;refine Ac (Bh U (.no U) U (.const U)) U ?_;refine Aa (AW.block (B9 (fun (k:Nat)=>(k≤g.Edges.length)∧True) (fun (k:Nat)=>⟨_,[(13,(true,.a (.one (.t (.v (.int .i64 (k:Nat))))))),(3,(true,.a (.one (.rf 9)))),(2,_),(11,_),(12,_)],[(9,.row 1 ((ZA g.Values.length).map fun (x:Nat)=>[T.sl 4 ((Fe (g.Edges.take k) x).map GU)]))]⟩) (fun (k:Nat)=>g.Edges.length-k) (0) ⟨ZN _,Y⟩ (Au U ⟨U,U,U,U,U,Y⟩ ⟨congrArg (fun r=>some (R.row 1 r)) (by apply List.ext_getElem<;>simp [Fe]),Y⟩) ?_))
 rintro k ⟨hk,he⟩
 refine Af (AWl.lt ?_);refine Aa (Ae (Ai (.tm U) (fun h14=>?_) (fun h14=>?_)))
 · try simp at h14
   obtain⟨e,he1⟩:∃ ξ,g.Edges[k]?=some ξ:=⟨_,ZS (by omega)⟩
   have hE:=Hc hg he1
   have hL:∀ x:Int,(Fe (g.Edges.take k) x).length≤24:=fun x=>ZO (FH _ x) (by simp;omega)
   have hL1:=hL (e.From.toNat:Nat)
   obtain⟨F1,hF1⟩:∃ F:Nat→List DB,F=fun (x:Nat)=>Fe (g.Edges.take k) x++if x=e.From.toNat then [(⟨⟨e.ID,false⟩,FB e false,e.To⟩:DB)] else []:=⟨_,rfl⟩
   have hL2:(F1 e.To.toNat).length≤25:=by (rw [hF1];have:=hL (e.To.toNat:Nat);dsimp only;rw [ZI];split<;>simp only [ZJ,ZP]<;>omega)
   refine Am (Ae (AW.block (Af (Ac (Ak U (.no U) U (.tm U) (.tm U) ZB Cq (fun _=>⟨by omega,Ao he1⟩)) U ?_))));refine Aj Cq ?_;refine A6 (Bd 5 U U U HF U U U) U ?_;refine A4 Cq ?_;refine Aa (Ae (As (σ':=⟨_,[(2,_),(3,_),(5,_),(11,_),(12,_),(13,_)],[(9,.row 1 ((ZA g.Values.length).map fun (x:Nat)=>[T.sl 4 ((Fe (g.Edges.take k) x).map GU)])),(5,.box [.t (.v (.int .i64 e.ID)),.t (.v (.int .i64 e.From)),.t (.v (.int .i64 e.To)),.t (.v (.int .i64 e.Label))])]⟩) Aw ?_));refine AW.takeR (id:=9) (i:=e.From.toNat) (p:=0) 241 242 U (CD _ (by omega)) U (fun _=>rfl) (fun _=>rfl) fun c24=>?_
   refine AW.drawA 17 (DM [[],[],[1],[],[],[4],[3,4,5],[3,4,5,6],[],[8],[8,9],[],[11],[],[13],[8,9,10,11,12,13,14],[8,9,10,11,12,13,14,15],[3,4,5,6,7,8,9,10,11,12,13,14,15,16]]) 241 34 (.row 4 ((Fe (g.Edges.take k) (e.From.toNat:Nat)).map GU++[GU ⟨⟨e.ID,false⟩,FB e false,e.To⟩])) (true,.a (.one (.rf 241))) ⟨_,[(2,_),(3,_),(5,_),(11,_),(12,_),(13,_)],[(9,_),(5,_)]⟩ (by kernel_rfl) (by kernel_rfl) (by kernel_rfl) Ba Ba U U ?_;refine Dm ?_;refine BX.s (fun _ hs=>(by exact Bj U (.no U) (Ag hs U) (hs.tm U) FO)) ?_;refine BX.s (fun _ hs=>(by exact Be U (.no U) (Ag hs U) (hs.tm U) (hs.res _ _ U) ty3 U U)) ?_;refine Dm ?_;refine BX.s (fun _ hs=>(by exact Bj U (.no U) (Ag hs U) (hs.tm U) FO)) ?_;refine BX.s (fun _ hs=>(by exact Be U (.no U) (Ag hs U) (hs.tm U) (hs.res _ _ U) ty3 U U)) ?_
   refine BX.s (fun _ hs=>(by exact A3 U (.no U) (Ag hs U) (hs.tm U) (hs.res _ _ U) (hs.tm U) ZM Df (fun _=>⟨by omega,BP _ (CD _ (by omega))⟩))) ?_;refine BX.s (fun _ hs=>(by exact Ca U (.no U) (Ag hs U) (hs.tm U) (hs.res _ _ U) (BP _ (CD _ (by omega))) Df U U)) ?_;refine BX.s (fun _ hs=>(by exact Bj U (.no U) (Ag hs U) (hs.tm U) D2)) ?_;refine BX.s (fun _ hs=>(by exact Be U (.no U) (Ag hs U) (hs.tm U) (hs.res _ _ U) ty3 U U)) ?_;refine BX.s (fun _ hs=>Bm (ps:=[(0,.tmp 26)]) U U (Ag hs U) HE U U Ul (.cons (hs.tm U) U U LN .nil) U) ?_;refine BX.s (fun _ hs=>(by exact Be U (.no U) (Ag hs U) (hs.tm U) (hs.res _ _ U) Cq U U)) ?_;refine BX.s (fun _ hs=>Bc (FnT.fr (Pq _ _ (by omega))) U (.no U) (Ag hs U) (.cons (hs.tm U) (AD hs U) (.cons (.const U) (AD hs U) .nil))) ?_
   refine BX.s (fun _ hs=>(by exact Bj U (.no U) (Ag hs U) (hs.tm U) F7)) ?_;refine BX.s (fun _ hs=>(by exact Be U (.no U) (Ag hs U) (hs.tm U) (hs.res _ _ U) ty3 U U)) ?_;refine BX.s (fun _ hs=>Bm (ps:=[(0,.tmp 27),(1,.tmp 29),(2,.tmp 31)]) U U (Ag hs U) Jk U U XP (.cons (hs.tm U) U U TJ (.cons (hs.tm U) U U TI (.cons (hs.tm U) U U TH .nil))) U) ?_;refine BX.s (fun _ hs=>Cf (xs:=[.tmp 32]) (rows:=[GU ⟨⟨e.ID,false⟩,FB e false,e.To⟩]) U U (Ag hs U) (.cons (hs.tm U) U U .nil) ZT Jk U U (U)) ?_
   refine BX.fin U (UO.mk U U (fun σ' hs=>Hq (id:=241) (hid:=242) U U (Ag hs U) (hs.tm U) (hs.res _ _ U) (hs.res _ _ U) (hs.tm U) (by exact .t) (by rfl) ZT Jk U (by (simp only [ZQ,ZI,ZJ,ZP,AH];omega)) (by (unfold maxLen;simp only [ZQ,ZI,ZJ,ZP,AH];omega))) U ?_);refine Bv (Ay [2,3,5,11,12,13,17,19,34] [9,5,241]) ?_;refine Ac ((A3 U (.no U) U (.tm U) U (.tm U) ZM Df (fun _=>⟨by omega,BP _ (CD _ (by omega))⟩))) U ?_;refine Cu (C0 U U U (.tm U) U (.tm U) U (BP _ (CD _ (by omega))) Df U U U U) ?_
   refine Aa (As (σ':=⟨_,[(2,_),(3,_),(5,_),(11,_),(12,_),(13,_)],[(9,.row 1 ((ZA g.Values.length).map fun (x:Nat)=>[T.sl 4 ((F1 x).map GU)])),(5,.box [.t (.v (.int .i64 e.ID)),.t (.v (.int .i64 e.From)),.t (.v (.int .i64 e.To)),.t (.v (.int .i64 e.Label))])]⟩) (Au U ⟨U,U,U,U,U,U,Y⟩ ⟨congrArg (fun r=>some (R.row 1 r)) (by simp only [Aaj];refine (H6 4 GU _ _).trans ?_;rw [hF1]),U,Y⟩) ?_);refine AW.takeR (id:=9) (i:=e.To.toNat) (p:=0) 431 432 U (CD _ (by omega)) U (fun _=>rfl) (fun _=>rfl) fun c43=>?_
   refine AW.drawA 17 (DM [[],[],[1],[],[],[4],[3,4,5],[3,4,5,6],[],[8],[8,9],[],[11],[],[13],[8,9,10,11,12,13,14],[8,9,10,11,12,13,14,15],[3,4,5,6,7,8,9,10,11,12,13,14,15,16]]) 431 53 (.row 4 ((F1 e.To.toNat).map GU++[GU ⟨⟨e.ID,true⟩,FB e true,e.From⟩])) (true,.a (.one (.rf 431))) ⟨_,[(2,_),(3,_),(5,_),(11,_),(12,_),(13,_)],[(9,_),(5,_)]⟩ (by kernel_rfl) (by kernel_rfl) (by kernel_rfl) Ba Ba U U ?_;refine Dm ?_;refine BX.s (fun _ hs=>(by exact Bj U (.no U) (Ag hs U) (hs.tm U) F7)) ?_;refine BX.s (fun _ hs=>(by exact Be U (.no U) (Ag hs U) (hs.tm U) (hs.res _ _ U) ty3 U U)) ?_;refine Dm ?_;refine BX.s (fun _ hs=>(by exact Bj U (.no U) (Ag hs U) (hs.tm U) F7)) ?_;refine BX.s (fun _ hs=>(by exact Be U (.no U) (Ag hs U) (hs.tm U) (hs.res _ _ U) ty3 U U)) ?_
   refine BX.s (fun _ hs=>(by exact A3 U (.no U) (Ag hs U) (hs.tm U) (hs.res _ _ U) (hs.tm U) ZM Df (fun _=>⟨by omega,BP _ (CD _ (by omega))⟩))) ?_;refine BX.s (fun _ hs=>(by exact Ca U (.no U) (Ag hs U) (hs.tm U) (hs.res _ _ U) (BP _ (CD _ (by omega))) Df U U)) ?_;refine BX.s (fun _ hs=>(by exact Bj U (.no U) (Ag hs U) (hs.tm U) D2)) ?_;refine BX.s (fun _ hs=>(by exact Be U (.no U) (Ag hs U) (hs.tm U) (hs.res _ _ U) ty3 U U)) ?_;refine BX.s (fun _ hs=>Bm (ps:=[(0,.tmp 45),(1,.const (.bool true))]) U U (Ag hs U) HE U U Ul (.cons (hs.tm U) U U LN (.cons (.const U) U U Qi .nil)) U) ?_;refine BX.s (fun _ hs=>(by exact Be U (.no U) (Ag hs U) (hs.tm U) (hs.res _ _ U) Cq U U)) ?_
   refine BX.s (fun _ hs=>Bc (FnT.fr (Pq _ _ (by omega))) U (.no U) (Ag hs U) (.cons (hs.tm U) (AD hs U) (.cons (.const U) (AD hs U) .nil))) ?_;refine BX.s (fun _ hs=>(by exact Bj U (.no U) (Ag hs U) (hs.tm U) FO)) ?_;refine BX.s (fun _ hs=>(by exact Be U (.no U) (Ag hs U) (hs.tm U) (hs.res _ _ U) ty3 U U)) ?_;refine BX.s (fun _ hs=>Bm (ps:=[(0,.tmp 46),(1,.tmp 48),(2,.tmp 50)]) U U (Ag hs U) Jk U U XP (.cons (hs.tm U) U U TJ (.cons (hs.tm U) U U TI (.cons (hs.tm U) U U TH .nil))) U) ?_;refine BX.s (fun _ hs=>Cf (xs:=[.tmp 51]) (rows:=[GU ⟨⟨e.ID,true⟩,FB e true,e.From⟩]) U U (Ag hs U) (.cons (hs.tm U) U U .nil) ZT Jk U U (U)) ?_
   refine BX.fin U (UO.mk U U (fun σ' hs=>Hq (id:=431) (hid:=432) U U (Ag hs U) (hs.tm U) (hs.res _ _ U) (hs.res _ _ U) (hs.tm U) (by exact .t) (by rfl) ZT Jk U (by (simp [AH];omega)) (by (unfold maxLen;simp [AH];omega))) U ?_);refine Bv (Ay [2,3,5,11,12,13,36,38,53] [9,5,431]) ?_;refine Ac ((A3 U (.no U) U (.tm U) U (.tm U) ZM Df (fun _=>⟨by omega,BP _ (CD _ (by omega))⟩))) U ?_;refine Cu (C0 U U U (.tm U) U (.tm U) U (BP _ (CD _ (by omega))) Df U U U U) ?_;refine Aa (Ad (A9 ?_));refine Ab ?_;refine Aa ?_
   repeat (with_reducible refine Av ?_)
   refine BF.next (k+1) ⟨by omega,Y⟩ (by omega) (Au rfl ⟨rfl,rfl,rfl,rfl,rfl,Y⟩ ⟨congrArg (fun r=>some (R.row 1 r)) (by simp only [Aaj];refine (H6 4 GU _ _).trans ?_;rw [hF1];congr 1;funext x;rw [UI he1 hE.1 hE.2.2.1]),Y⟩)
 try simp at h14
 refine Bf (Af (Ab ?_));refine Ah ?_;refine Aa (Aq (Res.one U (.tmp U .nil) U ?_))
 unfold Ol;rw [List.map_map,ZY (by omega)];rfl
def Yp (e:DL) (b:Bool):Int:=if b then e.From else e.To
theorem JV (a:AA) (k:Int) (l:List Nat) (t m:Nat):FJ a k (l++[t]) m=if 0≤CJ a t k then FJ a k l m|||2^(CJ a t k).toNat else FJ a k l m:=by
 unfold FJ
 rw [List.foldl_append];rfl
theorem XF {a:AA} (ha:AJ a=true) {s v k:Int} (hv:0≤v∧v≤2) (hst:s<a.Accept.length):Gw a s v k=FJ a k ((ZA a.Accept.length).filter (BS a s v).testBit) 0:=by
 unfold Gw
 rw [Gv (Fh ha hv hst) (by have:=AR ha;omega)]
theorem Ng {a:AA} (ha:AJ a=true) {s v:Int} (hv:0≤v∧v≤2) (hst:s<a.Accept.length) {y:DB} (hy:0≤y.letter∧y.letter<9):IQ a s v y=((ZA a.Accept.length).filter (Gw a s v y.letter).testBit).map fun (t:Nat)=>⟨y.step,y.to,t⟩:=by
 unfold IQ
 rw [Gv (I5 ha hv hst hy) (by have:=AR ha;omega)]
theorem ON (a:AA) (s v:Int) (y:DB):(IQ a s v y).length≤64:=by
 unfold IQ
 rw [ZQ]
 exact Ls _
theorem Nx (g:AC) (x:Int) (hg:g.Edges.length≤1048576):FnT ZG 119 [.agg (AG g),.one (.v (.int .i64 x))] (.a (.one (.sl 2 (((AV g x).map (·.step)).map BG)))):=by
 refine A8 Aap U (by kernel_rfl) Aaq U fun hlen w0=>?_
 try simp [AP,AG,BG,AE,AK] at hlen
 refine Af (Ac (Bg U U U (.tm U) (ts:=_) (by rfl)) U ?_);refine An ?_;refine Ch (i:=4) 20001 2 U U ?_;refine Aa (Af (A6 (C7 7 U U U Z9 Ds U) U ?_));refine Ah ?_;refine Aa (Ae (Af (An ?_)));refine Aa (AW.block (B9 (fun (k:Nat)=>(k≤g.Edges.length)∧True) (fun (k:Nat)=>⟨_,[(6,(true,.a (.one (.t (.v (.int .i64 (k:Nat))))))),(5,(true,.a (.one (.rf 7)))),(1,_),(2,_),(4,_)],[(7,.row 2 (((Fe (g.Edges.take k) x).map (·.step)).map BG))]⟩) (fun (k:Nat)=>g.Edges.length-k) (0) ⟨ZN _,Y⟩ Aw ?_))
 rintro k ⟨hk,he⟩
 refine Ae (Af (Ab ?_));refine A7 Ct ?_;refine Aj D0 ?_;refine Bi (.t) ZB ?_;refine AWl.lt ?_;refine Aa (Ai (.tm U) (fun h12=>?_) (fun h12=>?_))
 · try simp at h12
   obtain⟨e,he1⟩:∃ ξ,g.Edges[k]?=some ξ:=⟨_,ZS (by omega)⟩
   have hL:(Fe (g.Edges.take k) x).length≤2097152:=ZO (FH _ x) (by simp;omega)
   refine Am (Ae (AW.block (Ae (Af (A7 Ct ?_)))));refine Aj D0 ?_;refine Ab ?_;refine Ac (Ak U (.no U) U (.tm U) (.tm U) ZB Cq (fun _=>⟨by omega,Ao he1⟩)) U ?_;refine A7 FO ?_;refine Aj ty3 ?_;refine Ab ?_;refine AWl.eq ?_;refine Aa (Ai (.tm U) (fun h22=>?_) (fun h22=>?_))
   · try simp at h22
     refine As (Ay [1,2,4,5,6] [7]) ?_;refine Ad (Ab ?_);refine A7 Ct ?_;refine Aj D0 ?_;refine Ab ?_;refine Ac (Ak U (.no U) U (.tm U) (.tm U) ZB Cq (fun _=>⟨by omega,Ao he1⟩)) U ?_;refine A7 D2 ?_;refine Aj ty3 ?_;refine Ac (Bm (ps:=[(0,.tmp 29)]) U U U HE U U Ul (.cons (.tm U) U U LN .nil) U) U ?_;refine Bp (Ce (xs:=[.tmp 30]) 31 U U U (.cons (.tm U) U U .nil) Z9 HE U U U U) U ?_;refine Bt (B8 U U U (.tm U) U (.tm U) (by exact .rf U) (by rfl) Z9 HE U (by (simp [AH];omega)) (by (unfold maxLen;simp [AH];omega))) U ?_;refine Bv (Ay [1,2,4,5,6,32] [7,31]) ?_;refine Ah ?_;refine Aa (Af (A7 Ct ?_));refine Aj D0 ?_;refine Ab ?_;refine Ac (Ak U (.no U) U (.tm U) (.tm U) ZB Cq (fun _=>⟨by omega,Ao he1⟩)) U ?_;refine A7 F7 ?_;refine Aj ty3 ?_;refine Ab ?_;refine AWl.eq ?_
     refine Aa (Ai (.tm U) (fun h40=>?_) (fun h40=>?_))
     · try simp at h40
       refine As (Ay [1,2,4,5,6] [7,31]) ?_;refine Ad (Ab ?_);refine A7 Ct ?_;refine Aj D0 ?_;refine Ab ?_;refine Ac (Ak U (.no U) U (.tm U) (.tm U) ZB Cq (fun _=>⟨by omega,Ao he1⟩)) U ?_;refine A7 D2 ?_;refine Aj ty3 ?_;refine Ac (Bm (ps:=[(0,.tmp 47),(1,.const (.bool true))]) U U U HE U U Ul (.cons (.tm U) U U LN (.cons (.const U) U U Qi .nil)) U) U ?_;refine Bp (Ce (xs:=[.tmp 48]) 49 U U U (.cons (.tm U) U U .nil) Z9 HE U U U U) U ?_;refine Bt (B8 U U U (.tm U) U (.tm U) (by exact .rf U) (by rfl) Z9 HE U (by (simp [AH];omega)) (by (unfold maxLen;simp [AH];omega))) U ?_;refine Bv (Ay [1,2,4,5,6,50] [7,31,49]) ?_;refine Ah ?_;refine Aa (Ad (Ab ?_));refine A9 ?_;refine Ah ?_;refine Aa ?_
       repeat (with_reducible refine Av ?_)
       refine BF.next (k+1) ⟨by omega,Y⟩ (by omega) (Au rfl ⟨rfl,rfl,rfl,rfl,rfl,Y⟩ ⟨(by refine congrArg (fun r=>some (R.row 2 r)) ?_;rw [Jv he1];simp [Gk,h22,h40,AH,BG]),Y⟩)
     try simp at h40
     refine Am (As (Ay [1,2,4,5,6] [7,31]) ?_);refine Ad (Ab ?_);refine A9 ?_;refine Ah ?_;refine Aa ?_
     repeat (with_reducible refine Av ?_)
     refine BF.next (k+1) ⟨by omega,Y⟩ (by omega) (Au rfl ⟨rfl,rfl,rfl,rfl,rfl,Y⟩ ⟨(by refine congrArg (fun r=>some (R.row 2 r)) ?_;rw [Jv he1];simp [Gk,h22,h40,AH,BG]),Y⟩)
   try simp at h22
   refine Am (Ae (As (Ay [1,2,4,5,6] [7]) ?_));refine Ad (A7 Ct ?_);refine Aj D0 ?_;refine Ab ?_;refine Ac (Ak U (.no U) U (.tm U) (.tm U) ZB Cq (fun _=>⟨by omega,Ao he1⟩)) U ?_;refine A7 F7 ?_;refine Aj ty3 ?_;refine Ab ?_;refine AWl.eq ?_;refine Aa (Ai (.tm U) (fun h40=>?_) (fun h40=>?_))
   · try simp at h40
     refine As (Ay [1,2,4,5,6] [7]) ?_;refine Ad (Ab ?_);refine A7 Ct ?_;refine Aj D0 ?_;refine Ab ?_;refine Ac (Ak U (.no U) U (.tm U) (.tm U) ZB Cq (fun _=>⟨by omega,Ao he1⟩)) U ?_;refine A7 D2 ?_;refine Aj ty3 ?_;refine Ac (Bm (ps:=[(0,.tmp 47),(1,.const (.bool true))]) U U U HE U U Ul (.cons (.tm U) U U LN (.cons (.const U) U U Qi .nil)) U) U ?_;refine Bp (Ce (xs:=[.tmp 48]) 49 U U U (.cons (.tm U) U U .nil) Z9 HE U U U U) U ?_;refine Bt (B8 U U U (.tm U) U (.tm U) (by exact .rf U) (by rfl) Z9 HE U (by (simp [AH];omega)) (by (unfold maxLen;simp [AH];omega))) U ?_;refine Bv (Ay [1,2,4,5,6,50] [7,49]) ?_;refine Ah ?_;refine Aa (Ad (Ab ?_));refine A9 ?_;refine Ah ?_;refine Aa ?_
     repeat (with_reducible refine Av ?_)
     refine BF.next (k+1) ⟨by omega,Y⟩ (by omega) (Au rfl ⟨rfl,rfl,rfl,rfl,rfl,Y⟩ ⟨(by refine congrArg (fun r=>some (R.row 2 r)) ?_;rw [Jv he1];simp [Gk,h22,h40,AH,BG]),Y⟩)
   try simp at h40
   refine Am (As (Ay [1,2,4,5,6] [7]) ?_);refine Ad (Ab ?_);refine A9 ?_;refine Ah ?_;refine Aa ?_
   repeat (with_reducible refine Av ?_)
   refine BF.next (k+1) ⟨by omega,Y⟩ (by omega) (Au rfl ⟨rfl,rfl,rfl,rfl,rfl,Y⟩ ⟨(by refine congrArg (fun r=>some (R.row 2 r)) ?_;rw [Jv he1];simp [Gk,h22,h40,AH,BG]),Y⟩)
 try simp at h12
 refine Bf (Af (Ab ?_));refine Ah ?_;refine Aa (Aq (Res.one U (.tmp U .nil) U ?_))
 unfold AV;rw [ZY (by omega)];rfl
theorem Ke (e:DL) (b:Bool) (h:0≤e.Label∧e.Label≤2):FnT ZG 167 [.agg (AP e),.one (.v (.bool b))] (.a (.one (.v (.int .i64 (FB e b))))):=by
 refine A8 Aar U (by kernel_rfl) Aas U fun hlen w0=>?_
 try simp [AP,AG,BG,AE,AK] at hlen
 refine Af (Ac (Bg U U U (.tm U) (ts:=_) (by rfl)) U ?_);refine An ?_;refine Aa (Ae (Af (Ab ?_)));refine Aa (Ai (.tm U) (fun h5=>?_) (fun h5=>?_))
 · try simp at h5
   refine Af (A7 JL ?_);refine Aj ty3 ?_;refine Ac (Ge U (.no U) U (.const U) (.tm U) (fun _=>by omega)) U ?_;refine A9 ?_;refine Ah ?_;refine Aa (Aq (Bl U U ?_))
   simp [FB,h5]
 try simp at h5
 refine Am (Af (A7 JL ?_));refine Aj ty3 ?_;refine Ac (Ge U (.no U) U (.const U) (.tm U) (fun _=>by omega)) U ?_;refine Ah ?_;refine Aa (Aq (Bl U U ?_))
 simp [FB,h5]
theorem OV (e:DL) (b:Bool):FnT ZG 168 [.agg (AP e),.one (.v (.bool b))] (.a (.one (.v (.int .i64 (Yp e b))))):=by
 refine A8 Aat U (by kernel_rfl) Aau U fun hlen w0=>?_
 try simp [AP,AG,BG,AE,AK] at hlen
 refine Af (Ac (Bg U U U (.tm U) (ts:=_) (by rfl)) U ?_);refine An ?_;refine Aa (Ae (Af (Ab ?_)));refine Aa (Ai (.tm U) (fun h5=>?_) (fun h5=>?_))
 · try simp at h5
   refine Af (A7 FO ?_);refine Aj ty3 ?_;refine Ah ?_;refine Aa (Aq (Bl U U ?_))
   simp [Yp,h5]
 try simp at h5
 refine Am (Af (A7 F7 ?_));refine Aj ty3 ?_;refine Ah ?_;refine Aa (Aq (Bl U U ?_))
 simp [Yp,h5]
theorem PM (g:AC) (a:AA) (ha:AJ a=true) (hg:AI g=true) (nd s v:Int) (hnd:0≤nd) (hndv:g.Values[nd.toNat]?=some v) (hst:0≤s∧s<a.Accept.length):FnT ZG 169 [.agg (AG g),.agg (AE a),.one (.v (.int .i64 nd)),.one (.v (.int .i64 s))] (.a (.one (.sl 4 ((Fy g a nd s).map AK)))):=by
 refine A8 Aav U (by kernel_rfl) Aaw U fun hlen w0=>?_
 try simp [AP,AG,BG,AE,AK] at hlen
 have hA:=AR ha
 have hG:=CA hg
 have hv:=GA hg hndv
 have hcl:=Fh ha hv hst.2
 have hP:=DC ha
 have hal:(AV g nd).length≤24:=ZO (FH _ _) (by omega)
 refine Af (Ac (Bg U U U (.tm U) (ts:=_) (by rfl)) U ?_);refine Ac (Bg U U U (.tm U) (ts:=_) (by rfl)) U ?_;refine An ?_;refine Ch (i:=8) 20001 4 U U ?_;refine Aa (Af (A6 (C7 18 U U U ZZ US U) U ?_));refine Ah ?_;refine Aa (Ae (Bx 9 (DM [[],[],[],[2],[],[2,3,4],[2,3,4,5],[0,1,2,3,4,5,6],[0,1,2,3,4,5,6,7]]) (by kernel_rfl) (by kernel_rfl) (by kernel_rfl) ?_));refine A5 B6 ?_;refine Az ?_;refine Bz Ci ?_;refine A5 Cc ?_;refine Az ?_;refine AB.s (fun _ hs=>(Ak U (.no U) (Ag hs U) (hs.tm U) (hs.tm U) ZX ty3 (fun _=>⟨by omega,(by exact Ao hndv)⟩))) ?_;refine A5 ty3 ?_;refine AB.s (fun _ hs=>Bc (FnT.fr (GJ a ha s v ⟨by omega,hst.2⟩ hv)) U (.no U) (Ag hs U) (.cons (hs.tm U) (AD hs U) (.cons (hs.tm U) (AD hs U) (.cons (hs.tm U) (AD hs U) .nil)))) ?_;refine AB.s (fun _ hs=>Cl U (.no U) (Ag hs U) (hs.tm U)) ?_
 refine Bs U U ?_;refine Aa (Ae (As (Ay [0,1,2,3,4,5,8,9,10] [20001,18]) ?_));refine Ad (Aj B7 ?_);refine Ab ?_;refine Ac (Bc (FnT.fr (Nx g nd (by omega))) U (.no U) U (.cons (.tm U) U (.cons (.tm U) U .nil))) U ?_;refine Ah ?_;refine Aa (Ae (Af (An ?_)));refine Aa (AW.block (B9 (fun (i:Nat)=>(i≤(AV g nd).length)∧True) (fun (i:Nat)=>⟨_,[(12,(true,.a (.one (.t (.v (.int .i64 (i:Nat))))))),(9,(true,.a (.one (.rf 18)))),(4,_),(5,_),(8,_),(10,_),(11,_)],[(18,.row 4 ((((AV g nd).take i).flatMap (IQ a s v)).map AK))]⟩) (fun (i:Nat)=>(AV g nd).length-i) (0) ⟨ZN _,Y⟩ (Au U ⟨U,U,U,U,U,U,U,Y⟩ ⟨(by rfl),Y⟩) ?_))
 rintro i ⟨hk,he⟩
 refine Ae (Af (Ab ?_));refine Ab ?_;refine Bi (.t) Z9 ?_;refine AWl.lt ?_;refine Aa (Ai (.tm U) (fun h33=>?_) (fun h33=>?_))
 · try simp only [BE,AN,AM] at h33
   try simp only [ZC] at h33
   try simp at h33
   obtain⟨y,hy⟩:∃ ξ,(AV g nd)[i]?=some ξ:=⟨_,ZS (by omega)⟩
   have hyo:=JT hg hy
   obtain⟨k1,e,hed,hy1,hy2,hy3⟩:=Jw hg hy
   have hE:=Hc hg hed
   have hsy:((AV g nd).map (·.step))[i]?=some y.step:=by (rw [Aai,hy];rfl)
   have hix:CG g y.step.Edge=(k1:Int):=by rw [hy1];exact EO hg hed
   have hlet:FnT ZG 167 [.agg (AP e),.one (.v (.bool y.step.Inverse))] (.a (.one (.v (.int .i64 y.letter)))):=by (rw [hy2];exact Ke e _ (by omega))
   have hto:FnT ZG 168 [.agg (AP e),.one (.v (.bool y.step.Inverse))] (.a (.one (.v (.int .i64 y.to)))):=by (rw [hy3];exact OV e _)
   have hfl:(((AV g nd).take i).flatMap (IQ a s v)).length≤24*64:=ZO (Gb (b:=64) (ON a s v) _) (Aah _ (by simp;omega))
   refine Am (Ae (AW.block (Ae (Bx 12 (DM [[],[0],[],[],[],[3,4],[3,4,5],[3,4,5,6],[2,3,4,5,6,7],[0,1,2,3,4,5,6,7,8],[0,1,2,3,4,5,6,7,8,9],[]]) (by kernel_rfl) (by kernel_rfl) (by kernel_rfl) ?_))));refine Bz Ct ?_;refine A5 D0 ?_;refine A5 B7 ?_;refine Az ?_;refine Az ?_;refine AB.s (fun _ hs=>(by exact Ak U (.no U) (Ag hs U) (hs.tm U) (hs.tm U) Z9 Ds (fun _=>⟨by omega,(by exact Ao hsy)⟩))) ?_;refine Bz Io ?_;refine A5 ty3 ?_;refine AB.s (fun _ hs=>Bc (FnT.fr (Ht _ _)) U (.no U) (Ag hs U) (.cons (hs.tm U) (AD hs U) (.cons (hs.tm U) (AD hs U) .nil))) ?_;refine AB.s (fun _ hs=>(by exact Ak U (.no U) (Ag hs U) (hs.tm U) (hs.tm U) ZB Cq (fun _=>⟨by omega,Ao (l:=g.Edges) (x:=e) (by rw [hix];exact hed)⟩))) ?_;refine A5 Cq ?_;refine Dr U U U (Loc.of1 U fun σ' hs hf=>Bd 13 U U (Ag hs U) HF U U hf) ?_;refine Bs U U ?_
   refine A4 Cq ?_;refine Aa (Ae (As (Ay [4,5,8,9,10,11,12,13] [18,13]) ?_));refine Ad (An ?_);refine Aa (Ae (Af (An ?_)));refine Aa (AW.block (Cp (fun (q:Nat) (m:Nat)=>(q≤a.Accept.length∧m<2^a.Accept.length)∧m=FJ a y.letter ((ZA q).filter (BS a s v).testBit) 0) (fun (q:Nat) (m:Nat)=>⟨_,[(15,(true,.a (.one (.t (.v (.int .i64 (q:Nat))))))),(14,(true,.a (.one (.t (.v (.int .i64 (m:Nat))))))),(4,_),(5,_),(8,_),(9,_),(10,_),(11,_),(12,_),(13,_)],[(18,.row 4 ((((AV g nd).take i).flatMap (IQ a s v)).map AK)),(13,.box [.t (.v (.int .i64 e.ID)),.t (.v (.int .i64 e.From)),.t (.v (.int .i64 e.To)),.t (.v (.int .i64 e.Label))])]⟩) (fun (q:Nat) (m:Nat)=>a.Accept.length-q) (0) (0) ⟨⟨ZN _,Aak _⟩,U⟩ (Au U ⟨U,U,U,U,U,U,U,U,U,U,Y⟩ ⟨(by rfl),U,Y⟩) ?_))
   rintro q m ⟨hk1,he1⟩
   refine Ae (Af (Ab ?_));refine A7 Db ?_;refine Aj FU ?_;refine Bi (.t) Aal ?_;refine AWl.lt ?_;refine Aa (Ai (.tm U) (fun h51=>?_) (fun h51=>?_))
   · try simp only [BE,AN,AM] at h51
     try simp only [ZC] at h51
     try simp at h51
     obtain⟨row,hr1,hr2,hr3,hn1,hn2⟩:=Ex ha (s:=(q:Int)) (k:=y.letter) (by omega) (by omega) (by omega) (by omega)
     refine Am (Ae (AW.block (Ae (Bx 15 (DM [[],[0],[],[0,1,2],[0,1,2,3],[],[],[],[6,7],[6,7,8],[6,7,8,9],[5,6,7,8,9,10],[0,1,2,3,4,5,6,7,8,9,10,11],[0,1,2,3,4,5,6,7,8,9,10,11,12],[0,1,2,3,4,5,6,7,8,9,10,11,12,13]]) (by kernel_rfl) (by kernel_rfl) (by kernel_rfl) ?_))));refine Bz Da ?_;refine A5 Gh ?_;refine Az ?_;refine AB.s (fun _ hs=>(Ak U (.no U) (Ag hs U) (hs.tm U) (hs.tm U) Aax Cc (fun _=>⟨by omega,(by exact Ao hr1)⟩))) ?_;refine A5 Cc ?_;refine AB.s (fun _ hs=>(by exact Be U (.no U) (Ag hs U) (hs.tm U) (hs.res _ _ U) Cq U U)) ?_;refine Az ?_;refine Az ?_;refine AB.s (fun _ hs=>(by exact Ak U (.no U) (Ag hs U) (hs.tm U) (hs.tm U) Z9 Ds (fun _=>⟨by omega,(by exact Ao hsy)⟩))) ?_;refine Bz Im ?_;refine A5 ty4 ?_
     refine AB.s (fun _ hs=>Bc (FnT.fr (hlet)) U (.no U) (Ag hs U) (.cons (hs.tm U) (AD hs U) (.cons (hs.tm U) (AD hs U) .nil))) ?_;refine AB.s (fun _ hs=>(by exact Ak U (.no U) (Ag hs U) (hs.tm U) (hs.tm U) ZX ty3 (fun _=>⟨by omega,(by exact Ao hr3)⟩))) ?_;refine A5 ty3 ?_;refine AB.s (fun _ hs=>Cl U (.no U) (Ag hs U) (hs.tm U)) ?_;refine Bs U U ?_;refine Aa (Ae (As (Ay [4,5,8,9,10,11,12,13,14,15,16] [18,13]) ?_));refine Ad (Ab ?_);refine Ab ?_;refine Ac (J3 U (.no U) U (.tm U) (.tm U) (fun _=>by omega)) U ?_;refine Ac (Hz U (.no U) U (.tm U) (.const U) (fun _=>by first|exact Aam _|omega)) U ?_;refine Bw ?_;refine Ab ?_;refine Cm ?_;refine Ac (O0 U (by exact .yes1 U U U U) U (.tmp U (by exact id)) (.const U)) U ?_;refine Cn ?_;refine Aa (Ai (.tm U) (fun h76=>?_) (fun h76=>?_))
     · try simp only [BE,AN,AM] at h76
       try simp only [ZC] at h76
       try simp at h76
       have h2x:=K3 ha (x:=(CJ a q y.letter).toNat) (by omega)
       have h2p:=Aak (CJ a q y.letter).toNat
       refine As (Ay [4,5,8,9,10,11,12,13,14,15,16] [18,13]) ?_;refine Ad (Ab ?_);refine Ab ?_;refine Ac (F9 U (.no U) U (.const U) (.tm U) (fun _=>by omega)) U ?_;refine Ac (HN U (.no U) U (.tm U) (.tm U) (fun _=>by omega)) U ?_;refine Ah ?_;refine Aa (Ad (Ab ?_));refine A9 ?_;refine Ah ?_;refine Aa ?_
       repeat (with_reducible refine Av ?_)
       refine BV.next (q+1) (m|||2^(CJ a q y.letter).toNat) ⟨⟨by omega,Fp hk1.2 (by omega)⟩,by rw [AY,h76.1,if_pos rfl,JV,if_pos h76.2,he1]⟩ (by omega) (Au rfl ⟨rfl,rfl,rfl,rfl,rfl,rfl,rfl,rfl,rfl,rfl,Y⟩ ⟨(by rfl),(by rfl),Y⟩)
     try simp only [BE,AN,AM] at h76
     try simp only [ZC] at h76
     try simp at h76
     refine Am (As (Ay [4,5,8,9,10,11,12,13,14,15,16] [18,13]) ?_);refine Ad (Ab ?_);refine A9 ?_;refine Ah ?_;refine Aa ?_
     repeat (with_reducible refine Av ?_)
     refine BV.next (q+1) (m) ⟨⟨by omega,hk1.2⟩,by rw [AY];cases hb:(BS a s v).testBit q with|false=>(rw [if_neg (by simp),ZU];exact he1)|true=>(rw [if_pos rfl,JV,if_neg (by have:=h76 hb;omega)];exact he1)⟩ (by omega) (Au rfl ⟨rfl,rfl,rfl,rfl,rfl,rfl,rfl,rfl,rfl,rfl,Y⟩ ⟨(by rfl),(by rfl),Y⟩)
   try simp only [BE,AN,AM] at h51
   try simp only [ZC] at h51
   try simp at h51
   have hM:m=Gw a s v y.letter:=by (rw [he1,show q=a.Accept.length by omega,XF ha hv hst.2])
   subst hM;refine Bf (Af (An ?_));refine Aa (AW.block (B9 (fun (r:Nat)=>(r≤a.Accept.length)∧True) (fun (r:Nat)=>⟨_,[(17,(true,.a (.one (.t (.v (.int .i64 (r:Nat))))))),(9,(true,.a (.one (.rf 18)))),(4,_),(5,_),(8,_),(10,_),(11,_),(12,_),(13,_),(14,_)],[(18,.row 4 ((((AV g nd).take i).flatMap (IQ a s v)++((ZA r).filter (Gw a s v y.letter).testBit).map fun (t:Nat)=>(⟨y.step,y.to,t⟩:E3)).map AK)),(13,.box [.t (.v (.int .i64 e.ID)),.t (.v (.int .i64 e.From)),.t (.v (.int .i64 e.To)),.t (.v (.int .i64 e.Label))])]⟩) (fun (r:Nat)=>a.Accept.length-r) (0) ⟨ZN _,Y⟩ (Au U ⟨U,U,U,U,U,U,U,U,U,U,Y⟩ ⟨(by (refine congrArg (fun r=>some (R.row 4 r)) ?_;simp;done)),U,Y⟩) ?_))
   rintro r ⟨hk2,he2⟩
   refine Ae (Af (Ab ?_));refine A7 Db ?_;refine Aj FU ?_;refine Bi (.t) Aal ?_;refine AWl.lt ?_;refine Aa (Ai (.tm U) (fun h85=>?_) (fun h85=>?_))
   · try simp only [BE,AN,AM] at h85
     try simp only [ZC] at h85
     try simp at h85
     have hfr:((ZA r).filter (Gw a s v y.letter).testBit).length≤12:=ZO (List.length_filter_le _ _) (by simp;omega)
     refine Am (Ae (AW.block (Af (Ab ?_))));refine Ab ?_;refine Ac (J3 U (.no U) U (.tm U) (.tm U) (fun _=>by omega)) U ?_;refine Ac (Hz U (.no U) U (.tm U) (.const U) (fun _=>by first|exact Aam _|omega)) U ?_;refine Bw ?_;refine Aa (Ai (.tm U) (fun h92=>?_) (fun h92=>?_))
     · try simp only [BE,AN,AM] at h92
       try simp only [ZC] at h92
       try simp at h92
       refine As (Ay [4,5,8,9,10,11,12,13,14,17] [18,13]) ?_;refine Bx 15 (DM [[],[],[],[1,2],[1,2,3],[],[],[],[6,7],[6,7,8],[6,7,8,9],[5,6,7,8,9,10],[],[1,2,3,4,5,6,7,8,9,10,11,12],[1,2,3,4,5,6,7,8,9,10,11,12,13]]) (by kernel_rfl) (by kernel_rfl) (by kernel_rfl) ?_;refine Az ?_;refine Az ?_;refine Az ?_;refine AB.s (fun _ hs=>(by exact Ak U (.no U) (Ag hs U) (hs.tm U) (hs.tm U) Z9 Ds (fun _=>⟨by omega,(by exact Ao hsy)⟩))) ?_;refine A5 Ds ?_;refine AB.s (fun _ hs=>(by exact Be U (.no U) (Ag hs U) (hs.tm U) (hs.res _ _ U) Cq U U)) ?_;refine Az ?_;refine Az ?_;refine AB.s (fun _ hs=>(by exact Ak U (.no U) (Ag hs U) (hs.tm U) (hs.tm U) Z9 Ds (fun _=>⟨by omega,(by exact Ao hsy)⟩))) ?_;refine Bz Im ?_;refine A5 ty4 ?_
       refine AB.s (fun _ hs=>Bc (FnT.fr (hto)) U (.no U) (Ag hs U) (.cons (hs.tm U) (AD hs U) (.cons (hs.tm U) (AD hs U) .nil))) ?_;refine Az ?_;refine AB.s (fun _ hs=>Bm (ps:=[(0,.tmp 97),(1,.tmp 104),(2,.tmp 105)]) U U (Ag hs U) V8 U U YV (.cons (hs.tm U) U U Xq (.cons (hs.tm U) U U Xp (.cons (hs.tm U) U U Xo .nil))) U) ?_;refine AB.s (fun _ hs=>Cf (xs:=[.tmp 106]) (rows:=[AK ⟨y.step,y.to,r⟩]) U U (Ag hs U) (.cons (hs.tm U) U U .nil) ZZ V8 U U (U)) ?_;refine Bs U U ?_;refine Bt (B8 U U U (.tm U) U (.tm U) (by exact .t) (by rfl) ZZ V8 U (by (simp only [ZQ,ZI,ZJ,ZP,AH];omega)) (by (unfold maxLen;simp only [ZQ,ZI,ZJ,ZP,AH];omega))) U ?_
       refine Bv (Ay [4,5,8,9,10,11,12,13,14,17,108] [18,13]) ?_;refine Ah ?_;refine Aa (Ad (Ab ?_));refine A9 ?_;refine Ah ?_;refine Aa ?_
       repeat (with_reducible refine Av ?_)
       refine BF.next (r+1) ⟨by omega,Y⟩ (by omega) (Au rfl ⟨rfl,rfl,rfl,rfl,rfl,rfl,rfl,rfl,rfl,rfl,Y⟩ ⟨(by (refine congrArg (fun r=>some (R.row 4 r)) ?_;first|(rw [AY,h92];simp [AH];done)|(rw [Fg _ hy,Ng ha hv hst.2 (by omega),show r=a.Accept.length by omega];done))),(by rfl),Y⟩)
     try simp only [BE,AN,AM] at h92
     try simp only [ZC] at h92
     try simp at h92
     refine Am (As (Ay [4,5,8,9,10,11,12,13,14,17] [18,13]) ?_);refine Ad (Ab ?_);refine A9 ?_;refine Ah ?_;refine Aa ?_
     repeat (with_reducible refine Av ?_)
     refine BF.next (r+1) ⟨by omega,Y⟩ (by omega) (Au rfl ⟨rfl,rfl,rfl,rfl,rfl,rfl,rfl,rfl,rfl,rfl,Y⟩ ⟨(by (refine congrArg (fun r=>some (R.row 4 r)) ?_;first|(rw [AY,h92];simp [AH];done)|(rw [Fg _ hy,Ng ha hv hst.2 (by omega),show r=a.Accept.length by omega];done))),(by rfl),Y⟩)
   try simp only [BE,AN,AM] at h85
   try simp only [ZC] at h85
   try simp at h85
   refine Bf (Ad (Ab ?_));refine A9 ?_;refine Ah ?_;refine Aa ?_
   repeat (with_reducible refine Av ?_)
   refine BF.next (i+1) ⟨by omega,Y⟩ (by omega) (Au rfl ⟨rfl,rfl,rfl,rfl,rfl,rfl,rfl,Y⟩ ⟨(by (refine congrArg (fun r=>some (R.row 4 r)) ?_;first|(rw [AY,h92];simp [AH];done)|(rw [Fg _ hy,Ng ha hv hst.2 (by omega),show r=a.Accept.length by omega];done))),Y⟩)
 try simp only [BE,AN,AM] at h33
 try simp only [ZC] at h33
 try simp at h33
 refine Bf (Af (Ab ?_));refine Ah ?_;refine Aa (Aq (Res.one U (.tmp U .nil) U ?_))
 unfold Fy;rw [hndv,ZY (by omega)];rfl
end Go.Q
