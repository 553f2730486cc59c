import Derived.Test.YtbecibmlbiebeaaGreatAbs12xb
import Derived.Test.YtbecibmlbiebeaaGreatOpenBxb
import Derived.Test.YtbecibmlbiebeaaGreatAbsIxb
import Derived.Shelf.Sort.Plain
import Derived.Shelf.Slices.In.SortNone
import Derived.Shelf.Abstract
import Derived.Ground.NamesProg
set_option linter.unusedVariables false
set_option linter.unusedSimpArgs false
set_option maxRecDepth 100000
namespace Go.Q
open Go.RowKit
section
variable {P:Program}
theorem stL_res0 (L:Nat→Bool):∀ (outs:List Out) (i:Nat) (σ:St),(∀ y∈outs,y.2.2=[])→(stL L i outs σ).res=σ.res
 | [],_,_,_=>rfl
 | y::r,i,σ,h=>by
  rw [stL,stL_res0 L r (i+1) _ fun z hz=>h z (by simp [hz])]
  cases L i with
  | false=>rfl
  | true=>simp only [cond_true];rw [h y (by simp)];rfl
theorem stL_look {L:Nat→Bool} {outs:List Out} {σ:St} (hno:∀ y∈outs,look σ.slots y.1=none) (hun:∀ (i j:Nat) (y z:Out),outs[i]?=some y→outs[j]?=some z→y.1=z.1→i=j) (t:Nat) (x:Bool×S) :
 look (stL L 0 outs σ).slots t=some x↔(∃ j y,outs[j]?=some y∧L j=true∧y.1=t∧y.2.1=x)∨look σ.slots t=some x:=by
 by_cases hex:∃ j y,outs[j]?=some y∧L j=true∧y.1=t
 · obtain⟨j,y,hy,hj,rfl⟩:=hex
   have e:=stL_slot (L:=L) outs 0 σ j y hy (by rw [Nat.zero_add];exact hj) rfl rfl fun k z hk e=>hun k j z y hk hy e
   rw [e,hno y (List.mem_of_getElem? hy)]
   constructor
   · intro h;exact .inl ⟨j,y,hy,hj,rfl,Option.some.inj h⟩
   rintro (⟨k,z,hz,_,h1,h2⟩|h)
   · have:=hun k j z y hz hy h1
     subst this
     rw [hy] at hz;cases hz;rw [h2]
   cases h
 rw [stL_slot_base outs 0 σ fun j z hz hj e=>hex ⟨j,z,hz,by rw [Nat.zero_add] at hj;exact hj,e⟩]
 constructor
 · exact .inr
 rintro (⟨j,z,hz,hj,h1,_⟩|h)
 · exact absurd ⟨j,z,hz,hj,h1⟩ hex
 exact h
theorem stL_sup {L M:Nat→Bool} {outs:List Out} {σ σ':St} (hs:Sup σ σ') (hno:∀ y∈outs,look σ.slots y.1=none) (hno':∀ y∈outs,look σ'.slots y.1=none) (hun:∀ (i j:Nat) (y z:Out),outs[i]?=some y→outs[j]?=some z→y.1=z.1→i=j) (hnr:∀ y∈outs,y.2.2=[])
 (hLM:∀ j,L j=true→M j=true):Sup (stL L 0 outs σ) (stL M 0 outs σ'):=by
 refine⟨by rw [stL_n,stL_n];exact hs.n,fun t x h=>?_,fun t x h=>?_⟩
 · rw [stL_look hno hun] at h
   rw [stL_look hno' hun]
   rcases h with ⟨j,y,h1,h2,h3,h4⟩|h
   · exact .inl ⟨j,y,h1,hLM j h2,h3,h4⟩
   exact .inr (hs.slots _ _ h)
 rw [stL_res0 _ _ _ _ hnr] at h ⊢
 exact hs.res _ _ h
def disN:List Nat→Bool
 | []=>true
 | x::l=>l.all (fun y=>!(Nat.beq x y))&&disN l
theorem disN_inj:∀ {outs:List Out},disN (outs.map (·.1))=true→∀ (i j:Nat) (y z:Out),outs[i]?=some y→outs[j]?=some z→y.1=z.1→i=j
 | [],_,i,j,y,z,h,_,_=>by simp at h
 | u::r,h,i,j,y,z,h1,h2,e=>by
  simp only [List.map_cons,disN,Bool.and_eq_true,List.all_map,List.all_eq_true] at h
  have key:∀ v∈r,u.1≠v.1:=fun v hv e=>by have:=h.1 v hv;simp [e] at this
  match i,j,h1,h2 with
  | 0,0,_,_=>rfl
  | 0,j+1,h1,h2=>simp at h1 h2;subst h1;exact absurd e (key z (List.mem_of_getElem? h2))
  | i+1,0,h1,h2=>simp at h1 h2;subst h2;exact absurd e.symm (key y (List.mem_of_getElem? h1))
  | i+1,j+1,h1,h2=>rw [disN_inj h.2 i j y z (by simpa using h1) (by simpa using h2) e]
theorem Sup.sub0 {σ σ':St} (hn:σ'.n=σ.n) (hs:SubS0 σ σ'.slots) (hr:SubR0 σ σ'.res):Sup σ' σ:=⟨hn.symm,fun i x h=>look_SubS0 hs i x h,fun i x h=>look_SubR0 hr i x h⟩
theorem A5 {σ σ':St} (hn:σ'.n=σ.n:=by exact rfl) (hs:SubS0 σ σ'.slots:=by (repeat refine⟨rfl,?_⟩);exact trivial) (hr:SubR0 σ σ'.res:=by (repeat refine⟨rfl,?_⟩);exact trivial):Sup σ' σ:=Sup.sub0 hn hs hr
def StepsF (P:Program) (ops:Array Oper) (B:Nat→List Nat) (outs:List Out) (X:Nat→Bool) (σ σ2:St):Nat→List Oper→List Out→Prop
 | i,o::l,y::r=>Loc P ops o (stL (memN (B i)) 0 outs (bif X i then σ2 else σ)) y∧StepsF P ops B outs X σ σ2 (i+1) l r
 | _,_,_=>True
theorem StepsF.at {ops:Array Oper} {B:Nat→List Nat} {outs:List Out} {X:Nat→Bool} {σ σ2:St}:∀ (l:List Oper) (r:List Out) (k:Nat),StepsF P ops B outs X σ σ2 k l r→∀ i o y,l[i]?=some o→r[i]?=some y→Loc P ops o (stL (memN (B (k+i))) 0 outs (bif X (k+i) then σ2 else σ)) y
 | [],r,k,h,i,o,y,hl,hr=>by simp at hl
 | o'::l,[],k,h,i,o,y,hl,hr=>by simp at hr
 | o'::l,y'::r,k,h,0,o,y,hl,hr=>by simp at hl hr;subst hl;subst hr;exact h.1
 | o'::l,y'::r,k,h,i+1,o,y,hl,hr=>by
  have:=StepsF.at l r (k+1) h.2 i o y (by simpa using hl) (by simpa using hr)
  rwa [show k+1+i=k+(i+1) by omega] at this
end
end Go.Q
namespace Go.Q
open Go.RowKit
section
variable {P:Program} {ops:Array Oper} {o:Oper} {σ:St} {q:Bool}
theorem R_append0 {t e:TypeId} {x y:Operand} {A2:A} {id k:Nat} {rows rows2:List (List T)} {z:Value} {bytes:Nat} (ho:o.op=.call { callee:=.builtin .append,args:=#[x,y],argTypes:=#[t,t] }) (hg:o.guard=none) (hd:o.dst.all (fun d=>Nat.blt d σ.n)=true)
 (hx:∀ I w0 a w,RelI I w0 σ a w→VE I w (.rf id) (a.eval x)) (hs:look σ.res id=some (.row k rows)) (hy:Get σ true y A2) (hq:Sq σ A2 k rows2) (hv:rows2.flatten.all T.isV=true) (ht:P.underlying t=some (.slice e)) (hi:(P.info? e).map (fun i=>(i.zero,i.size,i.bytes))=some (some z,k,bytes)) (hzs:z.cells.size=k)
 (hb:(rows.length+rows2.length)*bytes≤140737488355328) (hm:rows.length+rows2.length≤maxLen) :
 Op1 P ops o σ ((σ.chg id (.row k (rows++rows2))).put o.dst (true,.a (.one (.rf id)))):=
 .eff hg fun w0 a w ⟨I,hr⟩=>by
  have hv1:VE I w (.rf id) (a.eval x):=hx I w0 a w hr
  have hC:C true w (.sl k rows) (I.hd id) (I.F id):=hr.res id _ hs
  obtain⟨F2,hC2⟩:=hq.val hr (hy.va hr rfl)
  obtain⟨v',w',hrun,h⟩:=run_append_T (ty:=o.type) w ht hi hzs hC hC2 hb hm
  refine⟨v',w',by simp [execOp,ho,resolve,invoke,builtin,hv1.1,hrun],?_⟩
  rcases h with ⟨rfl,rfl,rfl⟩|⟨g,cap,cur,e',G,rfl,h1,h2,h3,h4,h5,h6,h7,xs,news,h8,h9,h10,h11,h12⟩
  · have:=hr.chg hs (Chg.refl _ _) (G:=I.F id) (u:=I.hd id) (r:=.row k (rows++[])) ⟨(hr.own id _ hs).1,fun b hb=>⟨((hr.own id _ hs).2 b hb).1,(hr.lt id b hb).1,((hr.own id _ hs).2 b hb).2,.inl hb⟩⟩ (by show C true _ _ _ _;simpa [Ip.set] using hC)
    exact⟨_,this.put hd ⟨by simp [Ip.set],hv1.1▸hv1.2⟩⟩
  obtain⟨h13,_⟩:=Cs_flat (o':=true) (w':=w) hv h9
  have:=hr.append hs h1 h2 h3 h4 h5 h6 h7 h8 h13 h10 h11 h12 (by simp) List.nodup_nil
  exact⟨_,this.put hd ⟨by simp [Ip.set],_,_,_,rfl⟩⟩
theorem R_append_hd {t e:TypeId} {x y:Operand} {A2:A} {id hid k:Nat} {c0:Value} {rows rows2:List (List T)} {z:Value} {bytes:Nat} (ho:o.op=.call { callee:=.builtin .append,args:=#[x,y],argTypes:=#[t,t] }) (hg:o.guard=none) (hd:o.dst.all (fun d=>Nat.blt d σ.n)=true)
 (hx:Get σ true x (.one (.t (.v c0)))) (hh:look σ.res hid=some (.hdr (some id) c0)) (hs:look σ.res id=some (.row k rows)) (hy:Get σ true y A2) (hq:Sq σ A2 k rows2) (hv:rows2.flatten.all T.isV=true) (ht:P.underlying t=some (.slice e)) (hi:(P.info? e).map (fun i=>(i.zero,i.size,i.bytes))=some (some z,k,bytes)) (hzs:z.cells.size=k)
 (hb:(rows.length+rows2.length)*bytes≤140737488355328) (hm:rows.length+rows2.length≤maxLen) :
 Op1 P ops o σ ((σ.chg id (.row k (rows++rows2))).put o.dst (true,.a (.one (.rf id)))):=
 R_append0 ho hg hd (fun I w0 a w hr=>by
  obtain⟨G,k1,_⟩:VE I w (.t (.v c0)) (a.eval x):=hx.va hr rfl
  simp only [C] at k1
  have k2:I.hd id=c0:=(hr.res _ _ hh).2 id rfl
  have hC:C true w (.sl k rows) (I.hd id) (I.F id):=hr.res id _ hs
  simp only [C] at hC
  obtain⟨a1,l1,c1,e1,_⟩:=hC
  exact⟨by rw [k1.1,k2],a1,l1,c1,by rw [k1.1,←k2,e1]⟩) hs hy hq hv ht hi hzs hb hm
structure DrawG (P:Program) (N:Nat) (B:Nat→List Nat) (l:List Oper) (n:Nat) (sl:List (Nat×(Bool×S))) (rs:List (Nat×R)) (Fin:List Out→Prop) (acc:List Out) (k:Nat) (rest:List Oper):Prop where
 pf:acc.length=k→rest=l.drop k→∃ more:List Out,(acc.reverse++more).length=N∧
  Steps P l.toArray B (acc.reverse++more) ⟨n,sl,rs⟩ k rest more∧Fin (acc.reverse++more)
variable {N:Nat} {B:Nat→List Nat} {l:List Oper} {n:Nat} {sl:List (Nat×(Bool×S))} {rs:List (Nat×R)} {Fin:List Out→Prop} {acc:List Out} {k:Nat} {rest:List Oper}
theorem DrawG.step {y:Out} (hN:Nat.blt k N=true) (hlt:((B k).all fun j=>Nat.blt j k)=true) (hl:Loc P l.toArray o (stR (memN (B k)) k acc ⟨n,sl,rs⟩) y) (h:DrawG P N B l n sl rs Fin (y::acc) (k+1) rest):DrawG P N B l n sl rs Fin acc k (o::rest):=⟨fun ha hr=>by
 have hd:rest=l.drop (k+1):=by
  have:=congrArg (List.drop 1) hr
  simpa using this
 obtain⟨more,h1,h3,h4⟩:=h.pf (by simp [ha]) hd
 have e:(y::acc).reverse++more=acc.reverse++(y::more):=by simp
 rw [e] at h1 h3 h4
 refine⟨y::more,h1,⟨?_,h3⟩,h4⟩
 have:stL (memN (B k)) 0 (acc.reverse++(y::more)) ⟨n,sl,rs⟩=stR (memN (B k)) k acc ⟨n,sl,rs⟩:=by
  rw [stL_append,←ha,stR_eq,stL_false]
  intro j hj
  rw [List.length_reverse,Nat.zero_add,ha] at hj
  cases hm:memN (B acc.length) j with
  | false=>rfl
  | true=>
   have h1:=List.all_eq_true.1 hlt j (by rw [←ha];exact memN_iff.1 hm)
   have h2:j<k:=Nat.le_of_ble_eq_true h1
   omega
 rw [this]
 exact hl⟩
theorem DrawG.s {d:Nat} {x:Bool×S} (hl:∀ σ',Sup (stR (memN (B k)) k acc ⟨n,sl,rs⟩) σ'→Op1 P l.toArray o σ' (σ'.put o.dst x)) (h:DrawG P N B l n sl rs Fin ((d,x,[])::acc) (k+1) rest) (hN:Nat.blt k N=true:=by exact rfl) (hlt:((B k).all fun j=>Nat.blt j k)=true:=by exact rfl) (hd:o.dst=some d:=by exact rfl):DrawG P N B l n sl rs Fin acc k (o::rest):=DrawG.step hN hlt (Loc.of hd hl) h
theorem Cp {d i:Nat} {x:A} (h:DrawG P N B l n sl rs Fin ((d,(true,.a x),[])::acc) (k+1) rest) (ho:o.op=.move (.tmp i):=by exact rfl) (hg:o.guard=none:=by exact rfl) (hN:Nat.blt k N=true:=by exact rfl) (hlt:((B k).all fun j=>Nat.blt j k)=true:=by exact rfl) (hd:o.dst=some d:=by exact rfl) (hdn:o.dst.all (fun d=>Nat.blt d (stR (memN (B k)) k acc ⟨n,sl,rs⟩).n)=true:=by exact rfl) (hx:look (stR (memN (B k)) k acc ⟨n,sl,rs⟩).slots i=some (true,.a x):=by exact rfl):DrawG P N B l n sl rs Fin acc k (o::rest):=DrawG.step hN hlt (Loc.of hd fun σ' hs=>Bh ho (.no hg) (Ah hs hdn) (.tm (hs.slots _ _ hx))) h
theorem DrawG.fin (hk:Nat.beq k N=true) (h:Fin acc.reverse):DrawG P N B l n sl rs Fin acc k rest:=⟨fun ha hr=>by
 have hk':=Nat.eq_of_beq_eq_true hk
 refine⟨[],by simp [ha,hk'],by unfold Steps;split<;>first|trivial|(rename_i h;cases h),by rw [List.append_nil];exact h⟩⟩
def FinA (P:Program) (w0:Base) (Q:Exit→St→Prop) (N:Nat) (B:Nat→List Nat) (l:List Oper) (σ:St) (o:Oper) (nid d:Nat) (r:R) (x:Bool×S) (outs:List Out):Prop:=
 (outs.all (fun y=>y.2.2.isEmpty)=true∧outs.map (fun y=>y.2.1.2.pur nid)=outs.map (fun y=>y.2.1.2)∧outs.all (fun y=>(look σ.slots y.1).isNone&&!(Nat.beq y.1 d))=true∧disN (outs.map (·.1))=true)∧
 (∀ σ',Sup (stL (memN (B N)) 0 outs σ) σ'→Op1 P l.toArray o σ' ((σ'.chg nid r).put o.dst x))∧
 AWl P w0 l.toArray Q (l.drop (N+1)) (stL (fun _=>true) 0 outs ((σ.chg nid r).put (some d) x))
theorem chg_slot {σ:St} {id:Nat} {r:R} (t:Nat):look (σ.chg id r).slots t=(look σ.slots t).map fun x=>(x.1,x.2.pur id):=look_map (fun x:Bool×S=>(x.1,x.2.pur id)) _ _
theorem AW.drawA {w0:Base} {Q:Exit→St→Prop} {id:Nat} (N:Nat) (B:Nat→List Nat) (nid d:Nat) (r:R) (x:Bool×S) (σ2:St) (hm:P.follows .mixedOrders=true) (hB:planC l.toArray (N+1)=true) (hO:ordB l B (N+1)=true)
 (h2:Sup σ2 σ) (h2':Sup σ2 ((σ.chg nid r).put (some d) x)) (ho:l[N]?=some o) (hod:o.dst=some d) (h:DrawG P N B l σ2.n σ2.slots σ2.res (FinA P w0 Q N B l σ o nid d r x) [] 0 l):AW P w0 (.region id l.toArray true) Q σ:=by
 obtain⟨outs,hl,hsteps,⟨hnr0,hpv0,hno0,hun0⟩,hst,hfin⟩:=h.pf rfl rfl
 simp only [List.reverse_nil,List.nil_append] at hl hsteps hnr0 hpv0 hno0 hun0 hst hfin
 have hnr:∀ y∈outs,y.2.2=[]:=fun y hy=>List.isEmpty_iff.1 (List.all_eq_true.1 hnr0 y hy)
 have hpv:∀ y∈outs,y.2.1.2.pur nid=y.2.1.2:=fun y hy=>List.map_inj_left.1 hpv0 y hy
 have hun:=fun i j y z=>disN_inj hun0 i j y z
 have hno1:∀ y∈outs,look σ.slots y.1=none∧y.1≠d:=fun y hy=>by
  have:=List.all_eq_true.1 hno0 y hy
  simp only [Bool.and_eq_true,Option.isNone_iff_eq_none,Bool.not_eq_true'] at this
  exact⟨this.1,beq_ne this.2⟩
 have hno:∀ y∈outs,look σ.slots y.1=none:=fun y hy=>(hno1 y hy).1
 generalize hσe:(σ.chg nid r).put (some d) x=σe at h2' hfin
 have hslot:∀ t,look σe.slots t=if d=t then some x else (look σ.slots t).map fun x=>(x.1,x.2.pur nid):=fun t=>by
  rw [←hσe]
  show look ((d,x)::(σ.chg nid r).slots) t=_
  rw [look_cons,chg_slot]
 have hres:σe.res=(σ.chg nid r).res:=by rw [←hσe];rfl
 have hne:σe.n=σ.n:=by rw [←hσe];rfl
 have hnoe:∀ y∈outs,look σe.slots y.1=none:=fun y hy=>by rw [hslot,if_neg (fun e=>(hno1 y hy).2 e.symm),hno y hy];rfl
 have hno2:∀ y∈outs,look σ2.slots y.1=none:=fun y hy=>by
  cases h:look σ2.slots y.1 with
  | none=>rfl
  | some x=>have:=h2.slots _ _ h;rw [hno y hy] at this;cases this
 intro a w hr;refine wp_region_any hm ?_
 have hlN:N+1≤l.length:=by
  simp only [planC,Bool.and_eq_true,decide_eq_true_eq] at hB
  simpa using hB.1.1.1
 have inB:∀ (listed:Array Bool),HeadInv .any l.toArray (N+1) listed→∀ i o,i<N+1→l[i]?=some o→(∀ j∈deps o,listed.getD j false=true)→∀ j∈B i,listed.getD j false=true:=by
  intro listed inv i o hi ho hd
  have hOi:=List.all_eq_true.1 hO i (List.mem_range.2 hi)
  rw [ho] at hOi
  have hOi':=List.all_eq_true.1 hOi
  have key:∀ d j,N+1-j≤d→j∈B i→listed.getD j false=true:=by
   intro d
   induction d with
   | zero=>
    intro j hj hm
    have:=hOi' j hm
    simp only [Bool.or_eq_true,List.contains_iff_mem,List.any_eq_true,Bool.and_eq_true,decide_eq_true_eq] at this
    rcases this with h|⟨m,hmB,⟨h1,h2⟩,h3⟩
    · exact hd j h
    omega
   | succ d ih=>
    intro j hj hm
    have:=hOi' j hm
    simp only [Bool.or_eq_true,List.contains_iff_mem,List.any_eq_true,Bool.and_eq_true,decide_eq_true_eq] at this
    rcases this with h|⟨m,hmB,⟨h1,h2⟩,h3⟩
    · exact hd j h
    have hml:=ih m (by omega) hmB
    cases hom:l[m]? with
    | none=>rw [hom] at h3;cases h3
    | some om=>
     rw [hom] at h3
     simp only [List.contains_iff_mem] at h3
     obtain⟨e,he,hb,rfl⟩:=mem_deps.1 h3
     exact inv.closed m om (by simpa using hom) hml e he hb
  exact fun j hm=>key (N+1-j) j (Nat.le_refl _) hm
 have H:=wpAny_inv (P:=P) (N:=N+1) (Q:=lift w0 Q) (J:=fun listed a w=>Rel w0 (stL (fun j=>listed.getD j false) 0 outs (bif listed.getD N false then σe else σ)) a w) hB (fun i o1 hi ho1 listed a w inv hd hu hJ=>?_) (fun listed a w hall hJ=>?_)
  (unl (N+1) (Array.replicate l.toArray.size false)) (Array.replicate l.toArray.size false) a { w with drawn:=w.drawn+1 } rfl
  ⟨by simp,fun j oj _ hl=>(by rw [getD_replicate_false] at hl;cases hl),fun t _ ht=>getD_in (by simpa using ht) (getD_replicate_false _ _)⟩ ?_
 · have hu:unl (N+1) (Array.replicate l.toArray.size false)=N+1:=by
    unfold unl
    rw [List.countP_eq_length.2 (fun j _=>by rw [getD_replicate_false];rfl),List.length_range]
   rw [hu,show N+1+(l.toArray.size-(N+1))=l.toArray.size by simp;omega] at H
   exact H
 · -- one step
   have ho':l[i]?=some o1:=by simpa using ho1
   have hBL:=inB listed inv i o1 hi ho' hd
   have hget:∀ j,(listed.setIfInBounds i true).getD j false=if j=i then true else listed.getD j false:=by
    intro j
    by_cases e:j=i
    · subst e
      have:j<listed.size:=by rw [inv.size];simp;omega
      simp [this]
    rw [if_neg e];exact getD_set_ne false (fun h=>e h.symm)
   intro K Q' hK
   by_cases hiN:i=N
   · subst hiN
     have eo:o1=o:=by rw [ho] at ho';exact (Option.some.inj ho').symm
     subst eo
     have hst':=hst (stL (fun j=>listed.getD j false) 0 outs σ) (stL_sup ⟨rfl,fun _ _ h=>h,fun _ _ h=>h⟩ hno hno hun hnr fun j hj=>hBL j (memN_iff.1 hj))
     rw [hu] at hJ
     refine hst' w0 a w hJ K Q' fun a' w' hr'=>hK a' w' ?_
     rw [hget,if_pos rfl]
     rw [hod] at hr'
     refine Rel.of_look hr' (by rw [stL_n];show σe.n=(stL _ 0 outs σ).n;rw [stL_n];exact hne) (fun t y' hx=>?_) (fun t y' hx=>?_)
     · simp only [cond_true] at hx
       rw [stL_look hnoe hun] at hx
       show look ((d,x)::(St.chg (stL _ 0 outs σ) nid r).slots) t=some y'
       rw [look_cons,chg_slot]
       rcases hx with ⟨j,y,h1,h2,h3,h4⟩|hx
       · have hj:j≠i:=by have:=(List.getElem?_eq_some_iff.1 h1).1;omega
         rw [hget,if_neg hj] at h2
         have hym:=List.mem_of_getElem? h1
         rw [if_neg (fun e=>(hno1 y hym).2 (h3.trans e.symm)),(stL_look hno hun t y').2 (.inl ⟨j,y,h1,h2,h3,h4⟩)]
         have:=hpv y hym
         rw [h4] at this
         simp only [Option.map_some,this]
       rw [hslot] at hx
       by_cases e:d=t
       · rw [if_pos e] at hx ⊢;exact hx
       rw [if_neg e] at hx ⊢
       cases hl:look σ.slots t with
       | none=>rw [hl] at hx;cases hx
       | some x0=>
        rw [hl] at hx
        rw [(stL_look hno hun t x0).2 (.inr hl)]
        exact hx
     simp only [cond_true] at hx
     rw [stL_res0 _ _ _ _ hnr,hres] at hx
     show look (St.chg (stL _ 0 outs σ) nid r).res t=some y'
     have:(St.chg (stL (fun j=>listed.getD j false) 0 outs σ) nid r).res=(σ.chg nid r).res:=by
      simp only [St.chg,St.pur];rw [stL_res0 _ _ _ _ hnr]
     rw [this];exact hx
   have hiN':i<N:=by omega
   obtain⟨y,hy⟩:∃ y,outs[i]?=some y:=⟨outs[i]'(by omega),List.getElem?_eq_getElem _⟩
   have hym:=List.mem_of_getElem? hy
   have hloc:Loc P l.toArray o1 (stL (memN (B i)) 0 outs σ2) y:=by
    have:=hsteps.at l outs 0 i o1 y ho' hy
    rwa [Nat.zero_add] at this
   have hcur:∀ y∈outs,look (bif listed.getD N false then σe else σ).slots y.1=none:=by
    cases listed.getD N false
    · exact hno
    exact hnoe
   have hsb:Sup σ2 (bif listed.getD N false then σe else σ):=by
    cases listed.getD N false
    · exact h2
    exact h2'
   have hsup:=stL_sup (L:=memN (B i)) (M:=fun j=>listed.getD j false) hsb hno2 hcur hun hnr fun j hj=>hBL j (memN_iff.1 hj)
   refine hloc _ hsup (fun z hz=>by rw [hnr y hym] at hz;cases hz) w0 a w hJ K Q' fun a' w' hr'=>hK a' w' ?_
   rw [hget,if_neg (fun h=>hiN h.symm)]
   refine Rel.of_look hr' (by rw [stL_n,stL_n]) (fun t x hx=>?_) (fun t x hx=>?_)
   · rw [stL_look hcur hun] at hx
     show look ((y.1,y.2.1)::_) t=some x
     rw [look_cons]
     rcases hx with ⟨j,z,h1,h2,h3,h4⟩|hx
     · by_cases e:j=i
       · subst e
         rw [hy] at h1;cases h1
         rw [if_pos h3,h4]
       rw [hget,if_neg e] at h2
       rw [if_neg (fun e'=>e (hun j i z y h1 hy (h3.trans e'.symm)))]
       exact (stL_look hcur hun t x).2 (.inl ⟨j,z,h1,h2,h3,h4⟩)
     rw [if_neg (fun e'=>by rw [←e',hcur y hym] at hx;cases hx)]
     exact (stL_look hcur hun t x).2 (.inr hx)
   rw [stL_res0 _ _ _ _ hnr] at hx
   rw [hnr y hym]
   show look (stL _ 0 outs _).res t=some x
   rw [stL_res0 _ _ _ _ hnr]
   exact hx
 · -- behind them
   have hall':listed.getD N false=true:=hall N (by omega)
   rw [hall'] at hJ
   have H:=hfin a w (Rel.of_look hJ (by rw [stL_n,stL_n];rfl) (fun t x hx=>?_) (fun t x hx=>?_))
   · simpa using H
   · rw [stL_look hnoe hun] at hx
     simp only [cond_true]
     rw [stL_look hnoe hun]
     rcases hx with ⟨j,y,h1,_,h3⟩|hx
     · exact .inl ⟨j,y,h1,hall j (by have:=(List.getElem?_eq_some_iff.1 h1).1;omega),h3⟩
     exact .inr hx
   simp only [cond_true]
   rw [stL_res0 _ _ _ _ hnr] at hx ⊢
   exact hx
 -- the start
 have e:stL (fun j=>(Array.replicate l.toArray.size false).getD j false) 0 outs σ=σ:=by
  have key:∀ (os:List Out) (i:Nat) (σ:St),stL (fun j=>(Array.replicate l.toArray.size false).getD j false) i os σ=σ:=by
   intro os
   induction os with
   | nil=>intro i σ;rfl
   | cons y os ih=>
    intro i σ
    rw [stL,getD_replicate_false]
    exact ih (i+1) σ
  exact key outs 0 _
 show Rel w0 (stL (fun j=>(Array.replicate l.toArray.size false).getD j false) 0 outs (bif (Array.replicate l.toArray.size false).getD N false then σe else σ)) a _
 rw [getD_replicate_false,cond_false,e]
 obtain⟨I,hI⟩:=hr
 exact⟨I,hI.later (Ext.refl w).drawn⟩
theorem stL_all:∀ (outs:List Out) (i:Nat) (σ:St),stL (fun _=>true) i outs σ=⟨σ.n,finSl outs.reverse σ.slots,finRs outs.reverse σ.res⟩:=fun outs i σ=>by
 have h:=fin_eq (n:=σ.n) (sl:=σ.slots) (rs:=σ.res) outs.reverse outs.reverse.length
 rw [stR_eq,List.reverse_reverse] at h
 have key:∀ (os:List Out) (i j:Nat) (σ:St),stL (fun _=>true) i os σ=stL (fun _=>true) j os σ:=by
  intro os
  induction os with
  | nil=>intro i j σ;rfl
  | cons y os ih=>intro i j σ;rw [stL,stL];exact ih _ _ _
 rw [key outs i 0 σ]
 exact h
theorem FinA.mk {w0:Base} {Q:Exit→St→Prop} {nid d:Nat} {r:R} {x:Bool×S} (h1:(acc.reverse.all (fun y=>y.2.2.isEmpty)&&(acc.reverse.all (fun y=>(look σ.slots y.1).isNone&&!(Nat.beq y.1 d))&&disN (acc.reverse.map (·.1))))=true) (h2:acc.reverse.map (fun y=>y.2.1.2.pur nid)=acc.reverse.map (fun y=>y.2.1.2))
 (h3:∀ σ',Sup (stR (memN (B N)) N acc σ) σ'→Op1 P l.toArray o σ' ((σ'.chg nid r).put o.dst x)) (hk:Nat.beq acc.length N=true)
 (h4:AWl P w0 l.toArray Q (l.drop (N+1)) ⟨σ.n,finSl acc ((d,x)::(σ.chg nid r).slots),finRs acc (σ.chg nid r).res⟩):FinA P w0 Q N B l σ o nid d r x acc.reverse:=by
 simp only [Bool.and_eq_true] at h1
 have hk':=Nat.eq_of_beq_eq_true hk
 refine⟨⟨h1.1,h2,by simpa only [Bool.and_eq_true] using h1.2.1,h1.2.2⟩,fun σ' hs=>h3 σ' ?_,?_⟩
 · rw [←hk',stR_eq,hk'];exact hs
 rw [stL_all,List.reverse_reverse];exact h4
end
end Go.Q
namespace Go.Q
open Go.RowKit
section
variable {P:Program} {ops:Array Oper} {o:Oper} {σ:St} {q:Bool}
structure Eff where
 d:Nat
 x:Bool×S
 o:Option (Nat×R)
 ch:Bool
 ad:List (Nat×R)
def Eff.run (y:Eff) (σ:St):St:=match y.o with
 | some (id,r)=>bif y.ch then ⟨σ.n,(y.d,y.x)::(σ.pur id).slots,(id,r)::(σ.pur id).res⟩ else ⟨σ.n,(y.d,y.x)::σ.slots,(id,r)::σ.res⟩
 | none=>⟨σ.n,(y.d,y.x)::σ.slots,addsR y.ad σ.res⟩
def Eff.has (y:Eff) (id:Nat):Bool:=y.x.2.has id||match y.o with|some (j,r)=>Nat.beq j id||r.has id|none=>y.ad.any fun z=>Nat.beq z.1 id||z.2.has id
def LocK (P:Program) (ops:Array Oper) (o:Oper) (σ:St) (y:Eff):Prop:=∀ σ',Sup σ σ'→(∀ id r,y.o=some (id,r)→y.ch=false→σ'.has id=false)→(y.o=none→∀ z∈y.ad,σ'.has z.1=false)→Op1 P ops o σ' (y.run σ')
theorem Op1.look {σ' σ2:St} (h:Op1 P ops o σ σ') (hn:σ2.n=σ'.n) (hs:∀ i x,look σ2.slots i=some x→look σ'.slots i=some x) (hr:∀ i x,look σ2.res i=some x→look σ'.res i=some x):Op1 P ops o σ σ2:=fun w0 a w hr0 K Q hK=>
 h w0 a w hr0 K Q fun a' w' h'=>hK a' w' (Rel.of_look h' hn hs hr)
theorem LocK.of {d:Nat} {x:Bool×S} (hd:o.dst=some d) (h:∀ σ',Sup σ σ'→Op1 P ops o σ' (σ'.put o.dst x)):LocK P ops o σ ⟨d,x,none,false,[]⟩:=fun σ' hs _ _=>by
 have:=h σ' hs
 rw [hd] at this
 exact this
theorem LocK.of1 {d id:Nat} {r:R} {x:Bool×S} (hd:o.dst=some d) (h:∀ σ',Sup σ σ'→σ'.has id=false→Op1 P ops o σ' ((σ'.add id r).put o.dst x)):LocK P ops o σ ⟨d,x,some (id,r),false,[]⟩:=fun σ' hs hf _=>by
 have:=h σ' hs (hf id r rfl rfl)
 rw [hd] at this
 exact this
theorem LocK.ofs {d:Nat} {rl:List (Nat×R)} {x:Bool×S} (hd:o.dst=some d) (h:∀ σ',Sup σ σ'→(∀ z∈rl,σ'.has z.1=false)→Op1 P ops o σ' ((σ'.adds rl).put o.dst x)):LocK P ops o σ ⟨d,x,none,false,rl⟩:=fun σ' hs _ hf=>by
 have:=h σ' hs (hf rfl)
 rw [hd,adds_eq] at this
 exact this
inductive Vd (B:Nat→List Nat) (N:Nat):List Nat→Prop where
 | nil:Vd B N []
 | cons {i:Nat} {π:List Nat} (h:Vd B N π) (hB:∀ j∈B i,j∈π) (hi:i∉π) (hN:i<N):Vd B N (i::π)
theorem Vd.closed {B:Nat→List Nat} {N:Nat} {π:List Nat} (h:Vd B N π):∀ b∈π,∀ j∈B b,j∈π:=by
 induction h with
 | nil=>intro b hb;cases hb
 | cons h hB hi hN ih=>
  intro b hb j hj
  rcases List.mem_cons.1 hb with rfl|hb
  · exact List.mem_cons_of_mem _ (hB j hj)
  exact List.mem_cons_of_mem _ (ih b hb j hj)
def chs:Nat→List Eff→List (Nat×Nat)
 | _,[]=>[]
 | k,y::r=>match y.o with
  | some (id,_)=>bif y.ch then (k,id)::chs (k+1) r else chs (k+1) r
  | none=>chs (k+1) r
section
variable {ys:List Eff} {B:Nat→List Nat} {N:Nat}
end
def chOk (B:Nat→List Nat) (C:List (Nat×Nat)) (b:Option Nat) (i:Nat) (h:Nat→Bool):Bool:=C.all fun c=>!(h c.2)||(Nat.beq c.1 i||memN (B c.1) i)||(match b with|some b=>Nat.beq c.1 b||memN (B b) c.1|none=>false)
def knw (B:Nat→List Nat) (C:List (Nat×Nat)) (M:Nat→Bool) (i:Nat):Nat→List Eff→St→St
 | k,y::r,σ=>let σ':=knw B C M i (k-1) r σ
  bif M (k-1) then ⟨σ'.n,bif chOk B C (some (k-1)) i (fun j=>y.x.2.has j) then (y.d,y.x)::σ'.slots else σ'.slots,match y.o with|some (id,r)=>bif chOk B C (some (k-1)) i (fun j=>Nat.beq id j||r.has j) then (id,r)::σ'.res else σ'.res|none=>addsR (y.ad.filter fun z=>chOk B C (some (k-1)) i fun j=>Nat.beq z.1 j||z.2.has j) σ'.res⟩ else σ'
 | _,[],σ=>⟨σ.n,σ.slots.filter fun x=>chOk B C none i fun j=>x.2.2.has j,σ.res.filter fun x=>chOk B C none i fun j=>Nat.beq x.1 j||x.2.has j⟩
section
variable {B:Nat→List Nat} {C:List (Nat×Nat)} {M:Nat→Bool} {N:Nat}
def effB (B:Nat→List Nat) (N:Nat) (σ:St) (ys:List Eff):Bool:=
 ys.all (fun y=>(look σ.slots y.d).isNone)&&disN (ys.map (·.d))&&disN (σ.slots.map (·.1))&&disN (σ.res.map (·.1))&&((List.range N).all fun j=>!(memN (B j) N))&&
 (List.range ys.length).all fun i=>match ys[i]? with
  | some ⟨_,_,some (id,_),false,_⟩=>!σ.has id&&(List.range ys.length).all fun b=>Nat.beq b i||(match ys[b]? with|some z=>!(z.has id)||memN (B b) i|none=>true)
  | some ⟨_,_,none,_,ad⟩=>disN (ad.map (·.1))&&ad.all fun v=>!σ.has v.1&&(List.range ys.length).all fun b=>Nat.beq b i||(match ys[b]? with|some z=>!(z.has v.1)||memN (B b) i|none=>true)
  | _=>true
end
def StepsK (P:Program) (ops:Array Oper) (B:Nat→List Nat) (C:List (Nat×Nat)) (ys:List Eff) (σ:St):Nat→List Oper→List Eff→Prop
 | i,o::l,y::r=>LocK P ops o (knw B C (memN (B i)) i i (ys.take i).reverse σ) y∧StepsK P ops B C ys σ (i+1) l r
 | _,_,_=>True
theorem StepsK.at {ops:Array Oper} {B:Nat→List Nat} {C:List (Nat×Nat)} {ys:List Eff} {σ:St}:∀ (l:List Oper) (r:List Eff) (k:Nat),StepsK P ops B C ys σ k l r→∀ i o y,l[i]?=some o→r[i]?=some y→LocK P ops o (knw B C (memN (B (k+i))) (k+i) (k+i) (ys.take (k+i)).reverse σ) y
 | [],r,k,h,i,o,y,hl,hr=>by simp at hl
 | o'::l,[],k,h,i,o,y,hl,hr=>by simp at hr
 | o'::l,y'::r,k,h,0,o,y,hl,hr=>by simp at hl hr;subst hl;subst hr;exact h.1
 | o'::l,y'::r,k,h,i+1,o,y,hl,hr=>by
  have:=StepsK.at l r (k+1) h.2 i o y (by simpa using hl) (by simpa using hr)
  rwa [show k+1+i=k+(i+1) by omega] at this
structure DrawK (P:Program) (w0:Base) (Q:Exit→St→Prop) (N:Nat) (B:Nat→List Nat) (C:List (Nat×Nat)) (l:List Oper) (n:Nat) (sl:List (Nat×(Bool×S))) (rs:List (Nat×R)) (acc:List Eff) (k:Nat) (rest:List Oper):Prop where
 pf:acc.length=k→rest=l.drop k→∃ more:List Eff,(acc.reverse++more).length=N∧
  StepsK P l.toArray B C (acc.reverse++more) ⟨n,sl,rs⟩ k rest more∧effB B N ⟨n,sl,rs⟩ (acc.reverse++more)=true∧chs 0 (acc.reverse++more)=C∧
  AWl P w0 l.toArray Q (l.drop N) (knw B C (fun _=>true) N N (acc.reverse++more).reverse ⟨n,sl,rs⟩)
variable {w0:Base} {Q:Exit→St→Prop} {N:Nat} {B:Nat→List Nat} {C:List (Nat×Nat)} {l:List Oper} {n:Nat} {sl:List (Nat×(Bool×S))} {rs:List (Nat×R)} {acc:List Eff} {k:Nat} {rest:List Oper}
theorem DrawK.step {y:Eff} (hl:LocK P l.toArray o (knw B C (memN (B k)) k k acc ⟨n,sl,rs⟩) y) (h:DrawK P w0 Q N B C l n sl rs (y::acc) (k+1) rest):DrawK P w0 Q N B C l n sl rs acc k (o::rest):=⟨fun ha hr=>by
 have hd:rest=l.drop (k+1):=by
  have:=congrArg (List.drop 1) hr
  simpa using this
 obtain⟨more,h1,h2,h3,h4,h5⟩:=h.pf (by simp [ha]) hd
 have e:(y::acc).reverse++more=acc.reverse++(y::more):=by simp
 rw [e] at h1 h2 h3 h4 h5
 refine⟨y::more,h1,⟨?_,h2⟩,h3,h4,h5⟩
 have:((acc.reverse++(y::more)).take k).reverse=acc:=by
  rw [List.take_append_of_le_length (by simp [ha]),List.take_of_length_le (by simp [ha]),List.reverse_reverse]
 rw [this]
 exact hl⟩
theorem DrawK.fin (hk:Nat.beq k N=true) (hU:effB B N ⟨n,sl,rs⟩ acc.reverse=true) (hC:chs 0 acc.reverse=C) (h:AWl P w0 l.toArray Q rest (knw B C (fun _=>true) N k acc ⟨n,sl,rs⟩)):DrawK P w0 Q N B C l n sl rs acc k rest:=⟨fun ha hr=>by
 have hk':=Nat.eq_of_beq_eq_true hk
 subst hk'
 refine⟨[],by simp [ha],by unfold StepsK;split<;>first|trivial|(rename_i h;cases h),by rw [List.append_nil];exact hU,by rw [List.append_nil];exact hC,?_⟩
 rw [List.append_nil,List.reverse_reverse,←hr]
 exact h⟩
end
end Go.Q
namespace Go.Q
open Go.RowKit
section
variable {P:Program}
theorem Op1.le {ops:Array Oper} {o:Oper} {σ σ' σ2:St} (h:Op1 P ops o σ σ2) (hs:Sup σ' σ2):Op1 P ops o σ σ':=fun w0 a w hr K Q' hK=>h w0 a w hr K Q' fun a' w' hr'=>hK a' w' (Rel.of_look hr' hs.n.symm (fun t x h=>hs.slots t x h) (fun t x h=>hs.res t x h))
def FinS (P:Program) (w0:Base) (Q:Exit→St→Prop) (M e:Nat) (B:Nat→List Nat) (l:List Oper) (n:Nat) (sl:List (Nat×(Bool×S))) (rs:List (Nat×R)) (outs:List Out):Prop:=
 delS (outs.map (·.1)) sl=sl∧outB B ⟨n,sl,rs⟩ outs=true∧∃ σA σ1 σF,(∀ o,l[M]?=some o→Op1 P l.toArray o (stL (fun _=>true) 0 outs ⟨n,sl,rs⟩) σA)∧(∀ o,l[M]?=some o→Op1 P l.toArray o (stL (fun j=>!(Nat.beq j e)) 0 outs ⟨n,sl,rs⟩) σ1)∧
 (∀ o,l[e]?=some o→Op1 P l.toArray o σ1 σF)∧Sup σF σA∧AWl P w0 l.toArray Q (l.drop (M+1)) σF
theorem FinS.mk {w0:Base} {Q:Exit→St→Prop} {M e:Nat} {B:Nat→List Nat} {l:List Oper} {n:Nat} {sl:List (Nat×(Bool×S))} {rs:List (Nat×R)} {outs:List Out} {oM oE:Oper} {σA σ1 σE:St} (σF:St) (hd:delS (outs.map (·.1)) sl=sl) (hU:outB B ⟨n,sl,rs⟩ outs=true) (hM:l[M]?=some oM) (hE:l[e]?=some oE)
 (hA:Op1 P l.toArray oM (stL (fun _=>true) 0 outs ⟨n,sl,rs⟩) σA) (h1:Op1 P l.toArray oM (stL (fun j=>!(Nat.beq j e)) 0 outs ⟨n,sl,rs⟩) σ1) (hEE:Op1 P l.toArray oE σ1 σE) (hF:Sup σF σA) (hF2:Sup σF σE) (hfin:AWl P w0 l.toArray Q (l.drop (M+1)) σF):FinS P w0 Q M e B l n sl rs outs:=
 ⟨hd,hU,σA,σ1,σF,fun o h=>by rw [hM] at h;cases h;exact hA,fun o h=>by rw [hM] at h;cases h;exact h1,fun o h=>by rw [hE] at h;cases h;exact hEE.le hF2,hF,hfin⟩
end
end Go.Q
namespace Go.Q
theorem findI_any {α:Type} (p:α→Bool):∀ (l:List α) (m:Nat),decide (0≤findI p l m)=l.any p
 | [],m=>by simp [findI]
 | x::l,m=>by
  rw [findI,List.any_cons]
  by_cases h:p x=true
  · rw [if_pos h,h];simp
  rw [if_neg h,findI_any p l (m+1)];simp [h]
end Go.Q
namespace Go.Proofs.YtbecibmlbiebeaaGreat
open Go.RowKit Go.Q Go.D
end Go.Proofs.YtbecibmlbiebeaaGreat
namespace Go.Q
open Go.D
def areCosts (l:List Int):Bool:=(l.all fun n=>inB n 0 9)&&decide (l.length=6)
end Go.Q
namespace Go.Proofs.YtbecibmlbiebeaaGreat
open Go.RowKit Go.Q Go.D
theorem implwithin (n a b:Int):FnT Tryz.prog 73 [.one (.v (.int .i64 n)),.one (.v (.int .i64 a)),.one (.v (.int .i64 b))] (.a (.one (.v (.bool (inB n a b))))):=by
 refine A7 Tryz.func73 U (by kernel_rfl) Tryz.ntmps73 U fun hlen w0=>?_
 try simp [cEdge,cGraph] at hlen
 refine Af (Ak ?_);refine Aa (Af (Ab ?_));refine Ab ?_;refine Ad (R_ge U (.no U) U (.tm U) (.tm U)) U ?_;refine Ab ?_;refine Cm ?_;refine Cm ?_;refine Ad (R_le U (by exact .yes1 U U U U) U (.tmp U (by exact id)) (.tmp U (by exact id))) U ?_;refine Ck ?_;refine Ag ?_;refine Aa (Am (Bp U U ?_))
 rfl
theorem specl1In (n a b:Int):FnT Tryz.prog 77 [.one (.v (.int .i64 n)),.one (.v (.int .i64 a)),.one (.v (.int .i64 b))] (.a (.one (.v (.bool (inB n a b))))):=by
 refine A7 Tryz.func77 U (by kernel_rfl) Tryz.ntmps77 U fun hlen w0=>?_
 try simp [cEdge,cGraph] at hlen
 refine Af (Ak ?_);refine Aa (Af (Ab ?_));refine Ab ?_;refine Ad (R_ge U (.no U) U (.tm U) (.tm U)) U ?_;refine Ab ?_;refine Cm ?_;refine Cm ?_;refine Ad (R_le U (by exact .yes1 U U U U) U (.tmp U (by exact id)) (.tmp U (by exact id))) U ?_;refine Ck ?_;refine Ag ?_;refine Aa (Am (Bp U U ?_))
 rfl
theorem implisLetter (n:Int):FnT Tryz.prog 190 [.one (.v (.int .i64 n))] (.a (.one (.v (.bool (inB n 0 8))))):=by
 refine A7 Tryz.func190 U (by kernel_rfl) Tryz.ntmps190 U fun hlen w0=>?_
 try simp [cEdge,cGraph] at hlen
 refine Af (Ak ?_);refine Aa (Af (Ab ?_));refine Bv (implwithin _ _ _) ?_;refine Ag ?_;refine Aa (Am (Bp U U ?_))
 rfl
theorem specl2Letter (n:Int):FnT Tryz.prog 198 [.one (.v (.int .i64 n))] (.a (.one (.v (.bool (inB n 0 8))))):=by
 refine A7 Tryz.func198 U (by kernel_rfl) Tryz.ntmps198 U fun hlen w0=>?_
 try simp [cEdge,cGraph] at hlen
 refine Af (Ak ?_);refine Aa (Af (Ab ?_));refine Bv (specl1In _ _ _) ?_;refine Ag ?_;refine Aa (Am (Bp U U ?_))
 rfl
end Go.Proofs.YtbecibmlbiebeaaGreat
namespace Go.Proofs.YtbecibmlbiebeaaGreat
open Go.RowKit Go.Q Go.D
end Go.Proofs.YtbecibmlbiebeaaGreat
set_option maxHeartbeats 1000000
set_option maxRecDepth 100000
namespace Go.Q
open Go.D
structure SO {α:Type} (lt:α→α→Bool):Prop where
 irr:∀ x,lt x x=false
 tra:∀ x y z,lt x y=true→lt y z=true→lt x z=true
 tri:∀ x y,lt x y=true∨x=y∨lt y x=true
def putG {α:Type} [DecidableEq α] (lt:α→α→Bool):List α→α→List α
 | [],p=>[p]
 | x::l,p=>if lt x p then x::putG lt l p else if x=p then x::l else p::x::l
def StrictS {α:Type} (lt:α→α→Bool) (l:List α):Prop:=l.Pairwise fun a b=>lt a b=true
section
variable {α:Type} {lt:α→α→Bool}
theorem strict_ext (ho:SO lt):∀ {l r:List α},StrictS lt l→StrictS lt r→(∀ x,x∈l↔x∈r)→l=r
 | [],[],_,_,_=>rfl
 | [],y::r,_,_,h=>by have:=(h y).2 (by simp);cases this
 | x::l,[],_,_,h=>by have:=(h x).1 (by simp);cases this
 | x::l,y::r,hl,hr,h=>by
  have hl':=List.pairwise_cons.1 hl
  have hr':=List.pairwise_cons.1 hr
  have e:x=y:=by
   rcases List.mem_cons.1 ((h x).1 (by simp)) with h1|h1
   · exact h1
   rcases List.mem_cons.1 ((h y).2 (by simp)) with h2|h2
   · exact h2.symm
   have h3:=hr'.1 x h1
   have h4:=hl'.1 y h2
   have:=ho.tra _ _ _ h3 h4
   rw [ho.irr] at this;cases this
  subst e
  congr 1
  refine strict_ext ho hl'.2 hr'.2 fun z=>⟨fun hz=>?_,fun hz=>?_⟩
  · rcases List.mem_cons.1 ((h z).1 (by simp [hz])) with h1|h1
    · subst h1;have:=hl'.1 z hz;rw [ho.irr] at this;cases this
    exact h1
  rcases List.mem_cons.1 ((h z).2 (by simp [hz])) with h1|h1
  · subst h1;have:=hr'.1 z hz;rw [ho.irr] at this;cases this
  exact h1
def leG (lt:α→α→Bool) (a b:α):Bool:=!lt b a
def sortG (lt:α→α→Bool) (l:List α):List α:=l.mergeSort (leG lt)
theorem leG_trans (ho:SO lt) (a b c:α) (h1:leG lt a b=true) (h2:leG lt b c=true):leG lt a c=true:=by
 unfold leG at *
 simp only [Bool.not_eq_true'] at *
 cases h:lt c a with
 | false=>rfl
 | true=>
  rcases ho.tri a b with h3|h3|h3
  · have:=ho.tra _ _ _ h h3;rw [h2] at this;cases this
  · subst h3;rw [h2] at h;cases h
  rw [h1] at h3;cases h3
theorem leG_total (ho:SO lt) (a b:α):(leG lt a b||leG lt b a)=true:=by
 unfold leG
 cases h:lt b a with
 | false=>rfl
 | true=>
  cases h2:lt a b with
  | false=>rfl
  | true=>have:=ho.tra _ _ _ h h2;rw [ho.irr] at this;cases this
theorem sortG_sorted (ho:SO lt) (l:List α):(sortG lt l).Pairwise fun a b=>lt b a=false:=by
 have:=List.pairwise_mergeSort (leG_trans ho) (leG_total ho) l
 exact this.imp fun h=>by simpa [leG] using h
theorem mem_sortG {x:α} {l:List α}:x∈sortG lt l↔x∈l:=(List.mergeSort_perm l _).mem_iff
theorem sortG_len (l:List α):(sortG lt l).length=l.length:=(List.mergeSort_perm l _).length_eq
end
section
variable {α:Type} [DecidableEq α] {lt:α→α→Bool}
theorem mem_putG {x p:α}:∀ {l:List α},x∈putG lt l p↔x∈l∨x=p
 | []=>by simp [putG]
 | y::l=>by
  rw [putG]
  split
  · simp [mem_putG (l:=l),or_assoc]
  split
  · rename_i h;subst h;simp;intro h;exact .inl h
  simp;constructor
  · rintro (h|h|h)<;>simp [h]
  rintro ((h|h)|h)<;>simp [h]
theorem putG_strict (ho:SO lt) {p:α}:∀ {l:List α},StrictS lt l→StrictS lt (putG lt l p)
 | [],_=>by simp [putG,StrictS]
 | y::l,h=>by
  have h':=List.pairwise_cons.1 h
  rw [putG]
  split
  · rename_i hy
    refine List.pairwise_cons.2 ⟨fun x hx=>?_,putG_strict ho h'.2⟩
    rcases mem_putG.1 hx with hx|rfl
    · exact h'.1 x hx
    exact hy
  rename_i hy
  split
  · exact h
  rename_i hne
  have hlt:lt p y=true:=by
   rcases ho.tri y p with h1|h1|h1
   · exact absurd h1 hy
   · exact absurd h1 hne
   exact h1
  refine List.pairwise_cons.2 ⟨fun x hx=>?_,h⟩
  rcases List.mem_cons.1 hx with rfl|hx
  · exact hlt
  exact ho.tra _ _ _ hlt (h'.1 x hx)
def setG (lt:α→α→Bool) (l:List α):List α:=l.foldl (putG lt) []
theorem foldl_strict (ho:SO lt):∀ {l acc:List α},StrictS lt acc→StrictS lt (l.foldl (putG lt) acc)
 | [],_,h=>h
 | x::l,acc,h=>foldl_strict ho (l:=l) (putG_strict ho h)
theorem mem_foldl {x:α}:∀ {l acc:List α},x∈l.foldl (putG lt) acc↔x∈acc∨x∈l
 | [],acc=>by simp
 | y::l,acc=>by
  rw [List.foldl_cons,mem_foldl,mem_putG,List.mem_cons,or_assoc]
theorem setG_strict (ho:SO lt) (l:List α):StrictS lt (setG lt l):=foldl_strict ho List.Pairwise.nil
theorem mem_setG {x:α} {l:List α}:x∈setG lt l↔x∈l:=by unfold setG;rw [mem_foldl];simp
def compactL:List α→List α
 | []=>[]
 | [x]=>[x]
 | x::y::l=>if x=y then compactL (y::l) else x::compactL (y::l)
theorem mem_compactL {x:α}:∀ {l:List α},x∈compactL l↔x∈l
 | []=>Iff.rfl
 | [y]=>Iff.rfl
 | y::z::l=>by
  rw [compactL]
  split
  · rename_i h;subst h;rw [mem_compactL];simp
  rw [List.mem_cons,mem_compactL,List.mem_cons (l:=z::l)]
theorem compactL_strict (ho:SO lt):∀ {l:List α},l.Pairwise (fun a b=>lt b a=false)→StrictS lt (compactL l)
 | [],_=>List.Pairwise.nil
 | [y],_=>by simp [compactL,StrictS]
 | y::z::l,h=>by
  have h':=List.pairwise_cons.1 h
  rw [compactL]
  split
  · exact compactL_strict ho h'.2
  rename_i hne
  refine List.pairwise_cons.2 ⟨fun x hx=>?_,compactL_strict ho h'.2⟩
  have hyz:lt y z=true:=by
   rcases ho.tri y z with h1|h1|h1
   · exact h1
   · exact absurd h1 hne
   rw [h'.1 z (by simp)] at h1;cases h1
  rcases List.mem_cons.1 (mem_compactL.1 hx) with rfl|hx
  · exact hyz
  have h2:=(List.pairwise_cons.1 h'.2).1 x hx
  rcases ho.tri z x with h3|h3|h3
  · exact ho.tra _ _ _ hyz h3
  · subst h3;exact hyz
  rw [h2] at h3;cases h3
theorem compact_sort (ho:SO lt) (l:List α):compactL (sortG lt l)=setG lt l:=
 strict_ext ho (compactL_strict ho (sortG_sorted ho l)) (setG_strict ho l) fun x=>by rw [mem_compactL,mem_sortG,mem_setG]
theorem putG_len (p:α):∀ l:List α,(putG lt l p).length≤l.length+1
 | []=>by simp [putG]
 | x::l=>by
  rw [putG]
  have:=putG_len p l
  split
  · simp;omega
  split<;>simp
theorem setG_len (l:List α):(setG lt l).length≤l.length:=by
 have key:∀ (l acc:List α),(l.foldl (putG lt) acc).length≤acc.length+l.length:=by
  intro l
  induction l with
  | nil=>intro acc;simp
  | cons x l ih=>intro acc;rw [List.foldl_cons];have:=ih (putG lt acc x);have:=putG_len (lt:=lt) x acc;simp;omega
 have:=key l []
 simpa [setG] using this
end
instance:Inhabited TPair:=⟨⟨0,0⟩⟩
end Go.Q
namespace Go.Q
open Go.D
end Go.Q
namespace Go.Proofs.YtbecibmlbiebeaaGreat
open Go.RowKit Go.Q Go.D
end Go.Proofs.YtbecibmlbiebeaaGreat
set_option maxHeartbeats 1000000
set_option maxRecDepth 100000
namespace Go.Q
open Go.D
theorem nodup_le {α:Type} [DecidableEq α]:∀ {l r:List α},l.Nodup→(∀ x∈l,x∈r)→l.length≤r.length
 | [],_,_,_=>Nat.zero_le _
 | a::l,r,h,hs=>by
  have h2:=List.nodup_cons.1 h
  have ha:=hs a (by simp)
  have:=nodup_le (l:=l) (r:=r.erase a) h2.2 fun x hx=>(List.mem_erase_of_ne (fun e=>h2.1 (by rw [←e];exact hx))).2 (hs x (by simp [hx]))
  rw [List.length_erase_of_mem ha] at this
  have hp:=List.length_pos_of_mem ha
  simp only [List.length_cons];omega
theorem compactL_snoc {α:Type} [DecidableEq α] (y x:α):∀ l:List α,compactL (l++[y,x])=compactL (l++[y])++if y=x then [] else [x]
 | []=>by simp only [List.nil_append,compactL];split<;>simp [compactL, *]
 | [z]=>by
  simp only [List.cons_append,List.nil_append,compactL]
  by_cases h1:z=y<;>by_cases h2:y=x<;>simp [h1,h2,compactL]
 | z::w::l=>by
  have ih:=compactL_snoc y x (w::l)
  simp only [List.cons_append] at ih ⊢
  rw [compactL,compactL]
  split
  · exact ih
  rw [ih,List.cons_append]
theorem compactL_take {α:Type} [DecidableEq α] {l:List α} {m:Nat} {x y:α} (hx:l[m+1]?=some x) (hy:l[m]?=some y):compactL (l.take (m+2))=compactL (l.take (m+1))++if y=x then [] else [x]:=by
 rw [take_at hx,take_at hy,List.append_assoc]
 exact compactL_snoc y x _
theorem compactL_id {α:Type} [DecidableEq α] {l:List α}:∀ {k:Nat},k≤l.length→(∀ j x y,j+1<k→l[j+1]?=some x→l[j]?=some y→y≠x)→compactL (l.take k)=l.take k
 | 0,_,_=>by simp [compactL]
 | 1,hk,_=>by
  match l,hk with
  | x::l,_=>simp [compactL]
 | k+2,hk,h=>by
  have hx:l[k+1]?=some (l[k+1]'(by omega)):=List.getElem?_eq_getElem _
  have hy:l[k]?=some (l[k]'(by omega)):=List.getElem?_eq_getElem _
  rw [compactL_take hx hy,compactL_id (k:=k+1) (by omega) (fun j x y hj=>h j x y (by omega)),if_neg (h k _ _ (by omega) hx hy),←take_at hx]
theorem compactL_take' {α:Type} [DecidableEq α] {l:List α} {m:Nat} {x y:α} (hm:1≤m) (hx:l[m]?=some x) (hy:l[m-1]?=some y):compactL (l.take (m+1))=compactL (l.take m)++if y=x then [] else [x]:=by
 obtain⟨m',rfl⟩:∃ m',m=m'+1:=⟨m-1,by omega⟩
 exact compactL_take hx hy
theorem drop_more {α:Type} {l r:List α} {m m':Nat} (h:r.drop m=l.drop m) (hm:m≤m'):r.drop m'=l.drop m':=by
 have:m'=m+(m'-m):=by omega
 rw [this,←List.drop_drop,←List.drop_drop,h]
theorem compactL_all {α:Type} [DecidableEq α] {l:List α} {k:Nat} (hk:l.length≤k) (h:∀ j x y,j+1<k→l[j+1]?=some x→l[j]?=some y→y≠x):compactL l=l:=by
 have:=compactL_id (l:=l) (k:=l.length) (Nat.le_refl _) fun j x y hj=>h j x y (by omega)
 rwa [List.take_of_length_le (Nat.le_refl _)] at this
theorem cut_rows {α:Type} {c:α→List T} {R l:List α} {k:Nat} {z:List (List T)} (h:R.take k=l) (hk:k≤R.length):((R.map c).take k++z).take k=l.map c:=by
 rw [List.take_append_of_le_length (by simp;omega),List.take_take,Nat.min_self,←List.map_take,h]
theorem drop_get {α:Type} {l r:List α} {m i:Nat} (h:r.drop m=l.drop m) (hi:m≤i):r[i]?=l[i]?:=by
 have e1:r[i]?=(r.drop m)[i-m]?:=by rw [List.getElem?_drop];congr 1;omega
 have e2:l[i]?=(l.drop m)[i-m]?:=by rw [List.getElem?_drop];congr 1;omega
 rw [e1,e2,h]
theorem set_take {α:Type} {r:List α} {k:Nat} {x:α} (h:k<r.length):(r.set k x).take (k+1)=r.take k++[x]:=by
 rw [take_at (l:=r.set k x) (i:=k) (x:=x) (by rw [List.getElem?_set_self h]),List.take_set_of_le (Nat.le_refl _)]
theorem set_drop {α:Type} {r:List α} {k m:Nat} {x:α} (h:k<m):(r.set k x).drop m=r.drop m:=by
 rw [List.drop_set,if_pos h]
theorem filter_take {α:Type} {p:α→Bool} {l:List α} {k:Nat} {x:α} (h:l[k]?=some x):(l.take (k+1)).filter p=(l.take k).filter p++if p x then [x] else []:=by
 rw [take_at h,List.filter_append]
 cases hp:p x<;>simp [hp]
theorem findI_spec {α:Type} (p:α→Bool):∀ (l:List α) (m:Nat),(findI p l m=-1∧∀ x∈l,p x=false)∨∃ (k:Nat) (x:α),l[k]?=some x∧p x=true∧findI p l m=((m+k:Nat):Int)∧∀ y∈l.take k,p y=false
 | [],m=>.inl ⟨rfl,by simp⟩
 | z::l,m=>by
  rw [findI]
  cases hz:p z with
  | true=>exact .inr ⟨0,z,rfl,hz,by simp,by simp⟩
  | false=>
   rw [if_neg (by simp)]
   rcases findI_spec p l (m+1) with ⟨h1,h2⟩|⟨k,x,h1,h2,h3,h4⟩
   · refine .inl ⟨h1,fun x hx=>?_⟩
     rcases List.mem_cons.1 hx with rfl|hx
     · exact hz
     exact h2 x hx
   refine .inr ⟨k+1,x,by simpa using h1,h2,by rw [h3];omega,fun y hy=>?_⟩
   rw [List.take_succ_cons] at hy
   rcases List.mem_cons.1 hy with rfl|hy
   · exact hz
   exact h4 y hy
theorem filter_none {α:Type} {p:α→Bool} {l:List α} (h:∀ x∈l,p x=false):(l.filter fun x=>!p x)=l:=List.filter_eq_self.2 fun x hx=>by rw [h x hx];rfl
end Go.Q
namespace Go.Proofs.YtbecibmlbiebeaaGreat
open Go.RowKit Go.Q Go.D
end Go.Proofs.YtbecibmlbiebeaaGreat
namespace Go.Q
open Go.RowKit Go.Sort Go.Proofs
section
variable {P:Program}
def FnS1 (P:Program) (f:FuncId) (k:Nat) (rows rows':List (List T)):Prop:=
 Callee P f∧∀ w v F,Good w F→C true w (.sl k rows) v F→F.Nodup→(∀ b∈F,Thaw w b)→Calls P f (List.toArray [v]) w fun e w'=>e=.returned (.tuple #[])∧Chg w w' F∧∃ F',C true w' (.sl k rows') v F'∧F'.Nodup∧∀ b∈F',b∈F∧Thaw w' b
theorem R_sort1 {ops:Array Oper} {o:Oper} {σ:St} {f:FuncId} {xo:Operand} {tys:Array TypeId} {id k:Nat} {rows rows':List (List T)} (ho:o.op=.call { callee:=.value (.func f),args:=[xo].toArray,argTypes:=tys }) (hg:o.guard=none) (hd:o.dst.all (fun d=>Nat.blt d σ.n)=true)
 (hx:Get σ true xo (.one (.rf id))) (hs:look σ.res id=some (.row k rows)) (h:FnS1 P f k rows rows'):Op1 P ops o σ ((σ.upd id (.row k rows')).put o.dst (true,.tup [])):=by
 rintro w0 a w ⟨I,hr⟩ K Q hK
 simp only [Region.wanted,hg,if_true]
 obtain⟨h1,a0,N,M,h2⟩:VE I w (.rf id) (a.eval xo):=hx.va hr rfl
 have hC:C true w (.sl k rows) (I.hd id) (I.F id):=hr.res id _ hs
 have own:=hr.own id _ hs
 unfold Oper.wp
 rw [run_enter h.1 ho]
 have hcall:=h.2 w _ _ (hr.goodF fun b hb=>(own.2 b hb).1) hC own.1 fun b hb=>(own.2 b hb).2
 rw [←h1] at hcall
 refine hcall.mono fun e w' hR=>?_
 obtain⟨rfl,h4,F',h5,h6,h7⟩:=hR
 refine hK _ _ ⟨_,(hr.upd (G:=F') (r:=.row k rows') hs h4 ⟨h6,fun b hb=>⟨(own.2 b (h7 b hb).1).1,C.lt h5 b hb,(h7 b hb).2,.inl (h7 b hb).1⟩⟩ (by show C true _ _ _ _;simp only [Ip.set,if_true];rw [←h1];exact h5)).put (by exact hd) ⟨[],rfl,rfl⟩⟩
theorem heap_mapB {w:World} {blk:Nat} {f:Array Value→Array Value} {c:Array Value} {e:TypeId} {fr:Nat×Nat} (hb:w.heap[blk]?=some (.cells c e fr)):(mapBlock w blk f).heap[blk]?=some (.cells (f c) e fr):=by
 unfold mapBlock
 show (w.heap.modify blk (onCells f))[blk]?=_
 rw [Array.getElem?_modify,if_pos rfl,hb]
 rfl
theorem heap_mapB_other {w:World} {blk b:Nat} {f:Array Value→Array Value} (h:b≠blk):(mapBlock w blk f).heap[b]?=w.heap[b]?:=by
 unfold mapBlock
 show (w.heap.modify blk (onCells f))[b]?=_
 rw [Array.getElem?_modify,if_neg (fun e=>h e.symm)]
theorem FnS1.ints {f:FuncId} {c:Int→List T} (hcallee:Callee P f) (hc:∀ x,c x=[.v (.int .i64 x)]) (S:List Int→List Int) (hS:∀ l,(S l).length=l.length)
 (hnone:∀ p cap w,Calls P f #[.slice p 0 cap] w fun e w'=>e=.returned (.tuple #[])∧w'=w)
 (hsome:∀ (blk cap:Nat) (zs:List Int) (w:World),Holds (Value.int .i64) w blk 0 zs.toArray→blk<w.heap.size→zs.length<4611686018427387904→Calls P f #[.slice (some ⟨blk,0,none⟩) zs.length cap] w fun e w'=>e=.returned (.tuple #[])∧∃ n os,w'=grow (putRow (Value.int .i64) (Sort.ahead w n) blk 0 (S zs).toArray) os)
 (l:List Int) (hl:l.length<4611686018427387904):FnS1 P f 1 (l.map c) ((S l).map c):=⟨hcallee,fun w v F _ hC hnd hth=>by
 have hcm:∀ m:List Int,(m.map c).flatten=(m.map (Value.int .i64)).map T.v:=fun m=>by
  induction m with
  | nil=>rfl
  | cons x m ih=>rw [List.map_cons,List.flatten_cons,ih,hc];rfl
 have hrow:∀ m:List Int,∀ r∈m.map c,r.length=1:=fun m r hr=>by
  obtain⟨x,_,rfl⟩:=List.mem_map.1 hr
  rw [hc];rfl
 have hCc:=hC
 simp only [C] at hCc
 obtain⟨a0,n0,m0,rfl,_⟩:=hCc
 obtain⟨e1,e2,e3⟩:=hC.hdr
 rw [List.length_map] at e1
 rcases hC.blk with ⟨q1,q2,q3⟩|⟨g,G,cur,e',rfl,rfl,q3,q4,q5⟩
 · have hl0:l=[]:=by simpa using q3
   subst hl0
   have hS0:S []=[]:=List.eq_nil_of_length_eq_zero (by rw [hS];rfl)
   subst e1;refine (hnone a0 m0 w).mono fun e w' ⟨h1,h2⟩=>?_;subst h2
   rw [hS0]
   exact⟨h1,Chg.refl _ _,F,hC,hnd,fun b hb=>⟨hb,hth b hb⟩⟩
 obtain⟨s1,xs,s2,s3,s4⟩:=q5.flat
 rw [hcm] at s2
 simp only [Nat.zero_add] at s4
 have hval:∀ m:List Int,(m.map (Value.int .i64)).all Value.oneCell'=true:=fun m=>by
  rw [List.all_eq_true]
  intro v hv
  obtain⟨x,_,rfl⟩:=List.mem_map.1 hv
  rfl
 have hG:G=[]∧xs=l.map (Value.int .i64):=by
  have key:∀ (vs:List Value) {cs:List Value} {G:List Nat},Cs true w (vs.map T.v) cs G→G=[]∧cs=vs:=by
   intro vs
   induction vs with
   | nil=>intro cs G h;simp only [List.map_nil,Cs] at h;exact⟨h.2,h.1⟩
   | cons v vs ih=>
    intro cs G h
    simp only [List.map_cons,Cs] at h
    obtain⟨c1,cr,G1,G2,rfl,h2,h3,rfl⟩:=h
    simp only [C] at h2
    obtain⟨rfl,rfl,_⟩:=h2
    obtain⟨rfl,rfl⟩:=ih h3
    exact⟨rfl,rfl⟩
  exact key _ s2
 obtain⟨rfl,rfl⟩:=hG
 have hglt:g<w.heap.size:=(Array.getElem?_eq_some_iff.1 q3).1
 have hH:Holds (Value.int .i64) w g 0 l.toArray:=fun j hj=>by
  rw [List.size_toArray] at hj
  rw [Nat.zero_add]
  refine⟨?_,by simp [World.frozen?,q3]⟩
  rw [s4 j _ (show (l.map (Value.int .i64))[j]?=some (.int .i64 l[j]) by rw [List.getElem?_map,List.getElem?_eq_getElem hj];rfl)]
  simp [hj]
 have hcall:=hsome g m0 l w hH hglt hl
 rw [e1] at hcall
 refine hcall.mono fun e w' hR=>?_
 obtain⟨rfl,n,os,rfl⟩:=hR
 have hsl:=hS l
 generalize hd':(S l).toArray=d'
 have hd's:d'.size=l.length:=by rw [←hd'];simpa using hsl
 have hw1:(grow (putRow (Value.int .i64) (Sort.ahead w n) g 0 d') os).heap[g]?=some (.cells (putCells (Value.int .i64) 0 d' cur) e' (0,0)):=by
  unfold grow putRow
  show ((mapBlock (Go.Sort.ahead w n) g _).heap++os)[g]?=_
  have hm:=heap_mapB (w:=Go.Sort.ahead w n) (f:=putCells (Value.int .i64) 0 d') q3
  rw [Array.getElem?_append_left (Array.getElem?_eq_some_iff.1 hm).1]
  exact hm
 have hw2:∀ b,b<w.heap.size→b≠g→(grow (putRow (Value.int .i64) (Sort.ahead w n) g 0 d') os).heap[b]?=w.heap[b]?:=fun b hb hne=>by
  unfold grow putRow
  show ((mapBlock (Go.Sort.ahead w n) g _).heap++os)[b]?=_
  have hm:=heap_mapB_other (w:=Go.Sort.ahead w n) (f:=putCells (Value.int .i64) 0 d') hne
  have hb':b<(mapBlock (Go.Sort.ahead w n) g (putCells (Value.int .i64) 0 d')).heap.size:=heap_lt hm hb
  rw [Array.getElem?_append_left hb']
  exact hm
 have hsz:(putCells (Value.int .i64) 0 d' cur).size=m0*1:=by unfold putCells;simp [q4]
 have hch:Chg w (grow (putRow (Value.int .i64) (Sort.ahead w n) g 0 d') os) [g]:=⟨rfl,rfl,rfl,by rw [Go.Sort.size_grow,Go.Sort.size_putRow];exact Nat.le_add_right _ _,fun b hb hn=>hw2 b hb (by simpa using hn)⟩
 refine⟨rfl,hch,[g],?_,by simp,fun b hb=>?_⟩
 · unfold C
   refine⟨_,_,_,rfl,by rw [List.length_map,hsl,e1],e2,e3,.inr ⟨g,0,[],rfl,rfl,(Array.getElem?_eq_some_iff.1 hw1).1,fun _=>⟨rfl,_,e',hw1,hsz⟩,Rws.of (xs:=(S l).map (Value.int .i64)) (hrow _) ?_ fun j u hj=>?_⟩⟩
   · rw [hcm];exact Cs_vals (hval _)
   have hjl:j<l.length:=by have:=(List.getElem?_eq_some_iff.1 hj).1;rw [List.length_map,hsl] at this;exact this
   have hjc:j<cur.size:=by rw [q4];omega
   rw [List.getElem?_map,List.getElem?_eq_getElem (by rw [hsl];exact hjl)] at hj
   cases hj
   simp only [World.cell?,hw1,Nat.zero_add]
   unfold putCells
   rw [Array.getElem?_mapIdx,Array.getElem?_eq_getElem hjc]
   simp [hd's,hjl,←hd',hsl]
 simp only [List.mem_singleton] at hb
 subst hb
 exact⟨by simp,.inl _,_,hw1⟩⟩
end
end Go.Q
namespace Go.Q
open Go.D
def dE:TEdge:=⟨0,0,0,0⟩
def edgeOk (e:TEdge) (n:Int):Bool:=inB e.ID 1 99&&inB e.From 0 (n-1)&&inB e.To 0 (n-1)&&inB e.Label 0 2
def edgeAt (l:List TEdge) (n:Int) (k:Nat):Bool:=match l[k]? with
 | some e=>edgeOk e n&&!(decide (0<k)&&decide (e.ID≤(l[k-1]?.getD dE).ID))
 | none=>true
def validG (g:TGraph):Bool:=(g.Values.all fun v=>inB v 0 2)&&((List.range g.Edges.length).all fun k=>edgeAt g.Edges g.Values.length k)&&(inB g.Values.length 1 5&&decide (g.Edges.length≤12))
def edgeIndex (g:TGraph) (id:Int):Int:=findI (fun e=>decide (e.ID=id)) g.Edges 0
def stepEdge (g:TGraph) (s:TStep):TEdge×Bool:=if validG g then (match g.Edges[(edgeIndex g s.Edge).toNat]? with|some e=>if 0≤edgeIndex g s.Edge then (e,true) else (dE,false)|none=>(dE,false)) else (dE,false)
theorem range_all {p:Nat→Bool} {n k:Nat} (h:∀ j,j<k→p j=true) (hk:n≤k):(List.range n).all p=true:=by
 rw [List.all_eq_true]
 intro j hj;exact h j (by have:=List.mem_range.1 hj;omega)
theorem range_not {p:Nat→Bool} {n k:Nat} (hk:k<n) (hp:p k=false):(List.range n).all p=false:=by
 rw [List.all_eq_false]
 exact⟨k,List.mem_range.2 hk,by rw [hp];simp⟩
theorem range_succ {p:Nat→Bool} {k:Nat} (h:∀ j,j<k→p j=true) (hp:p k=true):∀ j,j<k+1→p j=true:=fun j hj=>by
 rcases Nat.lt_or_eq_of_le (Nat.le_of_lt_succ hj) with h1|rfl
 · exact h j h1
 exact hp
theorem getD_pred {α:Type} {d:α} {l:List α} {k:Nat} (h:0<k) (hk:k≤l.length):l[((k:Int)-1).toNat]?=some (l[k-1]?.getD d):=by
 have e:((k:Int)-1).toNat=k-1:=by omega
 rw [e];exact getD_at (by omega)
end Go.Q
namespace Go.Proofs.YtbecibmlbiebeaaGreat
open Go.RowKit Go.Q Go.D
theorem specl3Edge (g:TGraph) (e:TEdge):FnT Tryz.prog 214 [.agg (cGraph g),.agg (cEdge e)] (.a (.one (.v (.bool (edgeOk e g.Values.length))))):=by
 refine A7 Tryz.func214 U (by kernel_rfl) Tryz.ntmps214 U fun hlen w0=>?_
 try simp [cEdge,cGraph] at hlen
 skip
 refine Af (Ad (Bm U U U (.tm U) (ts:=_) (by rfl)) U ?_);refine Ad (Bm U U U (.tm U) (ts:=_) (by rfl)) U ?_;refine Ak ?_;refine Aa (Af (Bg Cl ?_));refine Aq Bz ?_;refine Be (.t) Tryz.underlying40 ?_;refine C8 ?_;refine Ag ?_;refine Aa (Af (Bg Ds ?_));refine Aq ty3 ?_;refine Bv (specl1In _ _ _) ?_;refine Ab ?_;refine AWl.fy fl201_1 ?_;refine Dj ty3 ?_;refine Cm ?_;refine Ad (Bc (FnT.fr (specl1In _ _ _)) U (by exact .yes1 U U U U) U (.cons (.tmp U (by exact id)) U (.cons (.const U) U (.cons (.tmp U (by exact id)) U .nil)))) U ?_;refine Ck ?_;refine Ab ?_;refine AWl.fy fl201_2 ?_;refine Dj ty3 ?_;refine Cm ?_;refine Ad (Bc (FnT.fr (specl1In _ _ _)) U (by exact .yes1 U U U U) U (.cons (.tmp U (by exact id)) U (.cons (.const U) U (.cons (.tmp U (by exact id)) U .nil)))) U ?_;refine Ck ?_;refine Ab ?_;refine AWl.fy fl201_3 ?_;refine Dj ty3 ?_
 refine Ad (Bc (FnT.fr (specl1In _ _ _)) U (by exact .yes1 U U U U) U (.cons (.tmp U (by exact id)) U (.cons (.const U) U (.cons (.const U) U .nil)))) U ?_;refine Ck ?_;refine Ag ?_;refine Aa (Am (Bp U U ?_))
 rfl
theorem impledgeOk (e:TEdge) (n:Int) (hn:-1000≤n) (hn':n≤9223372036854775807):FnT Tryz.prog 209 [.agg (cEdge e),.one (.v (.int .i64 n))] (.a (.one (.v (.bool (edgeOk e n))))):=by
 refine A7 Tryz.func209 U (by kernel_rfl) Tryz.ntmps209 U fun hlen w0=>?_
 try simp [cEdge,cGraph] at hlen
 refine Af (Ad (Bm U U U (.tm U) (ts:=_) (by rfl)) U ?_);refine Ak ?_;refine Aa (Af (Bg Ds ?_));refine Aq ty3 ?_;refine Bv (implwithin _ _ _) ?_;refine Ab ?_;refine AWl.fy fl201_1 ?_;refine Dj ty3 ?_;refine Cm ?_;refine Ad (Dx U (by exact .yes1 U U U U) U (.tmp U (by exact id)) (.const U) fun _=>by omega) U ?_;refine Ad (Bc (FnT.fr (implwithin _ _ _)) U (by exact .yes1 U U U U) U (.cons (.tmp U (by exact id)) U (.cons (.const U) U (.cons (.tmp U (by exact id)) U .nil)))) U ?_;refine Ck ?_;refine Ab ?_;refine AWl.fy fl201_2 ?_;refine Dj ty3 ?_;refine Cm ?_;refine Ad (Dx U (by exact .yes1 U U U U) U (.tmp U (by exact id)) (.const U) fun _=>by omega) U ?_;refine Ad (Bc (FnT.fr (implwithin _ _ _)) U (by exact .yes1 U U U U) U (.cons (.tmp U (by exact id)) U (.cons (.const U) U (.cons (.tmp U (by exact id)) U .nil)))) U ?_;refine Ck ?_;refine Ab ?_;refine AWl.fy fl201_3 ?_;refine Dj ty3 ?_
 refine Ad (Bc (FnT.fr (implwithin _ _ _)) U (by exact .yes1 U U U U) U (.cons (.tmp U (by exact id)) U (.cons (.const U) U (.cons (.const U) U .nil)))) U ?_;refine Ck ?_;refine Ag ?_;refine Aa (Am (Bp U U ?_))
 rfl
theorem specEdgeIndex (g:TGraph) (id:Int):FnT Tryz.prog 184 [.agg (cGraph g),.one (.v (.int .i64 id))] (.a (.one (.v (.int .i64 (edgeIndex g id))))):=by
 refine A7 Tryz.func184 U (by kernel_rfl) Tryz.ntmps184 U fun hlen w0=>?_
 try simp [cEdge,cGraph] at hlen
 skip
 refine Af (Ad (Bm U U U (.tm U) (ts:=_) (by rfl)) U ?_);refine Ak ?_;refine Aa (Ae (Af (Ak ?_)));refine Aa (AW.block (C2 (β:=Nat) (fun x=>x≤(g.Edges).length∧∀ j y,j<x→(g.Edges)[j]?=some y→(fun e=>!decide (e.ID=id)) y=true) (fun x=>⟨_,[(5,(true,.a (.one (.t (.v (.int .i64 (x:Nat))))))),(1,_),(2,_)],[]⟩) (fun x=>(g.Edges).length-x) (0) ⟨Nat.zero_le _,fun j y hj=>absurd hj (Nat.not_lt_zero j)⟩ (Ap U ⟨U,U,U,Y⟩ trivial) ?_));intro k hk;refine Ae (Af (Ab ?_));refine Bg Cw ?_;refine Aq ty43 ?_;refine Be (.t) Tryz.underlying43 ?_;refine AWl.lt ?_;refine Aa (Ai (.tm U) (fun hlt=>?_) (fun hlt=>?_))
 · try simp at hlt
   obtain⟨x,hx⟩:∃ ξ,(g.Edges)[k]?=some ξ:=⟨_,List.getElem?_eq_getElem (by exact hlt)⟩
   refine Aj (Ae (AW.block (Af (Bg Cw ?_))));refine Aq ty43 ?_;refine Ab ?_;refine Ad ((As U (.no U) U (.tm U) (.tm U) Tryz.underlying43 De (fun _=>⟨by omega,(by exact Al (by assumption))⟩))) U ?_;refine Bg Ds ?_;refine Aq ty3 ?_;refine Ab ?_;refine AWl.eq ?_;refine Aa (Ai (.tm U) (fun h20=>?_) (fun h20=>?_))
   · try simp at h20
     refine Ae (Ar (Av [1,2,5] []) ?_);refine Ac (Ab ?_);refine Ag ?_;refine Aa (Am (Bp U U ?_))
     unfold edgeIndex;rw [findI_at (k:=k) hk.2 hx (by simp [h20])];simp
   try simp at h20
   refine Aj (Ar (Av [1,2,5] []) ?_);refine Ac (Ab ?_);refine A8 ?_;refine Ag ?_;refine Aa ?_;refine Round.next (k+1) ⟨by omega,each_succ hk.2 hx (by simp [h20])⟩ (by omega) (Ap rfl ⟨rfl,rfl,rfl,Y⟩ trivial)
 try simp at hlt
 refine Bb (Af (Ak ?_));refine Aa (Am (Bp U U ?_))
 unfold edgeIndex;rw [findI_none hk.2 (by omega)]
theorem specIsValidGraph (g:TGraph):FnT Tryz.prog 159 [.agg (cGraph g)] (.a (.one (.v (.bool (validG g))))):=by
 refine A7 Tryz.func159 U (by kernel_rfl) Tryz.ntmps159 U fun hlen w0=>?_
 try simp [cEdge,cGraph] at hlen
 skip
 refine Af (Ad (Bm U U U (.tm U) (ts:=_) (by rfl)) U ?_);refine Ak ?_;refine Aa (Ae (Af (Ak ?_)));refine Aa (AW.block (C2 (β:=Nat) (fun x=>x≤(g.Values).length∧∀ j y,j<x→(g.Values)[j]?=some y→(fun v=>inB v 0 2) y=true) (fun x=>⟨_,[(3,(true,.a (.one (.t (.v (.int .i64 (x:Nat))))))),(1,_)],[]⟩) (fun x=>(g.Values).length-x) (0) ⟨Nat.zero_le _,fun j y hj=>absurd hj (Nat.not_lt_zero j)⟩ (Ap U ⟨U,U,Y⟩ trivial) ?_));intro k hk;refine Ae (Af (Ab ?_));refine Bg Cl ?_;refine Aq Bz ?_;refine Be (.t) Tryz.underlying40 ?_;refine AWl.lt ?_;refine Aa (Ai (.tm U) (fun hlt=>?_) (fun hlt=>?_))
 · try simp at hlt
   obtain⟨x,hx⟩:∃ ξ,(g.Values)[k]?=some ξ:=⟨_,List.getElem?_eq_getElem (by exact hlt)⟩
   refine Aj (Ae (AW.block (Af (Bg Cl ?_))));refine Aq Bz ?_;refine Ab ?_;refine Ad ((As U (.no U) U (.tm U) (.tm U) Tryz.underlying40 ty3 (fun _=>⟨by omega,(by exact Al (by assumption))⟩))) U ?_;refine Aq ty3 ?_;refine Bv (specl1In _ _ _) ?_;refine C1 ?_;refine Aa (Ai (.tm U) (fun h18=>?_) (fun h18=>?_))
   · try simp at h18
     refine Ae (Ar (Av [1,3] []) ?_);refine Ac (Ak ?_);refine Aa (Am (Bp U U ?_))
     unfold validG;rw [not_all hx h18];rfl
   try simp at h18
   refine Aj (Ar (Av [1,3] []) ?_);refine Ac (Ab ?_);refine A8 ?_;refine Ag ?_;refine Aa ?_;refine Round.next (k+1) ⟨by omega,each_succ hk.2 hx (h18)⟩ (by omega) (Ap rfl ⟨rfl,rfl,Y⟩ trivial)
 try simp at hlt
 refine Bb (Ae (Af (Ak ?_)));refine Aa (AW.block (C2 (β:=Nat) (fun x=>x≤g.Edges.length∧∀ j,j<x→edgeAt g.Edges g.Values.length j=true) (fun x=>⟨_,[(4,(true,.a (.one (.t (.v (.int .i64 (x:Nat))))))),(1,_)],[]⟩) (fun x=>g.Edges.length-x) (0) ⟨Nat.zero_le _,fun j hj=>absurd hj (Nat.not_lt_zero j)⟩ (Ap U ⟨U,U,Y⟩ trivial) ?_));intro k1 hk1;refine Ae (Af (Ab ?_));refine Bg Cw ?_;refine Aq ty43 ?_;refine Be (.t) Tryz.underlying43 ?_;refine AWl.lt ?_;refine Aa (Ai (.tm U) (fun hlt1=>?_) (fun hlt1=>?_))
 · try simp at hlt1
   obtain⟨x1,hx1⟩:∃ x1,g.Edges[k1]?=some x1:=⟨_,List.getElem?_eq_getElem hlt1⟩
   refine Aj (Ae (AW.block (Ae (B8 28 (nthB [[],[],[1],[],[1,2,3],[1,2,3,4],[0,1,2,3,4,5],[0,1,2,3,4,5,6],[0,1,2,3,4,5,6,7],[0,1,2,3,4,5,6,7,8],[0,1,2,3,4,5,6,7,8,9],[0,1,2,3,4,5,6,7,8,9,10],[0,1,2,3,4,5,6,7,8,9,10,11],[0,1,2,3,4,5,6,7,8,9,10,11,12],[0,1,2,3,4,5,6,7,8,9,10,11],[0,1,2,3,4,5,6,7,8,9,10,11,14],[0,1,2,3,4,5,6,7,8,9,10,11,12,13,14,15],[0,1,2,3,4,5,6,7,8,9,10,11,12,13,14,15,16],[0,1,2,3,4,5,6,7,8,9,10,11,12,13,14,15,16,17],[0,1,2,3,4,5,6,7,8,9,10,11],[0,1,2,3,4,5,6,7,8,9,10,11,19],[0,1,2,3,4,5,6,7,8,9,10,11],[0,1,2,3,4,5,6,7,8,9,10,11,19,20,21],[0,1,2,3,4,5,6,7,8,9,10,11,19,20,21,22],[0,1,2,3,4,5,6,7,8,9,10,11,19,20,21,22,23],[0,1,2,3,4,5,6,7,8,9,10,11,12,13,14,15,16,17,18,19,20,21,22,23,24],[0,1,2,3,4,5,6,7,8,9,10,11,12,13,14,15,16,17,18,19,20,21,22,23,24,25],[0,1,2,3,4,5,6,7,8,9,10,11,12,13,14,15,16,17,18,19,20,21,22,23,24,25,26]]) (by kernel_rfl) (by kernel_rfl) (by kernel_rfl) ?_))))
   refine Bj Bx ?_;refine B9 Cw ?_;refine Bj ty43 ?_;refine Aw ?_;refine DrawC.s (fun _ hs=>(by exact As U (.no U) (Ah hs U) (hs.tm U) (hs.tm U) Tryz.underlying43 De (fun _=>⟨by omega,(by exact Al (by assumption))⟩))) ?_;refine Bj De ?_;refine DrawC.s (fun _ hs=>Bc (FnT.fr (specl3Edge _ _)) U (.no U) (Ah hs U) (.cons (hs.tm U) (readA_sup hs U) (.cons (hs.tm U) (readA_sup hs U) .nil))) ?_;refine DrawC.s (fun _ hs=>R_not U (.no U) (Ah hs U) (hs.tm U)) ?_;refine Aw ?_;refine DrawC.s (fun _ hs=>Bh U (by exact .not1 U U (hs.slots _ _ U) (by rw [hs.n];rfl)) (Ah hs U) (.tmp (hs.slots _ _ U) (by exact fun _=>rfl))) ?_;refine DrawC.s (fun _ hs=>R_gt U (by exact .not1 U U (hs.slots _ _ U) (by rw [hs.n];rfl)) (Ah hs U) (.tmp (hs.slots _ _ U) (by exact id)) (.const U)) ?_
   refine DrawC.s (fun _ hs=>Bh U (by exact .not1 U U (hs.slots _ _ U) (by rw [hs.n];rfl)) (Ah hs U) (.tmp (hs.slots _ _ U) (by exact id))) ?_;refine DrawC.s (fun _ hs=>(by exact Cj U (by exact .yes U U (hs.slots _ _ U) (by rw [hs.n];rfl)) (Ah hs U) (.tmp (hs.slots _ _ U) (by exact fun _=>rfl)) Cw)) ?_;refine DrawC.s (fun _ hs=>(by exact Ca U (by exact .yes U U (hs.slots _ _ U) (by rw [hs.n];rfl)) (Ah hs U) (.tmp (hs.slots _ _ U) (by exact id)) ty43 U U)) ?_;refine DrawC.s (fun _ hs=>Bh U (by exact .yes U U (hs.slots _ _ U) (by rw [hs.n];rfl)) (Ah hs U) (.tmp (hs.slots _ _ U) (by exact fun _=>rfl))) ?_;refine DrawC.s (fun _ hs=>Dx U (by exact .yes U U (hs.slots _ _ U) (by rw [hs.n];rfl)) (Ah hs U) (.tmp (hs.slots _ _ U) (by exact id)) (.const U) (fun hq=>by first|omega|(simp at hq;omega))) ?_
   refine DrawC.s (fun _ hs=>(by exact As U (by exact .yes U U (hs.slots _ _ U) (by rw [hs.n];rfl)) (Ah hs U) (.tmp (hs.slots _ _ U) (by exact id)) (.tmp (hs.slots _ _ U) (by exact id)) Tryz.underlying43 De (fun hq=>by simp at hq;exact⟨by omega,Al (getD_pred (l:=g.Edges) (d:=dE) (by omega) (by omega))⟩))) ?_;refine DrawC.s (fun _ hs=>(by exact Cj U (by exact .yes U U (hs.slots _ _ U) (by rw [hs.n];rfl)) (Ah hs U) (.tmp (hs.slots _ _ U) (by exact id)) Ds)) ?_;refine DrawC.s (fun _ hs=>(by exact Ca U (by exact .yes U U (hs.slots _ _ U) (by rw [hs.n];rfl)) (Ah hs U) (.tmp (hs.slots _ _ U) (by exact id)) ty3 U U)) ?_;refine DrawC.s (fun _ hs=>(by exact Cj U (by exact .yes U U (hs.slots _ _ U) (by rw [hs.n];rfl)) (Ah hs U) (.tmp (hs.slots _ _ U) (by exact fun _=>rfl)) Cw)) ?_
   refine DrawC.s (fun _ hs=>(by exact Ca U (by exact .yes U U (hs.slots _ _ U) (by rw [hs.n];rfl)) (Ah hs U) (.tmp (hs.slots _ _ U) (by exact id)) ty43 U U)) ?_;refine DrawC.s (fun _ hs=>Bh U (by exact .yes U U (hs.slots _ _ U) (by rw [hs.n];rfl)) (Ah hs U) (.tmp (hs.slots _ _ U) (by exact fun _=>rfl))) ?_;refine DrawC.s (fun _ hs=>(by exact As U (by exact .yes U U (hs.slots _ _ U) (by rw [hs.n];rfl)) (Ah hs U) (.tmp (hs.slots _ _ U) (by exact id)) (.tmp (hs.slots _ _ U) (by exact id)) Tryz.underlying43 De (fun hq=>by (try simp at hq);exact⟨by omega,(by exact Al (by assumption))⟩))) ?_;refine DrawC.s (fun _ hs=>(by exact Cj U (by exact .yes U U (hs.slots _ _ U) (by rw [hs.n];rfl)) (Ah hs U) (.tmp (hs.slots _ _ U) (by exact id)) Ds)) ?_
   refine DrawC.s (fun _ hs=>(by exact Ca U (by exact .yes U U (hs.slots _ _ U) (by rw [hs.n];rfl)) (Ah hs U) (.tmp (hs.slots _ _ U) (by exact id)) ty3 U U)) ?_;refine DrawC.s (fun _ hs=>R_ge U (by exact .yes U U (hs.slots _ _ U) (by rw [hs.n];rfl)) (Ah hs U) (.tmp (hs.slots _ _ U) (by exact id)) (.tmp (hs.slots _ _ U) (by exact id))) ?_;refine DrawC.s (fun _ hs=>R_and U (by exact .not1 U U (hs.slots _ _ U) (by rw [hs.n];rfl)) (Ah hs U) (.tmp (hs.slots _ _ U) (by exact id)) (.tmp (hs.slots _ _ U) (by exact id))) ?_;refine DrawC.s (fun _ hs=>R_or U (.no U) (Ah hs U) (hs.tm U) (.tmp (hs.slots _ _ U) (by exact id))) ?_;refine DrawC.fin U U ?_;refine Aa (Ai (.tm U) (fun h53=>?_) (fun h53=>?_))
   · try simp at h53
     refine Ae (Ar (Av [1,4] []) ?_);refine Ac (Ak ?_);refine Aa (Am (Bp U U ?_))
     unfold validG;rw [range_not hlt1 (by simp only [edgeAt,hx1];grind)];simp
   try simp at h53
   refine Aj (Ar (Av [1,4] []) ?_);refine Ac (Ab ?_);refine A8 ?_;refine Ag ?_;refine Aa ?_;refine Round.next (k1+1) ⟨by omega,range_succ hk1.2 (by simp only [edgeAt,hx1];grind)⟩ (by omega) (Ap rfl ⟨rfl,rfl,Y⟩ trivial)
 try simp at hlt1
 refine Bb (Af (Bg Cl ?_));refine Aq Bz ?_;refine Be (.t) Tryz.underlying40 ?_;refine Bv (specl1In _ _ _) ?_;refine Ab ?_;refine AWl.fy Cw ?_;refine Dj ty43 ?_;refine Ad (Dp U (by exact .yes1 U U U U) U (.tmp U (by exact id)) (by exact .t) Tryz.underlying43) U ?_;refine Ad (R_le U (by exact .yes1 U U U U) U (.tmp U (by exact id)) (.const U)) U ?_;refine Ck ?_;refine Ag ?_;refine Aa (Am (Bp U U ?_))
 unfold validG;rw [each_all hk.2 (by omega),range_all hk1.2 (by omega)];simp;grind
theorem implIsValidGraph (g:TGraph):FnT Tryz.prog 148 [.agg (cGraph g)] (.a (.one (.v (.bool (validG g))))):=by
 refine A7 Tryz.func148 U (by kernel_rfl) Tryz.ntmps148 U fun hlen w0=>?_
 try simp [cEdge,cGraph] at hlen
 skip
 refine Af (Ad (Bm U U U (.tm U) (ts:=_) (by rfl)) U ?_);refine Ak ?_;refine Aa (Af (Bg Cl ?_));refine Aq Bz ?_;refine Be (.t) Tryz.underlying40 ?_;refine Ag ?_;refine Aa (Ae (Af (Bg Cl ?_)));refine Aq Bz ?_;refine Be (.t) Tryz.underlying40 ?_;refine Ad (Bh U (.no U) U (.const U)) U ?_;refine Aa (AW.block (C2 (β:=Nat) (fun x=>x≤(g.Values).length∧∀ j y,j<x→(g.Values)[j]?=some y→(fun v=>inB v 0 2) y=true) (fun x=>⟨_,[(14,(true,.a (.one (.t (.v (.int .i64 (x:Nat))))))),(1,_),(3,_),(12,_),(13,_)],[]⟩) (fun x=>(g.Values).length-x) (0) ⟨Nat.zero_le _,fun j y hj=>absurd hj (Nat.not_lt_zero j)⟩ (Ap U ⟨U,U,U,U,U,Y⟩ trivial) ?_));intro k hk;refine Af (AWl.lt ?_);refine Aa (Ae (Ai (.tm U) (fun hlt=>?_) (fun hlt=>?_)))
 · try simp at hlt
   obtain⟨x,hx⟩:∃ ξ,(g.Values)[k]?=some ξ:=⟨_,List.getElem?_eq_getElem (by exact hlt)⟩
   refine Aj (Ae (AW.block (Af (Ad ((As U (.no U) U (.tm U) (.tm U) Tryz.underlying40 ty3 (fun _=>⟨by omega,(by exact Al (by assumption))⟩))) U ?_))));refine Aq ty3 ?_;refine Ag ?_;refine Aa (Af (Ab ?_));refine Bv (implwithin _ _ _) ?_;refine C1 ?_;refine Aa (Ai (.tm U) (fun h20=>?_) (fun h20=>?_))
   · try simp at h20
     refine Ae (Ar (Av [1,3,5,12,13,14] []) ?_);refine Ac (Ak ?_);refine Aa (Am (Bp U U ?_))
     unfold validG;rw [not_all hx h20];rfl
   try simp at h20
   refine Aj (Ar (Av [1,3,5,12,13,14] []) ?_);refine Ac (A8 ?_);refine Ab ?_;refine Aa ?_;refine Round.next (k+1) ⟨by omega,each_succ hk.2 hx (h20)⟩ (by omega) (Ap rfl ⟨rfl,rfl,rfl,rfl,rfl,Y⟩ trivial)
 try simp at hlt
 refine Bb (Ae (Af (Bg Cw ?_)));refine Aq ty43 ?_;refine Be (.t) Tryz.underlying43 ?_;refine Ad (Bh U (.no U) U (.const U)) U ?_;refine Aa (AW.block (C2 (β:=Nat) (fun x=>x≤g.Edges.length∧∀ j,j<x→edgeAt g.Edges g.Values.length j=true) (fun x=>⟨_,[(25,(true,.a (.one (.t (.v (.int .i64 (x:Nat))))))),(1,_),(3,_),(23,_),(24,_)],[]⟩) (fun x=>g.Edges.length-x) (0) ⟨Nat.zero_le _,fun j hj=>absurd hj (Nat.not_lt_zero j)⟩ (Ap U ⟨U,U,U,U,U,Y⟩ trivial) ?_));intro k1 hk1;refine Af (AWl.lt ?_);refine Aa (Ae (Ai (.tm U) (fun hlt1=>?_) (fun hlt1=>?_)))
 · try simp at hlt1
   obtain⟨x1,hx1⟩:∃ x1,g.Edges[k1]?=some x1:=⟨_,List.getElem?_eq_getElem hlt1⟩
   refine Aj (Ae (AW.block (Af (Ab ?_))));refine Ad ((As U (.no U) U (.tm U) (.tm U) Tryz.underlying43 De (fun _=>⟨by omega,(by exact Al (by assumption))⟩))) U ?_;refine Aq De ?_;refine A6 (Bi 7 U U U in201 U U U) U ?_;refine Ag ?_;refine Az De ?_;refine Aa (Ae (B8 20 (nthB [[],[],[0,1],[0,1,2],[0,1,2,3],[0,1,2,3,4],[0,1,2,3,4,5],[0,1,2,3,4,5,6],[0,1,2,3,4,5,6,7],[0,1,2,3,4,5,6,7,8],[0,1,2,3,4,5,6,7],[0,1,2,3,4,5,6,7,10],[0,1,2,3,4,5,6,7,8,9,10,11],[0,1,2,3,4,5,6,7,8,9,10,11,12],[0,1,2,3,4,5,6,7,8,9,10,11,12,13],[0,1,2,3,4,5,6,7],[0,1,2,3,4,5,6,7,15],[0,1,2,3,4,5,6,7,8,9,10,11,12,13,14,15,16],[0,1,2,3,4,5,6,7,8,9,10,11,12,13,14,15,16,17],[0,1,2,3,4,5,6,7,8,9,10,11,12,13,14,15,16,17,18]]) (by kernel_rfl) (by kernel_rfl) (by kernel_rfl) ?_));refine DrawC.s (fun _ hs=>(by exact Bk U (.no U) (Ah hs U) (hs.tm U) (hs.res _ _ U) De U U)) ?_;refine Aw ?_
   refine DrawC.s (fun _ hs=>Bc (FnT.fr (impledgeOk _ _ (by omega) (by omega))) U (.no U) (Ah hs U) (.cons (hs.tm U) (readA_sup hs U) (.cons (hs.tm U) (readA_sup hs U) .nil))) ?_;refine DrawC.s (fun _ hs=>R_not U (.no U) (Ah hs U) (hs.tm U)) ?_;refine Aw ?_;refine DrawC.s (fun _ hs=>Bh U (by exact .not1 U U (hs.slots _ _ U) (by rw [hs.n];rfl)) (Ah hs U) (.tmp (hs.slots _ _ U) (by exact fun _=>rfl))) ?_;refine DrawC.s (fun _ hs=>R_gt U (by exact .not1 U U (hs.slots _ _ U) (by rw [hs.n];rfl)) (Ah hs U) (.tmp (hs.slots _ _ U) (by exact id)) (.const U)) ?_;refine DrawC.s (fun _ hs=>Bh U (by exact .not1 U U (hs.slots _ _ U) (by rw [hs.n];rfl)) (Ah hs U) (.tmp (hs.slots _ _ U) (by exact id))) ?_;refine DrawC.s (fun _ hs=>(by exact Cj U (by exact .yes U U (hs.slots _ _ U) (by rw [hs.n];rfl)) (Ah hs U) (.tmp (hs.slots _ _ U) (by exact fun _=>rfl)) Cw)) ?_
   refine DrawC.s (fun _ hs=>(by exact Ca U (by exact .yes U U (hs.slots _ _ U) (by rw [hs.n];rfl)) (Ah hs U) (.tmp (hs.slots _ _ U) (by exact id)) ty43 U U)) ?_;refine DrawC.s (fun _ hs=>Bh U (by exact .yes U U (hs.slots _ _ U) (by rw [hs.n];rfl)) (Ah hs U) (.tmp (hs.slots _ _ U) (by exact fun _=>rfl))) ?_;refine DrawC.s (fun _ hs=>Dx U (by exact .yes U U (hs.slots _ _ U) (by rw [hs.n];rfl)) (Ah hs U) (.tmp (hs.slots _ _ U) (by exact id)) (.const U) (fun hq=>by first|omega|(simp at hq;omega))) ?_;refine DrawC.s (fun _ hs=>(by exact As U (by exact .yes U U (hs.slots _ _ U) (by rw [hs.n];rfl)) (Ah hs U) (.tmp (hs.slots _ _ U) (by exact id)) (.tmp (hs.slots _ _ U) (by exact id)) Tryz.underlying43 De (fun hq=>by simp at hq;exact⟨by omega,Al (getD_pred (l:=g.Edges) (d:=dE) (by omega) (by omega))⟩))) ?_
   refine DrawC.s (fun _ hs=>(by exact Cj U (by exact .yes U U (hs.slots _ _ U) (by rw [hs.n];rfl)) (Ah hs U) (.tmp (hs.slots _ _ U) (by exact id)) Ds)) ?_;refine DrawC.s (fun _ hs=>(by exact Ca U (by exact .yes U U (hs.slots _ _ U) (by rw [hs.n];rfl)) (Ah hs U) (.tmp (hs.slots _ _ U) (by exact id)) ty3 U U)) ?_;refine DrawC.s (fun _ hs=>(by exact Ba U (by exact .yes U U (hs.slots _ _ U) (by rw [hs.n];rfl)) (Ah hs U) (.tmp (hs.slots _ _ U) (by exact fun _=>rfl)) Ds)) ?_;refine DrawC.s (fun _ hs=>(by exact Bk U (by exact .yes U U (hs.slots _ _ U) (by rw [hs.n];rfl)) (Ah hs U) (.tmp (hs.slots _ _ U) (by exact id)) (hs.res _ _ U) ty3 U U)) ?_;refine DrawC.s (fun _ hs=>R_ge U (by exact .yes U U (hs.slots _ _ U) (by rw [hs.n];rfl)) (Ah hs U) (.tmp (hs.slots _ _ U) (by exact id)) (.tmp (hs.slots _ _ U) (by exact id))) ?_
   refine DrawC.s (fun _ hs=>R_and U (by exact .not1 U U (hs.slots _ _ U) (by rw [hs.n];rfl)) (Ah hs U) (.tmp (hs.slots _ _ U) (by exact id)) (.tmp (hs.slots _ _ U) (by exact id))) ?_;refine DrawC.s (fun _ hs=>R_or U (.no U) (Ah hs U) (hs.tm U) (.tmp (hs.slots _ _ U) (by exact id))) ?_;refine DrawC.fin U U ?_;refine Aa (Ai (.tm U) (fun h49=>?_) (fun h49=>?_))
   · try simp at h49
     refine Ae (Ar (Av [1,3,6,7,23,24,25] [7]) ?_);refine Ac (Ak ?_);refine Aa (Am (Bp U U ?_))
     unfold validG;rw [range_not hlt1 (by simp only [edgeAt,hx1];grind)];simp
   try simp at h49
   refine Aj (Ar (Av [1,3,6,7,23,24,25] [7]) ?_);refine Ac (A8 ?_);refine Ab ?_;refine Aa ?_;refine Round.next (k1+1) ⟨by omega,range_succ hk1.2 (by simp only [edgeAt,hx1];grind)⟩ (by omega) (Ap rfl ⟨rfl,rfl,rfl,rfl,rfl,Y⟩ trivial)
 try simp at hlt1
 refine Bb (Af (Ab ?_));refine Bv (implwithin _ _ _) ?_;refine Ab ?_;refine AWl.fy Cw ?_;refine Dj ty43 ?_;refine Ad (Dp U (by exact .yes1 U U U U) U (.tmp U (by exact id)) (by exact .t) Tryz.underlying43) U ?_;refine Ad (R_le U (by exact .yes1 U U U U) U (.tmp U (by exact id)) (.const U)) U ?_;refine Ck ?_;refine Ag ?_;refine Aa (Am (Bp U U ?_))
 unfold validG;rw [each_all hk.2 (by omega),range_all hk1.2 (by omega)];simp;grind
end Go.Proofs.YtbecibmlbiebeaaGreat
namespace Go.Q
open Go.D
def reads (e:TEdge) (b:Bool):Int:=if b then 2*e.Label+1 else 2*e.Label
def stepLetter (g:TGraph) (s:TStep):Int:=if (stepEdge g s).2 then reads (stepEdge g s).1 s.Inverse else -1
def stepCost (g:TGraph) (l:List Int) (s:TStep):Int:=if stepLetter g s<0∨areCosts l=false then -1 else l[(stepLetter g s).toNat]?.getD 0
end Go.Q
namespace Go.Proofs.YtbecibmlbiebeaaGreat
open Go.RowKit Go.Q Go.D
theorem implreads (e:TEdge) (b:Bool) (h:0≤e.Label∧e.Label≤2):FnT Tryz.prog 210 [.agg (cEdge e),.one (.v (.bool b))] (.a (.one (.v (.int .i64 (reads e b))))):=by
 refine A7 Tryz.func210 U (by kernel_rfl) Tryz.ntmps210 U fun hlen w0=>?_
 try simp [cEdge,cGraph] at hlen
 refine Af (Ad (Bm U U U (.tm U) (ts:=_) (by rfl)) U ?_);refine Ak ?_;refine Aa (Ae (Af (Ab ?_)));refine Aa (Ai (.tm U) (fun h5=>?_) (fun h5=>?_))
 · try simp at h5
   refine Af (Bg fl201_3 ?_);refine Aq ty3 ?_;refine Ad (Dn U (.no U) U (.const U) (.tm U) (fun _=>by omega)) U ?_;refine A8 ?_;refine Ag ?_;refine Aa (Am (Bp U U ?_))
   simp [reads,h5]
 try simp at h5
 refine Aj (Af (Bg fl201_3 ?_));refine Aq ty3 ?_;refine Ad (Dn U (.no U) U (.const U) (.tm U) (fun _=>by omega)) U ?_;refine Ag ?_;refine Aa (Am (Bp U U ?_))
 simp [reads,h5]
end Go.Proofs.YtbecibmlbiebeaaGreat
namespace Go.Q
open Go.D
end Go.Q
namespace Go.Proofs.YtbecibmlbiebeaaGreat
open Go.RowKit Go.Q Go.D
end Go.Proofs.YtbecibmlbiebeaaGreat
