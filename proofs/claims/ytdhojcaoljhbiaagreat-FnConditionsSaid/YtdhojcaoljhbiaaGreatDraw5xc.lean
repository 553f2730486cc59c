import Derived.Test.YtdhojcaoljhbiaaGreatKnnxc
import Derived.Test.YtdhojcaoljhbiaaGreatAbsOxc
import Derived.Test.YtdhojcaoljhbiaaGreatOpenBxc
import Derived.Test.YtdhojcaoljhbiaaGreatB18xc
set_option linter.unusedVariables false
set_option linter.unusedSimpArgs false
set_option maxRecDepth 100000
set_option maxHeartbeats 1000000
open List renaming all_eq_true->Z9,mem_range->ZD,mem_cons->ZG,toArray->ZJ,mem_singleton->ZL,range->ZQ,getElem?_eq_some_iff->ZS,any_eq_true->ZU,map_cons->ZV,getElem?_eq_getElem->ZX,mem_append->ZY,countP_eq_length->ZZ,length_range->Aaa,length_map->Aab,mem_of_getElem?->Aah,nodup_nil->Aak,contains_iff_mem->Aao
open Bool renaming and_eq_true->ZA,false_or->ZH,or_eq_true->ZO,not_eq_true'->ZT
open Nat renaming beq->ZB,blt->ZC,eq_of_beq_eq_true->ZE,ble->ZK,le_of_ble_eq_true->ZM,beq_refl->ZR,le_trans->ZW,lt_of_lt_of_le->Aad,and_le_right->Aaf,le_refl->Aai
open Array renaming replicate->ZF
open BitVec renaming ofInt->ZI,toNat_and->Aae
open Go.Value renaming pointer->ZN
open Go.Proofs.Tryz renaming prog->ZP,func33->Aag,func137->Aaj,underlying40->Aan,ntmps33->Aap,ntmps137->Aaq,func74->Aar,ntmps74->Aas,func75->Aat,ntmps75->Aau,func106->Aav,ntmps106->Aaw
open Int renaming emod_nonneg->Aal,emod_lt_of_pos->Aam
namespace Go.Q
open Go.RowKit Go.Proofs.YtdhojcaoljhbiaaGreat
section
variable {P:Program} {ops:Array Oper} {o:Oper} {σ:St} {τ:Type}
def Tl (w:World) (g:Nat×Value):Prop:=CuB (fun b=>b<w.heap.size∧b≠g.1) w g∧DJ w g.1
def Yk (w:World) (g:Nat×Value) (p:τ→Prop) (out:τ→V) (e:Ending) (w':World):Prop:=
 ∃ x v F,e=.returned v∧p x∧Vr true w' (out x) v F∧F.Nodup∧(∀ b∈F,w.heap.size≤b∧DJ w' b)∧Chg w w' [g.1]∧Tl w' g
def FnD (P:Program) (f:FuncId) (ins:List V0) (p:τ→Prop) (out:τ→V):Prop:=
 Ek P f∧∀ w g vs F,Good w [g.1]→Tl w g→V0s false w ins vs F→g.1∉F→Calls P f (ZJ (.pointer (some ⟨g.1,0,none⟩)::vs)) w (Yk w g p out)
def FnE (P:Program) (f:FuncId) (ins:List V0) (p:τ→Prop) (out:τ→V):Prop:=
 Ek P f∧∀ w vs F,Good w []→V0s false w ins vs F→Calls P f (ZJ vs) w fun e w'=>∃ x,p x∧O5 w (out x) e w'
def FnN (P:Program) (f:FuncId):Prop:=
 Ek P f∧∀ w v F bs,Good w []→C false w (.sl 1 (byR bs)) v F→(∀ n∈bs,0≤n∧n<256)→Calls P f #[v] w fun e w'=>∃ g i h t,e=.returned (.pointer (some ⟨g,0,none⟩))∧w.heap.size≤g∧DJ w' g∧w'.heap[g]?=some (.cells #[v,.int .i64 i,.int .i64 h] t (0,0))∧0≤i∧Ext w w'
theorem OW:∀ (l:List (Nat×R)) (u:Nat) (r:R),look l u=some r→FA l u r=l
 | [],_,_,h=>by cases h
 | (j,y)::l,u,r,h=>by
  rw [AF] at h
  rw [FA]
  by_cases e:j=u
  · subst e;rw [if_pos rfl] at h;cases h;simp [ZR]
  rw [if_neg e] at h
  rw [Fw e,cond_false,OW l u r h]
theorem V0s.c {w:World} {FF:List Nat}:∀ {ins:List V0} {vs:List Value} {F:List Nat},V0s false w ins vs F→(∀ b∈F,b∉FF)→V0c w FF (ins.map fun x=>(false,x)) vs []
 | [],vs,F,⟨h,_⟩,_=>⟨h,rfl⟩
 | x::r,vs,F,⟨v,vr,G1,G2,h1,h2,h3,h4⟩,hF=>by
  subst h4
  exact⟨v,vr,G1,[],h1,h2,h3.c fun b hb=>hF b (by simp [hb]),by simpa using fun b hb=>hF b (by simp [hb])⟩
def Ev (P:Program) (fn:Func) (g:Nat×Value) (p:τ→Prop) (out:τ→V) (σ:St):Prop:=∃ x,p x∧look σ.res 888888=some (.cur g)∧Res P fn true (out x) ⟨σ.n,σ.slots,Iw σ.res 888888⟩
def Z6 (P:Program) (fn:Func) (g:Nat×Value) (p:τ→Prop) (out:τ→V):Exit→St→Prop
 | .normal,σ=>Ev P fn g p out σ
 | .ret,σ=>Ev P fn g p out σ
 | _,_=>False
def Z5 (P:Program) (fn:Func) (p:τ→Prop) (out:τ→V):Exit→St→Prop
 | .normal,σ=>∃ x,p x∧Res P fn true (out x) σ
 | .ret,σ=>∃ x,p x∧Res P fn true (out x) σ
 | _,_=>False
theorem Ev.mk {fn:Func} {g:Nat×Value} {p:τ→Prop} {out:τ→V} {σ:St} {x:τ} (hc:look σ.res 888888=some (.cur g)) (h:Res P fn true (out x) ⟨σ.n,σ.slots,Iw σ.res 888888⟩) (hp:p x):Ev P fn g p out σ:=⟨x,hp,hc,h⟩
theorem ERes.mk {fn:Func} {p:τ→Prop} {out:τ→V} {σ:St} {x:τ} (h:Res P fn true (out x) σ) (hp:p x):∃ x,p x∧Res P fn true (out x) σ:=⟨x,hp,h⟩
theorem FnE.walk {n:Nat} {f:FuncId} {fn:Func} {c:Code} {ins:List V0} {p:τ→Prop} {out:τ→V} (hf:P.funcs[f]?=some fn) (hb:fn.body=some c) (hname:(fn.name == "runtime.NumGoroutine")=false) (hnt:fn.ntmps=n) (hn:ZK ins.length n=true)
 (h:∀ w0,AW P w0 c (Z5 P fn p out) (st0 n ins)):FnE P f ins p out:=by
 subst hnt
 refine⟨⟨fn,hf,hname,by rw [hb];rfl⟩,fun w vs F hG hv=>?_⟩
 refine calls_of_wp hf hb (Code.wp_mono ?_ (h ⟨w,[],hG⟩ _ _ (Vj hG hv hn)))
 rintro e a' w' ⟨σ,h1,I,hI⟩
 have key:(∃ x,p x∧Res P fn true (out x) σ)→a'.defers=[]∧∃ v,(results fn a'.tmps).run P w'=.ok v w'∧∃ x,p x∧O5 w (out x) (.returned v) w':=fun ⟨x,hp,h1⟩=>by
  obtain⟨v,F,g1,g2,g3⟩:=h1 I ⟨w,[],hG⟩ a' w' hI
  exact⟨hI.defers,v,g1,x,hp,v,F,rfl,g2,(g3.2 rfl).1,fun b hb=>⟨(g3.1 b hb).resolve_right (by simp),(g3.2 rfl).2 b hb⟩,hI.ext.toExt⟩
 cases e with
 | normal=>exact key h1
 | ret=>exact key h1
 | exit id=>exact h1.elim
 | goto l=>exact h1.elim
 | panic c=>exact h1.elim
 | outgrown=>exact h1.elim
theorem OR {α:Type} (l:Array α) (n k:Nat) (h:n≤l.size) (hk:k<n):(l.extract 0 n)[k]?=l[k]?:=by
 rw [Array.getElem?_extract]
 simp
 omega
theorem FnD.walk {n:Nat} {f:FuncId} {fn:Func} {c:Code} {ins:List V0} {p:τ→Prop} {out:τ→V} {σ':Nat×Value→St} (hf:P.funcs[f]?=some fn) (hb:fn.body=some c) (hname:(fn.name == "runtime.NumGoroutine")=false) (hnt:fn.ntmps=n) (hn:ZK (ins.length+1) n=true)
 (hi:∀ g,IE 1 (ins.map fun x=>(false,x)) ⟨n,[(0,(true,.a (.one (.pp 888888 0))))],[(888888,.cur g)]⟩=some (σ' g)) (h:∀ w0 g,AW P w0 c (Z6 P fn g p out) (σ' g)):FnD P f ins p out:=by
 subst hnt
 refine⟨⟨fn,hf,hname,by rw [hb];rfl⟩,fun w g vs F hG hC hv hgF=>?_⟩
 have hv':=hv.c (FF:=[g.1]) fun b hb hm=>hgF (by simp only [ZL] at hm;rwa [←hm])
 have hl:vs.length=ins.length:=by simpa using hv'.len
 have hn':ins.length+1≤fn.ntmps:=ZM hn
 have hglt:g.1<w.heap.size:=hC.1.lt
 let a0:Act:=⟨(ZJ (.pointer (some ⟨g.1,0,none⟩)::vs))++ZF (fn.ntmps-(ZJ (ZN (some ⟨g.1,0,none⟩)::vs)).size) undef,[]⟩
 let I0:Ip:=⟨fun b=>b<w.heap.size∧b≠g.1,fun i=>if i=888888 then [g.1] else [],fun _=>undef,fun i=>if i=888888 then g.1 else 0⟩
 have hget:∀ (j:Nat) v,(ZN (some ⟨g.1,0,none⟩)::vs)[j]?=some v→a0.tmps.getD j undef=v:=fun j v hj=>by
  have hjl:=(ZS.1 hj).1
  simp only [a0]
  rw [Array.getD_eq_getD_getElem?,Array.getElem?_append_left (by simpa using hjl)]
  have:(ZJ (ZN (some ⟨g.1,0,none⟩)::vs))[j]?=some v:=by simpa using hj
  rw [this];rfl
 have hr0:AU I0 ⟨w,[g.1],hG⟩ ⟨fn.ntmps,[(0,(true,.a (.one (.pp 888888 0))))],[(888888,.cur g)]⟩ a0 w:=by
  have key:∀ i r,look [(888888,R.cur g)] i=some r→i=888888∧r=.cur g:=fun i r hi=>by
   rw [AF] at hi
   split at hi
   · rename_i e;cases hi;exact⟨e.symm,rfl⟩
   cases hi
  refine⟨Chg.refl w [g.1],rfl,by simp [a0,hl];omega,fun i z hi=>?_,fun id r hi=>?_,fun b hb=>hb.1,fun id b hb=>?_,fun id r hi=>?_,fun i j hne b hb hb'=>?_⟩
  · rw [AF] at hi
    split at hi
    · rename_i e
      subst e;cases hi;exact hget 0 _ rfl
    cases hi
  · obtain⟨rfl,rfl⟩:=key id r hi
    exact⟨rfl,rfl,hC.1⟩
  · simp only [I0] at hb ⊢
    split at hb
    · simp only [ZL] at hb;subst hb;exact⟨hglt,fun h=>h.2 rfl⟩
    cases hb
  · obtain⟨rfl,rfl⟩:=key id r hi
    refine⟨by simp [I0],fun b hb=>?_⟩
    have:b=g.1:=by simpa [I0] using hb
    subst this
    exact⟨.inr (by simp),hC.2⟩
  simp only [I0] at hb hb'
  split at hb
  · split at hb'
    · omega
    cases hb'
  cases hb
 obtain⟨I1,r1⟩:=FZ (FF:=[g.1]) (fun _ _ _=>trivial) (hi g) hr0 (fun b h1 h2=>⟨h1,fun e=>h2 (by simp [e])⟩) hv' (by simp) (fun b hb=>by cases hb) fun j v hj=>hget (1+j) v (by rw [Nat.add_comm];simpa using hj)
 refine calls_of_wp hf hb (Code.wp_mono ?_ (h ⟨w,[g.1],hG⟩ g _ _ ⟨I1,r1⟩))
 rintro e a' w' ⟨σ1,h1,I,hI⟩
 have key:Ev P fn g p out σ1→a'.defers=[]∧∃ v,(results fn a'.tmps).run P w'=.ok v w'∧Yk w g p out (.returned v) w':=fun ⟨x,hp,hcur,h1⟩=>by
  obtain⟨hF,hB,hcu⟩:I.F 888888=[g.1]∧I.B 888888=g.1∧CuB I.Z w' g:=hI.res _ _ hcur
  have hsz:w.heap.size≤w'.heap.size:=hI.ext.size
  let W:World:={ w' with heap:=w'.heap.extract 0 w.heap.size }
  have hW:W.heap.size=w.heap.size:=by simp [W];omega
  have hWk:∀ k,k<w.heap.size→W.heap[k]?=w'.heap[k]?:=fun k hk=>OR _ _ _ hsz hk
  have hGW:Good W []:=hG.step (Nat.le_of_eq hW.symm) (fun k hk hn=>(hWk k hk).trans (hI.ext.block k hk hn)) fun b hb=>by cases hb
  have hI2:AU I ⟨W,[],hGW⟩ ⟨σ1.n,σ1.slots,Iw σ1.res 888888⟩ a' w':=by
   refine⟨⟨rfl,rfl,rfl,by rw [hW];exact hsz,fun k hk _=>?_⟩,hI.defers,hI.size,hI.slots,fun id r hr=>hI.res id r (DW _ _ _ _ hr).2,hI.old,hI.lt,fun id r hr=>?_,hI.apart⟩
   · rw [hW] at hk;exact (hWk k hk).symm
   obtain⟨e1,e2⟩:=DW _ _ _ _ hr
   refine⟨(hI.own id r e2).1,fun b hb=>⟨?_,((hI.own id r e2).2 b hb).2⟩⟩
   rcases ((hI.own id r e2).2 b hb).1 with h|h
   · left;show W.heap.size≤b;rw [hW];exact h
   exfalso
   have:b=g.1:=by simpa using h
   subst this;exact hI.apart id 888888 e1 _ hb (by rw [hF];simp)
  obtain⟨v,F,g1,g2,g3⟩:=h1 I ⟨W,[],hGW⟩ a' w' hI2
  refine⟨hI.defers,v,g1,x,v,F,rfl,hp,g2,(g3.2 rfl).1,fun b hb=>⟨?_,(g3.2 rfl).2 b hb⟩,hI.ext,?_,?_⟩
  · have:=(g3.1 b hb).resolve_right (by simp)
    rwa [show (BB.W ⟨W,[],hGW⟩).heap.size=w.heap.size from hW] at this
  · refine hcu.congr rfl fun b _ hz=>⟨⟨hI.old b hz,fun e=>?_⟩,rfl⟩
    subst e;exact (hI.lt 888888 _ (by rw [hF];simp)).2 hz
  exact ((hI.own 888888 _ hcur).2 g.1 (by rw [hF];simp)).2
 cases e with
 | normal=>exact key h1
 | ret=>exact key h1
 | exit id=>exact h1.elim
 | goto l=>exact h1.elim
 | panic c=>exact h1.elim
 | outgrown=>exact h1.elim
def Pb (u:Nat) (σ:St):E→Option T
 | .t x=>some x
 | .vw id x=>bif ZB id u then none else some x
 | .rf id=>match look σ.res id with|some (.row k rows)=>some (.sl k rows)|_=>none
 | _=>none
def PV (u:Nat) (σ:St):A→Option V0
 | .one e=>match Pb u σ e with|some t=>some (.one t)|none=>none
 | .agg l=>match Hu (Pb u σ) l with|some ts=>some (.agg ts)|none=>none
inductive O6 (σ:St) (u:Nat) (q:Bool):List Operand→List V0→Prop where
 | nil:O6 σ u q [] []
 | cons {x:Operand} {A0:A} {v:V0} {l:List Operand} {vs:List V0} (hx:Get σ q x A0) (hv:PV u σ A0=some v) (h:O6 σ u q l vs):O6 σ u q (x::l) (v::vs)
section
variable {I:Ip} {w0:BB} {w:World} {a:Act} {u:Nat} {g:Nat×Value}
theorem Re (hr:AU I w0 σ a w) (hu:look σ.res u=some (.cur g)) {e:E} {t:T} {c:Value} (h:Pb u σ e=some t) (hv:VE I w e c):∃ G,C false w t c G∧∀ b∈G,b∉I.F u:=by
 cases e with
 | t x=>cases h;obtain⟨G,h1,h2⟩:=hv;exact⟨G,h1,fun b hb hm=>(hr.lt u b hm).2 (h2 b hb)⟩
 | vw id x=>
  rw [Pb] at h
  cases hb:ZB id u with
  | true=>rw [hb] at h;cases h
  | false=>
   rw [hb] at h;cases h
   obtain⟨G,h1,h2⟩:=hv
   exact⟨G,h1,fun b hb'=>hr.apart id u (BT hb) b (h2 b hb')⟩
 | rf id=>
  rw [Pb] at h
  split at h
  · rename_i k rows h0
    cases h
    have hc:c=I.hd id:=hv.1
    have hne:id≠u:=fun e=>by subst e;rw [hu] at h0;cases h0
    rw [hc];exact⟨_,C.read (show C true w (.sl k rows) _ _ from hr.res id _ h0),hr.apart id u hne⟩
  cases h
 | pp id off=>cases h
 | pr id k i j=>cases h
 | sb id k i j=>cases h
 | tl id k j=>cases h
 | pf id k j=>cases h
 | no=>cases h
theorem T8 (hr:AU I w0 σ a w) (hu:look σ.res u=some (.cur g)):∀ {l:List E} {ts:List T} {cs:List Value},Hu (Pb u σ) l=some ts→VEs I w l cs→∃ G,Cs false w ts cs G∧∀ b∈G,b∉I.F u
 | [],ts,cs,h,hv=>by cases h;exact⟨[],by unfold Cs;exact⟨hv,rfl⟩,fun _ hb=>by cases hb⟩
 | e::r,ts,cs,h,hv=>by
  obtain⟨c,cr,rfl,h1,h2⟩:=hv
  rw [Hu] at h
  split at h
  · rename_i t e1
    split at h
    · rename_i ts' e2
      cases h
      obtain⟨G1,g1,k1⟩:=Re hr hu e1 h1
      obtain⟨G2,g2,k2⟩:=T8 hr hu e2 h2
      exact⟨G1++G2,by unfold Cs;exact⟨c,cr,G1,G2,rfl,g1,g2,rfl⟩,fun b hb=>(ZY.1 hb).elim (k1 b) (k2 b)⟩
    cases h
  cases h
theorem Uw (hr:AU I w0 σ a w) (hu:look σ.res u=some (.cur g)) {x:A} {t:V0} {v:Value} (h:PV u σ x=some t) (hv:VA I w x v):∃ G,V0r false w t v G∧∀ b∈G,b∉I.F u:=by
 cases x with
 | one e=>
  rw [PV] at h
  split at h
  · rename_i t' h1;cases h;exact Re hr hu h1 hv
  cases h
 | agg l=>
  rw [PV] at h
  split at h
  · rename_i ts h1;cases h
    obtain⟨cs,h2,h3⟩:=hv
    obtain⟨G,h4,h5⟩:=T8 hr hu h1 h3
    exact⟨G,⟨cs,h2,h4⟩,h5⟩
  cases h
theorem O6.ok {l:List Operand} {ins:List V0} (h:O6 σ u true l ins) (hr:AU I w0 σ a w) (hu:look σ.res u=some (.cur g)):∃ F,V0s false w ins (l.map a.eval) F∧∀ b∈F,b∉I.F u:=by
 induction h with
 | nil=>exact⟨[],⟨rfl,rfl⟩,fun _ hb=>by cases hb⟩
 | cons hx hv h ih=>
  obtain⟨F,ih,k1⟩:=ih
  obtain⟨G,hg,k2⟩:=Uw hr hu hv (hx.va hr rfl)
  exact⟨G++F,⟨_,_,G,F,rfl,hg,ih,rfl⟩,fun b hb=>(ZY.1 hb).elim (k2 b) (k1 b)⟩
theorem AU.moved (hr:AU I w0 σ a w) (hu:look σ.res u=some (.cur g)) (hn:nvB u σ.slots σ.res=true) {w':World} (hc:Chg w w' [g.1]) (hg:Tl w' g) (hZ:∀ b,I.Z b→b≠g.1) (hcu:CuB I.Z w' g):∃ I',AU I' w0 σ a w'∧I'.Z=I.Z∧I'.F=I.F:=by
 obtain⟨hF,hB,_⟩:I.F u=[g.1]∧I.B u=g.1∧CuB I.Z w g:=hr.res _ _ hu
 have h:=hr.upd (w':=w') hu (by rw [hF];exact hc) (G:=[g.1]) (r:=.cur g) ⟨by simp,fun b hb=>?_⟩ ⟨by simp [Ip.set],by simp [Ip.set,hB],hcu⟩
 · rw [Sn hn,OW _ _ _ hu] at h
   refine⟨_,h,rfl,?_⟩
   funext i
   simp only [Ip.set]
   split
   · rename_i e;rw [e,hF]
   rfl
 simp only [ZL] at hb
 subst hb
 exact⟨((hr.own u _ hu).2 _ (by rw [hF];simp)).1,hcu.lt,hg.2,.inl (by rw [hF];simp)⟩
end
theorem Wz {f:FuncId} {x:Operand} {l:List Operand} {tys:Array TypeId} {ins:List V0} {p:τ→Prop} {out:τ→V} {g:Nat×Value} {u:Nat} {y:τ→S} {rs:τ→List (Nat×R)} (n:Nat) (h:FnD P f ins p out) (ho:o.op=.call { callee:=.value (.func f),args:=(x::l).toArray,argTypes:=tys }) (hg:Grd ops o σ true) (hd:o.dst.all (fun d=>ZC d σ.n)=true)
 (hx:Get σ true x (.one (.pp u 0))) (hu:look σ.res u=some (.cur g)) (hn:nvB u σ.slots σ.res=true) (ha:O6 σ u true l ins) (hout:∀ z,OE n (out z)=some (y z,rs z)) (hf:∀ z,((rs z).all fun x=>!σ.has x.1)=true):OpE P ops o σ fun σ'=>∃ z,p z∧σ'=(σ.adds (rs z)).put o.dst (true,y z):=by
 rintro w0 a w ⟨I,hr⟩ K Q hK
 rw [hg.wanted hr]
 simp only [if_true]
 obtain⟨hF,hB,hcu⟩:I.F u=[g.1]∧I.B u=g.1∧CuB I.Z w g:=hr.res _ _ hu
 obtain⟨F,hV,hap⟩:=ha.ok hr hu
 have hv:a.eval x=.pointer (some ⟨g.1,0,none⟩):=by
  have:a.eval x=.pointer (some ⟨I.B u,0,none⟩):=hx.va hr rfl
  rw [this,hB]
 have hZg:∀ b,I.Z b→b≠g.1:=fun b hz e=>by subst e;exact (hr.lt u _ (by rw [hF];simp)).2 hz
 have hgo:=(hr.own u _ hu).2 g.1 (by rw [hF];simp)
 have hok:Tl w g:=⟨hcu.congr rfl fun b _ hz=>⟨⟨hr.old b hz,hZg b hz⟩,rfl⟩,hgo.2⟩
 have hgood:Good w [g.1]:=hr.goodF fun b hb=>by simp only [ZL] at hb;subst hb;exact hgo.1
 unfold Oper.wp
 rw [Et h.1 ho,ZV,hv]
 refine (h.2 w g _ F hgood hok hV (fun hm=>hap g.1 hm (by rw [hF];simp))).mono fun e w' hR=>?_
 obtain⟨z,v,G,rfl,hp,h1,h2,h3,h4,h5⟩:=hR
 have hsize:=h4.size
 have hcu':CuB I.Z w' g:=by
  obtain⟨i,m,t,G0,bs,k1,k2,k3,k4,k5⟩:=hcu
  obtain⟨i',m',t',G0',bs',j1,j2,j3,j4,j5⟩:=h5.1
  exact⟨i',m',t',G0,bs,j1,k2.congr fun b hb=>h4.block b (k2.lt b hb) (by simpa using hZg b (k3 b hb)),k3,j4,k5⟩
 obtain⟨I',hr',hZ',hF'⟩:=hr.moved hu hn h4 h5 hZg hcu'
 obtain⟨I2,g1,g2⟩:=JG (hout z) (hf z) hr' h1 h2 fun b hb=>⟨.inl (ZW hr.ext.size (h3 b hb).1),(Vr.lt h1 b hb),(h3 b hb).2,fun hz=>by rw [hZ'] at hz;have:=hr.old b hz;have:=(h3 b hb).1;omega,fun i hi=>by rw [hF'] at hi;have:=(hr.lt i b hi).1;have:=(h3 b hb).1;omega⟩
 refine hK _ _ _ ⟨z,hp,rfl⟩ ⟨I2,g1.put ?_ g2⟩
 have:(σ.adds (rs z)).n=σ.n:=KG (rs z)
 rw [this];exact hd
theorem Bo {f:FuncId} {x:Operand} {l:List Operand} {tys:Array TypeId} {ins:List V0} {p:τ→Prop} {out:τ→V} {g:Nat×Value} {u:Nat} {y:τ→S} {rs:τ→List (Nat×R)} (n:Nat) (h:FnD P f ins p out) (ho:o.op=.call { callee:=.value (.func f),args:=(x::l).toArray,argTypes:=tys }) (hg:o.guard=none) (hd:o.dst.all (fun d=>ZC d σ.n)=true)
 (hx:Get σ true x (.one (.pp u 0))) (hu:look σ.res u=some (.cur g)) (hn:nvB u σ.slots σ.res=true) (ha:O6 σ u true l ins) (hout:∀ z,OE n (out z)=some (y z,rs z)) (hf:∀ z,((rs z).all fun x=>!σ.has x.1)=true):OpE P ops o σ fun σ'=>∃ z,p z∧σ'=(σ.adds (rs z)).put o.dst (true,y z):=
 Wz n h ho (.no hg) hd hx hu hn ha hout hf
theorem JX {f:FuncId} {l:List Operand} {tys:Array TypeId} {ins:List V0} {p:τ→Prop} {out:τ→V} {y:τ→S} {rs:τ→List (Nat×R)} (n:Nat) (h:FnE P f ins p out) (ho:o.op=.call { callee:=.value (.func f),args:=l.toArray,argTypes:=tys }) (hg:o.guard=none) (hd:o.dst.all (fun d=>ZC d σ.n)=true)
 (ha:L0 σ true l ins) (hout:∀ z,OE n (out z)=some (y z,rs z)) (hf:∀ z,((rs z).all fun x=>!σ.has x.1)=true):OpE P ops o σ fun σ'=>∃ z,p z∧σ'=(σ.adds (rs z)).put o.dst (true,y z):=by
 rintro w0 a w ⟨I,hr⟩ K Q hK
 simp only [Region.wanted,hg,if_true]
 obtain⟨F,hF⟩:=ha.ok hr rfl
 unfold Oper.wp
 rw [Et h.1 ho]
 refine (h.2 w _ F hr.good hF).mono fun e w' hR=>?_
 obtain⟨z,hp,v,G,rfl,h1,h2,h3,h4⟩:=hR
 obtain⟨I',g1,g2⟩:=JG (hout z) (hf z) (hr.later h4) h1 h2 fun b hb=>⟨.inl (ZW hr.ext.size (h3 b hb).1),(Vr.lt h1 b hb),(h3 b hb).2,fun hz=>by have:=hr.old b hz;have:=(h3 b hb).1;omega,fun i hi=>by have:=(hr.lt i b hi).1;have:=(h3 b hb).1;omega⟩
 refine hK _ _ _ ⟨z,hp,rfl⟩ ⟨I',g1.put ?_ g2⟩
 have:(σ.adds (rs z)).n=σ.n:=KG (rs z)
 rw [this];exact hd
theorem XH {f:FuncId} {x:Operand} {tys:Array TypeId} {bs:List Int} (u:Nat) (h:FnN P f) (ho:o.op=.call { callee:=.value (.func f),args:=[x].toArray,argTypes:=tys }) (hg:o.guard=none) (hd:o.dst.all (fun d=>ZC d σ.n)=true)
 (hx:Get σ true x (.one (.t (.sl 1 (byR bs))))) (hb:∀ n∈bs,0≤n∧n<256) (hf:σ.has u=false):OpE P ops o σ fun σ'=>∃ g,σ'=(σ.add u (.cur g)).put o.dst (true,.a (.one (.pp u 0))):=by
 rintro w0 a w ⟨I,hr⟩ K Q hK
 simp only [Region.wanted,hg,if_true]
 obtain⟨G,hC,hZ⟩:VE I w (.t (.sl 1 (byR bs))) (a.eval x):=hx.va hr rfl
 unfold Oper.wp
 rw [Et h.1 ho]
 refine (h.2 w _ G bs hr.good hC hb).mono fun e w' hR=>?_
 obtain⟨g,i,m,t,rfl,h1,h2,h3,h4,h5⟩:=hR
 have hlt:g<w'.heap.size:=(Array.getElem?_eq_some_iff.1 h3).1
 have hr':=hr.add (id:=u) hf h5 (G:=[g]) (u:=undef) (b:=g) (r:=.cur (g,a.eval x)) ⟨by simp,fun b hb=>by simp only [ZL] at hb;subst hb;exact⟨h1,hlt,h2⟩⟩
  ⟨by simp [Ip.set],by simp [Ip.set],i,m,t,G,bs,h3,hC.mono h5,hZ,h4,hb⟩
 exact hK _ _ _ ⟨(g,a.eval x),rfl⟩ ⟨_,hr'.put hd (by show ZN _=ZN _;simp [Ip.set])⟩
end
section
variable {P:Program}
def W5 (Φ:St→Prop):Exit→St→Prop
 | .normal,σ=>∃ σt,Φ σt∧Le σ σt
 | _,_=>False
theorem W5.run {ops:Array Oper} {o:Oper} {σ:St} {Φ:St→Prop} (h:∀ w0,AWl P w0 ops (W5 Φ) [o] σ) {w0:BB} {a:Act} {w:World} (hr:Rel w0 σ a w) (K:Act→World→Prop) (Q:Exit→Act→World→Prop) (hK:∀ a' w' σ',Φ σ'→Rel w0 σ' a' w'→K a' w') :
 if Region.wanted o (yielded ops a.tmps) then o.wp P a w K Q else K (a.put o.dst undef) w:=by
 have h1:=h w0 a w hr
 unfold wpList at h1
 have hN:∀ a' w',wpList P ops (lift w0 (W5 Φ)) [] a' w'→K a' w':=fun a' w' h=>by
  obtain⟨σ',⟨σt,h2,h4⟩,h3⟩:=h
  exact hK a' w' σt h2 (h4 w0 a' w' h3)
 have hF:∀ e a' w',e≠Exit.normal→lift w0 (W5 Φ) e a' w'→False:=fun e a' w' he h=>by
  obtain⟨σ',h2,h3⟩:=h
  cases e<;>first|exact he rfl|exact h2
 have hL:LetsOut (lift w0 (W5 Φ))→False:=fun ⟨a',w',h⟩=>hF _ a' w' (by simp) h
 split
 · rename_i hw
   rw [if_pos hw] at h1
   rcases h1 with h1|⟨_,h1⟩
   · unfold Oper.wp at *
     generalize (execOp a.eval o).run P w=r at *
     cases r with
     | ok n w'=>
      cases n<;>simp only [Oper.upon] at h1 ⊢<;>
       first
        | exact hN _ _ h1
        | exact Calls.mono h1 (fun e w'' he=>by cases e<;>first|exact hN _ _ he|exact (hL he).elim|exact (hF _ _ _ (by simp) he).elim)
        | exact Rows.mono h1 (fun _ _ he=>hN _ _ he)
     | halt x w'=>cases x<;>simp only [Oper.upon] at h1 ⊢<;>first|exact h1.elim|exact (hF _ _ _ (by simp) h1).elim
   exact (hL h1).elim
 rename_i hw
 rw [if_neg hw] at h1
 exact hN _ _ h1
def Stp (P:Program) (l:List Oper) (o:Oper) (Φ:St→Prop) (σ:St):Prop:=∀ w0 a w,Rel w0 σ a w→∀ (K:Act→World→Prop) (Q:Exit→Act→World→Prop),(∀ a' w' σ',Φ σ'→Rel w0 σ' a' w'→K a' w')→
 if Region.wanted o (yielded l.toArray a.tmps) then o.wp P a w K Q else K (a.put o.dst undef) w
theorem AW.dagP {w0:BB} {Q:Exit→St→Prop} {σ:St} {id:Nat} {l:List Oper} (N k:Nat) (ms:List (List Nat)) (es:List (Nat×Nat×Nat)) (st:Nat→St→Prop) (hm:P.follows .mixedOrders=true) (hB:E7 l.toArray N=true) (hP:UG l N ms es k=true)
 (hes:∀ e∈es,∀ o,l[e.2.1]?=some o→∀ σ,st e.1 σ→Stp P l o (st e.2.2) σ) (hσ:st 0 σ) (hfin:∀ σ',st k σ'→AWl P w0 l.toArray Q (l.drop N) σ'):AW P w0 (.region id l.toArray true) Q σ:=by
 intro a w hr;refine wp_region_any hm ?_
 simp only [UG,ZA] at hP
 obtain⟨hP,hms⟩:=hP
 have hms0:ms[0]?=some []:=by
  match ms,hms with
  | []::_,_=>rfl
 have hlN:N≤l.length:=by
  have hB':=hB
  simp only [E7,ZA,decide_eq_true_eq] at hB'
  simpa using hB'.1.1.1
 have hdep:∀ i o,i<N→l[i]?=some o→∀ j∈Gu o,j<N:=fun i o hi ho j hj=>by
  have hB':=hB
  simp only [E7,ZA,decide_eq_true_eq] at hB'
  have:=Z9.1 hB'.1.1.2 i (ZD.2 hi)
  have ho':l.toArray[i]?=some o:=by simpa using ho
  rw [ho'] at this
  have:=Z9.1 this j hj
  simp only [decide_eq_true_eq] at this
  omega
 have hat:∀ (b:Nat) (m:List Nat),ms[b]?=some m→((∀ i,i<N→BI m i=false→∀ o,l[i]?=some o→(∀ j∈Gu o,BI m j=true)→∃ e∈es,e.1=b∧e.2.1=i∧∃ m',ms[e.2.2]?=some m'∧∀ j,j<N→BI m' j=(ZB j i||BI m j))∧((∀ i,i<N→BI m i=true)→b=k)):=by
  intro b m hb
  have:=Z9.1 hP b (ZD.2 (ZS.1 hb).1)
  rw [hb] at this
  simp only [ZA] at this
  refine⟨fun i hi hu o ho hd=>?_,fun hall=>?_⟩
  · have:=Z9.1 this.1 i (ZD.2 hi)
    rw [hu,ZH,ho] at this
    simp only [ZO,ZT] at this
    rcases this with h|h
    · rw [Z9.2 hd] at h;cases h
    obtain⟨e,he,h⟩:=ZU.1 h
    simp only [ZA] at h
    obtain⟨⟨h1,h2⟩,h3⟩:=h
    refine⟨e,he,ZE h1,ZE h2,?_⟩
    split at h3
    · cases h3
    rename_i m' hm'
    exact⟨m',hm',fun j hj=>by simpa using Z9.1 h3 j (ZD.2 hj)⟩
  have h2:=this.2
  simp only [ZO] at h2
  rcases h2 with h|h
  · exact ZE h
  obtain⟨i,hi,h⟩:=ZU.1 h
  rw [hall i (ZD.1 hi)] at h;cases h
 have H:=Gz (P:=P) (Q:=lift w0 Q) (J:=fun listed a w=>∃ b m,ms[b]?=some m∧(∀ j,j<N→BI m j=listed.getD j false)∧∃ σ,st b σ∧Rel w0 σ a w) hB (fun i o hi ho listed a w inv hd hu hJ=>?_) (fun listed a w hall hJ=>?_)
  (unl N (ZF l.toArray.size false)) (ZF l.toArray.size false) a { w with drawn:=w.drawn+1 } rfl
  ⟨by simp,fun j oj _ hl=>(by rw [getD_replicate_false] at hl;cases hl),fun t _ ht=>getD_in (by simpa using ht) (getD_replicate_false _ _)⟩ ?_
 · have hu:unl N (ZF l.toArray.size false)=N:=by
    unfold unl
    rw [ZZ.2 (fun j _=>by rw [getD_replicate_false];rfl),Aaa]
   rw [hu,show N+(l.toArray.size-N)=l.toArray.size by simp;omega] at H
   exact H
 · obtain⟨b,m,hb,hmj,σ,hσ,hr⟩:=hJ
   have ho0:l[i]?=some o:=by simpa using ho
   obtain⟨e,he,rfl,rfl,m',hm',hj'⟩:=(hat b m hb).1 i hi (by rw [hmj i hi];exact hu) o ho0 fun j hj=>by rw [hmj j (hdep i o hi ho0 j hj)];exact hd j hj
   intro K Q' hK;refine hes e he o ho0 σ hσ w0 a w hr K Q' fun a' w' σ' hσ' hr'=>hK a' w' ⟨e.2.2,m',hm',fun j hj=>?_,σ',hσ',hr'⟩
   rw [hj' j hj,hmj j hj]
   by_cases ej:j=e.2.1
   · subst ej
     have:e.2.1<listed.size:=by rw [inv.size];simp;omega
     simp [this,ZR]
   rw [Fw ej,ZH,getD_set_ne false (fun h=>ej h.symm)]
 · obtain⟨b,m,hb,hmj,σ,hσ,hr⟩:=hJ
   have:=(hat b m hb).2 fun i hi=>by rw [hmj i hi];exact hall i hi
   subst this;exact hfin σ hσ a w hr
 refine⟨0,[],hms0,fun j _=>by rw [getD_replicate_false];rfl,σ,hσ,?_⟩
 obtain⟨I,hI⟩:=hr
 exact⟨I,hI.later (Ext.refl w).drawn⟩
structure Dg (P:Program) (l:List Oper) (acc:List (Nat×(St→Prop))) (es:List (Nat×Nat×Nat)) (Fin:(Nat→St→Prop)→Prop):Prop where
 pf:∃ st:Nat→St→Prop,(∀ k Φ,look acc k=some Φ→st k=Φ)∧(∀ e∈es,∀ o,l[e.2.1]?=some o→∀ σ,st e.1 σ→Stp P l o (st e.2.2) σ)∧Fin st
variable {l:List Oper} {acc:List (Nat×(St→Prop))} {es:List (Nat×Nat×Nat)} {Fin:(Nat→St→Prop)→Prop}
theorem Dg.new {a i b:Nat} {Φ Φ':St→Prop} {o:Oper} (ha:look acc a=some Φ) (ho:l[i]?=some o) (hb:look acc b=none) (hE:∀ σ,Φ σ→Stp P l o Φ' σ) (h:Dg P l ((b,Φ')::acc) es Fin):Dg P l acc ((a,i,b)::es) Fin:=by
 obtain⟨st,h1,h2,h3⟩:=h.pf
 have hne:b≠a:=fun e=>by subst e;rw [hb] at ha;cases ha
 have h1':∀ k σ,look acc k=some σ→st k=σ:=fun k σ hk=>h1 k σ (by
  rw [AF,if_neg (fun e=>?_)]
  · exact hk
  subst e;rw [hb] at hk;cases hk)
 refine⟨st,h1',fun e he o' ho' σ hσ=>?_,h3⟩
 rcases ZG.1 he with rfl|he
 · simp only at ho' hσ ⊢
   rw [ho] at ho';cases ho'
   rw [h1' a Φ ha] at hσ
   rw [h1 b Φ' (by rw [AF,if_pos rfl])]
   exact hE σ hσ
 exact h2 e he o' ho' σ hσ
theorem Dg.old {a i b:Nat} {Φ Φ':St→Prop} {o:Oper} (ha:look acc a=some Φ) (ho:l[i]?=some o) (hb:look acc b=some Φ') (hE:∀ σ,Φ σ→Stp P l o Φ' σ) (h:Dg P l acc es Fin):Dg P l acc ((a,i,b)::es) Fin:=by
 obtain⟨st,h1,h2,h3⟩:=h.pf
 refine⟨st,h1,fun e he o' ho' σ hσ=>?_,h3⟩
 rcases ZG.1 he with rfl|he
 · simp only at ho' hσ ⊢
   rw [ho] at ho';cases ho'
   rw [h1 a Φ ha] at hσ
   rw [h1 b Φ' hb]
   exact hE σ hσ
 exact h2 e he o' ho' σ hσ
theorem Dg.fin {w0:BB} {Q:Exit→St→Prop} {N k:Nat} {Φ:St→Prop} (hk:look acc k=some Φ) (h:∀ σ',Φ σ'→AWl P w0 l.toArray Q (l.drop N) σ'):Dg P l acc [] (fun st=>∀ σ',st k σ'→AWl P w0 l.toArray Q (l.drop N) σ'):=
 ⟨fun i=>(look acc i).getD fun _=>False,fun i σ' hi=>by simp [hi],fun e he=>(by cases he),by simpa [hk] using h⟩
theorem CV.eq {σ σ' s:St} (h:Le σ σ') (e:s=σ'):CV s .normal σ:=by subst e;exact h
theorem Stp.run {o:Oper} {σ σt:St} {Φ:St→Prop} (h:∀ w0,AWl P w0 l.toArray (CV σt) [o] σ) (hΦ:Φ σt):Stp P l o Φ σ:=fun w0 a w hr K Q hK=>CV.run h hr K Q fun a' w' hr'=>hK a' w' σt hΦ hr'
theorem Ea {o:Oper} {σ:St} {Φ Ψ:St→Prop} (h:OpE P l.toArray o σ Ψ) (hL:∀ σ',Ψ σ'→∃ σt,Φ σt∧Le σ' σt):Stp P l o Φ σ:=fun w0 a w hr K Q hK=>h w0 a w hr K Q fun σ' a' w' hσ' hr'=>by
 obtain⟨σt,h1,h2⟩:=hL σ' hσ'
 exact hK a' w' σt h1 (h2 w0 a' w' hr')
def Nd0  (p:Prop) (s:St):St→Prop:=fun σ=>p∧σ=s
def Nd1 {α1:Type} (p:α1→Prop) (s:α1→St):St→Prop:=fun σ=>∃ z1,p z1∧σ=s z1
def Nd2 {α1:Type} {α2:Type} (p:α1→α2→Prop) (s:α1→α2→St):St→Prop:=fun σ=>∃ z1 z2,p z1 z2∧σ=s z1 z2
def Nd3 {α1:Type} {α2:Type} {α3:Type} (p:α1→α2→α3→Prop) (s:α1→α2→α3→St):St→Prop:=fun σ=>∃ z1 z2 z3,p z1 z2 z3∧σ=s z1 z2 z3
def Nd4 {α1:Type} {α2:Type} {α3:Type} {α4:Type} (p:α1→α2→α3→α4→Prop) (s:α1→α2→α3→α4→St):St→Prop:=fun σ=>∃ z1 z2 z3 z4,p z1 z2 z3 z4∧σ=s z1 z2 z3 z4
theorem Dg.new0 {a i b:Nat}  {p:Prop} {s s':St} {o:Oper} (ha:look acc a=some (Nd0 p s)) (ho:l[i]?=some o) (hb:look acc b=none) (hE:∀ w0,p→AWl P w0 l.toArray (CV (s')) [o] (s)) (h:Dg P l ((b,Nd0 p s')::acc) es Fin):Dg P l acc ((a,i,b)::es) Fin:=
 Dg.new ha ho hb (fun σ h=>by obtain⟨hp,rfl⟩:=h;exact Stp.run (fun w0=>hE w0  hp) ⟨hp,rfl⟩) h
theorem Dg.old0 {a i b:Nat}  {p:Prop} {s s':St} {o:Oper} (ha:look acc a=some (Nd0 p s)) (ho:l[i]?=some o) (hb:look acc b=some (Nd0 p s')) (hE:∀ w0,p→AWl P w0 l.toArray (CV (s')) [o] (s)) (h:Dg P l acc es Fin):Dg P l acc ((a,i,b)::es) Fin:=
 Dg.old ha ho hb (fun σ h=>by obtain⟨hp,rfl⟩:=h;exact Stp.run (fun w0=>hE w0  hp) ⟨hp,rfl⟩) h
theorem Dg.fin0 {w0:BB} {Q:Exit→St→Prop} {N k:Nat}  {p:Prop} {s:St} (hk:look acc k=some (Nd0 p s)) (h:p→AWl P w0 l.toArray Q (l.drop N) (s)):Dg P l acc [] (fun st=>∀ σ',st k σ'→AWl P w0 l.toArray Q (l.drop N) σ'):=
 Dg.fin hk fun σ h'=>by obtain⟨hp,rfl⟩:=h';exact h  hp
theorem Dg.drw0 {a i b:Nat}  {β:Type} {p:Prop} {s:St} {q:β→Prop} {f s':β→St} {o:Oper} (ha:look acc a=some (Nd0 p s)) (ho:l[i]?=some o) (hE:p→OpE P l.toArray o (s) (fun σ'=>∃ y,q y∧σ'=f y)) (hb:look acc b=none) (hL:∀ y,p→q y→CV (s' y) .normal (f y)) (h:Dg P l ((b,Nd1 (fun y=>p∧q y) s')::acc) es Fin):Dg P l acc ((a,i,b)::es) Fin:=
 Dg.new ha ho hb (fun σ h=>by
  obtain⟨hp,rfl⟩:=h
  refine Ea (hE  hp) ?_
  rintro _ ⟨y,hy,rfl⟩
  exact⟨_,⟨y,⟨hp,hy⟩,rfl⟩,hL y hp hy⟩) h
theorem Dg.odr0 {a i b:Nat}  {β:Type} {p:Prop} {s:St} {q:β→Prop} {f s':β→St} {o:Oper} (ha:look acc a=some (Nd0 p s)) (ho:l[i]?=some o) (hE:p→OpE P l.toArray o (s) (fun σ'=>∃ y,q y∧σ'=f y)) (hb:look acc b=some (Nd1 (fun y=>p∧q y) s')) (hL:∀ y,p→q y→CV (s' y) .normal (f y)) (h:Dg P l acc es Fin):Dg P l acc ((a,i,b)::es) Fin:=
 Dg.old ha ho hb (fun σ h=>by
  obtain⟨hp,rfl⟩:=h
  refine Ea (hE  hp) ?_
  rintro _ ⟨y,hy,rfl⟩
  exact⟨_,⟨y,⟨hp,hy⟩,rfl⟩,hL y hp hy⟩) h
theorem Dg.new1 {a i b:Nat} {α1:Type} {p:α1→Prop} {s s':α1→St} {o:Oper} (ha:look acc a=some (Nd1 p s)) (ho:l[i]?=some o) (hb:look acc b=none) (hE:∀ w0,∀ z1,p z1→AWl P w0 l.toArray (CV (s' z1)) [o] (s z1)) (h:Dg P l ((b,Nd1 p s')::acc) es Fin):Dg P l acc ((a,i,b)::es) Fin:=
 Dg.new ha ho hb (fun σ h=>by obtain⟨z1,hp,rfl⟩:=h;exact Stp.run (fun w0=>hE w0 z1 hp) ⟨z1,hp,rfl⟩) h
theorem Dg.old1 {a i b:Nat} {α1:Type} {p:α1→Prop} {s s':α1→St} {o:Oper} (ha:look acc a=some (Nd1 p s)) (ho:l[i]?=some o) (hb:look acc b=some (Nd1 p s')) (hE:∀ w0,∀ z1,p z1→AWl P w0 l.toArray (CV (s' z1)) [o] (s z1)) (h:Dg P l acc es Fin):Dg P l acc ((a,i,b)::es) Fin:=
 Dg.old ha ho hb (fun σ h=>by obtain⟨z1,hp,rfl⟩:=h;exact Stp.run (fun w0=>hE w0 z1 hp) ⟨z1,hp,rfl⟩) h
theorem Dg.fin1 {w0:BB} {Q:Exit→St→Prop} {N k:Nat} {α1:Type} {p:α1→Prop} {s:α1→St} (hk:look acc k=some (Nd1 p s)) (h:∀ z1,p z1→AWl P w0 l.toArray Q (l.drop N) (s z1)):Dg P l acc [] (fun st=>∀ σ',st k σ'→AWl P w0 l.toArray Q (l.drop N) σ'):=
 Dg.fin hk fun σ h'=>by obtain⟨z1,hp,rfl⟩:=h';exact h z1 hp
theorem Dg.drw1 {a i b:Nat} {α1:Type} {β:Type} {p:α1→Prop} {s:α1→St} {q:α1→β→Prop} {f s':α1→β→St} {o:Oper} (ha:look acc a=some (Nd1 p s)) (ho:l[i]?=some o) (hE:∀ z1,p z1→OpE P l.toArray o (s z1) (fun σ'=>∃ y,q z1 y∧σ'=f z1 y)) (hb:look acc b=none) (hL:∀ z1 y,p z1→q z1 y→CV (s' z1 y) .normal (f z1 y)) (h:Dg P l ((b,Nd2 (fun z1 y=>p z1∧q z1 y) s')::acc) es Fin):Dg P l acc ((a,i,b)::es) Fin:=
 Dg.new ha ho hb (fun σ h=>by
  obtain⟨z1,hp,rfl⟩:=h
  refine Ea (hE z1 hp) ?_
  rintro _ ⟨y,hy,rfl⟩
  exact⟨_,⟨z1,y,⟨hp,hy⟩,rfl⟩,hL z1 y hp hy⟩) h
theorem Dg.odr1 {a i b:Nat} {α1:Type} {β:Type} {p:α1→Prop} {s:α1→St} {q:α1→β→Prop} {f s':α1→β→St} {o:Oper} (ha:look acc a=some (Nd1 p s)) (ho:l[i]?=some o) (hE:∀ z1,p z1→OpE P l.toArray o (s z1) (fun σ'=>∃ y,q z1 y∧σ'=f z1 y)) (hb:look acc b=some (Nd2 (fun z1 y=>p z1∧q z1 y) s')) (hL:∀ z1 y,p z1→q z1 y→CV (s' z1 y) .normal (f z1 y)) (h:Dg P l acc es Fin):Dg P l acc ((a,i,b)::es) Fin:=
 Dg.old ha ho hb (fun σ h=>by
  obtain⟨z1,hp,rfl⟩:=h
  refine Ea (hE z1 hp) ?_
  rintro _ ⟨y,hy,rfl⟩
  exact⟨_,⟨z1,y,⟨hp,hy⟩,rfl⟩,hL z1 y hp hy⟩) h
theorem Dg.new2 {a i b:Nat} {α1:Type} {α2:Type} {p:α1→α2→Prop} {s s':α1→α2→St} {o:Oper} (ha:look acc a=some (Nd2 p s)) (ho:l[i]?=some o) (hb:look acc b=none) (hE:∀ w0,∀ z1 z2,p z1 z2→AWl P w0 l.toArray (CV (s' z1 z2)) [o] (s z1 z2)) (h:Dg P l ((b,Nd2 p s')::acc) es Fin):Dg P l acc ((a,i,b)::es) Fin:=
 Dg.new ha ho hb (fun σ h=>by obtain⟨z1,z2,hp,rfl⟩:=h;exact Stp.run (fun w0=>hE w0 z1 z2 hp) ⟨z1,z2,hp,rfl⟩) h
theorem Dg.drw2 {a i b:Nat} {α1:Type} {α2:Type} {β:Type} {p:α1→α2→Prop} {s:α1→α2→St} {q:α1→α2→β→Prop} {f s':α1→α2→β→St} {o:Oper} (ha:look acc a=some (Nd2 p s)) (ho:l[i]?=some o) (hE:∀ z1 z2,p z1 z2→OpE P l.toArray o (s z1 z2) (fun σ'=>∃ y,q z1 z2 y∧σ'=f z1 z2 y)) (hb:look acc b=none) (hL:∀ z1 z2 y,p z1 z2→q z1 z2 y→CV (s' z1 z2 y) .normal (f z1 z2 y)) (h:Dg P l ((b,Nd3 (fun z1 z2 y=>p z1 z2∧q z1 z2 y) s')::acc) es Fin):Dg P l acc ((a,i,b)::es) Fin:=
 Dg.new ha ho hb (fun σ h=>by
  obtain⟨z1,z2,hp,rfl⟩:=h
  refine Ea (hE z1 z2 hp) ?_
  rintro _ ⟨y,hy,rfl⟩
  exact⟨_,⟨z1,z2,y,⟨hp,hy⟩,rfl⟩,hL z1 z2 y hp hy⟩) h
theorem Dg.new3 {a i b:Nat} {α1:Type} {α2:Type} {α3:Type} {p:α1→α2→α3→Prop} {s s':α1→α2→α3→St} {o:Oper} (ha:look acc a=some (Nd3 p s)) (ho:l[i]?=some o) (hb:look acc b=none) (hE:∀ w0,∀ z1 z2 z3,p z1 z2 z3→AWl P w0 l.toArray (CV (s' z1 z2 z3)) [o] (s z1 z2 z3)) (h:Dg P l ((b,Nd3 p s')::acc) es Fin):Dg P l acc ((a,i,b)::es) Fin:=
 Dg.new ha ho hb (fun σ h=>by obtain⟨z1,z2,z3,hp,rfl⟩:=h;exact Stp.run (fun w0=>hE w0 z1 z2 z3 hp) ⟨z1,z2,z3,hp,rfl⟩) h
theorem Dg.fin3 {w0:BB} {Q:Exit→St→Prop} {N k:Nat} {α1:Type} {α2:Type} {α3:Type} {p:α1→α2→α3→Prop} {s:α1→α2→α3→St} (hk:look acc k=some (Nd3 p s)) (h:∀ z1 z2 z3,p z1 z2 z3→AWl P w0 l.toArray Q (l.drop N) (s z1 z2 z3)):Dg P l acc [] (fun st=>∀ σ',st k σ'→AWl P w0 l.toArray Q (l.drop N) σ'):=
 Dg.fin hk fun σ h'=>by obtain⟨z1,z2,z3,hp,rfl⟩:=h';exact h z1 z2 z3 hp
theorem Dg.drw3 {a i b:Nat} {α1:Type} {α2:Type} {α3:Type} {β:Type} {p:α1→α2→α3→Prop} {s:α1→α2→α3→St} {q:α1→α2→α3→β→Prop} {f s':α1→α2→α3→β→St} {o:Oper} (ha:look acc a=some (Nd3 p s)) (ho:l[i]?=some o) (hE:∀ z1 z2 z3,p z1 z2 z3→OpE P l.toArray o (s z1 z2 z3) (fun σ'=>∃ y,q z1 z2 z3 y∧σ'=f z1 z2 z3 y)) (hb:look acc b=none) (hL:∀ z1 z2 z3 y,p z1 z2 z3→q z1 z2 z3 y→CV (s' z1 z2 z3 y) .normal (f z1 z2 z3 y)) (h:Dg P l ((b,Nd4 (fun z1 z2 z3 y=>p z1 z2 z3∧q z1 z2 z3 y) s')::acc) es Fin):Dg P l acc ((a,i,b)::es) Fin:=
 Dg.new ha ho hb (fun σ h=>by
  obtain⟨z1,z2,z3,hp,rfl⟩:=h
  refine Ea (hE z1 z2 z3 hp) ?_
  rintro _ ⟨y,hy,rfl⟩
  exact⟨_,⟨z1,z2,z3,y,⟨hp,hy⟩,rfl⟩,hL z1 z2 z3 y hp hy⟩) h
theorem Dg.new4 {a i b:Nat} {α1:Type} {α2:Type} {α3:Type} {α4:Type} {p:α1→α2→α3→α4→Prop} {s s':α1→α2→α3→α4→St} {o:Oper} (ha:look acc a=some (Nd4 p s)) (ho:l[i]?=some o) (hb:look acc b=none) (hE:∀ w0,∀ z1 z2 z3 z4,p z1 z2 z3 z4→AWl P w0 l.toArray (CV (s' z1 z2 z3 z4)) [o] (s z1 z2 z3 z4)) (h:Dg P l ((b,Nd4 p s')::acc) es Fin):Dg P l acc ((a,i,b)::es) Fin:=
 Dg.new ha ho hb (fun σ h=>by obtain⟨z1,z2,z3,z4,hp,rfl⟩:=h;exact Stp.run (fun w0=>hE w0 z1 z2 z3 z4 hp) ⟨z1,z2,z3,z4,hp,rfl⟩) h
theorem Dg.fin4 {w0:BB} {Q:Exit→St→Prop} {N k:Nat} {α1:Type} {α2:Type} {α3:Type} {α4:Type} {p:α1→α2→α3→α4→Prop} {s:α1→α2→α3→α4→St} (hk:look acc k=some (Nd4 p s)) (h:∀ z1 z2 z3 z4,p z1 z2 z3 z4→AWl P w0 l.toArray Q (l.drop N) (s z1 z2 z3 z4)):Dg P l acc [] (fun st=>∀ σ',st k σ'→AWl P w0 l.toArray Q (l.drop N) σ'):=
 Dg.fin hk fun σ h'=>by obtain⟨z1,z2,z3,z4,hp,rfl⟩:=h';exact h z1 z2 z3 z4 hp
theorem AW.dg0 {w0:BB} {Q:Exit→St→Prop} {σ:St} {id:Nat} (N k:Nat) (ms:List (List Nat)) (es:List (Nat×Nat×Nat)) (hm:P.follows .mixedOrders=true) (hB:E7 l.toArray N=true) (hP:UG l N ms es k=true)
 (h:Dg P l [(0,Nd0 True σ)] es (fun st=>∀ σ',st k σ'→AWl P w0 l.toArray Q (l.drop N) σ')):AW P w0 (.region id l.toArray true) Q σ:=by
 obtain⟨st,h1,h2,h3⟩:=h.pf
 exact AW.dagP N k ms es st hm hB hP h2 (by rw [h1 0 _ U];exact⟨trivial,U⟩) h3
end
open Go.D
theorem C.bytes {w:World} {l:List Int} {v:Value} {F:List Nat} (h:C false w (.sl 1 (byR l)) v F):∃ a len cap,v=.slice a len cap∧l.length=len∧len≤9223372036854775807∧∀ i,i<len→∃ b off x,a=some ⟨b,off,none⟩∧b∈F∧l[i]?=some x∧w.cell? ⟨b,off+i,none⟩=some (.int .u8 x):=by
 simp only [C] at h
 obtain⟨a,len,cap,rfl,h2,h3,h4,h5⟩:=h
 rw [byR,Aab] at h2
 refine⟨a,len,cap,rfl,h2,by unfold maxLen at h4;omega,fun i hi=>?_⟩
 rcases h5 with ⟨h5,_⟩|⟨b,off,G,rfl,rfl,h7,h8,h9⟩
 · omega
 obtain⟨s1,xs,s2,s3,s4⟩:=h9.flat
 have hf:(byR l).flatten=l.map fun x=>T.v (.int .u8 x):=by
  unfold byR
  clear h9 s1 s2 s3 h2
  induction l with
  | nil=>rfl
  | cons x l ih=>rw [ZV,List.flatten_cons,ih];rfl
 rw [hf] at s2
 have key:∀ (m:List Int) {cs:List Value} {G:List Nat},Cs false w (m.map fun x=>T.v (.int .u8 x)) cs G→cs=m.map fun x=>.int .u8 x:=by
  intro m
  induction m with
  | nil=>intro cs G h;unfold Cs at h;exact h.1
  | cons x m ih=>intro cs G h;rw [ZV] at h;unfold Cs at h;obtain⟨c,cr,G1,G2,rfl,g1,g2,rfl⟩:=h;rw [ih g2];unfold C at g1;rw [g1.1];rfl
 have e:=key l s2
 subst e
 exact⟨b,off,l[i]'(by omega),rfl,by simp,ZX _,s4 i _ (by simp [ZX,h2,hi])⟩
theorem Chg.setCell (w:World) (p:Addr) (u:Value):Chg w (w.setCell p u) [p.block]:=⟨rfl,rfl,rfl,by simp [World.setCell],fun k _ hn=>heap_setCell_other w p k u (fun e=>hn (by simp [e]))⟩
theorem Chg.more {w w1 w2:World} {G:List Nat} (h:Chg w w1 G) (h2:Chg w1 w2 G):Chg w w2 G:=⟨h2.os.trans h.os,h2.tape.trans h.tape,h2.output.trans h.output,ZW h.size h2.size,fun k hk hn=>(h2.block k (Aad hk h.size) hn).trans (h.block k hk hn)⟩
theorem VW {w w':World} {gb:Nat} {v:Value} {i z:Int} {t:TypeId} {G:List Nat} {bs:List Int} (hc:Chg w w' [gb]) (hC:C false w (.sl 1 (byR bs)) v G) (hZ:∀ b∈G,b<w.heap.size∧b≠gb) (hi:0≤i) (hb:∀ n∈bs,0≤n∧n<256) (B:Box w' gb [v,.int .i64 i,.int .i64 z] t):Tl w' (gb,v):=
 ⟨⟨i,z,t,G,bs,B,hC.congr fun b hm=>hc.block b (hZ b hm).1 (by simpa using (hZ b hm).2),fun b hm=>⟨Aad (hZ b hm).1 hc.size,(hZ b hm).2⟩,hi,hb⟩,⟨.inl _,t,B⟩⟩
theorem Wk (u:Int):0≤bits .and .i64 u 255∧bits .and .i64 u 255<256:=by
 have h:bits .and .i64 u 255=((ZI 64 u&&&ZI 64 255).toNat:Int):=by
  have hlt:(ZI 64 u&&&ZI 64 255).toNat<2^63:=by
   rw [Aae]
   exact Nat.lt_of_le_of_lt Aaf (by decide)
  have hw:∀ m:Nat,m<2^63→IntKind.wrap .i64 (m:Int)=m:=fun m hm=>Gn ⟨by omega,by omega⟩
  exact hw _ hlt
 rw [h,Aae]
 have:(ZI 64 u).toNat&&&(ZI 64 255).toNat≤255:=Aaf
 omega
set_option maxHeartbeats 1000000 in
theorem Up:FnN ZP 33:=by
 refine⟨⟨_,Aag,by kernel_rfl,by kernel_rfl⟩,fun w v F bs hG hC hb=>?_⟩
 obtain⟨a,len,cap,rfl,n1,n2,c1⟩:=hC.bytes
 clear hC
 go_enter Aag,Aap
 go_wp2
 go_loopw [3,4] (fun h i wr=>∃ (k:Nat) (d:Int),k≤len∧i=.int .i64 k∧h=.int .i64 d∧wr=w) (fun _ i _=>len-(intOf i).toNat)
 case atStart=>exact⟨0,_,by omega,rfl,rfl,rfl⟩
 case round=>
  obtain⟨k,d,hk,rfl,rfl,rfl⟩:=hrel
  by_cases hlt:k<len
  · by_cases hlt':k<4000
    · obtain⟨b,off,x,rfl,_,hx,hc⟩:=c1 k hlt
      have hbx:=hb x (Aah hx)
      go_wp2
      go_roundw
      case rel=>exact⟨k+1,_,by omega,by go_num,rfl,trivial⟩
      case measure=>simp [intOf];omega
    go_wp2
    go_ret
    exact⟨_,0,d,_,rfl,Aai _,KQ,heap_alloc_new _ _,by omega,(Ext.refl _).alloc _⟩
  go_wp2
  go_ret
  exact⟨_,0,d,_,rfl,Aai _,KQ,heap_alloc_new _ _,by omega,(Ext.refl _).alloc _⟩
set_option maxHeartbeats 1000000 in
theorem GI:FnD ZP 137 [] (fun x:Int=>0≤x∧x<256) (fun x=>.a (.one (.v (.int .i64 x)))):=by
 refine⟨⟨_,Aaj,by kernel_rfl,by kernel_rfl⟩,fun w g vs F hG hC hv hgF=>?_⟩
 obtain⟨rfl,rfl⟩:=hv
 obtain⟨gb,v⟩:=g
 obtain⟨⟨i,h,t,G,bs,hcell,hC,hZ,hi,hb⟩,hth⟩:=hC
 simp only at hcell hC hZ hth
 obtain⟨a,len,cap,rfl,n1,n2,c1⟩:=hC.bytes
 have B0:Box w gb [.slice a len cap,.int .i64 i,.int .i64 h] t:=hcell
 have e0:=B0.at 2 rfl
 have f0:=B0.thaw 2
 show Calls _ _ #[_] _ _
 go_enter Aaj,Aaq
 go_wp2_with fail
 generalize wrap64 (wrap64 (h*6364136223846793005)+1442695040888963407)=z
 have B1:=B0.set 2 (.int .i64 z)
 have hz1:∀ b,b≠gb→(w.setCell ⟨gb,2,none⟩ (.int .i64 z)).heap[b]?=w.heap[b]?:=fun b hb=>heap_setCell_other w _ b _ hb
 have hsz:(w.setCell ⟨gb,2,none⟩ (.int .i64 z)).heap.size=w.heap.size:=by simp [World.setCell]
 have hch:=Chg.setCell w ⟨gb,2,none⟩ (.int .i64 z)
 generalize w.setCell ⟨gb,2,none⟩ (.int .i64 z)=w1 at B1 hz1 hsz hch ⊢
 simp only [List.set_cons_succ,List.set_cons_zero] at B1
 have e3:=GY.cell (B1.at 2 rfl)
 refine Gf (by kernel_rfl) (by kernel_rfl) ?_
 repeat (go_big_quiet_step (fail))
 refine wpQuiet_nil ?_
 rintro _ ⟨y,rfl⟩
 have hX0:=Wk (bits BinOp.xor IntKind.i64 (z / 8589934592) (z / 35184372088832))
 generalize bits BinOp.and IntKind.i64 _ 255=X at hX0 ⊢
 have B2:=B1.mono y.2
 have x2:=y.2
 generalize y.1=w2 at B2 x2 ⊢
 clear e3 y
 have e1:=GY.cell (B2.at 0 rfl)
 have e2:=GY.cell (B2.at 1 rfl)
 go_wp2_with fail
 refine Gf (by kernel_rfl) (by kernel_rfl) ?_
 repeat (go_big_quiet_step (fail))
 refine wpQuiet_nil ?_
 rintro _ ⟨y,rfl⟩
 have B3:=B2.mono y.2
 have x3:=x2.trans y.2
 generalize y.1=w3 at B3 x3 ⊢
 clear e1 e2 y
 by_cases hlt:i<len
 · obtain⟨k,rfl⟩:∃ k:Nat,i=(k:Int):=⟨i.toNat,by omega⟩
   obtain⟨b,off,x,rfl,hbG,hbx,hc⟩:=c1 k (by omega)
   have hxb:=hb x (Aah hbx)
   have hbz:=hZ b hbG
   have hc3:w3.cell? ⟨b,off+k,none⟩=some (.int .u8 x):=by
    unfold World.cell? at hc ⊢
    rw [x3.block (by rw [hsz];exact hbz.1),hz1 b hbz.2]
    exact hc
   have e1:=GY.cell (B3.at 0 rfl)
   have e2:=GY.cell (B3.at 1 rfl)
   have e4:=GY.cell hc3
   go_wp2_with fail
   refine Gf (by kernel_rfl) (by kernel_rfl) ?_
   repeat (go_big_quiet_step (fail))
   refine wpQuiet_nil ?_
   rintro _ ⟨y,rfl⟩
   have hX1:=Wk (X+x)
   generalize bits BinOp.and IntKind.i64 _ 255=X1 at hX1 ⊢
   have B4:=B3.mono y.2
   have x4:=x3.trans y.2
   generalize y.1=w4 at B4 x4 ⊢
   clear e1 e2 e4 y
   have e1:=B4.at 1 rfl
   have f1:=B4.thaw 1
   go_wp2_with fail
   go_ret
   have B5:=B4.set 1 (.int .i64 ((k:Int)+1))
   have hch5:Chg w _ [gb]:=(hch.later x4).more (Chg.setCell w4 ⟨gb,1,none⟩ (.int .i64 ((k:Int)+1)))
   exact⟨X1,.int .i64 X1,[],rfl,hX1,by unfold Vr V0r C;exact⟨rfl,rfl,rfl⟩,Aak,by simp,hch5,VW hch5 hC hZ (by omega) hb B5⟩
 go_wp2_with fail
 go_ret
 exact⟨X,.int .i64 X,[],rfl,hX0,by unfold Vr V0r C;exact⟨rfl,rfl,rfl⟩,Aak,by simp,hch.later x3,VW (hch.later x3) hC hZ hi hb B3⟩
theorem BL (n:Int):FnD ZP 74 [.one (.v (.int .i64 n))] (fun x:Int=>(n≤0∧x=0)∨(0≤x∧x<n)) (fun x=>.a (.one (.v (.int .i64 x)))):=by
 refine FnD.walk Aar U (by kernel_rfl) Aas U (fun g=>rfl) fun w0 g=>?_
 refine Af (An ?_);refine Aa (Ae (Af (Ab ?_)));refine Ac (MN U (.no U) U (.tm U) (.const U)) U ?_;refine Aa (Ai (.tm U) (fun h10=>?_) (fun h10=>?_))
 · try simp at h10
   refine Af (An ?_);refine Aa (Aq ?_);apply Ev.mk (x:=0) rfl
   case h=>
    refine Res.one U (.tmp U .nil) U ?_
    rfl
   case hp=>exact .inl ⟨by omega,rfl⟩
 try simp at h10
 refine Am (Ae (Af (Ab ?_)));refine Ac (MN U (.no U) U (.tm U) (.const U)) U ?_;refine Aa (Ai (.tm U) (fun h12=>?_) (fun h12=>?_))
 · try simp at h12
   refine Af (Ab ?_);refine Bn (Bo 1400 (GI) U U U (.tm U) U U .nil (fun _=>rfl) (fun _=>rfl)) ?_
   rintro _ ⟨z14,hz14,rfl⟩
   try dsimp only at hz14
   refine Ab ?_;refine Ac (Sc U (.no U) U (.tm U) (.tm U) (fun _=>by omega)) U ?_;refine Ah ?_;refine Aa (Aq ?_);apply Ev.mk rfl
   case h=>
    refine Res.one U (.tmp U .nil) U ?_
    rfl
   case hp=>exact .inr ⟨Aal _ (by omega),Aam _ (by omega)⟩
 try simp at h12
 refine Am (Af (Ab ?_));refine Bn (Bo 1800 (GI) U U U (.tm U) U U .nil (fun _=>rfl) (fun _=>rfl)) ?_
 rintro _ ⟨z18,hz18,rfl⟩
 try dsimp only at hz18
 refine Ah ?_;refine Aa (Ae (As (Ay [0,1,4,5] [888888]) ?_));refine Ad (Ab ?_);refine Bn (Bo 2000 (GI) U U U (.tm U) U U .nil (fun _=>rfl) (fun _=>rfl)) ?_
 rintro _ ⟨z20,hz20,rfl⟩
 try dsimp only at hz20
 refine Ah ?_;refine Aa (Af (Ab ?_));refine Bn (Bo 2200 (GI) U U U (.tm U) U U .nil (fun _=>rfl) (fun _=>rfl)) ?_
 rintro _ ⟨z22,hz22,rfl⟩
 try dsimp only at hz22
 refine Ah ?_;refine Aa (Af (Ab ?_));refine Bn (Bo 2400 (GI) U U U (.tm U) U U .nil (fun _=>rfl) (fun _=>rfl)) ?_
 rintro _ ⟨z24,hz24,rfl⟩
 try dsimp only at hz24
 refine Ah ?_;refine Aa (Ae (As (Ay [0,1,4,5,6,7,8] [888888]) ?_));refine Ad (Ab ?_);refine Ac (Ge U (.no U) U (.tm U) (.const U) (fun _=>by omega)) U ?_;refine Ab ?_;refine Ac (Ge U (.no U) U (.tm U) (.const U) (fun _=>by omega)) U ?_;refine Ac (Dn U (.no U) U (.tm U) (.tm U) (fun _=>by omega)) U ?_;refine Ab ?_;refine Ac (Ge U (.no U) U (.tm U) (.const U) (fun _=>by omega)) U ?_;refine Ac (Dn U (.no U) U (.tm U) (.tm U) (fun _=>by omega)) U ?_;refine Ab ?_;refine Ac (Dn U (.no U) U (.tm U) (.tm U) (fun _=>by omega)) U ?_;refine Ab ?_;refine Ac (Sc U (.no U) U (.tm U) (.tm U) (fun _=>by omega)) U ?_;refine Ah ?_;refine Aa (Aq ?_);apply Ev.mk rfl
 case h=>
  refine Res.one U (.tmp U .nil) U ?_
  rfl
 case hp=>exact .inr ⟨Aal _ (by omega),Aam _ (by omega)⟩
theorem EF (n:Int):FnD ZP 75 [.one (.v (.int .i64 n))] (fun _:Bool=>True) (fun x=>.a (.one (.v (.bool x)))):=by
 refine FnD.walk Aat U (by kernel_rfl) Aau U (fun g=>rfl) fun w0 g=>?_
 refine Af (An ?_);refine Aa (Af (Ab ?_));refine Ab ?_;refine Bn (Bo 700 (BL n) U U U (.tm U) U U (.cons (.tm U) U .nil) (fun _=>rfl) (fun _=>rfl)) ?_
 rintro _ ⟨z7,hz7,rfl⟩
 try dsimp only at hz7
 refine Bw ?_;refine Ah ?_;refine Aa (Aq ?_);apply Ev.mk rfl
 case h=>
  refine Res.one U (.tmp U .nil) U ?_
  rfl
 case hp=>exact trivial
theorem CL (l:List Int) (hl:0<l.length):FnD ZP 106 [.one (.sl 1 (l.map AQ))] (fun x:Int=>x∈l) (fun x=>.a (.one (.v (.int .i64 x)))):=by
 refine FnD.walk Aav U (by kernel_rfl) Aaw U (fun g=>rfl) fun w0 g=>?_
 refine Af (An ?_);refine Aa (Af (Ab ?_));refine Ab ?_;refine Ab ?_;refine Bi (.t) Aan ?_;refine Bn (Bo 900 (BL _) U U U (.tm U) U U (.cons (.tm U) U .nil) (fun _=>rfl) (fun _=>rfl)) ?_
 rintro _ ⟨z9,hz9,rfl⟩
 try dsimp only at hz9
 refine Ac ((by exact Ak U (.no U) U (.tm U) (.tm U) Aan ty3 (fun _=>⟨by simp at hz9;omega,Ao (ZX (i:=z9.toNat) (show z9.toNat<l.length by simp at hz9;omega))⟩))) U ?_;refine Aj ty3 ?_;refine Ah ?_;refine Aa (Aq ?_);apply Ev.mk rfl
 case h=>
  refine Res.one U (.tmp U .nil) U ?_
  rfl
 case hp=>exact List.getElem_mem _
section
variable {P:Program} {l:List Oper}
inductive EL (D:Nat→Prop):Act→Act→Prop where
 | refl (a:Act):EL D a a
 | put {a a':Act} (d:Nat) (v:Value) (hd:D d) (h:EL D a a'):EL D a (a'.put (some d) v)
theorem Rh (a:Act) {d e:Nat} (h:d≠e) (u v:Value):(a.put (some d) u).put (some e) v=(a.put (some e) v).put (some d) u:=by
 simp only [Act.put]
 rw [Array.setIfInBounds_comm _ _ h]
theorem WT (a:Act) (d:Nat) (u v:Value):(a.put (some d) u).put (some d) v=a.put (some d) v:=by
 simp only [Act.put]
 rw [Array.setIfInBounds_setIfInBounds]
theorem EL.mono {D D':Nat→Prop} {a a':Act} (h:EL D a a') (hD:∀ d,D d→D' d):EL D' a a':=by
 induction h with
 | refl=>exact .refl _
 | put d v hd _ ih=>exact .put d v (hD d hd) ih
theorem EL.trans {D:Nat→Prop} {a b c:Act} (h1:EL D a b) (h2:EL D b c):EL D a c:=by
 induction h2 with
 | refl=>exact h1
 | put d v hd _ ih=>exact .put d v hd ih
theorem EL.none {D:Nat→Prop} {a a':Act} (h:EL D a a') (hD:∀ d,¬ D d):a'=a:=by
 induction h with
 | refl=>rfl
 | put d v hd _ ih=>exact (hD d hd).elim
theorem EL.other {D:Nat→Prop} {a a':Act} (h:EL D a a') (e:Option Nat) (v:Value) (he:∀ d,e=some d→¬ D d):EL D (a.put e v) (a'.put e v):=by
 cases e with
 | none=>exact h
 | some e=>
  induction h with
  | refl=>exact .refl _
  | put d u hd _ ih=>rw [Rh _ (fun (x:d=e)=>he e rfl (x▸hd))];exact .put d u hd ih
theorem EL.self {D:Nat→Prop} {a a':Act} (h:EL D a a') (e:Nat) (v:Value):EL (fun d=>D d∧d≠e) (a.put (some e) v) (a'.put (some e) v):=by
 induction h with
 | refl=>exact .refl _
 | put d u hd _ ih=>
  by_cases x:d=e
  · subst x;rw [WT];exact ih
  rw [Rh _ x];exact .put d u ⟨hd,x⟩ ih
theorem EL.exec {D:Nat→Prop} {ops:Array Oper} {o:Oper} {a a':Act} (h:EL D a a') (hs:∀ cs b,o.op≠.select cs b) (hD:∀ d,D d→d∉o.looksAt ops):execOp a'.eval o=execOp a.eval o∧Region.wanted o (yielded ops a'.tmps)=Region.wanted o (yielded ops a.tmps):=by
 induction h with
 | refl=>exact⟨rfl,rfl⟩
 | put d v hd _ ih=>
  exact⟨(execOp_put (ops:=ops) o hs _ (some d) v (fun e he=>by cases he;exact hD d hd)).trans ih.1,(wanted_put o _ (some d) v (fun e he=>by cases he;exact hD d hd)).trans ih.2⟩
theorem QB {o:Oper} {a a':Act} {w:World} {K K':Act→World→Prop} {Q:Exit→Act→World→Prop} (hex:execOp a'.eval o=execOp a.eval o) (h:o.wp P a' w K' (fun e _ w1=>Q e a w1)) (hK:∀ v w1,K' (a'.put o.dst v) w1→K (a.put o.dst v) w1)
 (hD:∀ d v w1,¬ K' (({ a' with defers:=d::a'.defers }:Act).put o.dst v) w1):o.wp P a w K Q:=by
 have hL:LetsOut (fun e (_:Act) w1=>Q e a w1)→LetsOut Q:=fun ⟨_,w1,h⟩=>⟨a,w1,h⟩
 unfold Oper.wp at *
 rw [hex] at h
 generalize (execOp a.eval o).run P w=r at *
 cases r with
 | ok n w'=>
  cases n<;>simp only [Oper.upon] at h ⊢<;>
   first
    | exact hK _ _ h
    | exact (hD _ _ _ h).elim
    | exact Calls.mono h (fun e w'' he=>by cases e<;>first|exact hK _ _ he|exact he|exact hL he)
    | exact Rows.mono h (fun _ _ he=>hK _ _ he)
    | exact h
 | halt x w'=>cases x<;>simp only [Oper.upon] at h ⊢<;>exact h
def Vx (o:Oper):Bool:=match o.op with|.select _ _=>false|_=>true
def V1 (l:List Oper) (N:Nat) (Hs:List Nat):Bool:=(ZQ N).all fun i=>match l[i]? with
 | some o=>Vx o&&Hs.all fun h=>ZC h N&&(match l[h]? with
  | some oh=>(match oh.dst with
   | some d=>(!((o.looksAt l.toArray).contains d)||(Gu o).contains h)&&(ZB h i||!(match o.dst with|some e=>ZB e d|none=>false))
   | none=>false)
  | none=>false)
 | none=>false
def Y6 (l:List Oper) (N:Nat) (Hs:List Nat) (ms:List (List Nat)) (es:List (Nat×Nat×Nat)) (k:Nat):Bool:=
 (ZQ ms.length).all (fun a=>match ms[a]? with
  | none=>false
  | some m=>((ZQ N).all (fun i=>BI Hs i||BI m i||(match l[i]? with
   | none=>false
   | some o=>!((Gu o).all fun j=>BI Hs j||BI m j)||es.any (fun e=>ZB e.1 a&&ZB e.2.1 i&&(match ms[e.2.2]? with
    | none=>false
    | some m'=>(ZQ N).all fun j=>BI Hs j||BI m' j == (ZB j i||BI m j))))))&&
   (ZB a k||(ZQ N).any (fun i=>!(BI Hs i)&&!(BI m i))))&&
 (match ms with|[]::_=>true|_=>false)
def DH (l:List Oper) (Hs:List Nat) (d:Nat):Prop:=∃ h∈Hs,∃ o,l[h]?=some o∧o.dst=some d
def EC (D:Nat→Prop) (σ σ1:St):Prop:=∀ w0 a w,Rel w0 σ a w→∃ a',EL D a a'∧Rel w0 σ1 a' w
def AX (P:Program) (l:List Oper) (SM:St):List Nat→Prop
 | []=>True
 | h::r=>(∃ o d x,l[h]?=some o∧o.dst=some d∧look SM.slots d=some x∧∀ σ',Sup SM σ'→Op1 P l.toArray o σ' (σ'.put o.dst x))∧AX P l SM r
theorem AX.at {SM:St}:∀ {Hs:List Nat},AX P l SM Hs→∀ h∈Hs,∃ o d x,l[h]?=some o∧o.dst=some d∧look SM.slots d=some x∧∀ σ',Sup SM σ'→Op1 P l.toArray o σ' (σ'.put o.dst x)
 | h::r,hh,i,hi=>by
  rcases ZG.1 hi with rfl|hi
  · exact hh.1
  exact hh.2.at i hi
theorem AW.drawH {w0:BB} {Q:Exit→St→Prop} {σ σ1 SM:St} {id:Nat} (N k:Nat) (Hs:List Nat) (ms:List (List Nat)) (es:List (Nat×Nat×Nat)) (st:Nat→St→Prop) (hm:P.follows .mixedOrders=true) (hB:E7 l.toArray N=true) (hP:Y6 l N Hs ms es k=true) (hL:V1 l N Hs=true) (hHN:∀ h∈Hs,h<N)
 (hpre:EC (DH l Hs) σ σ1) (hH:AX P l SM Hs) (hst:∀ b σ',st b σ'→Sup SM σ') (hes:∀ e∈es,∀ o,l[e.2.1]?=some o→∀ σ,st e.1 σ→Stp P l o (st e.2.2) σ) (hσ:st 0 σ1) (hfin:∀ σ',st k σ'→AWl P w0 l.toArray Q (l.drop N) σ'):AW P w0 (.region id l.toArray true) Q σ:=by
 intro a w hr;refine wp_region_any hm ?_
 simp only [Y6,ZA] at hP
 obtain⟨hP,hms⟩:=hP
 have hms0:ms[0]?=some []:=by
  match ms,hms with
  | []::_,_=>rfl
 have hlN:N≤l.length:=by
  have hB':=hB
  simp only [E7,ZA,decide_eq_true_eq] at hB'
  simpa using hB'.1.1.1
 have hdep:∀ i o,i<N→l[i]?=some o→∀ j∈Gu o,j<N:=fun i o hi ho j hj=>by
  have hB':=hB
  simp only [E7,ZA,decide_eq_true_eq] at hB'
  have:=Z9.1 hB'.1.1.2 i (ZD.2 hi)
  have ho':l.toArray[i]?=some o:=by simpa using ho
  rw [ho'] at this
  have:=Z9.1 this j hj
  simp only [decide_eq_true_eq] at this
  omega
 have hlook:∀ i o,i<N→l[i]?=some o→Vx o=true∧∀ h∈Hs,h<N∧∀ oh d,l[h]?=some oh→oh.dst=some d→(d∈o.looksAt l.toArray→h∈Gu o)∧(h≠i→o.dst≠some d):=fun i o hi ho=>by
  have:=Z9.1 hL i (ZD.2 hi)
  rw [ho] at this
  simp only [ZA] at this
  refine⟨this.1,fun h hh=>?_⟩
  have:=Z9.1 this.2 h hh
  rw [ZA] at this
  refine⟨ZM this.1,fun oh d hoh hd=>?_⟩
  have:=this.2
  rw [hoh] at this
  simp only [hd,ZA,ZO,ZT] at this
  refine⟨fun hm=>?_,fun hne e=>?_⟩
  · rcases this.1 with h1|h1
    · rw [Aao.2 hm] at h1;cases h1
    exact Aao.1 h1
  rcases this.2 with h1|h1
  · exact hne (ZE h1)
  rw [e] at h1;simp [ZR] at h1
 have hat:∀ (b:Nat) (m:List Nat),ms[b]?=some m→((∀ i,i<N→BI Hs i=false→BI m i=false→∀ o,l[i]?=some o→(∀ j∈Gu o,BI Hs j=false→BI m j=true)→∃ e∈es,e.1=b∧e.2.1=i∧∃ m',ms[e.2.2]?=some m'∧∀ j,j<N→BI Hs j=false→BI m' j=(ZB j i||BI m j))∧((∀ i,i<N→BI Hs i=false→BI m i=true)→b=k)):=by
  intro b m hb
  have:=Z9.1 hP b (ZD.2 (ZS.1 hb).1)
  rw [hb] at this
  simp only [ZA] at this
  refine⟨fun i hi hH hu o ho hd=>?_,fun hall=>?_⟩
  · have:=Z9.1 this.1 i (ZD.2 hi)
    rw [hH,hu,ZH,ZH,ho] at this
    simp only [ZO,ZT] at this
    rcases this with h|h
    · rw [Z9.2 fun j hj=>?_] at h
      · cases h
      cases hj':BI Hs j with
      | true=>rfl
      | false=>rw [hd j hj hj'];rfl
    obtain⟨e,he,h⟩:=ZU.1 h
    simp only [ZA] at h
    obtain⟨⟨h1,h2⟩,h3⟩:=h
    refine⟨e,he,ZE h1,ZE h2,?_⟩
    split at h3
    · cases h3
    rename_i m' hm'
    refine⟨m',hm',fun j hj hjH=>?_⟩
    have:=Z9.1 h3 j (ZD.2 hj)
    rw [hjH,ZH] at this
    simpa using this
  have h2:=this.2
  simp only [ZO] at h2
  rcases h2 with h|h
  · exact ZE h
  obtain⟨i,hi,h⟩:=ZU.1 h
  simp only [ZA,ZT] at h
  rw [hall i (ZD.1 hi) h.1] at h;cases h.2
 have H:=Gz (P:=P) (Q:=lift w0 Q) (J:=fun listed a w=>∃ b m σ a',ms[b]?=some m∧(∀ j,j<N→BI Hs j=false→BI m j=listed.getD j false)∧st b σ∧EL (fun d=>∃ h∈Hs,listed.getD h false=false∧∃ o,l[h]?=some o∧o.dst=some d) a a'∧Rel w0 σ a' w) hB (fun i o hi ho listed a w inv hd hu hJ=>?_) (fun listed a w hall hJ=>?_)
  (unl N (ZF l.toArray.size false)) (ZF l.toArray.size false) a { w with drawn:=w.drawn+1 } rfl
  ⟨by simp,fun j oj _ hl=>(by rw [getD_replicate_false] at hl;cases hl),fun t _ ht=>getD_in (by simpa using ht) (getD_replicate_false _ _)⟩ ?_
 · have hu:unl N (ZF l.toArray.size false)=N:=by
    unfold unl
    rw [ZZ.2 (fun j _=>by rw [getD_replicate_false];rfl),Aaa]
   rw [hu,show N+(l.toArray.size-N)=l.toArray.size by simp;omega] at H
   exact H
 · obtain⟨b,m,σ,a',hb,hmj,hσ,hA,hr⟩:=hJ
   have ho0:l[i]?=some o:=by simpa using ho
   obtain⟨hsel,hlk⟩:=hlook i o hi ho0
   have hget:∀ j,(listed.setIfInBounds i true).getD j false=if j=i then true else listed.getD j false:=by
    intro j
    by_cases e:j=i
    · subst e
      have:j<listed.size:=by
       rw [inv.size]
       have:=(ZS.1 ho0).1
       simpa using this
      simp [this]
    rw [if_neg e];exact getD_set_ne false (fun h=>e h.symm)
   obtain⟨hex,hwt⟩:=hA.exec (ops:=l.toArray) (o:=o) (fun cs b e=>by unfold Vx at hsel;rw [e] at hsel;cases hsel) (fun d ⟨h,hh,hu',oh,hoh,hod⟩ hm=>by
    have:=hd h (((hlk h hh).2 oh d hoh hod).1 hm)
    rw [hu'] at this;cases this)
   have hdef:∀ (σ':St) (d:Deferred) (v:Value) (w1:World),¬ Rel w0 σ' (({ a' with defers:=d::a'.defers }:Act).put o.dst v) w1:=fun σ' d v w1 ⟨I,h⟩=>by
    have:=h.defers
    cases ho:o.dst<;>rw [ho] at this<;>simp [Act.put] at this
   intro K Q' hK
   cases hiH:BI Hs i with
   | true=>
    obtain⟨o',d,x,h1,h2,h3,h4⟩:=hH.at i (CK.1 hiH)
    rw [ho0] at h1;cases h1
    have hsup:=hst b σ hσ
    have back:∀ v w1,Rel w0 (σ.put o.dst x) (a'.put o.dst v) w1→K (a.put o.dst v) w1:=fun v w1 hr1=>by
     refine hK _ _ ⟨b,m,σ,a'.put o.dst v,hb,fun j hj hjH=>?_,hσ,?_,?_⟩
     · rw [hget,if_neg (fun e=>by subst e;rw [hiH] at hjH;cases hjH)];exact hmj j hj hjH
     · rw [h2]
       refine (hA.self d v).mono ?_
       rintro e ⟨⟨h,hh,hu',oh,hoh,hod⟩,hne⟩
       refine⟨h,hh,?_,oh,hoh,hod⟩
       rw [hget,if_neg (fun e'=>by subst e';rw [ho0] at hoh;cases hoh;rw [h2] at hod;cases hod;exact hne rfl)]
       exact hu'
     refine Rel.of_look hr1 (by rw [h2];rfl) (fun t y ht=>?_) (fun t y ht=>by rw [h2];exact ht)
     rw [h2]
     show look ((d,x)::σ.slots) t=some y
     rw [AF]
     split
     · rename_i e
       subst e
       rw [hsup.slots _ _ h3] at ht
       exact ht
     exact ht
    have step:=h4 σ hsup w0 a' w hr (fun a1 w1=>Rel w0 (σ.put o.dst x) a1 w1) (fun e _ w1=>Q' e a w1) fun _ _ h=>h
    rw [hwt] at step
    split
    · rename_i hw
      rw [if_pos hw] at step
      exact QB hex step back fun d v w1=>hdef _ d v w1
    rename_i hw
    rw [if_neg hw] at step
    exact back _ _ step
   | false=>
    obtain⟨e,he,rfl,rfl,m',hm',hj'⟩:=(hat b m hb).1 i hi hiH (by rw [hmj i hi hiH];exact hu) o ho0 fun j hj hjH=>by rw [hmj j (hdep i o hi ho0 j hj) hjH];exact hd j hj
    have back:∀ v w1,(∃ σ',st e.2.2 σ'∧Rel w0 σ' (a'.put o.dst v) w1)→K (a.put o.dst v) w1:=fun v w1 ⟨σ',hσ',hr1⟩=>by
     refine hK _ _ ⟨e.2.2,m',σ',a'.put o.dst v,hm',fun j hj hjH=>?_,hσ',?_,hr1⟩
     · rw [hj' j hj hjH,hget]
       by_cases ej:j=e.2.1
       · subst ej;rw [if_pos rfl,ZR];rfl
       rw [if_neg ej,Fw ej,ZH,hmj j hj hjH]
     refine (hA.other o.dst v ?_).mono ?_
     · rintro d hod ⟨h,hh,_,oh,hoh,hod'⟩
       exact ((hlk h hh).2 oh d hoh hod').2 (fun e'=>by subst e';rw [CK.2 hh] at hiH;cases hiH) hod
     rintro d ⟨h,hh,hu',oh,hoh,hod⟩
     refine⟨h,hh,?_,oh,hoh,hod⟩
     rw [hget,if_neg (fun e'=>by subst e';rw [CK.2 hh] at hiH;cases hiH)];exact hu'
    have step:=hes e he o ho0 σ hσ w0 a' w hr (fun a1 w1=>∃ σ',st e.2.2 σ'∧Rel w0 σ' a1 w1) (fun e' _ w1=>Q' e' a w1) fun _ _ σ' h1 h2=>⟨σ',h1,h2⟩
    rw [hwt] at step
    split
    · rename_i hw
      rw [if_pos hw] at step
      exact QB hex step back fun d v w1 ⟨σ',_,h⟩=>hdef _ d v w1 h
    rename_i hw
    rw [if_neg hw] at step
    exact back _ _ step
 · obtain⟨b,m,σ,a',hb,hmj,hσ,hA,hr⟩:=hJ
   have:=(hat b m hb).2 fun i hi hiH=>by rw [hmj i hi hiH];exact hall i hi
   subst this
   have e:=hA.none fun d ⟨h,hh,hu',oh,hoh,hod⟩=>by
    rw [hall h (hHN h hh)] at hu';cases hu'
   subst e;exact hfin σ hσ _ w hr
 obtain⟨a',hA,hr'⟩:=hpre w0 a { w with drawn:=w.drawn+1 } (by obtain⟨I,hI⟩:=hr;exact⟨I,hI.later (Ext.refl w).drawn⟩)
 refine⟨0,[],σ1,a',hms0,fun j _ _=>by rw [getD_replicate_false];rfl,hσ,hA.mono ?_,hr'⟩
 rintro d ⟨h,hh,oh,hoh,hod⟩
 exact⟨h,hh,by rw [getD_replicate_false],oh,hoh,hod⟩
def BM (σ:St) (x:S):Prop:=∀ I w0 a w,AU I w0 σ a w→∃ v,VS I w (true,x) v
theorem BM.slot {σ:St} {x:S} {t:Nat} (h:look σ.slots t=some (true,x)):BM σ x:=fun I w0 a w hr=>⟨_,hr.slots t _ h⟩
theorem BM.pp {σ:St} {id off:Nat}:BM σ (.a (.one (.pp id off))):=fun I w0 a w hr=>⟨.pointer (some ⟨I.B id,off,none⟩),rfl⟩
theorem BM.val {σ:St} {c:Value} (h:c.oneCell'=true):BM σ (.a (.one (.t (.v c)))):=fun I w0 a w hr=>⟨c,[],by unfold C;exact⟨rfl,rfl,h⟩,fun b hb=>by cases hb⟩
theorem BM.load {σ:St} {x:Operand} {id p n:Nat} {cs:List E} {ag:Bool} {t:TypeId} (hx:Get σ true x (.one (.pp id p))) (hs:look σ.res id=some (.box cs)) (ht:tyB P t ag n=true) (hn:ZK (p+n) cs.length=true) (h1:(ag||ZB n 1)=true):BM σ (.a (mkA ag ((cs.drop p).take n))):=fun I w0 a w hr=>by
 obtain⟨hF,vs,ty,g1,g2⟩:=hr.res id _ hs
 have g3:=HL n (GW p g2)
 have hn':=ZM hn
 exact⟨_,P8 g3 fun e=>by rw [e] at h1;have:=ZE (by simpa using h1);simp;omega⟩
theorem BM.ad {σ:St} {x:Operand} {cs:List T} {off:Nat} (hx:Get σ true x (.one (.t (.ad cs)))):BM σ (.a (.one (.t (.ad (cs.drop off))))):=fun I w0 a w hr=>by
 obtain⟨F,hC,hF⟩:VA I w (.one (.t (.ad cs))) (a.eval x):=hx.va hr rfl
 simp only [C] at hC
 obtain⟨b,p,G,h1,rfl,h2,h3⟩:=hC
 obtain⟨G',h4,h5⟩:=h3.drop off
 refine⟨_,b::G',UP h4 h2,fun c hc=>hF c ?_⟩
 rcases ZG.1 hc with rfl|hc
 · simp
 simp [h5 c hc]
theorem BM.ld {σ:St} {x:Operand} {cs:List T} {ag:Bool} {n:Nat} (hx:Get σ true x (.one (.t (.ad cs)))) (hn:ZK n cs.length=true) (h1:(ag||ZB n 1)=true):BM σ (.a (mkA ag ((cs.take n).map .t))):=fun I w0 a w hr=>by
 obtain⟨F,hC,hF⟩:VA I w (.one (.t (.ad cs))) (a.eval x):=hx.va hr rfl
 simp only [C] at hC
 obtain⟨b,p,G,h2,rfl,h3,h4⟩:=hC
 obtain⟨G',h5,h6⟩:=h4.take n
 obtain⟨vs,h7,h8,h9⟩:=h5.cells
 have hn':=ZM hn
 have h1':ag=false→n=1:=fun e=>by rw [e] at h1;exact ZE (by simpa using h1)
 exact⟨_,P8 (YO h7 fun b hb=>hF b (by simp [h6 b hb])) fun e=>by rw [Aab,List.length_take];have:=h1' e;omega⟩
theorem BM.ix {σ:St} {t e:TypeId} {x:Operand} {n:Int} {k:Nat} {ag:Bool} {rows:List (List T)} {row:List T} (hx:Get σ true x (.one (.t (.sl k rows)))) {y:Operand} (hy:Get σ true y (.one (.t (.v (.int .i64 n))))) (hu:P.underlying t=some (.slice e)) (hk:tyB P e ag k=true) (hi:true=true→0≤n∧rows[n.toNat]?=some row):BM σ (.a (.one (.t (.ad row)))):=fun I w0 a w hr=>by
 obtain⟨F,hC,hF⟩:VA I w (.one (.t (.sl k rows))) (a.eval x):=hx.va hr rfl
 obtain⟨b,off,len,cap,h1,h2,h3,h4,-,-,G,h5,h6,h7⟩:=IY hu hk hC (hi rfl).1 (hi rfl).2
 refine⟨_,b::G,UP h5 h3,fun c hc=>?_⟩
 rcases ZG.1 hc with rfl|hc
 · exact hF _ h4
 exact hF _ (h7 c hc)
theorem EC.nil {D:Nat→Prop} {σ:St}:EC D σ σ:=fun w0 a w hr=>⟨a,.refl a,hr⟩
theorem Ax {Hs:List Nat} {σ σ1:St} {o:Oper} {x:S} {d:Nat} (h:Nat) (ho:l[h]?=some o) (hop:Op1 P l.toArray o σ (σ.put o.dst (true,x))) (hv:BM σ x) (hd:o.dst=some d) (hm:BI Hs h=true) (hn:ZC d σ.n=true) (hr:EC (DH l Hs) (σ.put (some d) (true,x)) σ1):EC (DH l Hs) σ σ1:=fun w0 a w ⟨I,hI⟩=>by
 obtain⟨v,hv⟩:=hv I w0 a w hI
 obtain⟨a',h1,h2⟩:=hr w0 (a.put (some d) v) w ⟨I,hI.put hn hv⟩
 exact⟨a',EL.trans (.put d v ⟨h,CK.1 hm,o,ho,hd⟩ (.refl a)) h1,h2⟩
theorem AX.mv {P:Program} {l:List Oper} {SM:St} {o:Oper} {h d i:Nat} {r:List Nat} {x:A}  (hr:AX P l SM r) (ho:l[h]?=some o:=by exact rfl) (hp:o.op=.move (.tmp i):=by exact rfl) (hx:look SM.slots i=some (true,.a x):=by exact rfl) (hg:o.guard=none:=by exact rfl) (hd:o.dst=some d:=by exact rfl) (hk:look SM.slots d=some (true,.a (x)):=by exact rfl) (hn:o.dst.all (fun d=>ZC d SM.n)=true:=by exact rfl):AX P l SM (h::r):=⟨⟨o,d,_,ho,hd,hk,fun σ' hs=>Bh hp (.no hg) (Ag hs hn) (.tm (hs.slots _ _ hx))⟩,hr⟩
theorem AX.nc {P:Program} {l:List Oper} {SM:St} {o:Oper} {h d i:Nat} {r:List Nat} {id p:Nat}  (hr:AX P l SM r) (ho:l[h]?=some o:=by exact rfl) (hp:o.op=.nilCheck (.tmp i):=by exact rfl) (hx:look SM.slots i=some (true,.a (.one (.pp id p))):=by exact rfl) (hg:o.guard=none:=by exact rfl) (hd:o.dst=some d:=by exact rfl) (hk:look SM.slots d=some (true,.a (.one (.pp id p))):=by exact rfl) (hn:o.dst.all (fun d=>ZC d SM.n)=true:=by exact rfl):AX P l SM (h::r):=⟨⟨o,d,_,ho,hd,hk,fun σ' hs=>Cx hp (.no hg) (Ag hs hn) (.tm (hs.slots _ _ hx))⟩,hr⟩
theorem AX.fq {P:Program} {l:List Oper} {SM:St} {o:Oper} {h d i:Nat} {r:List Nat} {id p q:Nat} {t:TypeId} {j off:Nat} (hf:DG P t j off=true) (hr:AX P l SM r) (ho:l[h]?=some o:=by exact rfl) (hp:o.op=.fieldAddr t (.tmp i) j:=by exact rfl) (hx:look SM.slots i=some (true,.a (.one (.pp id p))):=by exact rfl) (hq:p+off=q:=by exact rfl) (hg:o.guard=none:=by exact rfl) (hd:o.dst=some d:=by exact rfl) (hk:look SM.slots d=some (true,.a (.one (.pp id q))):=by exact rfl) (hn:o.dst.all (fun d=>ZC d SM.n)=true:=by exact rfl):AX P l SM (h::r):=⟨⟨o,d,_,ho,hd,hk,fun σ' hs=>hq▸Bj hp (.no hg) (Ag hs hn) (.tm (hs.slots _ _ hx)) hf⟩,hr⟩
theorem AX.lq {P:Program} {l:List Oper} {SM:St} {o:Oper} {h d i:Nat} {r:List Nat} {id p:Nat} {t:TypeId} {cs:List E} {ag:Bool} {m:Nat} {x:A} (ht:tyB P t ag m=true) (hr:AX P l SM r) (ho:l[h]?=some o:=by exact rfl) (hp:o.op=.load t (.tmp i):=by exact rfl) (hx:look SM.slots i=some (true,.a (.one (.pp id p))):=by exact rfl) (hs0:look SM.res id=some (.box cs):=by exact rfl) (hq:mkA ag ((cs.drop p).take m)=x:=by exact rfl) (hl:ZK (p+m) cs.length=true:=by exact rfl) (h1:(ag||ZB m 1)=true:=by exact rfl) (hg:o.guard=none:=by exact rfl) (hd:o.dst=some d:=by exact rfl) (hk:look SM.slots d=some (true,.a (x)):=by exact rfl) (hn:o.dst.all (fun d=>ZC d SM.n)=true:=by exact rfl):AX P l SM (h::r):=⟨⟨o,d,_,ho,hd,hk,fun σ' hs=>hq▸Be hp (.no hg) (Ag hs hn) (.tm (hs.slots _ _ hx)) (hs.res _ _ hs0) ht hl h1⟩,hr⟩
structure Dh (P:Program) (l:List Oper) (SM:St) (acc:List (Nat×(St→Prop))) (es:List (Nat×Nat×Nat)) (Fin:(Nat→St→Prop)→Prop):Prop where
 pf:∃ st:Nat→St→Prop,(∀ k Φ,look acc k=some Φ→st k=Φ)∧(∀ e∈es,∀ o,l[e.2.1]?=some o→∀ σ,st e.1 σ→Stp P l o (st e.2.2) σ)∧(∀ b,look acc b=none→∀ σ,st b σ→Sup SM σ)∧Fin st
variable {SM:St} {acc:List (Nat×(St→Prop))} {es:List (Nat×Nat×Nat)} {Fin:(Nat→St→Prop)→Prop}
theorem Dh.new {a i b:Nat} {Φ Φ':St→Prop} {o:Oper} (ha:look acc a=some Φ) (ho:l[i]?=some o) (hb:look acc b=none) (hE:∀ σ,Φ σ→Stp P l o Φ' σ) (hS:∀ σ,Φ' σ→Sup SM σ) (h:Dh P l SM ((b,Φ')::acc) es Fin):Dh P l SM acc ((a,i,b)::es) Fin:=by
 obtain⟨st,h1,h2,h4,h3⟩:=h.pf
 have hne:b≠a:=fun e=>by subst e;rw [hb] at ha;cases ha
 have h1':∀ k σ,look acc k=some σ→st k=σ:=fun k σ hk=>h1 k σ (by
  rw [AF,if_neg (fun e=>?_)]
  · exact hk
  subst e;rw [hb] at hk;cases hk)
 refine⟨st,h1',fun e he o' ho' σ hσ=>?_,fun c hc σ hσ=>?_,h3⟩
 · rcases ZG.1 he with rfl|he
   · simp only at ho' hσ ⊢
     rw [ho] at ho';cases ho'
     rw [h1' a Φ ha] at hσ
     rw [h1 b Φ' (by rw [AF,if_pos rfl])]
     exact hE σ hσ
   exact h2 e he o' ho' σ hσ
 by_cases e:b=c
 · subst e
   rw [h1 b Φ' (by rw [AF,if_pos rfl])] at hσ
   exact hS σ hσ
 exact h4 c (by rw [AF,if_neg e];exact hc) σ hσ
theorem Dh.old {a i b:Nat} {Φ Φ':St→Prop} {o:Oper} (ha:look acc a=some Φ) (ho:l[i]?=some o) (hb:look acc b=some Φ') (hE:∀ σ,Φ σ→Stp P l o Φ' σ) (h:Dh P l SM acc es Fin):Dh P l SM acc ((a,i,b)::es) Fin:=by
 obtain⟨st,h1,h2,h3⟩:=h.pf
 refine⟨st,h1,fun e he o' ho' σ hσ=>?_,h3⟩
 rcases ZG.1 he with rfl|he
 · simp only at ho' hσ ⊢
   rw [ho] at ho';cases ho'
   rw [h1 a Φ ha] at hσ
   rw [h1 b Φ' hb]
   exact hE σ hσ
 exact h2 e he o' ho' σ hσ
theorem Dh.fin {w0:BB} {Q:Exit→St→Prop} {N k:Nat} {Φ:St→Prop} (hk:look acc k=some Φ) (h:∀ σ',Φ σ'→AWl P w0 l.toArray Q (l.drop N) σ'):Dh P l SM acc [] (fun st=>∀ σ',st k σ'→AWl P w0 l.toArray Q (l.drop N) σ'):=
 ⟨fun i=>(look acc i).getD fun _=>False,fun i σ' hi=>by simp [hi],fun e he=>(by cases he),fun b hb σ hσ=>by simp [hb] at hσ,by simpa [hk] using h⟩
theorem Cr {w0:BB} {Q:Exit→St→Prop} {σ:St} {id:Nat} (N k:Nat) (Hs:List Nat) (ms:List (List Nat)) (es:List (Nat×Nat×Nat)) (σ1 SM:St) (hm:P.follows .mixedOrders=true) (hB:E7 l.toArray N=true) (hP:Y6 l N Hs ms es k=true) (hL:V1 l N Hs=true) (hN:(Hs.all fun h=>ZC h N)=true)
 (hpre:EC (DH l Hs) σ σ1) (hS:Sup SM σ1) (hH:AX P l SM Hs) (h:Dh P l SM [(0,Nd0 True σ1)] es (fun st=>∀ σ',st k σ'→AWl P w0 l.toArray Q (l.drop N) σ')):AW P w0 (.region id l.toArray true) Q σ:=by
 obtain⟨st,h1,h2,h4,h3⟩:=h.pf
 refine AW.drawH N k Hs ms es st hm hB hP hL (fun h hh=>ZM (Z9.1 hN h hh)) hpre hH (fun b σ' hb=>?_) h2 (by rw [h1 0 _ U];exact⟨trivial,U⟩) h3
 by_cases e:b=0
 · subst e
   rw [h1 0 _ rfl] at hb
   obtain⟨_,rfl⟩:=hb
   exact hS
 exact h4 b (by rw [AF,if_neg (fun e'=>e e'.symm)];rfl) σ' hb
theorem Dh.new0 {a i b:Nat}  {p:Prop} {s s':St} {o:Oper} (ha:look acc a=some (Nd0 p s)) (ho:l[i]?=some o) (hb:look acc b=none) (hE:∀ w0,p→AWl P w0 l.toArray (CV (s')) [o] (s)) (hS:p→Sup SM (s')) (h:Dh P l SM ((b,Nd0 p s')::acc) es Fin):Dh P l SM acc ((a,i,b)::es) Fin:=
 Dh.new ha ho hb (fun σ h=>by obtain⟨hp,rfl⟩:=h;exact Stp.run (fun w0=>hE w0  hp) ⟨hp,rfl⟩) (fun σ h=>by obtain⟨hp,rfl⟩:=h;exact hS  hp) h
theorem Dh.old0 {a i b:Nat}  {p:Prop} {s s':St} {o:Oper} (ha:look acc a=some (Nd0 p s)) (ho:l[i]?=some o) (hb:look acc b=some (Nd0 p s')) (hE:∀ w0,p→AWl P w0 l.toArray (CV (s')) [o] (s)) (h:Dh P l SM acc es Fin):Dh P l SM acc ((a,i,b)::es) Fin:=
 Dh.old ha ho hb (fun σ h=>by obtain⟨hp,rfl⟩:=h;exact Stp.run (fun w0=>hE w0  hp) ⟨hp,rfl⟩) h
theorem Dh.fin0 {w0:BB} {Q:Exit→St→Prop} {N k:Nat}  {p:Prop} {s:St} (hk:look acc k=some (Nd0 p s)) (h:p→AWl P w0 l.toArray Q (l.drop N) (s)):Dh P l SM acc [] (fun st=>∀ σ',st k σ'→AWl P w0 l.toArray Q (l.drop N) σ'):=
 Dh.fin hk fun σ h'=>by obtain⟨hp,rfl⟩:=h';exact h  hp
theorem Dh.drw0 {a i b:Nat}  {β:Type} {p:Prop} {s:St} {q:β→Prop} {f s':β→St} {o:Oper} (ha:look acc a=some (Nd0 p s)) (ho:l[i]?=some o) (hE:p→OpE P l.toArray o (s) (fun σ'=>∃ y,q y∧σ'=f y)) (hb:look acc b=none) (hL:∀ y,p→q y→CV (s' y) .normal (f y)) (hS:∀ y,p→q y→Sup SM (s' y)) (h:Dh P l SM ((b,Nd1 (fun y=>p∧q y) s')::acc) es Fin):Dh P l SM acc ((a,i,b)::es) Fin:=
 Dh.new ha ho hb (fun σ h=>by
  obtain⟨hp,rfl⟩:=h
  refine Ea (hE  hp) ?_
  rintro _ ⟨y,hy,rfl⟩
  exact⟨_,⟨y,⟨hp,hy⟩,rfl⟩,hL y hp hy⟩) (fun σ h=>by obtain⟨y,⟨hp,hy⟩,rfl⟩:=h;exact hS y hp hy) h
theorem Dh.odr0 {a i b:Nat}  {β:Type} {p:Prop} {s:St} {q:β→Prop} {f s':β→St} {o:Oper} (ha:look acc a=some (Nd0 p s)) (ho:l[i]?=some o) (hE:p→OpE P l.toArray o (s) (fun σ'=>∃ y,q y∧σ'=f y)) (hb:look acc b=some (Nd1 (fun y=>p∧q y) s')) (hL:∀ y,p→q y→CV (s' y) .normal (f y)) (h:Dh P l SM acc es Fin):Dh P l SM acc ((a,i,b)::es) Fin:=
 Dh.old ha ho hb (fun σ h=>by
  obtain⟨hp,rfl⟩:=h
  refine Ea (hE  hp) ?_
  rintro _ ⟨y,hy,rfl⟩
  exact⟨_,⟨y,⟨hp,hy⟩,rfl⟩,hL y hp hy⟩) h
theorem Dh.new1 {a i b:Nat} {α1:Type} {p:α1→Prop} {s s':α1→St} {o:Oper} (ha:look acc a=some (Nd1 p s)) (ho:l[i]?=some o) (hb:look acc b=none) (hE:∀ w0,∀ z1,p z1→AWl P w0 l.toArray (CV (s' z1)) [o] (s z1)) (hS:∀ z1,p z1→Sup SM (s' z1)) (h:Dh P l SM ((b,Nd1 p s')::acc) es Fin):Dh P l SM acc ((a,i,b)::es) Fin:=
 Dh.new ha ho hb (fun σ h=>by obtain⟨z1,hp,rfl⟩:=h;exact Stp.run (fun w0=>hE w0 z1 hp) ⟨z1,hp,rfl⟩) (fun σ h=>by obtain⟨z1,hp,rfl⟩:=h;exact hS z1 hp) h
theorem Dh.old1 {a i b:Nat} {α1:Type} {p:α1→Prop} {s s':α1→St} {o:Oper} (ha:look acc a=some (Nd1 p s)) (ho:l[i]?=some o) (hb:look acc b=some (Nd1 p s')) (hE:∀ w0,∀ z1,p z1→AWl P w0 l.toArray (CV (s' z1)) [o] (s z1)) (h:Dh P l SM acc es Fin):Dh P l SM acc ((a,i,b)::es) Fin:=
 Dh.old ha ho hb (fun σ h=>by obtain⟨z1,hp,rfl⟩:=h;exact Stp.run (fun w0=>hE w0 z1 hp) ⟨z1,hp,rfl⟩) h
theorem Dh.fin1 {w0:BB} {Q:Exit→St→Prop} {N k:Nat} {α1:Type} {p:α1→Prop} {s:α1→St} (hk:look acc k=some (Nd1 p s)) (h:∀ z1,p z1→AWl P w0 l.toArray Q (l.drop N) (s z1)):Dh P l SM acc [] (fun st=>∀ σ',st k σ'→AWl P w0 l.toArray Q (l.drop N) σ'):=
 Dh.fin hk fun σ h'=>by obtain⟨z1,hp,rfl⟩:=h';exact h z1 hp
theorem Dh.drw1 {a i b:Nat} {α1:Type} {β:Type} {p:α1→Prop} {s:α1→St} {q:α1→β→Prop} {f s':α1→β→St} {o:Oper} (ha:look acc a=some (Nd1 p s)) (ho:l[i]?=some o) (hE:∀ z1,p z1→OpE P l.toArray o (s z1) (fun σ'=>∃ y,q z1 y∧σ'=f z1 y)) (hb:look acc b=none) (hL:∀ z1 y,p z1→q z1 y→CV (s' z1 y) .normal (f z1 y)) (hS:∀ z1 y,p z1→q z1 y→Sup SM (s' z1 y)) (h:Dh P l SM ((b,Nd2 (fun z1 y=>p z1∧q z1 y) s')::acc) es Fin):Dh P l SM acc ((a,i,b)::es) Fin:=
 Dh.new ha ho hb (fun σ h=>by
  obtain⟨z1,hp,rfl⟩:=h
  refine Ea (hE z1 hp) ?_
  rintro _ ⟨y,hy,rfl⟩
  exact⟨_,⟨z1,y,⟨hp,hy⟩,rfl⟩,hL z1 y hp hy⟩) (fun σ h=>by obtain⟨z1,y,⟨hp,hy⟩,rfl⟩:=h;exact hS z1 y hp hy) h
theorem Dh.odr1 {a i b:Nat} {α1:Type} {β:Type} {p:α1→Prop} {s:α1→St} {q:α1→β→Prop} {f s':α1→β→St} {o:Oper} (ha:look acc a=some (Nd1 p s)) (ho:l[i]?=some o) (hE:∀ z1,p z1→OpE P l.toArray o (s z1) (fun σ'=>∃ y,q z1 y∧σ'=f z1 y)) (hb:look acc b=some (Nd2 (fun z1 y=>p z1∧q z1 y) s')) (hL:∀ z1 y,p z1→q z1 y→CV (s' z1 y) .normal (f z1 y)) (h:Dh P l SM acc es Fin):Dh P l SM acc ((a,i,b)::es) Fin:=
 Dh.old ha ho hb (fun σ h=>by
  obtain⟨z1,hp,rfl⟩:=h
  refine Ea (hE z1 hp) ?_
  rintro _ ⟨y,hy,rfl⟩
  exact⟨_,⟨z1,y,⟨hp,hy⟩,rfl⟩,hL z1 y hp hy⟩) h
theorem Dh.new2 {a i b:Nat} {α1:Type} {α2:Type} {p:α1→α2→Prop} {s s':α1→α2→St} {o:Oper} (ha:look acc a=some (Nd2 p s)) (ho:l[i]?=some o) (hb:look acc b=none) (hE:∀ w0,∀ z1 z2,p z1 z2→AWl P w0 l.toArray (CV (s' z1 z2)) [o] (s z1 z2)) (hS:∀ z1 z2,p z1 z2→Sup SM (s' z1 z2)) (h:Dh P l SM ((b,Nd2 p s')::acc) es Fin):Dh P l SM acc ((a,i,b)::es) Fin:=
 Dh.new ha ho hb (fun σ h=>by obtain⟨z1,z2,hp,rfl⟩:=h;exact Stp.run (fun w0=>hE w0 z1 z2 hp) ⟨z1,z2,hp,rfl⟩) (fun σ h=>by obtain⟨z1,z2,hp,rfl⟩:=h;exact hS z1 z2 hp) h
theorem Dh.drw2 {a i b:Nat} {α1:Type} {α2:Type} {β:Type} {p:α1→α2→Prop} {s:α1→α2→St} {q:α1→α2→β→Prop} {f s':α1→α2→β→St} {o:Oper} (ha:look acc a=some (Nd2 p s)) (ho:l[i]?=some o) (hE:∀ z1 z2,p z1 z2→OpE P l.toArray o (s z1 z2) (fun σ'=>∃ y,q z1 z2 y∧σ'=f z1 z2 y)) (hb:look acc b=none) (hL:∀ z1 z2 y,p z1 z2→q z1 z2 y→CV (s' z1 z2 y) .normal (f z1 z2 y)) (hS:∀ z1 z2 y,p z1 z2→q z1 z2 y→Sup SM (s' z1 z2 y)) (h:Dh P l SM ((b,Nd3 (fun z1 z2 y=>p z1 z2∧q z1 z2 y) s')::acc) es Fin):Dh P l SM acc ((a,i,b)::es) Fin:=
 Dh.new ha ho hb (fun σ h=>by
  obtain⟨z1,z2,hp,rfl⟩:=h
  refine Ea (hE z1 z2 hp) ?_
  rintro _ ⟨y,hy,rfl⟩
  exact⟨_,⟨z1,z2,y,⟨hp,hy⟩,rfl⟩,hL z1 z2 y hp hy⟩) (fun σ h=>by obtain⟨z1,z2,y,⟨hp,hy⟩,rfl⟩:=h;exact hS z1 z2 y hp hy) h
theorem Dh.new3 {a i b:Nat} {α1:Type} {α2:Type} {α3:Type} {p:α1→α2→α3→Prop} {s s':α1→α2→α3→St} {o:Oper} (ha:look acc a=some (Nd3 p s)) (ho:l[i]?=some o) (hb:look acc b=none) (hE:∀ w0,∀ z1 z2 z3,p z1 z2 z3→AWl P w0 l.toArray (CV (s' z1 z2 z3)) [o] (s z1 z2 z3)) (hS:∀ z1 z2 z3,p z1 z2 z3→Sup SM (s' z1 z2 z3)) (h:Dh P l SM ((b,Nd3 p s')::acc) es Fin):Dh P l SM acc ((a,i,b)::es) Fin:=
 Dh.new ha ho hb (fun σ h=>by obtain⟨z1,z2,z3,hp,rfl⟩:=h;exact Stp.run (fun w0=>hE w0 z1 z2 z3 hp) ⟨z1,z2,z3,hp,rfl⟩) (fun σ h=>by obtain⟨z1,z2,z3,hp,rfl⟩:=h;exact hS z1 z2 z3 hp) h
theorem Dh.fin3 {w0:BB} {Q:Exit→St→Prop} {N k:Nat} {α1:Type} {α2:Type} {α3:Type} {p:α1→α2→α3→Prop} {s:α1→α2→α3→St} (hk:look acc k=some (Nd3 p s)) (h:∀ z1 z2 z3,p z1 z2 z3→AWl P w0 l.toArray Q (l.drop N) (s z1 z2 z3)):Dh P l SM acc [] (fun st=>∀ σ',st k σ'→AWl P w0 l.toArray Q (l.drop N) σ'):=
 Dh.fin hk fun σ h'=>by obtain⟨z1,z2,z3,hp,rfl⟩:=h';exact h z1 z2 z3 hp
theorem Dh.drw3 {a i b:Nat} {α1:Type} {α2:Type} {α3:Type} {β:Type} {p:α1→α2→α3→Prop} {s:α1→α2→α3→St} {q:α1→α2→α3→β→Prop} {f s':α1→α2→α3→β→St} {o:Oper} (ha:look acc a=some (Nd3 p s)) (ho:l[i]?=some o) (hE:∀ z1 z2 z3,p z1 z2 z3→OpE P l.toArray o (s z1 z2 z3) (fun σ'=>∃ y,q z1 z2 z3 y∧σ'=f z1 z2 z3 y)) (hb:look acc b=none) (hL:∀ z1 z2 z3 y,p z1 z2 z3→q z1 z2 z3 y→CV (s' z1 z2 z3 y) .normal (f z1 z2 z3 y)) (hS:∀ z1 z2 z3 y,p z1 z2 z3→q z1 z2 z3 y→Sup SM (s' z1 z2 z3 y)) (h:Dh P l SM ((b,Nd4 (fun z1 z2 z3 y=>p z1 z2 z3∧q z1 z2 z3 y) s')::acc) es Fin):Dh P l SM acc ((a,i,b)::es) Fin:=
 Dh.new ha ho hb (fun σ h=>by
  obtain⟨z1,z2,z3,hp,rfl⟩:=h
  refine Ea (hE z1 z2 z3 hp) ?_
  rintro _ ⟨y,hy,rfl⟩
  exact⟨_,⟨z1,z2,z3,y,⟨hp,hy⟩,rfl⟩,hL z1 z2 z3 y hp hy⟩) (fun σ h=>by obtain⟨z1,z2,z3,y,⟨hp,hy⟩,rfl⟩:=h;exact hS z1 z2 z3 y hp hy) h
theorem Dh.new4 {a i b:Nat} {α1:Type} {α2:Type} {α3:Type} {α4:Type} {p:α1→α2→α3→α4→Prop} {s s':α1→α2→α3→α4→St} {o:Oper} (ha:look acc a=some (Nd4 p s)) (ho:l[i]?=some o) (hb:look acc b=none) (hE:∀ w0,∀ z1 z2 z3 z4,p z1 z2 z3 z4→AWl P w0 l.toArray (CV (s' z1 z2 z3 z4)) [o] (s z1 z2 z3 z4)) (hS:∀ z1 z2 z3 z4,p z1 z2 z3 z4→Sup SM (s' z1 z2 z3 z4)) (h:Dh P l SM ((b,Nd4 p s')::acc) es Fin):Dh P l SM acc ((a,i,b)::es) Fin:=
 Dh.new ha ho hb (fun σ h=>by obtain⟨z1,z2,z3,z4,hp,rfl⟩:=h;exact Stp.run (fun w0=>hE w0 z1 z2 z3 z4 hp) ⟨z1,z2,z3,z4,hp,rfl⟩) (fun σ h=>by obtain⟨z1,z2,z3,z4,hp,rfl⟩:=h;exact hS z1 z2 z3 z4 hp) h
theorem Dh.fin4 {w0:BB} {Q:Exit→St→Prop} {N k:Nat} {α1:Type} {α2:Type} {α3:Type} {α4:Type} {p:α1→α2→α3→α4→Prop} {s:α1→α2→α3→α4→St} (hk:look acc k=some (Nd4 p s)) (h:∀ z1 z2 z3 z4,p z1 z2 z3 z4→AWl P w0 l.toArray Q (l.drop N) (s z1 z2 z3 z4)):Dh P l SM acc [] (fun st=>∀ σ',st k σ'→AWl P w0 l.toArray Q (l.drop N) σ'):=
 Dh.fin hk fun σ h'=>by obtain⟨z1,z2,z3,z4,hp,rfl⟩:=h';exact h z1 z2 z3 z4 hp
end
end Go.Q
