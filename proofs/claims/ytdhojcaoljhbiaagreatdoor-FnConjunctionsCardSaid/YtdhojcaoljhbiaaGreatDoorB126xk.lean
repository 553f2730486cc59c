import Derived.Test.YtdhojcaoljhbiaaGreatDoorPvxk
import Derived.Test.YtdhojcaoljhbiaaGreatDoorB80xk
import Derived.Test.YtdhojcaoljhbiaaGreatDoorAbs13xk
import Derived.Test.YtdhojcaoljhbiaaGreatDoorB08xk
set_option linter.unusedVariables false
set_option linter.unusedSimpArgs false
set_option maxRecDepth 100000
namespace Go.Q
open Go.RowKit
section
variable {P:Program} {ops:Array Oper} {o:Oper} {σ:St} {τ:Type}
def CuOk (w:World) (g:Nat×Value):Prop:=CuB (fun b=>b<w.heap.size∧b≠g.1) w g∧Thaw w g.1
def DPost (w:World) (g:Nat×Value) (p:τ→Prop) (out:τ→V) (e:Ending) (w':World):Prop:=
 ∃ x v F,e=.returned v∧p x∧Vr true w' (out x) v F∧F.Nodup∧(∀ b∈F,w.heap.size≤b∧Thaw w' b)∧Chg w w' [g.1]∧CuOk w' g
def FnD (P:Program) (f:FuncId) (ins:List V0) (p:τ→Prop) (out:τ→V):Prop:=
 Callee P f∧∀ w g vs F,Good w [g.1]→CuOk w g→V0s false w ins vs F→g.1∉F→Calls P f (List.toArray (.pointer (some ⟨g.1,0,none⟩)::vs)) w (DPost w g p out)
def FnE (P:Program) (f:FuncId) (ins:List V0) (p:τ→Prop) (out:τ→V):Prop:=
 Callee P f∧∀ w vs F,Good w []→V0s false w ins vs F→Calls P f (List.toArray vs) w fun e w'=>∃ x,p x∧FnPost w (out x) e w'
def FnN (P:Program) (f:FuncId):Prop:=
 Callee P f∧∀ w v F bs,Good w []→C false w (.sl 1 (byR bs)) v F→(∀ n∈bs,0≤n∧n<256)→Calls P f #[v] w fun e w'=>∃ g i h t,e=.returned (.pointer (some ⟨g,0,none⟩))∧w.heap.size≤g∧Thaw w' g∧w'.heap[g]?=some (.cells #[v,.int .i64 i,.int .i64 h] t (0,0))∧0≤i∧Ext w w'
theorem setR_same:∀ (l:List (Nat×R)) (u:Nat) (r:R),look l u=some r→setR l u r=l
 | [],_,_,h=>by cases h
 | (j,y)::l,u,r,h=>by
  rw [look_cons] at h
  rw [setR]
  by_cases e:j=u
  · subst e;rw [if_pos rfl] at h;cases h;simp [Nat.beq_refl]
  rw [if_neg e] at h
  rw [beq_false e,cond_false,setR_same l u r h]
theorem V0s.c {w:World} {FF:List Nat}:∀ {ins:List V0} {vs:List Value} {F:List Nat},V0s false w ins vs F→(∀ b∈F,b∉FF)→V0c w FF (ins.map fun x=>(false,x)) vs []
 | [],vs,F,⟨h,_⟩,_=>⟨h,rfl⟩
 | x::r,vs,F,⟨v,vr,G1,G2,h1,h2,h3,h4⟩,hF=>by
  subst h4
  exact⟨v,vr,G1,[],h1,h2,h3.c fun b hb=>hF b (by simp [hb]),by simpa using fun b hb=>hF b (by simp [hb])⟩
def DRes (P:Program) (fn:Func) (g:Nat×Value) (p:τ→Prop) (out:τ→V) (σ:St):Prop:=∃ x,p x∧look σ.res 888888=some (.cur g)∧Res P fn true (out x) ⟨σ.n,σ.slots,delR σ.res 888888⟩
def RetD (P:Program) (fn:Func) (g:Nat×Value) (p:τ→Prop) (out:τ→V):Exit→St→Prop
 | .normal,σ=>DRes P fn g p out σ
 | .ret,σ=>DRes P fn g p out σ
 | _,_=>False
def RetE (P:Program) (fn:Func) (p:τ→Prop) (out:τ→V):Exit→St→Prop
 | .normal,σ=>∃ x,p x∧Res P fn true (out x) σ
 | .ret,σ=>∃ x,p x∧Res P fn true (out x) σ
 | _,_=>False
theorem DRes.mk {fn:Func} {g:Nat×Value} {p:τ→Prop} {out:τ→V} {σ:St} {x:τ} (hc:look σ.res 888888=some (.cur g)) (h:Res P fn true (out x) ⟨σ.n,σ.slots,delR σ.res 888888⟩) (hp:p x):DRes P fn g p out σ:=⟨x,hp,hc,h⟩
theorem ERes.mk {fn:Func} {p:τ→Prop} {out:τ→V} {σ:St} {x:τ} (h:Res P fn true (out x) σ) (hp:p x):∃ x,p x∧Res P fn true (out x) σ:=⟨x,hp,h⟩
theorem FnE.walk {n:Nat} {f:FuncId} {fn:Func} {c:Code} {ins:List V0} {p:τ→Prop} {out:τ→V} (hf:P.funcs[f]?=some fn) (hb:fn.body=some c) (hname:(fn.name == "runtime.NumGoroutine")=false) (hnt:fn.ntmps=n) (hn:Nat.ble ins.length n=true)
 (h:∀ w0,AW P w0 c (RetE P fn p out) (st0 n ins)):FnE P f ins p out:=by
 subst hnt
 refine⟨⟨fn,hf,hname,by rw [hb];rfl⟩,fun w vs F hG hv=>?_⟩
 refine calls_of_wp hf hb (Code.wp_mono ?_ (h ⟨w,[],hG⟩ _ _ (rel0 hG hv hn)))
 rintro e a' w' ⟨σ,h1,I,hI⟩
 have key:(∃ x,p x∧Res P fn true (out x) σ)→a'.defers=[]∧∃ v,(results fn a'.tmps).run P w'=.ok v w'∧∃ x,p x∧FnPost w (out x) (.returned v) w':=fun ⟨x,hp,h1⟩=>by
  obtain⟨v,F,g1,g2,g3⟩:=h1 I ⟨w,[],hG⟩ a' w' hI
  exact⟨hI.defers,v,g1,x,hp,v,F,rfl,g2,(g3.2 rfl).1,fun b hb=>⟨(g3.1 b hb).resolve_right (by simp),(g3.2 rfl).2 b hb⟩,hI.ext.toExt⟩
 cases e with
 | normal=>exact key h1
 | ret=>exact key h1
 | exit id=>exact h1.elim
 | goto l=>exact h1.elim
 | panic c=>exact h1.elim
 | outgrown=>exact h1.elim
theorem trunc_get {α:Type} (l:Array α) (n k:Nat) (h:n≤l.size) (hk:k<n):(l.extract 0 n)[k]?=l[k]?:=by
 rw [Array.getElem?_extract]
 simp
 omega
theorem FnD.walk {n:Nat} {f:FuncId} {fn:Func} {c:Code} {ins:List V0} {p:τ→Prop} {out:τ→V} {σ':Nat×Value→St} (hf:P.funcs[f]?=some fn) (hb:fn.body=some c) (hname:(fn.name == "runtime.NumGoroutine")=false) (hnt:fn.ntmps=n) (hn:Nat.ble (ins.length+1) n=true)
 (hi:∀ g,initC 1 (ins.map fun x=>(false,x)) ⟨n,[(0,(true,.a (.one (.pp 888888 0))))],[(888888,.cur g)]⟩=some (σ' g)) (h:∀ w0 g,AW P w0 c (RetD P fn g p out) (σ' g)):FnD P f ins p out:=by
 subst hnt
 refine⟨⟨fn,hf,hname,by rw [hb];rfl⟩,fun w g vs F hG hC hv hgF=>?_⟩
 have hv':=hv.c (FF:=[g.1]) fun b hb hm=>hgF (by simp only [List.mem_singleton] at hm;rwa [←hm])
 have hl:vs.length=ins.length:=by simpa using hv'.len
 have hn':ins.length+1≤fn.ntmps:=Nat.le_of_ble_eq_true hn
 have hglt:g.1<w.heap.size:=hC.1.lt
 let a0:Act:=⟨(List.toArray (.pointer (some ⟨g.1,0,none⟩)::vs))++Array.replicate (fn.ntmps-(List.toArray (Value.pointer (some ⟨g.1,0,none⟩)::vs)).size) undef,[]⟩
 let I0:Ip:=⟨fun b=>b<w.heap.size∧b≠g.1,fun i=>if i=888888 then [g.1] else [],fun _=>undef,fun i=>if i=888888 then g.1 else 0⟩
 have hget:∀ (j:Nat) v,(Value.pointer (some ⟨g.1,0,none⟩)::vs)[j]?=some v→a0.tmps.getD j undef=v:=fun j v hj=>by
  have hjl:=(List.getElem?_eq_some_iff.1 hj).1
  simp only [a0]
  rw [Array.getD_eq_getD_getElem?,Array.getElem?_append_left (by simpa using hjl)]
  have:(List.toArray (Value.pointer (some ⟨g.1,0,none⟩)::vs))[j]?=some v:=by simpa using hj
  rw [this];rfl
 have hr0:RelI I0 ⟨w,[g.1],hG⟩ ⟨fn.ntmps,[(0,(true,.a (.one (.pp 888888 0))))],[(888888,.cur g)]⟩ a0 w:=by
  have key:∀ i r,look [(888888,R.cur g)] i=some r→i=888888∧r=.cur g:=fun i r hi=>by
   rw [look_cons] at hi
   split at hi
   · rename_i e;cases hi;exact⟨e.symm,rfl⟩
   cases hi
  refine⟨Chg.refl w [g.1],rfl,by simp [a0,hl];omega,fun i z hi=>?_,fun id r hi=>?_,fun b hb=>hb.1,fun id b hb=>?_,fun id r hi=>?_,fun i j hne b hb hb'=>?_⟩
  · rw [look_cons] at hi
    split at hi
    · rename_i e
      subst e;cases hi;exact hget 0 _ rfl
    cases hi
  · obtain⟨rfl,rfl⟩:=key id r hi
    exact⟨rfl,rfl,hC.1⟩
  · simp only [I0] at hb ⊢
    split at hb
    · simp only [List.mem_singleton] at hb;subst hb;exact⟨hglt,fun h=>h.2 rfl⟩
    cases hb
  · obtain⟨rfl,rfl⟩:=key id r hi
    refine⟨by simp [I0],fun b hb=>?_⟩
    have:b=g.1:=by simpa [I0] using hb
    subst this
    exact⟨.inr (by simp),hC.2⟩
  simp only [I0] at hb hb'
  split at hb
  · split at hb'
    · omega
    cases hb'
  cases hb
 obtain⟨I1,r1⟩:=initC_ok (FF:=[g.1]) (fun _ _ _=>trivial) (hi g) hr0 (fun b h1 h2=>⟨h1,fun e=>h2 (by simp [e])⟩) hv' (by simp) (fun b hb=>by cases hb) fun j v hj=>hget (1+j) v (by rw [Nat.add_comm];simpa using hj)
 refine calls_of_wp hf hb (Code.wp_mono ?_ (h ⟨w,[g.1],hG⟩ g _ _ ⟨I1,r1⟩))
 rintro e a' w' ⟨σ1,h1,I,hI⟩
 have key:DRes P fn g p out σ1→a'.defers=[]∧∃ v,(results fn a'.tmps).run P w'=.ok v w'∧DPost w g p out (.returned v) w':=fun ⟨x,hp,hcur,h1⟩=>by
  obtain⟨hF,hB,hcu⟩:I.F 888888=[g.1]∧I.B 888888=g.1∧CuB I.Z w' g:=hI.res _ _ hcur
  have hsz:w.heap.size≤w'.heap.size:=hI.ext.size
  let W:World:={ w' with heap:=w'.heap.extract 0 w.heap.size }
  have hW:W.heap.size=w.heap.size:=by simp [W];omega
  have hWk:∀ k,k<w.heap.size→W.heap[k]?=w'.heap[k]?:=fun k hk=>trunc_get _ _ _ hsz hk
  have hGW:Good W []:=hG.step (Nat.le_of_eq hW.symm) (fun k hk hn=>(hWk k hk).trans (hI.ext.block k hk hn)) fun b hb=>by cases hb
  have hI2:RelI I ⟨W,[],hGW⟩ ⟨σ1.n,σ1.slots,delR σ1.res 888888⟩ a' w':=by
   refine⟨⟨rfl,rfl,rfl,by rw [hW];exact hsz,fun k hk _=>?_⟩,hI.defers,hI.size,hI.slots,fun id r hr=>hI.res id r (look_delR _ _ _ _ hr).2,hI.old,hI.lt,fun id r hr=>?_,hI.apart⟩
   · rw [hW] at hk;exact (hWk k hk).symm
   obtain⟨e1,e2⟩:=look_delR _ _ _ _ hr
   refine⟨(hI.own id r e2).1,fun b hb=>⟨?_,((hI.own id r e2).2 b hb).2⟩⟩
   rcases ((hI.own id r e2).2 b hb).1 with h|h
   · left;show W.heap.size≤b;rw [hW];exact h
   exfalso
   have:b=g.1:=by simpa using h
   subst this;exact hI.apart id 888888 e1 _ hb (by rw [hF];simp)
  obtain⟨v,F,g1,g2,g3⟩:=h1 I ⟨W,[],hGW⟩ a' w' hI2
  refine⟨hI.defers,v,g1,x,v,F,rfl,hp,g2,(g3.2 rfl).1,fun b hb=>⟨?_,(g3.2 rfl).2 b hb⟩,hI.ext,?_,?_⟩
  · have:=(g3.1 b hb).resolve_right (by simp)
    rwa [show (Base.W ⟨W,[],hGW⟩).heap.size=w.heap.size from hW] at this
  · refine hcu.congr rfl fun b _ hz=>⟨⟨hI.old b hz,fun e=>?_⟩,rfl⟩
    subst e;exact (hI.lt 888888 _ (by rw [hF];simp)).2 hz
  exact ((hI.own 888888 _ hcur).2 g.1 (by rw [hF];simp)).2
 cases e with
 | normal=>exact key h1
 | ret=>exact key h1
 | exit id=>exact h1.elim
 | goto l=>exact h1.elim
 | panic c=>exact h1.elim
 | outgrown=>exact h1.elim
def readD (u:Nat) (σ:St):E→Option T
 | .t x=>some x
 | .vw id x=>bif Nat.beq id u then none else some x
 | .rf id=>match look σ.res id with|some (.row k rows)=>some (.sl k rows)|_=>none
 | _=>none
def readDA (u:Nat) (σ:St):A→Option V0
 | .one e=>match readD u σ e with|some t=>some (.one t)|none=>none
 | .agg l=>match mapO (readD u σ) l with|some ts=>some (.agg ts)|none=>none
inductive ArgsD (σ:St) (u:Nat) (q:Bool):List Operand→List V0→Prop where
 | nil:ArgsD σ u q [] []
 | cons {x:Operand} {A0:A} {v:V0} {l:List Operand} {vs:List V0} (hx:Get σ q x A0) (hv:readDA u σ A0=some v) (h:ArgsD σ u q l vs):ArgsD σ u q (x::l) (v::vs)
section
variable {I:Ip} {w0:Base} {w:World} {a:Act} {u:Nat} {g:Nat×Value}
theorem readD_ok (hr:RelI I w0 σ a w) (hu:look σ.res u=some (.cur g)) {e:E} {t:T} {c:Value} (h:readD u σ e=some t) (hv:VE I w e c):∃ G,C false w t c G∧∀ b∈G,b∉I.F u:=by
 cases e with
 | t x=>cases h;obtain⟨G,h1,h2⟩:=hv;exact⟨G,h1,fun b hb hm=>(hr.lt u b hm).2 (h2 b hb)⟩
 | vw id x=>
  rw [readD] at h
  cases hb:Nat.beq id u with
  | true=>rw [hb] at h;cases h
  | false=>
   rw [hb] at h;cases h
   obtain⟨G,h1,h2⟩:=hv
   exact⟨G,h1,fun b hb'=>hr.apart id u (beq_ne hb) b (h2 b hb')⟩
 | rf id=>
  rw [readD] at h
  split at h
  · rename_i k rows h0
    cases h
    have hc:c=I.hd id:=hv.1
    have hne:id≠u:=fun e=>by subst e;rw [hu] at h0;cases h0
    rw [hc];exact⟨_,C.read (show C true w (.sl k rows) _ _ from hr.res id _ h0),hr.apart id u hne⟩
  cases h
 | pp id off=>cases h
 | pr id k i j=>cases h
 | sb id k i j=>cases h
 | tl id k j=>cases h
 | pf id k j=>cases h
 | no=>cases h
theorem mapD_ok (hr:RelI I w0 σ a w) (hu:look σ.res u=some (.cur g)):∀ {l:List E} {ts:List T} {cs:List Value},mapO (readD u σ) l=some ts→VEs I w l cs→∃ G,Cs false w ts cs G∧∀ b∈G,b∉I.F u
 | [],ts,cs,h,hv=>by cases h;exact⟨[],by unfold Cs;exact⟨hv,rfl⟩,fun _ hb=>by cases hb⟩
 | e::r,ts,cs,h,hv=>by
  obtain⟨c,cr,rfl,h1,h2⟩:=hv
  rw [mapO] at h
  split at h
  · rename_i t e1
    split at h
    · rename_i ts' e2
      cases h
      obtain⟨G1,g1,k1⟩:=readD_ok hr hu e1 h1
      obtain⟨G2,g2,k2⟩:=mapD_ok hr hu e2 h2
      exact⟨G1++G2,by unfold Cs;exact⟨c,cr,G1,G2,rfl,g1,g2,rfl⟩,fun b hb=>(List.mem_append.1 hb).elim (k1 b) (k2 b)⟩
    cases h
  cases h
theorem readDA_ok (hr:RelI I w0 σ a w) (hu:look σ.res u=some (.cur g)) {x:A} {t:V0} {v:Value} (h:readDA u σ x=some t) (hv:VA I w x v):∃ G,V0r false w t v G∧∀ b∈G,b∉I.F u:=by
 cases x with
 | one e=>
  rw [readDA] at h
  split at h
  · rename_i t' h1;cases h;exact readD_ok hr hu h1 hv
  cases h
 | agg l=>
  rw [readDA] at h
  split at h
  · rename_i ts h1;cases h
    obtain⟨cs,h2,h3⟩:=hv
    obtain⟨G,h4,h5⟩:=mapD_ok hr hu h1 h3
    exact⟨G,⟨cs,h2,h4⟩,h5⟩
  cases h
theorem ArgsD.ok {l:List Operand} {ins:List V0} (h:ArgsD σ u true l ins) (hr:RelI I w0 σ a w) (hu:look σ.res u=some (.cur g)):∃ F,V0s false w ins (l.map a.eval) F∧∀ b∈F,b∉I.F u:=by
 induction h with
 | nil=>exact⟨[],⟨rfl,rfl⟩,fun _ hb=>by cases hb⟩
 | cons hx hv h ih=>
  obtain⟨F,ih,k1⟩:=ih
  obtain⟨G,hg,k2⟩:=readDA_ok hr hu hv (hx.va hr rfl)
  exact⟨G++F,⟨_,_,G,F,rfl,hg,ih,rfl⟩,fun b hb=>(List.mem_append.1 hb).elim (k2 b) (k1 b)⟩
theorem RelI.moved (hr:RelI I w0 σ a w) (hu:look σ.res u=some (.cur g)) (hn:nvB u σ.slots σ.res=true) {w':World} (hc:Chg w w' [g.1]) (hg:CuOk w' g) (hZ:∀ b,I.Z b→b≠g.1) (hcu:CuB I.Z w' g):∃ I',RelI I' w0 σ a w'∧I'.Z=I.Z∧I'.F=I.F:=by
 obtain⟨hF,hB,_⟩:I.F u=[g.1]∧I.B u=g.1∧CuB I.Z w g:=hr.res _ _ hu
 have h:=hr.upd (w':=w') hu (by rw [hF];exact hc) (G:=[g.1]) (r:=.cur g) ⟨by simp,fun b hb=>?_⟩ ⟨by simp [Ip.set],by simp [Ip.set,hB],hcu⟩
 · rw [upd_nv hn,setR_same _ _ _ hu] at h
   refine⟨_,h,rfl,?_⟩
   funext i
   simp only [Ip.set]
   split
   · rename_i e;rw [e,hF]
   rfl
 simp only [List.mem_singleton] at hb
 subst hb
 exact⟨((hr.own u _ hu).2 _ (by rw [hF];simp)).1,hcu.lt,hg.2,.inl (by rw [hF];simp)⟩
end
theorem R_calldG {f:FuncId} {x:Operand} {l:List Operand} {tys:Array TypeId} {ins:List V0} {p:τ→Prop} {out:τ→V} {g:Nat×Value} {u:Nat} {y:τ→S} {rs:τ→List (Nat×R)} (n:Nat) (h:FnD P f ins p out) (ho:o.op=.call { callee:=.value (.func f),args:=(x::l).toArray,argTypes:=tys }) (hg:Grd ops o σ true) (hd:o.dst.all (fun d=>Nat.blt d σ.n)=true)
 (hx:Get σ true x (.one (.pp u 0))) (hu:look σ.res u=some (.cur g)) (hn:nvB u σ.slots σ.res=true) (ha:ArgsD σ u true l ins) (hout:∀ z,outV n (out z)=some (y z,rs z)) (hf:∀ z,((rs z).all fun x=>!σ.has x.1)=true):OpE P ops o σ fun σ'=>∃ z,p z∧σ'=(σ.adds (rs z)).put o.dst (true,y z):=by
 rintro w0 a w ⟨I,hr⟩ K Q hK
 rw [hg.wanted hr]
 simp only [if_true]
 obtain⟨hF,hB,hcu⟩:I.F u=[g.1]∧I.B u=g.1∧CuB I.Z w g:=hr.res _ _ hu
 obtain⟨F,hV,hap⟩:=ha.ok hr hu
 have hv:a.eval x=.pointer (some ⟨g.1,0,none⟩):=by
  have:a.eval x=.pointer (some ⟨I.B u,0,none⟩):=hx.va hr rfl
  rw [this,hB]
 have hZg:∀ b,I.Z b→b≠g.1:=fun b hz e=>by subst e;exact (hr.lt u _ (by rw [hF];simp)).2 hz
 have hgo:=(hr.own u _ hu).2 g.1 (by rw [hF];simp)
 have hok:CuOk w g:=⟨hcu.congr rfl fun b _ hz=>⟨⟨hr.old b hz,hZg b hz⟩,rfl⟩,hgo.2⟩
 have hgood:Good w [g.1]:=hr.goodF fun b hb=>by simp only [List.mem_singleton] at hb;subst hb;exact hgo.1
 unfold Oper.wp
 rw [run_enter h.1 ho,List.map_cons,hv]
 refine (h.2 w g _ F hgood hok hV (fun hm=>hap g.1 hm (by rw [hF];simp))).mono fun e w' hR=>?_
 obtain⟨z,v,G,rfl,hp,h1,h2,h3,h4,h5⟩:=hR
 have hsize:=h4.size
 have hcu':CuB I.Z w' g:=by
  obtain⟨i,m,t,G0,bs,k1,k2,k3,k4,k5⟩:=hcu
  obtain⟨i',m',t',G0',bs',j1,j2,j3,j4,j5⟩:=h5.1
  exact⟨i',m',t',G0,bs,j1,k2.congr fun b hb=>h4.block b (k2.lt b hb) (by simpa using hZg b (k3 b hb)),k3,j4,k5⟩
 obtain⟨I',hr',hZ',hF'⟩:=hr.moved hu hn h4 h5 hZg hcu'
 obtain⟨I2,g1,g2⟩:=outV_ok (hout z) (hf z) hr' h1 h2 fun b hb=>⟨.inl (Nat.le_trans hr.ext.size (h3 b hb).1),(Vr.lt h1 b hb),(h3 b hb).2,fun hz=>by rw [hZ'] at hz;have:=hr.old b hz;have:=(h3 b hb).1;omega,fun i hi=>by rw [hF'] at hi;have:=(hr.lt i b hi).1;have:=(h3 b hb).1;omega⟩
 refine hK _ _ _ ⟨z,hp,rfl⟩ ⟨I2,g1.put ?_ g2⟩
 have:(σ.adds (rs z)).n=σ.n:=adds_n (rs z)
 rw [this];exact hd
theorem A9 {f:FuncId} {x:Operand} {l:List Operand} {tys:Array TypeId} {ins:List V0} {p:τ→Prop} {out:τ→V} {g:Nat×Value} {u:Nat} {y:τ→S} {rs:τ→List (Nat×R)} (n:Nat) (h:FnD P f ins p out) (ho:o.op=.call { callee:=.value (.func f),args:=(x::l).toArray,argTypes:=tys }) (hg:o.guard=none) (hd:o.dst.all (fun d=>Nat.blt d σ.n)=true)
 (hx:Get σ true x (.one (.pp u 0))) (hu:look σ.res u=some (.cur g)) (hn:nvB u σ.slots σ.res=true) (ha:ArgsD σ u true l ins) (hout:∀ z,outV n (out z)=some (y z,rs z)) (hf:∀ z,((rs z).all fun x=>!σ.has x.1)=true):OpE P ops o σ fun σ'=>∃ z,p z∧σ'=(σ.adds (rs z)).put o.dst (true,y z):=
 R_calldG n h ho (.no hg) hd hx hu hn ha hout hf
theorem R_calldq [Inhabited τ] {q:Bool} {f:FuncId} {x:Operand} {l:List Operand} {tys:Array TypeId} {ins:List V0} {p:τ→Prop} {out:τ→V} {g:Nat×Value} {u:Nat} {y:τ→S} (n:Nat) (h:FnD P f ins p out) (ho:o.op=.call { callee:=.value (.func f),args:=(x::l).toArray,argTypes:=tys }) (hg:Grd ops o σ q) (hd:o.dst.all (fun d=>Nat.blt d σ.n)=true)
 (hx:Get σ q x (.one (.pp u 0))) (hu:look σ.res u=some (.cur g)) (hn:nvB u σ.slots σ.res=true) (ha:ArgsD σ u q l ins) (hout:∀ z,outV n (out z)=some (y z,[])):OpE P ops o σ fun σ'=>∃ z,(q=true→p z)∧σ'=σ.put o.dst (q,y z):=by
 cases q with
 | true=>
  intro w0 a w hr K Q hK;refine R_calldG (rs:=fun _=>[]) n h ho hg hd hx hu hn ha hout (fun _=>rfl) w0 a w hr K Q fun σ' a' w' ⟨z,hz,e⟩ hr'=>hK σ' a' w' ⟨z,fun _=>hz,e⟩ hr'
 | false=>
  rintro w0 a w ⟨I,hr⟩ K Q hK
  rw [hg.wanted hr]
  exact hK _ _ _ ⟨default,fun h=>(by cases h),rfl⟩ ⟨I,hr.put hd rfl⟩
theorem R_calln {f:FuncId} {x:Operand} {tys:Array TypeId} {bs:List Int} (u:Nat) (h:FnN P f) (ho:o.op=.call { callee:=.value (.func f),args:=[x].toArray,argTypes:=tys }) (hg:o.guard=none) (hd:o.dst.all (fun d=>Nat.blt d σ.n)=true)
 (hx:Get σ true x (.one (.t (.sl 1 (byR bs))))) (hb:∀ n∈bs,0≤n∧n<256) (hf:σ.has u=false):OpE P ops o σ fun σ'=>∃ g,σ'=(σ.add u (.cur g)).put o.dst (true,.a (.one (.pp u 0))):=by
 rintro w0 a w ⟨I,hr⟩ K Q hK
 simp only [Region.wanted,hg,if_true]
 obtain⟨G,hC,hZ⟩:VE I w (.t (.sl 1 (byR bs))) (a.eval x):=hx.va hr rfl
 unfold Oper.wp
 rw [run_enter h.1 ho]
 refine (h.2 w _ G bs hr.good hC hb).mono fun e w' hR=>?_
 obtain⟨g,i,m,t,rfl,h1,h2,h3,h4,h5⟩:=hR
 have hlt:g<w'.heap.size:=(Array.getElem?_eq_some_iff.1 h3).1
 have hr':=hr.add (id:=u) hf h5 (G:=[g]) (u:=undef) (b:=g) (r:=.cur (g,a.eval x)) ⟨by simp,fun b hb=>by simp only [List.mem_singleton] at hb;subst hb;exact⟨h1,hlt,h2⟩⟩
  ⟨by simp [Ip.set],by simp [Ip.set],i,m,t,G,bs,h3,hC.mono h5,hZ,h4,hb⟩
 exact hK _ _ _ ⟨(g,a.eval x),rfl⟩ ⟨_,hr'.put hd (by show Value.pointer _=Value.pointer _;simp [Ip.set])⟩
end
end Go.Q
namespace Go.Q
open Go.RowKit
section
variable {P:Program}
def EndP (Φ:St→Prop):Exit→St→Prop
 | .normal,σ=>∃ σt,Φ σt∧Le σ σt
 | _,_=>False
theorem EndP.run {ops:Array Oper} {o:Oper} {σ:St} {Φ:St→Prop} (h:∀ w0,AWl P w0 ops (EndP Φ) [o] σ) {w0:Base} {a:Act} {w:World} (hr:Rel w0 σ a w) (K:Act→World→Prop) (Q:Exit→Act→World→Prop) (hK:∀ a' w' σ',Φ σ'→Rel w0 σ' a' w'→K a' w') :
 if Region.wanted o (yielded ops a.tmps) then o.wp P a w K Q else K (a.put o.dst undef) w:=by
 have h1:=h w0 a w hr
 unfold wpList at h1
 have hN:∀ a' w',wpList P ops (lift w0 (EndP Φ)) [] a' w'→K a' w':=fun a' w' h=>by
  obtain⟨σ',⟨σt,h2,h4⟩,h3⟩:=h
  exact hK a' w' σt h2 (h4 w0 a' w' h3)
 have hF:∀ e a' w',e≠Exit.normal→lift w0 (EndP Φ) e a' w'→False:=fun e a' w' he h=>by
  obtain⟨σ',h2,h3⟩:=h
  cases e<;>first|exact he rfl|exact h2
 have hL:LetsOut (lift w0 (EndP Φ))→False:=fun ⟨a',w',h⟩=>hF _ a' w' (by simp) h
 split
 · rename_i hw
   rw [if_pos hw] at h1
   rcases h1 with h1|⟨_,h1⟩
   · unfold Oper.wp at *
     generalize (execOp a.eval o).run P w=r at *
     cases r with
     | ok n w'=>
      cases n<;>simp only [Oper.upon] at h1 ⊢<;>
       first
        | exact hN _ _ h1
        | exact Calls.mono h1 (fun e w'' he=>by cases e<;>first|exact hN _ _ he|exact (hL he).elim|exact (hF _ _ _ (by simp) he).elim)
        | exact Rows.mono h1 (fun _ _ he=>hN _ _ he)
     | halt x w'=>cases x<;>simp only [Oper.upon] at h1 ⊢<;>first|exact h1.elim|exact (hF _ _ _ (by simp) h1).elim
   exact (hL h1).elim
 rename_i hw
 rw [if_neg hw] at h1
 exact hN _ _ h1
def Stp (P:Program) (l:List Oper) (o:Oper) (Φ:St→Prop) (σ:St):Prop:=∀ w0 a w,Rel w0 σ a w→∀ (K:Act→World→Prop) (Q:Exit→Act→World→Prop),(∀ a' w' σ',Φ σ'→Rel w0 σ' a' w'→K a' w')→
 if Region.wanted o (yielded l.toArray a.tmps) then o.wp P a w K Q else K (a.put o.dst undef) w
structure Dg (P:Program) (l:List Oper) (acc:List (Nat×(St→Prop))) (es:List (Nat×Nat×Nat)) (Fin:(Nat→St→Prop)→Prop):Prop where
 pf:∃ st:Nat→St→Prop,(∀ k Φ,look acc k=some Φ→st k=Φ)∧(∀ e∈es,∀ o,l[e.2.1]?=some o→∀ σ,st e.1 σ→Stp P l o (st e.2.2) σ)∧Fin st
variable {l:List Oper} {acc:List (Nat×(St→Prop))} {es:List (Nat×Nat×Nat)} {Fin:(Nat→St→Prop)→Prop}
theorem Dg.new {a i b:Nat} {Φ Φ':St→Prop} {o:Oper} (ha:look acc a=some Φ) (ho:l[i]?=some o) (hb:look acc b=none) (hE:∀ σ,Φ σ→Stp P l o Φ' σ) (h:Dg P l ((b,Φ')::acc) es Fin):Dg P l acc ((a,i,b)::es) Fin:=by
 obtain⟨st,h1,h2,h3⟩:=h.pf
 have hne:b≠a:=fun e=>by subst e;rw [hb] at ha;cases ha
 have h1':∀ k σ,look acc k=some σ→st k=σ:=fun k σ hk=>h1 k σ (by
  rw [look_cons,if_neg (fun e=>?_)]
  · exact hk
  subst e;rw [hb] at hk;cases hk)
 refine⟨st,h1',fun e he o' ho' σ hσ=>?_,h3⟩
 rcases List.mem_cons.1 he with rfl|he
 · simp only at ho' hσ ⊢
   rw [ho] at ho';cases ho'
   rw [h1' a Φ ha] at hσ
   rw [h1 b Φ' (by rw [look_cons,if_pos rfl])]
   exact hE σ hσ
 exact h2 e he o' ho' σ hσ
theorem Dg.old {a i b:Nat} {Φ Φ':St→Prop} {o:Oper} (ha:look acc a=some Φ) (ho:l[i]?=some o) (hb:look acc b=some Φ') (hE:∀ σ,Φ σ→Stp P l o Φ' σ) (h:Dg P l acc es Fin):Dg P l acc ((a,i,b)::es) Fin:=by
 obtain⟨st,h1,h2,h3⟩:=h.pf
 refine⟨st,h1,fun e he o' ho' σ hσ=>?_,h3⟩
 rcases List.mem_cons.1 he with rfl|he
 · simp only at ho' hσ ⊢
   rw [ho] at ho';cases ho'
   rw [h1 a Φ ha] at hσ
   rw [h1 b Φ' hb]
   exact hE σ hσ
 exact h2 e he o' ho' σ hσ
theorem Dg.fin {w0:Base} {Q:Exit→St→Prop} {N k:Nat} {Φ:St→Prop} (hk:look acc k=some Φ) (h:∀ σ',Φ σ'→AWl P w0 l.toArray Q (l.drop N) σ'):Dg P l acc [] (fun st=>∀ σ',st k σ'→AWl P w0 l.toArray Q (l.drop N) σ'):=
 ⟨fun i=>(look acc i).getD fun _=>False,fun i σ' hi=>by simp [hi],fun e he=>(by cases he),by simpa [hk] using h⟩
theorem C2 {σ σ' s:St} (h:Le σ σ') (e:s=σ'):EndQ s .normal σ:=by subst e;exact h
theorem Stp.run {o:Oper} {σ σt:St} {Φ:St→Prop} (h:∀ w0,AWl P w0 l.toArray (EndQ σt) [o] σ) (hΦ:Φ σt):Stp P l o Φ σ:=fun w0 a w hr K Q hK=>EndQ.run h hr K Q fun a' w' hr'=>hK a' w' σt hΦ hr'
theorem D0 {o:Oper} {σ:St} {Φ Ψ:St→Prop} (h:OpE P l.toArray o σ Ψ) (hL:∀ σ',Ψ σ'→∃ σt,Φ σt∧Le σ' σt):Stp P l o Φ σ:=fun w0 a w hr K Q hK=>h w0 a w hr K Q fun σ' a' w' hσ' hr'=>by
 obtain⟨σt,h1,h2⟩:=hL σ' hσ'
 exact hK a' w' σt h1 (h2 w0 a' w' hr')
def Nd0  (p:Prop) (s:St):St→Prop:=fun σ=>p∧σ=s
def Nd1 {α1:Type} (p:α1→Prop) (s:α1→St):St→Prop:=fun σ=>∃ z1,p z1∧σ=s z1
def Nd2 {α1:Type} {α2:Type} (p:α1→α2→Prop) (s:α1→α2→St):St→Prop:=fun σ=>∃ z1 z2,p z1 z2∧σ=s z1 z2
def Nd3 {α1:Type} {α2:Type} {α3:Type} (p:α1→α2→α3→Prop) (s:α1→α2→α3→St):St→Prop:=fun σ=>∃ z1 z2 z3,p z1 z2 z3∧σ=s z1 z2 z3
def Nd4 {α1:Type} {α2:Type} {α3:Type} {α4:Type} (p:α1→α2→α3→α4→Prop) (s:α1→α2→α3→α4→St):St→Prop:=fun σ=>∃ z1 z2 z3 z4,p z1 z2 z3 z4∧σ=s z1 z2 z3 z4
theorem Dg.new0 {a i b:Nat}  {p:Prop} {s s':St} {o:Oper} (ha:look acc a=some (Nd0 p s)) (ho:l[i]?=some o) (hb:look acc b=none) (hE:∀ w0,p→AWl P w0 l.toArray (EndQ (s')) [o] (s)) (h:Dg P l ((b,Nd0 p s')::acc) es Fin):Dg P l acc ((a,i,b)::es) Fin:=
 Dg.new ha ho hb (fun σ h=>by obtain⟨hp,rfl⟩:=h;exact Stp.run (fun w0=>hE w0  hp) ⟨hp,rfl⟩) h
theorem Dg.fin0 {w0:Base} {Q:Exit→St→Prop} {N k:Nat}  {p:Prop} {s:St} (hk:look acc k=some (Nd0 p s)) (h:p→AWl P w0 l.toArray Q (l.drop N) (s)):Dg P l acc [] (fun st=>∀ σ',st k σ'→AWl P w0 l.toArray Q (l.drop N) σ'):=
 Dg.fin hk fun σ h'=>by obtain⟨hp,rfl⟩:=h';exact h  hp
theorem Dg.drw0 {a i b:Nat}  {β:Type} {p:Prop} {s:St} {q:β→Prop} {f s':β→St} {o:Oper} (ha:look acc a=some (Nd0 p s)) (ho:l[i]?=some o) (hE:p→OpE P l.toArray o (s) (fun σ'=>∃ y,q y∧σ'=f y)) (hb:look acc b=none) (hL:∀ y,p→q y→EndQ (s' y) .normal (f y)) (h:Dg P l ((b,Nd1 (fun y=>p∧q y) s')::acc) es Fin):Dg P l acc ((a,i,b)::es) Fin:=
 Dg.new ha ho hb (fun σ h=>by
  obtain⟨hp,rfl⟩:=h
  refine D0 (hE  hp) ?_
  rintro _ ⟨y,hy,rfl⟩
  exact⟨_,⟨y,⟨hp,hy⟩,rfl⟩,hL y hp hy⟩) h
theorem Dg.odr0 {a i b:Nat}  {β:Type} {p:Prop} {s:St} {q:β→Prop} {f s':β→St} {o:Oper} (ha:look acc a=some (Nd0 p s)) (ho:l[i]?=some o) (hE:p→OpE P l.toArray o (s) (fun σ'=>∃ y,q y∧σ'=f y)) (hb:look acc b=some (Nd1 (fun y=>p∧q y) s')) (hL:∀ y,p→q y→EndQ (s' y) .normal (f y)) (h:Dg P l acc es Fin):Dg P l acc ((a,i,b)::es) Fin:=
 Dg.old ha ho hb (fun σ h=>by
  obtain⟨hp,rfl⟩:=h
  refine D0 (hE  hp) ?_
  rintro _ ⟨y,hy,rfl⟩
  exact⟨_,⟨y,⟨hp,hy⟩,rfl⟩,hL y hp hy⟩) h
theorem Dg.new1 {a i b:Nat} {α1:Type} {p:α1→Prop} {s s':α1→St} {o:Oper} (ha:look acc a=some (Nd1 p s)) (ho:l[i]?=some o) (hb:look acc b=none) (hE:∀ w0,∀ z1,p z1→AWl P w0 l.toArray (EndQ (s' z1)) [o] (s z1)) (h:Dg P l ((b,Nd1 p s')::acc) es Fin):Dg P l acc ((a,i,b)::es) Fin:=
 Dg.new ha ho hb (fun σ h=>by obtain⟨z1,hp,rfl⟩:=h;exact Stp.run (fun w0=>hE w0 z1 hp) ⟨z1,hp,rfl⟩) h
theorem Dg.old1 {a i b:Nat} {α1:Type} {p:α1→Prop} {s s':α1→St} {o:Oper} (ha:look acc a=some (Nd1 p s)) (ho:l[i]?=some o) (hb:look acc b=some (Nd1 p s')) (hE:∀ w0,∀ z1,p z1→AWl P w0 l.toArray (EndQ (s' z1)) [o] (s z1)) (h:Dg P l acc es Fin):Dg P l acc ((a,i,b)::es) Fin:=
 Dg.old ha ho hb (fun σ h=>by obtain⟨z1,hp,rfl⟩:=h;exact Stp.run (fun w0=>hE w0 z1 hp) ⟨z1,hp,rfl⟩) h
theorem Dg.fin1 {w0:Base} {Q:Exit→St→Prop} {N k:Nat} {α1:Type} {p:α1→Prop} {s:α1→St} (hk:look acc k=some (Nd1 p s)) (h:∀ z1,p z1→AWl P w0 l.toArray Q (l.drop N) (s z1)):Dg P l acc [] (fun st=>∀ σ',st k σ'→AWl P w0 l.toArray Q (l.drop N) σ'):=
 Dg.fin hk fun σ h'=>by obtain⟨z1,hp,rfl⟩:=h';exact h z1 hp
theorem Dg.drw1 {a i b:Nat} {α1:Type} {β:Type} {p:α1→Prop} {s:α1→St} {q:α1→β→Prop} {f s':α1→β→St} {o:Oper} (ha:look acc a=some (Nd1 p s)) (ho:l[i]?=some o) (hE:∀ z1,p z1→OpE P l.toArray o (s z1) (fun σ'=>∃ y,q z1 y∧σ'=f z1 y)) (hb:look acc b=none) (hL:∀ z1 y,p z1→q z1 y→EndQ (s' z1 y) .normal (f z1 y)) (h:Dg P l ((b,Nd2 (fun z1 y=>p z1∧q z1 y) s')::acc) es Fin):Dg P l acc ((a,i,b)::es) Fin:=
 Dg.new ha ho hb (fun σ h=>by
  obtain⟨z1,hp,rfl⟩:=h
  refine D0 (hE z1 hp) ?_
  rintro _ ⟨y,hy,rfl⟩
  exact⟨_,⟨z1,y,⟨hp,hy⟩,rfl⟩,hL z1 y hp hy⟩) h
theorem Dg.odr1 {a i b:Nat} {α1:Type} {β:Type} {p:α1→Prop} {s:α1→St} {q:α1→β→Prop} {f s':α1→β→St} {o:Oper} (ha:look acc a=some (Nd1 p s)) (ho:l[i]?=some o) (hE:∀ z1,p z1→OpE P l.toArray o (s z1) (fun σ'=>∃ y,q z1 y∧σ'=f z1 y)) (hb:look acc b=some (Nd2 (fun z1 y=>p z1∧q z1 y) s')) (hL:∀ z1 y,p z1→q z1 y→EndQ (s' z1 y) .normal (f z1 y)) (h:Dg P l acc es Fin):Dg P l acc ((a,i,b)::es) Fin:=
 Dg.old ha ho hb (fun σ h=>by
  obtain⟨z1,hp,rfl⟩:=h
  refine D0 (hE z1 hp) ?_
  rintro _ ⟨y,hy,rfl⟩
  exact⟨_,⟨z1,y,⟨hp,hy⟩,rfl⟩,hL z1 y hp hy⟩) h
theorem Dg.new2 {a i b:Nat} {α1:Type} {α2:Type} {p:α1→α2→Prop} {s s':α1→α2→St} {o:Oper} (ha:look acc a=some (Nd2 p s)) (ho:l[i]?=some o) (hb:look acc b=none) (hE:∀ w0,∀ z1 z2,p z1 z2→AWl P w0 l.toArray (EndQ (s' z1 z2)) [o] (s z1 z2)) (h:Dg P l ((b,Nd2 p s')::acc) es Fin):Dg P l acc ((a,i,b)::es) Fin:=
 Dg.new ha ho hb (fun σ h=>by obtain⟨z1,z2,hp,rfl⟩:=h;exact Stp.run (fun w0=>hE w0 z1 z2 hp) ⟨z1,z2,hp,rfl⟩) h
theorem Dg.drw2 {a i b:Nat} {α1:Type} {α2:Type} {β:Type} {p:α1→α2→Prop} {s:α1→α2→St} {q:α1→α2→β→Prop} {f s':α1→α2→β→St} {o:Oper} (ha:look acc a=some (Nd2 p s)) (ho:l[i]?=some o) (hE:∀ z1 z2,p z1 z2→OpE P l.toArray o (s z1 z2) (fun σ'=>∃ y,q z1 z2 y∧σ'=f z1 z2 y)) (hb:look acc b=none) (hL:∀ z1 z2 y,p z1 z2→q z1 z2 y→EndQ (s' z1 z2 y) .normal (f z1 z2 y)) (h:Dg P l ((b,Nd3 (fun z1 z2 y=>p z1 z2∧q z1 z2 y) s')::acc) es Fin):Dg P l acc ((a,i,b)::es) Fin:=
 Dg.new ha ho hb (fun σ h=>by
  obtain⟨z1,z2,hp,rfl⟩:=h
  refine D0 (hE z1 z2 hp) ?_
  rintro _ ⟨y,hy,rfl⟩
  exact⟨_,⟨z1,z2,y,⟨hp,hy⟩,rfl⟩,hL z1 z2 y hp hy⟩) h
theorem Dg.new3 {a i b:Nat} {α1:Type} {α2:Type} {α3:Type} {p:α1→α2→α3→Prop} {s s':α1→α2→α3→St} {o:Oper} (ha:look acc a=some (Nd3 p s)) (ho:l[i]?=some o) (hb:look acc b=none) (hE:∀ w0,∀ z1 z2 z3,p z1 z2 z3→AWl P w0 l.toArray (EndQ (s' z1 z2 z3)) [o] (s z1 z2 z3)) (h:Dg P l ((b,Nd3 p s')::acc) es Fin):Dg P l acc ((a,i,b)::es) Fin:=
 Dg.new ha ho hb (fun σ h=>by obtain⟨z1,z2,z3,hp,rfl⟩:=h;exact Stp.run (fun w0=>hE w0 z1 z2 z3 hp) ⟨z1,z2,z3,hp,rfl⟩) h
theorem Dg.fin3 {w0:Base} {Q:Exit→St→Prop} {N k:Nat} {α1:Type} {α2:Type} {α3:Type} {p:α1→α2→α3→Prop} {s:α1→α2→α3→St} (hk:look acc k=some (Nd3 p s)) (h:∀ z1 z2 z3,p z1 z2 z3→AWl P w0 l.toArray Q (l.drop N) (s z1 z2 z3)):Dg P l acc [] (fun st=>∀ σ',st k σ'→AWl P w0 l.toArray Q (l.drop N) σ'):=
 Dg.fin hk fun σ h'=>by obtain⟨z1,z2,z3,hp,rfl⟩:=h';exact h z1 z2 z3 hp
theorem Dg.drw3 {a i b:Nat} {α1:Type} {α2:Type} {α3:Type} {β:Type} {p:α1→α2→α3→Prop} {s:α1→α2→α3→St} {q:α1→α2→α3→β→Prop} {f s':α1→α2→α3→β→St} {o:Oper} (ha:look acc a=some (Nd3 p s)) (ho:l[i]?=some o) (hE:∀ z1 z2 z3,p z1 z2 z3→OpE P l.toArray o (s z1 z2 z3) (fun σ'=>∃ y,q z1 z2 z3 y∧σ'=f z1 z2 z3 y)) (hb:look acc b=none) (hL:∀ z1 z2 z3 y,p z1 z2 z3→q z1 z2 z3 y→EndQ (s' z1 z2 z3 y) .normal (f z1 z2 z3 y)) (h:Dg P l ((b,Nd4 (fun z1 z2 z3 y=>p z1 z2 z3∧q z1 z2 z3 y) s')::acc) es Fin):Dg P l acc ((a,i,b)::es) Fin:=
 Dg.new ha ho hb (fun σ h=>by
  obtain⟨z1,z2,z3,hp,rfl⟩:=h
  refine D0 (hE z1 z2 z3 hp) ?_
  rintro _ ⟨y,hy,rfl⟩
  exact⟨_,⟨z1,z2,z3,y,⟨hp,hy⟩,rfl⟩,hL z1 z2 z3 y hp hy⟩) h
theorem Dg.new4 {a i b:Nat} {α1:Type} {α2:Type} {α3:Type} {α4:Type} {p:α1→α2→α3→α4→Prop} {s s':α1→α2→α3→α4→St} {o:Oper} (ha:look acc a=some (Nd4 p s)) (ho:l[i]?=some o) (hb:look acc b=none) (hE:∀ w0,∀ z1 z2 z3 z4,p z1 z2 z3 z4→AWl P w0 l.toArray (EndQ (s' z1 z2 z3 z4)) [o] (s z1 z2 z3 z4)) (h:Dg P l ((b,Nd4 p s')::acc) es Fin):Dg P l acc ((a,i,b)::es) Fin:=
 Dg.new ha ho hb (fun σ h=>by obtain⟨z1,z2,z3,z4,hp,rfl⟩:=h;exact Stp.run (fun w0=>hE w0 z1 z2 z3 z4 hp) ⟨z1,z2,z3,z4,hp,rfl⟩) h
theorem Dg.fin4 {w0:Base} {Q:Exit→St→Prop} {N k:Nat} {α1:Type} {α2:Type} {α3:Type} {α4:Type} {p:α1→α2→α3→α4→Prop} {s:α1→α2→α3→α4→St} (hk:look acc k=some (Nd4 p s)) (h:∀ z1 z2 z3 z4,p z1 z2 z3 z4→AWl P w0 l.toArray Q (l.drop N) (s z1 z2 z3 z4)):Dg P l acc [] (fun st=>∀ σ',st k σ'→AWl P w0 l.toArray Q (l.drop N) σ'):=
 Dg.fin hk fun σ h'=>by obtain⟨z1,z2,z3,z4,hp,rfl⟩:=h';exact h z1 z2 z3 z4 hp
end
end Go.Q
namespace Go.Q
open Go.RowKit
section
variable {P:Program} {ops:Array Oper} {o:Oper} {σ:St}
def Out.nv (u:Nat) (y:Out):Bool:=y.2.1.2.nv u&&y.2.2.all fun x=>x.2.nv u
abbrev Zs:=Nat→Int
def updZ (ζ:Zs) (i:Nat) (z:Int):Zs:=fun j=>if j=i then z else ζ j
def iS (z:Int):Bool×S:=(true,.a (.one (.t (.v (.int .i64 z)))))
def ZStep (P:Program) (ops:Array Oper) (o:Oper) (u:Nat) (small:St) (i:Nat) (ζ:Zs) (outs:Zs→List Out) (p:Zs→Prop):Prop:=
 ((∀ y,(outs ζ)[i]?=some y→Loc P ops o small y)∧p ζ)∨
 ∃ d,∃ q:Int→Prop,o.dst=some d∧(∀ ζ',(outs ζ')[i]?=some (d,iS (ζ' i),[]))∧(∀ z,q z→p (updZ ζ i z))∧∀ σ',Sup small σ'→nvB u σ'.slots σ'.res=true→OpE P ops o σ' fun σ''=>∃ z,q z∧σ''=σ'.put o.dst (iS z)
def PA (L:Nat→Bool):Nat→List (Zs→Prop)→Zs→Prop
 | k,p::r,ζ=>match L (k-1) with|true=>PA L (k-1) r ζ∧p ζ|false=>PA L (k-1) r ζ
 | _,[],_=>True
def getP (ps:List (Zs→Prop)) (i:Nat) (ζ:Zs):Prop:=match ps[i]? with|some p=>p ζ|none=>True
theorem PA_of {L:Nat→Bool} {ζ:Zs}:∀ (acc more:List (Zs→Prop)),(∀ r,r<acc.length→L r=true→getP (acc.reverse++more) r ζ)→PA L acc.length acc ζ
 | [],_,_=>trivial
 | p::r,more,h=>by
  have e:(p::r).reverse++more=r.reverse++(p::more):=by simp
  rw [e] at h
  have ih:=PA_of (L:=L) (ζ:=ζ) r (p::more) fun i hi hL=>h i (by simp;omega) hL
  rw [PA,List.length_cons,Nat.add_sub_cancel]
  split
  · rename_i hL
    refine⟨ih,?_⟩
    have:=h r.length (by simp) hL
    unfold getP at this
    rw [List.getElem?_append_right (by simp)] at this
    simpa using this
  exact ih
structure DrawZ (P:Program) (w0:Base) (Q:Exit→St→Prop) (N u:Nat) (B:Nat→List Nat) (l:List Oper) (n:Nat) (sl:List (Nat×(Bool×S))) (rs:List (Nat×R)) (acc:List (Zs→Out)) (accP:List (Zs→Prop)) (k:Nat) (rest:List Oper):Prop where
 pf:acc.length=k→accP.length=k→rest=l.drop k→∃ (more:List (Zs→Out)) (moreP:List (Zs→Prop)),(acc.reverse++more).length=N∧(accP.reverse++moreP).length=N∧(∀ ζ,dstsN rest (N-k)=more.map fun y=>(y ζ).1)∧
  (∀ i y p,more[i]?=some y→moreP[i]?=some p→∀ ζ ζ':Zs,(∀ r,r=k+i∨memN (B (k+i)) r=true→ζ r=ζ' r)→y ζ=y ζ'∧(p ζ→p ζ'))∧
  (∀ i o,k≤i→i<N→l[i]?=some o→∀ ζ,(∀ r,memN (B i) r=true→getP (accP.reverse++moreP) r ζ)→ZStep P l.toArray o u (stL (memN (B i)) 0 ((acc.reverse++more).map fun y=>y ζ) ⟨n,delS (dstsN l N) sl,rs⟩) i ζ (fun ζ=>(acc.reverse++more).map fun y=>y ζ) (getP (accP.reverse++moreP) i))∧
  (∀ ζ,outB B ⟨n,sl,rs⟩ ((acc.reverse++more).map fun y=>y ζ)=true)∧(∀ ζ,((acc.reverse++more).map fun y=>y ζ).all (Out.nv u)=true)∧
  ∀ ζ,(∀ r,r<N→getP (accP.reverse++moreP) r ζ)→AWl P w0 l.toArray Q (l.drop N) (stL (fun _=>true) 0 ((acc.reverse++more).map fun y=>y ζ) ⟨n,sl,rs⟩)
variable {w0:Base} {Q:Exit→St→Prop} {N u:Nat} {B:Nat→List Nat} {l:List Oper} {n:Nat} {sl:List (Nat×(Bool×S))} {rs:List (Nat×R)} {acc:List (Zs→Out)} {accP:List (Zs→Prop)} {k:Nat} {rest:List Oper}
theorem small_eq (hlt:((B k).all fun j=>Nat.blt j k)=true) (ha:acc.length=k) (more:List (Zs→Out)) (ζ:Zs) (σ:St):stL (memN (B k)) 0 ((acc.reverse++more).map fun y=>y ζ) σ=stR (memN (B k)) k (acc.map fun y=>y ζ) σ:=by
 rw [List.map_append,stL_append,List.map_reverse,←ha,show acc.length=(acc.map fun y=>y ζ).length by simp,stR_eq,stL_false]
 intro j hj
 rw [List.length_reverse,Nat.zero_add,List.length_map,ha] at hj
 rw [List.length_map,ha]
 cases hm:memN (B k) j with
 | false=>rfl
 | true=>
  have h1:=List.all_eq_true.1 hlt j (memN_iff.1 hm)
  have h2:j<k:=Nat.le_of_ble_eq_true h1
  omega
theorem DrawZ.step {y:Zs→Out} {p:Zs→Prop} {d:Nat} (hN:Nat.blt k N=true) (hlt:((B k).all fun j=>Nat.blt j k)=true) (ho:o.dst=some d) (hdy:∀ ζ,(y ζ).1=d) (hL:∀ ζ ζ':Zs,(∀ r,r=k∨memN (B k) r=true→ζ r=ζ' r)→y ζ=y ζ'∧(p ζ→p ζ'))
 (hl:∀ ζ,PA (memN (B k)) k accP ζ→∀ outs:Zs→List Out,(∀ ζ',(outs ζ')[k]?=some (y ζ'))→ZStep P l.toArray o u (stR (memN (B k)) k (acc.map fun y=>y ζ) ⟨n,delS (dstsN l N) sl,rs⟩) k ζ outs p)
 (h:DrawZ P w0 Q N u B l n sl rs (y::acc) (p::accP) (k+1) rest):DrawZ P w0 Q N u B l n sl rs acc accP k (o::rest):=⟨fun ha hap hr=>by
 have hd:rest=l.drop (k+1):=by
  have:=congrArg (List.drop 1) hr
  simpa using this
 have hok:l[k]?=some o:=by
  have:=congrArg (fun x:List Oper=>x[0]?) hr
  simp at this
  exact this.symm
 obtain⟨more,moreP,h1,h2,h3,h4,h5,h6,h7,h8⟩:=h.pf (by simp [ha]) (by simp [hap]) hd
 have e:(y::acc).reverse++more=acc.reverse++(y::more):=by simp
 have e2:(p::accP).reverse++moreP=accP.reverse++(p::moreP):=by simp
 rw [e] at h1 h5 h6 h7 h8
 rw [e2] at h2 h5 h8
 have hN':k<N:=Nat.le_of_ble_eq_true hN
 refine⟨y::more,p::moreP,h1,h2,fun ζ=>?_,fun i y' p' hy hp ζ ζ' he=>?_,fun i o' hk hi ho' ζ hp=>?_,h6,h7,h8⟩
 · rw [show N-k=(N-(k+1))+1 by omega]
   have:=h3 ζ
   simp only [dstsN,List.take_succ_cons,List.filterMap_cons,ho,List.map_cons,hdy] at this ⊢
   rw [this]
 · cases i with
   | zero=>simp at hy hp;subst hy;subst hp;exact hL ζ ζ' he
   | succ i=>exact h4 i y' p' (by simpa using hy) (by simpa using hp) ζ ζ' (by rw [show k+1+i=k+(i+1) by omega];exact he)
 rcases Nat.lt_or_ge k i with hlt'|hge
 · exact h5 i o' (by omega) hi ho' ζ hp
 have:i=k:=by omega
 subst this
 rw [hok] at ho';cases ho'
 rw [small_eq hlt ha]
 have hgp:getP (accP.reverse++(p::moreP)) i=p:=by
  funext ζ
  unfold getP
  rw [List.getElem?_append_right (by simp [hap])]
  simp [hap]
 rw [hgp]
 refine hl ζ ?_ _ fun ζ'=>?_
 · rw [←hap]
   exact PA_of accP (p::moreP) fun r _ hL=>hp r (by rw [hap] at hL;exact hL)
 rw [List.getElem?_map,List.getElem?_append_right (by simp [ha])]
 simp [ha]⟩
theorem DrawZ.pure {y:Zs→Out} {d:Nat} (hN:Nat.blt k N=true) (hlt:((B k).all fun j=>Nat.blt j k)=true) (ho:o.dst=some d)
 (hl:∀ ζ,PA (memN (B k)) k accP ζ→Loc P l.toArray o (stR (memN (B k)) k (acc.map fun y=>y ζ) ⟨n,delS (dstsN l N) sl,rs⟩) (y ζ)) (hdy:∀ ζ,(y ζ).1=d) (hL:∀ ζ ζ':Zs,(∀ r,memN (B k) r=true→ζ r=ζ' r)→y ζ=y ζ')
 (h:DrawZ P w0 Q N u B l n sl rs (y::acc) ((fun _=>True)::accP) (k+1) rest):DrawZ P w0 Q N u B l n sl rs acc accP k (o::rest):=
 DrawZ.step hN hlt ho hdy (fun ζ ζ' he=>⟨hL ζ ζ' fun r hr=>he r (.inr hr),fun _=>trivial⟩) (fun ζ hp outs hout=>.inl ⟨fun y' hy'=>by rw [hout ζ] at hy';cases hy';exact hl ζ hp,trivial⟩) h
theorem DrawZ.draw {q:Zs→Int→Prop} {d:Nat} (hN:Nat.blt k N=true) (hlt:((B k).all fun j=>Nat.blt j k)=true) (ho:o.dst=some d)
 (hl:∀ ζ,PA (memN (B k)) k accP ζ→∀ σ',Sup (stR (memN (B k)) k (acc.map fun y=>y ζ) ⟨n,delS (dstsN l N) sl,rs⟩) σ'→nvB u σ'.slots σ'.res=true→OpE P l.toArray o σ' fun σ''=>∃ z,q ζ z∧σ''=σ'.put o.dst (true,.a (.one (.t (.v (.int .i64 z))))))
 (hL:∀ ζ ζ':Zs,(∀ r,memN (B k) r=true→ζ r=ζ' r)→∀ z,q ζ z→q ζ' z)
 (h:DrawZ P w0 Q N u B l n sl rs ((fun ζ=>(d,(true,.a (.one (.t (.v (.int .i64 (ζ k)))))),[]))::acc) ((fun ζ=>q ζ (ζ k))::accP) (k+1) rest):DrawZ P w0 Q N u B l n sl rs acc accP k (o::rest):=
 DrawZ.step hN hlt ho (fun _=>rfl) (fun ζ ζ' he=>⟨by rw [he k (.inl rfl)],fun hq=>by rw [←he k (.inl rfl)];exact hL ζ ζ' (fun r hr=>he r (.inr hr)) _ hq⟩)
  (fun ζ hp outs hout=>.inr ⟨d,q ζ,ho,hout,fun z hz=>by
   have e:updZ ζ k z k=z:=by unfold updZ;rw [if_pos rfl]
   show q (updZ ζ k z) (updZ ζ k z k)
   rw [e]
   refine hL ζ _ (fun r hr=>?_) z hz
   unfold updZ
   rw [if_neg]
   have h1:=List.all_eq_true.1 hlt r (memN_iff.1 hr)
   have h2:r<k:=Nat.le_of_ble_eq_true h1
   omega,hl ζ hp⟩) h
theorem DrawZ.fin (hk:Nat.beq k N=true) (hU:∀ ζ,outB B ⟨n,sl,rs⟩ (acc.reverse.map fun y=>y ζ)=true) (hV:∀ ζ,(acc.reverse.map fun y=>y ζ).all (Out.nv u)=true) (h:∀ ζ,PA (fun _=>true) k accP ζ→AWl P w0 l.toArray Q rest ⟨n,finSl (acc.map fun y=>y ζ) sl,finRs (acc.map fun y=>y ζ) rs⟩):DrawZ P w0 Q N u B l n sl rs acc accP k rest:=⟨fun ha hap hr=>by
 have hk':=Nat.eq_of_beq_eq_true hk
 subst hk'
 refine⟨[],[],by simp [ha],by simp [hap],fun ζ=>by simp [dstsN],fun i y p hy=>by simp at hy,fun i o h1 h2=>by omega,by simpa using hU,by simpa using hV,fun ζ hp=>?_⟩
 rw [List.append_nil,List.map_reverse,show stL (fun _=>true) 0 (acc.map fun y=>y ζ).reverse ⟨n,sl,rs⟩=stR (fun _=>true) (acc.map fun y=>y ζ).length (acc.map fun y=>y ζ) ⟨n,sl,rs⟩ from (stR_eq _ _ _).symm,fin_eq,←hr]
 refine h ζ ?_
 rw [←hap]
 exact PA_of accP [] fun r hr _=>hp r (by rw [hap] at hr;exact hr)⟩
end
end Go.Q
set_option maxHeartbeats 1000000
set_option maxRecDepth 100000
namespace Go.Q
open Go.RowKit Go.D
theorem C.bytes {w:World} {l:List Int} {v:Value} {F:List Nat} (h:C false w (.sl 1 (byR l)) v F):∃ a len cap,v=.slice a len cap∧l.length=len∧len≤9223372036854775807∧∀ i,i<len→∃ b off x,a=some ⟨b,off,none⟩∧b∈F∧l[i]?=some x∧w.cell? ⟨b,off+i,none⟩=some (.int .u8 x):=by
 simp only [C] at h
 obtain⟨a,len,cap,rfl,h2,h3,h4,h5⟩:=h
 rw [byR,List.length_map] at h2
 refine⟨a,len,cap,rfl,h2,by unfold maxLen at h4;omega,fun i hi=>?_⟩
 rcases h5 with ⟨h5,_⟩|⟨b,off,G,rfl,rfl,h7,h8,h9⟩
 · omega
 obtain⟨s1,xs,s2,s3,s4⟩:=h9.flat
 have hf:(byR l).flatten=l.map fun x=>T.v (.int .u8 x):=by
  unfold byR
  clear h9 s1 s2 s3 h2
  induction l with
  | nil=>rfl
  | cons x l ih=>rw [List.map_cons,List.flatten_cons,ih];rfl
 rw [hf] at s2
 have key:∀ (m:List Int) {cs:List Value} {G:List Nat},Cs false w (m.map fun x=>T.v (.int .u8 x)) cs G→cs=m.map fun x=>.int .u8 x:=by
  intro m
  induction m with
  | nil=>intro cs G h;unfold Cs at h;exact h.1
  | cons x m ih=>intro cs G h;rw [List.map_cons] at h;unfold Cs at h;obtain⟨c,cr,G1,G2,rfl,g1,g2,rfl⟩:=h;rw [ih g2];unfold C at g1;rw [g1.1];rfl
 have e:=key l s2
 subst e
 exact⟨b,off,l[i]'(by omega),rfl,by simp,List.getElem?_eq_getElem _,s4 i _ (by simp [List.getElem?_eq_getElem,h2,hi])⟩
theorem Chg.setCell (w:World) (p:Addr) (u:Value):Chg w (w.setCell p u) [p.block]:=⟨rfl,rfl,rfl,by simp [World.setCell],fun k _ hn=>heap_setCell_other w p k u (fun e=>hn (by simp [e]))⟩
theorem Chg.more {w w1 w2:World} {G:List Nat} (h:Chg w w1 G) (h2:Chg w1 w2 G):Chg w w2 G:=⟨h2.os.trans h.os,h2.tape.trans h.tape,h2.output.trans h.output,Nat.le_trans h.size h2.size,fun k hk hn=>(h2.block k (Nat.lt_of_lt_of_le hk h.size) hn).trans (h.block k hk hn)⟩
theorem cu_end {w w':World} {gb:Nat} {v:Value} {i z:Int} {t:TypeId} {G:List Nat} {bs:List Int} (hc:Chg w w' [gb]) (hC:C false w (.sl 1 (byR bs)) v G) (hZ:∀ b∈G,b<w.heap.size∧b≠gb) (hi:0≤i) (hb:∀ n∈bs,0≤n∧n<256) (B:Box w' gb [v,.int .i64 i,.int .i64 z] t):CuOk w' (gb,v):=
 ⟨⟨i,z,t,G,bs,B,hC.congr fun b hm=>hc.block b (hZ b hm).1 (by simpa using (hZ b hm).2),fun b hm=>⟨Nat.lt_of_lt_of_le (hZ b hm).1 hc.size,(hZ b hm).2⟩,hi,hb⟩,⟨.inl _,t,B⟩⟩
theorem and255 (u:Int):0≤bits .and .i64 u 255∧bits .and .i64 u 255<256:=by
 have h:bits .and .i64 u 255=((BitVec.ofInt 64 u&&&BitVec.ofInt 64 255).toNat:Int):=by
  have hlt:(BitVec.ofInt 64 u&&&BitVec.ofInt 64 255).toNat<2^63:=by
   rw [BitVec.toNat_and]
   exact Nat.lt_of_le_of_lt Nat.and_le_right (by decide)
  have hw:∀ m:Nat,m<2^63→IntKind.wrap .i64 (m:Int)=m:=fun m hm=>wrap_in ⟨by omega,by omega⟩
  exact hw _ hlt
 rw [h,BitVec.toNat_and]
 have:(BitVec.ofInt 64 u).toNat&&&(BitVec.ofInt 64 255).toNat≤255:=Nat.and_le_right
 omega
end Go.Q
namespace Go.Proofs.YtdhojcaoljhbiaaGreatDoor
open Go.RowKit Go.Q Go.D
set_option maxHeartbeats 1000000 in
theorem specl1New:FnN Tryz.prog 26:=by
 refine⟨⟨_,Tryz.func26,by kernel_rfl,by kernel_rfl⟩,fun w v F bs hG hC hb=>?_⟩
 obtain⟨a,len,cap,rfl,n1,n2,c1⟩:=hC.bytes
 clear hC
 go_enter Tryz.func26,Tryz.ntmps26
 go_wp2
 go_loopw [3,4] (fun h i wr=>∃ (k:Nat) (d:Int),k≤len∧i=.int .i64 k∧h=.int .i64 d∧wr=w) (fun _ i _=>len-(intOf i).toNat)
 case atStart=>exact⟨0,_,by omega,rfl,rfl,rfl⟩
 case round=>
  obtain⟨k,d,hk,rfl,rfl,rfl⟩:=hrel
  by_cases hlt:k<len
  · by_cases hlt':k<4000
    · obtain⟨b,off,x,rfl,_,hx,hc⟩:=c1 k hlt
      have hbx:=hb x (List.mem_of_getElem? hx)
      go_wp2
      go_roundw
      case rel=>exact⟨k+1,_,by omega,by go_num,rfl,trivial⟩
      case measure=>simp [intOf];omega
    go_wp2
    go_ret
    exact⟨_,0,d,_,rfl,Nat.le_refl _,thaw_new,heap_alloc_new _ _,by omega,(Ext.refl _).alloc _⟩
  go_wp2
  go_ret
  exact⟨_,0,d,_,rfl,Nat.le_refl _,thaw_new,heap_alloc_new _ _,by omega,(Ext.refl _).alloc _⟩
set_option maxHeartbeats 1000000 in
theorem specl1Byte:FnD Tryz.prog 91 [] (fun x:Int=>0≤x∧x<256) (fun x=>.a (.one (.v (.int .i64 x)))):=by
 refine⟨⟨_,Tryz.func91,by kernel_rfl,by kernel_rfl⟩,fun w g vs F hG hC hv hgF=>?_⟩
 obtain⟨rfl,rfl⟩:=hv
 obtain⟨gb,v⟩:=g
 obtain⟨⟨i,h,t,G,bs,hcell,hC,hZ,hi,hb⟩,hth⟩:=hC
 simp only at hcell hC hZ hth
 obtain⟨a,len,cap,rfl,n1,n2,c1⟩:=hC.bytes
 have B0:Box w gb [.slice a len cap,.int .i64 i,.int .i64 h] t:=hcell
 have e0:=B0.at 2 rfl
 have f0:=B0.thaw 2
 show Calls _ _ #[_] _ _
 go_enter Tryz.func91,Tryz.ntmps91
 go_wp2_with fail
 generalize wrap64 (wrap64 (h*6364136223846793005)+1442695040888963407)=z
 have B1:=B0.set 2 (.int .i64 z)
 have hz1:∀ b,b≠gb→(w.setCell ⟨gb,2,none⟩ (.int .i64 z)).heap[b]?=w.heap[b]?:=fun b hb=>heap_setCell_other w _ b _ hb
 have hsz:(w.setCell ⟨gb,2,none⟩ (.int .i64 z)).heap.size=w.heap.size:=by simp [World.setCell]
 have hch:=Chg.setCell w ⟨gb,2,none⟩ (.int .i64 z)
 generalize w.setCell ⟨gb,2,none⟩ (.int .i64 z)=w1 at B1 hz1 hsz hch ⊢
 simp only [List.set_cons_succ,List.set_cons_zero] at B1
 have e3:=Later.cell (B1.at 2 rfl)
 refine wp_region_later (by kernel_rfl) (by kernel_rfl) ?_
 repeat (go_big_quiet_step (fail))
 refine wpQuiet_nil ?_
 rintro _ ⟨y,rfl⟩
 have hX0:=and255 (bits BinOp.xor IntKind.i64 (z / 8589934592) (z / 35184372088832))
 generalize bits BinOp.and IntKind.i64 _ 255=X at hX0 ⊢
 have B2:=B1.mono y.2
 have x2:=y.2
 generalize y.1=w2 at B2 x2 ⊢
 clear e3 y
 have e1:=Later.cell (B2.at 0 rfl)
 have e2:=Later.cell (B2.at 1 rfl)
 go_wp2_with fail
 refine wp_region_later (by kernel_rfl) (by kernel_rfl) ?_
 repeat (go_big_quiet_step (fail))
 refine wpQuiet_nil ?_
 rintro _ ⟨y,rfl⟩
 have B3:=B2.mono y.2
 have x3:=x2.trans y.2
 generalize y.1=w3 at B3 x3 ⊢
 clear e1 e2 y
 by_cases hlt:i<len
 · obtain⟨k,rfl⟩:∃ k:Nat,i=(k:Int):=⟨i.toNat,by omega⟩
   obtain⟨b,off,x,rfl,hbG,hbx,hc⟩:=c1 k (by omega)
   have hxb:=hb x (List.mem_of_getElem? hbx)
   have hbz:=hZ b hbG
   have hc3:w3.cell? ⟨b,off+k,none⟩=some (.int .u8 x):=by
    unfold World.cell? at hc ⊢
    rw [x3.block (by rw [hsz];exact hbz.1),hz1 b hbz.2]
    exact hc
   have e1:=Later.cell (B3.at 0 rfl)
   have e2:=Later.cell (B3.at 1 rfl)
   have e4:=Later.cell hc3
   go_wp2_with fail
   refine wp_region_later (by kernel_rfl) (by kernel_rfl) ?_
   repeat (go_big_quiet_step (fail))
   refine wpQuiet_nil ?_
   rintro _ ⟨y,rfl⟩
   have hX1:=and255 (X+x)
   generalize bits BinOp.and IntKind.i64 _ 255=X1 at hX1 ⊢
   have B4:=B3.mono y.2
   have x4:=x3.trans y.2
   generalize y.1=w4 at B4 x4 ⊢
   clear e1 e2 e4 y
   have e1:=B4.at 1 rfl
   have f1:=B4.thaw 1
   go_wp2_with fail
   go_ret
   have B5:=B4.set 1 (.int .i64 ((k:Int)+1))
   have hch5:Chg w _ [gb]:=(hch.later x4).more (Chg.setCell w4 ⟨gb,1,none⟩ (.int .i64 ((k:Int)+1)))
   exact⟨X1,.int .i64 X1,[],rfl,hX1,by unfold Vr V0r C;exact⟨rfl,rfl,rfl⟩,List.nodup_nil,by simp,hch5,cu_end hch5 hC hZ (by omega) hb B5⟩
 go_wp2_with fail
 go_ret
 exact⟨X,.int .i64 X,[],rfl,hX0,by unfold Vr V0r C;exact⟨rfl,rfl,rfl⟩,List.nodup_nil,by simp,hch.later x3,cu_end (hch.later x3) hC hZ hi hb B3⟩
end Go.Proofs.YtdhojcaoljhbiaaGreatDoor
set_option maxHeartbeats 1000000
set_option maxRecDepth 100000
namespace Go.Q
open Go.RowKit Go.D
end Go.Q
namespace Go.Proofs.YtdhojcaoljhbiaaGreatDoor
open Go.RowKit Go.Q Go.D
theorem specl1Below (n:Int):FnD Tryz.prog 47 [.one (.v (.int .i64 n))] (fun x:Int=>(n≤0∧x=0)∨(0≤x∧x<n)) (fun x=>.a (.one (.v (.int .i64 x)))):=by
 refine FnD.walk Tryz.func47 U (by kernel_rfl) Tryz.ntmps47 U (fun g=>rfl) fun w0 g=>?_
 refine Ae (Ak ?_);refine Aa (Ac (Ae (Ab ?_)));refine Ag (R_le U (.no U) U (.tm U) (.const U)) U ?_;refine Aa (Ai (.tm U) (fun h10=>?_) (fun h10=>?_))
 · try simp at h10
   refine Ae (Ak ?_);refine Aa (Al ?_);apply DRes.mk (x:=0) rfl
   case h=>
    refine Res.one U (.tmp U .nil) U ?_
    rfl
   case hp=>exact .inl ⟨by omega,rfl⟩
 try simp at h10
 refine Aj (Ac (Ae (Ab ?_)));refine Ag (R_le U (.no U) U (.tm U) (.const U)) U ?_;refine Aa (Ai (.tm U) (fun h12=>?_) (fun h12=>?_))
 · try simp at h12
   refine Ae (Ab ?_);refine Bf (A9 1400 (specl1Byte) U U U (.tm U) U U .nil (fun _=>rfl) (fun _=>rfl)) ?_
   rintro _ ⟨z14,hz14,rfl⟩
   try dsimp only at hz14
   refine Ab ?_;refine Ag (R_rem U (.no U) U (.tm U) (.tm U) (fun _=>by omega)) U ?_;refine Ah ?_;refine Aa (Al ?_);apply DRes.mk rfl
   case h=>
    refine Res.one U (.tmp U .nil) U ?_
    rfl
   case hp=>exact .inr ⟨Int.emod_nonneg _ (by omega),Int.emod_lt_of_pos _ (by omega)⟩
 try simp at h12
 refine Aj (Ae (Ab ?_));refine Bf (A9 1800 (specl1Byte) U U U (.tm U) U U .nil (fun _=>rfl) (fun _=>rfl)) ?_
 rintro _ ⟨z18,hz18,rfl⟩
 try dsimp only at hz18
 refine Ah ?_;refine Aa (Ac (Am (As [0,1,4,5] [888888]) ?_));refine Ad (Ab ?_);refine Bf (A9 2000 (specl1Byte) U U U (.tm U) U U .nil (fun _=>rfl) (fun _=>rfl)) ?_
 rintro _ ⟨z20,hz20,rfl⟩
 try dsimp only at hz20
 refine Ah ?_;refine Aa (Ae (Ab ?_));refine Bf (A9 2200 (specl1Byte) U U U (.tm U) U U .nil (fun _=>rfl) (fun _=>rfl)) ?_
 rintro _ ⟨z22,hz22,rfl⟩
 try dsimp only at hz22
 refine Ah ?_;refine Aa (Ae (Ab ?_));refine Bf (A9 2400 (specl1Byte) U U U (.tm U) U U .nil (fun _=>rfl) (fun _=>rfl)) ?_
 rintro _ ⟨z24,hz24,rfl⟩
 try dsimp only at hz24
 refine Ah ?_;refine Aa (Ac (Am (As [0,1,4,5,6,7,8] [888888]) ?_));refine Ad (Ab ?_);refine Ag (R_mul U (.no U) U (.tm U) (.const U) (fun _=>by omega)) U ?_;refine Ab ?_;refine Ag (R_mul U (.no U) U (.tm U) (.const U) (fun _=>by omega)) U ?_;refine Ag (R_add U (.no U) U (.tm U) (.tm U) (fun _=>by omega)) U ?_;refine Ab ?_;refine Ag (R_mul U (.no U) U (.tm U) (.const U) (fun _=>by omega)) U ?_;refine Ag (R_add U (.no U) U (.tm U) (.tm U) (fun _=>by omega)) U ?_;refine Ab ?_;refine Ag (R_add U (.no U) U (.tm U) (.tm U) (fun _=>by omega)) U ?_;refine Ab ?_;refine Ag (R_rem U (.no U) U (.tm U) (.tm U) (fun _=>by omega)) U ?_;refine Ah ?_;refine Aa (Al ?_);apply DRes.mk rfl
 case h=>
  refine Res.one U (.tmp U .nil) U ?_
  rfl
 case hp=>exact .inr ⟨Int.emod_nonneg _ (by omega),Int.emod_lt_of_pos _ (by omega)⟩
theorem specl1Once (n:Int):FnD Tryz.prog 28 [.one (.v (.int .i64 n))] (fun _:Bool=>True) (fun x=>.a (.one (.v (.bool x)))):=by
 refine FnD.walk Tryz.func28 U (by kernel_rfl) Tryz.ntmps28 U (fun g=>rfl) fun w0 g=>?_
 refine Ae (Ak ?_);refine Aa (Ae (Ab ?_));refine Ab ?_;refine Bf (A9 700 (specl1Below n) U U U (.tm U) U U (.cons (.tm U) U .nil) (fun _=>rfl) (fun _=>rfl)) ?_
 rintro _ ⟨z7,hz7,rfl⟩
 try dsimp only at hz7
 refine Br ?_;refine Ah ?_;refine Aa (Al ?_);apply DRes.mk rfl
 case h=>
  refine Res.one U (.tmp U .nil) U ?_
  rfl
 case hp=>exact trivial
theorem specl1PickInt (l:List Int) (hl:0<l.length):FnD Tryz.prog 77 [.one (.sl 1 (l.map cInt))] (fun x:Int=>x∈l) (fun x=>.a (.one (.v (.int .i64 x)))):=by
 refine FnD.walk Tryz.func77 U (by kernel_rfl) Tryz.ntmps77 U (fun g=>rfl) fun w0 g=>?_
 refine Ae (Ak ?_);refine Aa (Ae (Ab ?_));refine Ab ?_;refine Ab ?_;refine Bc (.t) Tryz.underlying34 ?_;refine Bf (A9 900 (specl1Below _) U U U (.tm U) U U (.cons (.tm U) U .nil) (fun _=>rfl) (fun _=>rfl)) ?_
 rintro _ ⟨z9,hz9,rfl⟩
 try dsimp only at hz9
 refine Ag ((by exact An U (.no U) U (.tm U) (.tm U) Tryz.underlying34 ty3 (fun _=>⟨by simp at hz9;omega,Ao (List.getElem?_eq_getElem (i:=z9.toNat) (show z9.toNat<l.length by simp at hz9;omega))⟩))) U ?_;refine Aq ty3 ?_;refine Ah ?_;refine Aa (Al ?_);apply DRes.mk rfl
 case h=>
  refine Res.one U (.tmp U .nil) U ?_
  rfl
 case hp=>exact List.getElem_mem _
end Go.Proofs.YtdhojcaoljhbiaaGreatDoor
