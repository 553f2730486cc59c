import Derived.Test.YtdhojcaoljhbiaaGreatDoorB126xk
import Derived.Test.YtdhojcaoljhbiaaGreatDoorB98xk
import Derived.Test.YtdhojcaoljhbiaaGreatDoorB26xk
set_option linter.unusedVariables false
set_option linter.unusedSimpArgs false
set_option maxRecDepth 100000
namespace Go.Q
open Go.RowKit
section
variable {P:Program} {ops:Array Oper} {o:Oper} {σ:St} {τ:Type}
def readR (σ:St):E→Option T
 | .t (.v x)=>some (.v x)
 | .vw id x=>match look σ.res id with|some _=>some x|none=>none
 | .rf id=>match look σ.res id with|some (.row k rows)=>some (.sl k rows)|_=>none
 | .pp id off=>match look σ.res id with|some (.cur g)=>some (.v (.pointer (some ⟨g.1,off,none⟩)))|_=>none
 | _=>none
theorem readR_ok {I:Ip} {w0:Base} {w:World} {a:Act} (hr:RelI I w0 σ a w) {e:E} {t:T} {c:Value} (h:readR σ e=some t) (hv:VE I w e c):∃ G,C false w t c G∧∀ b∈G,w0.own b∧Thaw w b:=by
 match e,h with
 | .t (.v x),h=>
  cases h
  obtain⟨G,h1,_⟩:=hv
  have h1':=h1
  simp only [C] at h1'
  obtain⟨_,rfl,_⟩:=h1'
  exact⟨[],h1,by simp⟩
 | .vw id x,h=>
  rw [readR] at h
  split at h
  · rename_i r h0
    cases h
    obtain⟨G,h1,h2⟩:=hv
    exact⟨G,h1,fun b hb=>(hr.own id _ h0).2 b (h2 b hb)⟩
  cases h
 | .rf id,h=>
  rw [readR] at h
  split at h
  · rename_i k rows h0
    cases h
    have hc:c=I.hd id:=hv.1
    rw [hc];exact⟨_,C.read (show C true w (.sl k rows) _ _ from hr.res id _ h0),(hr.own id _ h0).2⟩
  cases h
 | .t (.sl _ _),h=>cases h
 | .t (.ad _),h=>cases h
 | .t (.fn _ _ _),h=>cases h
 | .pp id off,h=>
  rw [readR] at h
  split at h
  · rename_i g h0
    cases h
    have h1:=(hr.res id _ h0).2.1
    have h2:c=.pointer (some ⟨I.B id,off,none⟩):=hv
    rw [h1] at h2
    exact⟨[],by unfold C;exact⟨h2,rfl,rfl⟩,by simp⟩
  cases h
 | .pr _ _ _ _,h=>cases h
 | .sb _ _ _ _,h=>cases h
 | .tl _ _ _,h=>cases h
 | .pf _ _ _,h=>cases h
 | .no,h=>cases h
theorem readsR_ok {I:Ip} {w0:Base} {w:World} {a:Act} (hr:RelI I w0 σ a w):∀ {l:List E} {ts:List T} {cs:List Value},mapO (readR σ) l=some ts→VEs I w l cs→ts.length=l.length∧∃ G,Cs false w ts cs G∧∀ b∈G,w0.own b∧Thaw w b
 | [],ts,cs,h,hv=>by cases h;exact⟨rfl,[],by unfold Cs;exact⟨hv,rfl⟩,fun _ hb=>by cases hb⟩
 | e::r,ts,cs,h,hv=>by
  obtain⟨c,cr,rfl,h1,h2⟩:=hv
  rw [mapO] at h
  split at h
  · rename_i t e1
    split at h
    · rename_i ts' e2
      cases h
      obtain⟨G1,g1,k1⟩:=readR_ok hr e1 h1
      obtain⟨hl,G2,g2,k2⟩:=readsR_ok hr e2 h2
      exact⟨by simp [hl],G1++G2,by unfold Cs;exact⟨c,cr,G1,G2,rfl,g1,g2,rfl⟩,fun b hb=>(List.mem_append.1 hb).elim (k1 b) (k2 b)⟩
    cases h
  cases h
def ResR (P:Program) (fn:Func) (out:V) (σ:St):Prop:=∀ I w0 a w,RelI I w0 σ a w→∃ v F,(results fn a.tmps).run P w=.ok v w∧Vr false w out v F∧∀ b∈F,w0.own b∧Thaw w b
theorem ResR.one {fn:Func} {r:ResultVar} {x:A} {ts:List T} {y:V0} (hl:fn.results=#[r]) (h:RVs P σ [r] [x]) (ha:mapO (readR σ) (cellsA x)=some ts) (hy:unflT [x] ts=[y]):ResR P fn (.a y) σ:=by
 intro I w0 a w hr
 obtain⟨vs,h1,h2⟩:=run_results (fn:=fn) (l:=[r]) hr (by rw [hl]) h
 obtain⟨cs,g1,g2⟩:=VAs_cells h2
 simp only [List.flatMap_cons,List.flatMap_nil,List.append_nil] at g1 g2
 obtain⟨kl,G,k2,k4⟩:=readsR_ok hr ha g1
 have hV:=g2 false ts G k2 kl
 rw [hy] at hV
 obtain⟨v,vr,G1,G2,rfl,m1,⟨rfl,rfl⟩,m2⟩:=hV
 rw [List.append_nil] at m2
 subst m2
 exact⟨v,_,h1,m1,k4⟩
theorem ResR.many {fn:Func} {l:List ResultVar} {xs:List A} {ts:List T} {ys:List V0} (hl:fn.results=l.toArray) (h:RVs P σ l xs) (ha:mapO (readR σ) (xs.flatMap cellsA)=some ts) (hy:unflT xs ts=ys) (h2:(2≤ys.length)=True):ResR P fn (.tup ys) σ:=by
 intro I w0 a w hr
 obtain⟨vs,h1,h2'⟩:=run_results (fn:=fn) hr hl h
 obtain⟨cs,g1,g2⟩:=VAs_cells h2'
 obtain⟨kl,G,k2,k4⟩:=readsR_ok hr ha g1
 have hV:=g2 false ts G k2 kl
 rw [hy] at hV
 have hlen:∀ (ys:List V0) (vs:List Value) (G:List Nat),V0s false w ys vs G→vs.length=ys.length:=by
  intro ys
  induction ys with
  | nil=>rintro vs G ⟨rfl,_⟩;rfl
  | cons y ys ih=>rintro vs G ⟨v,vr,G1,G2,rfl,_,m,_⟩;simp [ih vr G2 m]
 have hl2:=hlen ys vs G hV
 have h3:2≤vs.length:=by rw [hl2,h2];trivial
 match vs,h3,h1,hV with
 | v1::v2::vr,_,h1,hV=>exact⟨_,G,h1,⟨_,rfl,hV⟩,k4⟩
def DRPost (w:World) (g:Nat×Value) (p:τ→Prop) (out:τ→V) (e:Ending) (w':World):Prop:=
 ∃ x v F,e=.returned v∧p x∧Vr false w' (out x) v F∧(∀ b∈F,w.heap.size≤b∧Thaw w' b)∧Chg w w' [g.1]∧CuOk w' g
def FrD (P:Program) (f:FuncId) (ins:List V0) (p:τ→Prop) (out:τ→V):Prop:=
 Callee P f∧∀ w g vs F,Good w [g.1]→CuOk w g→V0s false w ins vs F→g.1∉F→Calls P f (List.toArray (.pointer (some ⟨g.1,0,none⟩)::vs)) w (DRPost w g p out)
def DRRes (P:Program) (fn:Func) (g:Nat×Value) (p:τ→Prop) (out:τ→V) (σ:St):Prop:=∃ x,p x∧look σ.res 888888=some (.cur g)∧ResR P fn (out x) ⟨σ.n,σ.slots,delR σ.res 888888⟩
theorem DRRes.mk {fn:Func} {g:Nat×Value} {p:τ→Prop} {out:τ→V} {σ:St} {x:τ} (hc:look σ.res 888888=some (.cur g)) (h:ResR P fn (out x) ⟨σ.n,σ.slots,delR σ.res 888888⟩) (hp:p x):DRRes P fn g p out σ:=⟨x,hp,hc,h⟩
theorem ERRes.mk {fn:Func} {p:τ→Prop} {out:τ→V} {σ:St} {x:τ} (h:ResR P fn (out x) σ) (hp:p x):∃ x,p x∧ResR P fn (out x) σ:=⟨x,hp,h⟩
def RetDR (P:Program) (fn:Func) (g:Nat×Value) (p:τ→Prop) (out:τ→V):Exit→St→Prop
 | .normal,σ=>DRRes P fn g p out σ
 | .ret,σ=>DRRes P fn g p out σ
 | _,_=>False
def RetER (P:Program) (fn:Func) (p:τ→Prop) (out:τ→V):Exit→St→Prop
 | .normal,σ=>∃ x,p x∧ResR P fn (out x) σ
 | .ret,σ=>∃ x,p x∧ResR P fn (out x) σ
 | _,_=>False
theorem FrE.walk {n:Nat} {f:FuncId} {fn:Func} {c:Code} {ins:List V0} {p:τ→Prop} {out:τ→V} (hf:P.funcs[f]?=some fn) (hb:fn.body=some c) (hname:(fn.name == "runtime.NumGoroutine")=false) (hnt:fn.ntmps=n) (hn:Nat.ble ins.length n=true)
 (h:∀ w0,AW P w0 c (RetER P fn p out) (st0 n ins)):FrE P f ins (fun o=>∃ x,p x∧o=out x):=by
 subst hnt
 refine⟨⟨fn,hf,hname,by rw [hb];rfl⟩,fun w vs F hG hv=>?_⟩
 refine calls_of_wp hf hb (Code.wp_mono ?_ (h ⟨w,[],hG⟩ _ _ (rel0 hG hv hn)))
 rintro e a' w' ⟨σ,h1,I,hI⟩
 have key:(∃ x,p x∧ResR P fn (out x) σ)→a'.defers=[]∧∃ v,(results fn a'.tmps).run P w'=.ok v w'∧∃ o,(∃ x,p x∧o=out x)∧FrPost w o (.returned v) w':=fun ⟨x,hp,h1⟩=>by
  obtain⟨v,F,g1,g2,g3⟩:=h1 I ⟨w,[],hG⟩ a' w' hI
  exact⟨hI.defers,v,g1,_,⟨x,hp,rfl⟩,v,F,rfl,g2,fun b hb=>(g3 b hb).1.resolve_right (by simp),hI.ext.toExt⟩
 cases e with
 | normal=>exact key h1
 | ret=>exact key h1
 | exit id=>exact h1.elim
 | goto l=>exact h1.elim
 | panic c=>exact h1.elim
 | outgrown=>exact h1.elim
def XPost (w:World) (out:V) (e:Ending) (w':World):Prop:=∃ v F,e=.returned v∧Vr false w' out v F∧(∀ b∈F,w.heap.size≤b∧Thaw w' b)∧Ext w w'
def FrX (P:Program) (f:FuncId) (ins:List V0) (p:τ→Prop) (out:τ→V):Prop:=
 Callee P f∧∀ w vs F,Good w []→V0s false w ins vs F→Calls P f (List.toArray vs) w fun e w'=>∃ x,p x∧XPost w (out x) e w'
theorem FrX.fr {f:FuncId} {ins:List V0} {p:τ→Prop} {out:τ→V} (h:FrX P f ins p out):FrE P f ins (fun o=>∃ x,p x∧o=out x):=
 ⟨h.1,fun w vs F hg hv=>(h.2 w vs F hg hv).mono fun _ _ ⟨x,hx,v,G,h1,h2,h4,h5⟩=>⟨_,⟨x,hx,rfl⟩,v,G,h1,h2,fun b hb=>(h4 b hb).1,h5⟩⟩
theorem FrX.walk {n:Nat} {f:FuncId} {fn:Func} {c:Code} {ins:List V0} {p:τ→Prop} {out:τ→V} (hf:P.funcs[f]?=some fn) (hb:fn.body=some c) (hname:(fn.name == "runtime.NumGoroutine")=false) (hnt:fn.ntmps=n) (hn:Nat.ble ins.length n=true)
 (h:∀ w0,AW P w0 c (RetER P fn p out) (st0 n ins)):FrX P f ins p out:=by
 subst hnt
 refine⟨⟨fn,hf,hname,by rw [hb];rfl⟩,fun w vs F hG hv=>?_⟩
 refine calls_of_wp hf hb (Code.wp_mono ?_ (h ⟨w,[],hG⟩ _ _ (rel0 hG hv hn)))
 rintro e a' w' ⟨σ,h1,I,hI⟩
 have key:(∃ x,p x∧ResR P fn (out x) σ)→a'.defers=[]∧∃ v,(results fn a'.tmps).run P w'=.ok v w'∧∃ x,p x∧XPost w (out x) (.returned v) w':=fun ⟨x,hp,h1⟩=>by
  obtain⟨v,F,g1,g2,g3⟩:=h1 I ⟨w,[],hG⟩ a' w' hI
  exact⟨hI.defers,v,g1,x,hp,v,F,rfl,g2,fun b hb=>⟨(g3 b hb).1.resolve_right (by simp),(g3 b hb).2⟩,hI.ext.toExt⟩
 cases e with
 | normal=>exact key h1
 | ret=>exact key h1
 | exit id=>exact h1.elim
 | goto l=>exact h1.elim
 | panic c=>exact h1.elim
 | outgrown=>exact h1.elim
theorem FrD.walk {n:Nat} {f:FuncId} {fn:Func} {c:Code} {ins:List V0} {p:τ→Prop} {out:τ→V} {σ':Nat×Value→St} (hf:P.funcs[f]?=some fn) (hb:fn.body=some c) (hname:(fn.name == "runtime.NumGoroutine")=false) (hnt:fn.ntmps=n) (hn:Nat.ble (ins.length+1) n=true)
 (hi:∀ g,initC 1 (ins.map fun x=>(false,x)) ⟨n,[(0,(true,.a (.one (.pp 888888 0))))],[(888888,.cur g)]⟩=some (σ' g)) (h:∀ w0 g,AW P w0 c (RetDR P fn g p out) (σ' g)):FrD P f ins p out:=by
 subst hnt
 refine⟨⟨fn,hf,hname,by rw [hb];rfl⟩,fun w g vs F hG hC hv hgF=>?_⟩
 have hv':=hv.c (FF:=[g.1]) fun b hb hm=>hgF (by simp only [List.mem_singleton] at hm;rwa [←hm])
 have hl:vs.length=ins.length:=by simpa using hv'.len
 have hn':ins.length+1≤fn.ntmps:=Nat.le_of_ble_eq_true hn
 have hglt:g.1<w.heap.size:=hC.1.lt
 let a0:Act:=⟨(List.toArray (.pointer (some ⟨g.1,0,none⟩)::vs))++Array.replicate (fn.ntmps-(List.toArray (Value.pointer (some ⟨g.1,0,none⟩)::vs)).size) undef,[]⟩
 let I0:Ip:=⟨fun b=>b<w.heap.size∧b≠g.1,fun i=>if i=888888 then [g.1] else [],fun _=>undef,fun i=>if i=888888 then g.1 else 0⟩
 have hget:∀ (j:Nat) v,(Value.pointer (some ⟨g.1,0,none⟩)::vs)[j]?=some v→a0.tmps.getD j undef=v:=fun j v hj=>by
  have hjl:=(List.getElem?_eq_some_iff.1 hj).1
  simp only [a0]
  rw [Array.getD_eq_getD_getElem?,Array.getElem?_append_left (by simpa using hjl)]
  have:(List.toArray (Value.pointer (some ⟨g.1,0,none⟩)::vs))[j]?=some v:=by simpa using hj
  rw [this];rfl
 have hr0:RelI I0 ⟨w,[g.1],hG⟩ ⟨fn.ntmps,[(0,(true,.a (.one (.pp 888888 0))))],[(888888,.cur g)]⟩ a0 w:=by
  have key:∀ i r,look [(888888,R.cur g)] i=some r→i=888888∧r=.cur g:=fun i r hi=>by
   rw [look_cons] at hi
   split at hi
   · rename_i e;cases hi;exact⟨e.symm,rfl⟩
   cases hi
  refine⟨Chg.refl w [g.1],rfl,by simp [a0,hl];omega,fun i z hi=>?_,fun id r hi=>?_,fun b hb=>hb.1,fun id b hb=>?_,fun id r hi=>?_,fun i j hne b hb hb'=>?_⟩
  · rw [look_cons] at hi
    split at hi
    · rename_i e
      subst e;cases hi;exact hget 0 _ rfl
    cases hi
  · obtain⟨rfl,rfl⟩:=key id r hi
    exact⟨rfl,rfl,hC.1⟩
  · simp only [I0] at hb ⊢
    split at hb
    · simp only [List.mem_singleton] at hb;subst hb;exact⟨hglt,fun h=>h.2 rfl⟩
    cases hb
  · obtain⟨rfl,rfl⟩:=key id r hi
    refine⟨by simp [I0],fun b hb=>?_⟩
    have:b=g.1:=by simpa [I0] using hb
    subst this
    exact⟨.inr (by simp),hC.2⟩
  simp only [I0] at hb hb'
  split at hb
  · split at hb'
    · omega
    cases hb'
  cases hb
 obtain⟨I1,r1⟩:=initC_ok (FF:=[g.1]) (fun _ _ _=>trivial) (hi g) hr0 (fun b h1 h2=>⟨h1,fun e=>h2 (by simp [e])⟩) hv' (by simp) (fun b hb=>by cases hb) fun j v hj=>hget (1+j) v (by rw [Nat.add_comm];simpa using hj)
 refine calls_of_wp hf hb (Code.wp_mono ?_ (h ⟨w,[g.1],hG⟩ g _ _ ⟨I1,r1⟩))
 rintro e a' w' ⟨σ1,h1,I,hI⟩
 have key:DRRes P fn g p out σ1→a'.defers=[]∧∃ v,(results fn a'.tmps).run P w'=.ok v w'∧DRPost w g p out (.returned v) w':=fun ⟨x,hp,hcur,h1⟩=>by
  obtain⟨hF,hB,hcu⟩:I.F 888888=[g.1]∧I.B 888888=g.1∧CuB I.Z w' g:=hI.res _ _ hcur
  have hsz:w.heap.size≤w'.heap.size:=hI.ext.size
  let W:World:={ w' with heap:=w'.heap.extract 0 w.heap.size }
  have hW:W.heap.size=w.heap.size:=by simp [W];omega
  have hWk:∀ k,k<w.heap.size→W.heap[k]?=w'.heap[k]?:=fun k hk=>trunc_get _ _ _ hsz hk
  have hGW:Good W []:=hG.step (Nat.le_of_eq hW.symm) (fun k hk hn=>(hWk k hk).trans (hI.ext.block k hk hn)) fun b hb=>by cases hb
  have hI2:RelI I ⟨W,[],hGW⟩ ⟨σ1.n,σ1.slots,delR σ1.res 888888⟩ a' w':=by
   refine⟨⟨rfl,rfl,rfl,by rw [hW];exact hsz,fun k hk _=>?_⟩,hI.defers,hI.size,hI.slots,fun id r hr=>hI.res id r (look_delR _ _ _ _ hr).2,hI.old,hI.lt,fun id r hr=>?_,hI.apart⟩
   · rw [hW] at hk;exact (hWk k hk).symm
   obtain⟨e1,e2⟩:=look_delR _ _ _ _ hr
   refine⟨(hI.own id r e2).1,fun b hb=>⟨?_,((hI.own id r e2).2 b hb).2⟩⟩
   rcases ((hI.own id r e2).2 b hb).1 with h|h
   · left;show W.heap.size≤b;rw [hW];exact h
   exfalso
   have:b=g.1:=by simpa using h
   subst this;exact hI.apart id 888888 e1 _ hb (by rw [hF];simp)
  obtain⟨v,F,g1,g2,g3⟩:=h1 I ⟨W,[],hGW⟩ a' w' hI2
  refine⟨hI.defers,v,g1,x,v,F,rfl,hp,g2,fun b hb=>⟨?_,(g3 b hb).2⟩,hI.ext,?_,?_⟩
  · have:=(g3 b hb).1.resolve_right (by simp)
    rwa [show (Base.W ⟨W,[],hGW⟩).heap.size=w.heap.size from hW] at this
  · refine hcu.congr rfl fun b _ hz=>⟨⟨hI.old b hz,fun e=>?_⟩,rfl⟩
    subst e;exact (hI.lt 888888 _ (by rw [hF];simp)).2 hz
  exact ((hI.own 888888 _ hcur).2 g.1 (by rw [hF];simp)).2
 cases e with
 | normal=>exact key h1
 | ret=>exact key h1
 | exit id=>exact h1.elim
 | goto l=>exact h1.elim
 | panic c=>exact h1.elim
 | outgrown=>exact h1.elim
def ddup:List Nat→List Nat
 | []=>[]
 | x::r=>if x∈r then ddup r else x::ddup r
theorem mem_ddup {x:Nat}:∀ {l:List Nat},x∈ddup l↔x∈l
 | []=>Iff.rfl
 | y::r=>by
  rw [ddup]
  split
  · rename_i h
    rw [mem_ddup,List.mem_cons]
    exact⟨.inr,fun h'=>h'.elim (fun e=>e▸h) id⟩
  rw [List.mem_cons,List.mem_cons,mem_ddup]
theorem nodup_ddup:∀ l:List Nat,(ddup l).Nodup
 | []=>List.nodup_nil
 | y::r=>by
  rw [ddup]
  split
  · exact nodup_ddup r
  rename_i h
  exact List.nodup_cons.2 ⟨fun hm=>h (mem_ddup.1 hm),nodup_ddup r⟩
def vwE (n:Nat):T→E
 | .v x=>.t (.v x)
 | t=>.vw n t
def vwA (n:Nat):V0→A
 | .one t=>.one (vwE n t)
 | .agg l=>.agg (l.map (vwE n))
def vwV (n:Nat):V→S
 | .a x=>.a (vwA n x)
 | .tup l=>.tup (l.map (vwA n))
section
variable {I:Ip} {w:World} {n:Nat}
theorem vwE_ok {t:T} {c:Value} {G:List Nat} (h:C false w t c G) (hG:∀ b∈G,b∈I.F n):VE I w (vwE n t) c:=by
 cases t with
 | v x=>
  have h':=h
  simp only [C] at h'
  obtain⟨_,rfl,_⟩:=h'
  exact⟨[],h,by simp⟩
 | sl k rows=>exact⟨G,h,hG⟩
 | ad cs=>exact⟨G,h,hG⟩
 | fn f fs cs=>exact⟨G,h,hG⟩
theorem vwEs_ok:∀ {ts:List T} {cs:List Value} {G:List Nat},Cs false w ts cs G→(∀ b∈G,b∈I.F n)→VEs I w (ts.map (vwE n)) cs
 | [],cs,G,h,_=>by simp only [Cs] at h;exact h.1
 | t::ts,cs,G,h,hG=>by
  simp only [Cs] at h
  obtain⟨c,cr,G1,G2,rfl,h1,h2,rfl⟩:=h
  exact⟨c,cr,rfl,vwE_ok h1 fun b hb=>hG b (by simp [hb]),vwEs_ok h2 fun b hb=>hG b (by simp [hb])⟩
theorem vwA_ok {x:V0} {v:Value} {G:List Nat} (h:V0r false w x v G) (hG:∀ b∈G,b∈I.F n):VA I w (vwA n x) v:=by
 cases x with
 | one t=>exact vwE_ok h hG
 | agg l=>obtain⟨cs,e,h⟩:=h;exact⟨cs,e,vwEs_ok h hG⟩
theorem vwAs_ok:∀ {xs:List V0} {vs:List Value} {G:List Nat},V0s false w xs vs G→(∀ b∈G,b∈I.F n)→VAs I w (xs.map (vwA n)) vs
 | [],vs,G,h,_=>h.1
 | x::xs,vs,G,⟨v,vr,G1,G2,e,h1,h2,e2⟩,hG=>by
  subst e2
  exact⟨v,vr,e,vwA_ok h1 fun b hb=>hG b (by simp [hb]),vwAs_ok h2 fun b hb=>hG b (by simp [hb])⟩
theorem vwV_ok {x:V} {v:Value} {G:List Nat} (h:Vr false w x v G) (hG:∀ b∈G,b∈I.F n):VS I w (true,vwV n x) v:=by
 cases x with
 | a x=>exact vwA_ok h hG
 | tup l=>obtain⟨vs,e,h⟩:=h;exact⟨vs,e,vwAs_ok h hG⟩
end
theorem R_calldr {f:FuncId} {x:Operand} {l:List Operand} {tys:Array TypeId} {ins:List V0} {p:τ→Prop} {out:τ→V} {g:Nat×Value} {u:Nat} (n:Nat) (h:FrD P f ins p out) (ho:o.op=.call { callee:=.value (.func f),args:=(x::l).toArray,argTypes:=tys }) (hg:o.guard=none) (hd:o.dst.all (fun d=>Nat.blt d σ.n)=true)
 (hx:Get σ true x (.one (.pp u 0))) (hu:look σ.res u=some (.cur g)) (hn:nvB u σ.slots σ.res=true) (ha:ArgsD σ u true l ins) (hf:σ.has n=false):OpE P ops o σ fun σ'=>∃ z,p z∧σ'=(σ.add n .opq).put o.dst (true,vwV n (out z)):=by
 rintro w0 a w ⟨I,hr⟩ K Q hK
 simp only [Region.wanted,hg,if_true]
 obtain⟨hF,hB,hcu⟩:I.F u=[g.1]∧I.B u=g.1∧CuB I.Z w g:=hr.res _ _ hu
 obtain⟨F,hV,hap⟩:=ha.ok hr hu
 have hv:a.eval x=.pointer (some ⟨g.1,0,none⟩):=by
  have:a.eval x=.pointer (some ⟨I.B u,0,none⟩):=hx.va hr rfl
  rw [this,hB]
 have hZg:∀ b,I.Z b→b≠g.1:=fun b hz e=>by subst e;exact (hr.lt u _ (by rw [hF];simp)).2 hz
 have hgo:=(hr.own u _ hu).2 g.1 (by rw [hF];simp)
 have hok:CuOk w g:=⟨hcu.congr rfl fun b _ hz=>⟨⟨hr.old b hz,hZg b hz⟩,rfl⟩,hgo.2⟩
 have hgood:Good w [g.1]:=hr.goodF fun b hb=>by simp only [List.mem_singleton] at hb;subst hb;exact hgo.1
 unfold Oper.wp
 rw [run_enter h.1 ho,List.map_cons,hv]
 refine (h.2 w g _ F hgood hok hV (fun hm=>hap g.1 hm (by rw [hF];simp))).mono fun e w' hR=>?_
 obtain⟨z,v,G,rfl,hp,h1,h3,h4,h5⟩:=hR
 have hcu':CuB I.Z w' g:=by
  obtain⟨i,m,t,G0,bs,k1,k2,k3,k4,k5⟩:=hcu
  obtain⟨i',m',t',G0',bs',j1,j2,j3,j4,j5⟩:=h5.1
  exact⟨i',m',t',G0,bs,j1,k2.congr fun b hb=>h4.block b (k2.lt b hb) (by simpa using hZg b (k3 b hb)),k3,j4,k5⟩
 obtain⟨I',hr',hZ',hF'⟩:=hr.moved hu hn h4 h5 hZg hcu'
 have hr2:=hr'.addF (id:=n) hf (G:=ddup G) (u:=undef) (b:=0) (r:=.opq) (nodup_ddup G) (fun b hb=>by
  have hb:=mem_ddup.1 hb
  exact⟨.inl (Nat.le_trans hr.ext.size (h3 b hb).1),Vr.lt h1 b hb,(h3 b hb).2,fun hz=>by rw [hZ'] at hz;have:=hr.old b hz;have:=(h3 b hb).1;omega,fun i hi=>by rw [hF'] at hi;have:=(hr.lt i b hi).1;have:=(h3 b hb).1;omega⟩) trivial
 exact hK _ _ _ ⟨z,hp,rfl⟩ ⟨_,hr2.put hd (vwV_ok h1 fun b hb=>by simp only [Ip.set,if_true];exact mem_ddup.2 hb)⟩
theorem R_callX {f:FuncId} {l:List Operand} {tys:Array TypeId} {ins:List V0} {p:τ→Prop} {out:τ→V} (n:Nat) (h:FrX P f ins p out) (ho:o.op=.call { callee:=.value (.func f),args:=l.toArray,argTypes:=tys }) (hg:o.guard=none) (hd:o.dst.all (fun d=>Nat.blt d σ.n)=true)
 (ha:Args σ true l ins) (hf:σ.has n=false):OpE P ops o σ fun σ'=>∃ z,p z∧σ'=(σ.add n .opq).put o.dst (true,vwV n (out z)):=by
 rintro w0 a w ⟨I,hr⟩ K Q hK
 simp only [Region.wanted,hg,if_true]
 obtain⟨F,hF⟩:=ha.ok hr rfl
 unfold Oper.wp
 rw [run_enter h.1 ho]
 refine (h.2 w _ F hr.good hF).mono fun e w' hR=>?_
 obtain⟨z,hp,v,G,rfl,h1,h3,h4⟩:=hR
 have hr2:=(hr.later h4).addF (id:=n) hf (G:=ddup G) (u:=undef) (b:=0) (r:=.opq) (nodup_ddup G) (fun b hb=>by
  have hb:=mem_ddup.1 hb
  exact⟨.inl (Nat.le_trans hr.ext.size (h3 b hb).1),Vr.lt h1 b hb,(h3 b hb).2,fun hz=>by have:=hr.old b hz;have:=(h3 b hb).1;omega,fun i hi=>by have:=(hr.lt i b hi).1;have:=(h3 b hb).1;omega⟩) trivial
 exact hK _ _ _ ⟨z,hp,rfl⟩ ⟨_,hr2.put hd (vwV_ok h1 fun b hb=>by simp only [Ip.set,if_true];exact mem_ddup.2 hb)⟩
theorem R_calleX {f:FuncId} {l:List Operand} {tys:Array TypeId} {ins:List V0} {p:τ→Prop} {out:τ→V} (h:FrE P f ins (fun o=>∃ x,p x∧o=out x)) (ho:o.op=.call { callee:=.value (.func f),args:=l.toArray,argTypes:=tys }) (hg:o.guard=none) (hd:o.dst.all (fun d=>Nat.blt d σ.n)=true)
 (ha:Args σ true l ins):OpE P ops o σ fun σ'=>∃ z,p z∧σ'=σ.put o.dst (true,inS (out z)):=fun w0 a w hr K Q hK=>
 R_calle h ho hg hd ha w0 a w hr K Q fun σ' a' w' ⟨_,⟨z,hz,e1⟩,e2⟩ hr'=>hK σ' a' w' ⟨z,hz,by rw [e2,e1]⟩ hr'
end
end Go.Q
set_option maxHeartbeats 1000000
set_option maxRecDepth 100000
namespace Go.Q
open Go.RowKit Go.D
def knownL:List (List UInt8):=[[97],[97,32,98,32,46],[97,32,42],[97,32,98,32,124,32,42],[97,32,97,45,32,46],[97,32,42,32,98,32,46],[97,32,98,32,42,32,46,32,99,32,46],[97,32,97,32,124,32,42],[97,32,98,32,46,32,42],[48,32,97,32,46,32,42],[97,32,49,32,46,32,98,32,46],[97,32,123,48,44,50,125],[97,32,98,32,124,32,123,49,44,51,125],[40,41],[33],[97,45,32,42,32,97,32,46],[97,32,98,45,32,46,32,42,32,99,32,124],[97,32,42,32,97,32,42,32,46],[97,32,48,32,124,32,42,32,98,32,46],[97,32,97,32,46,32,42],[97,32,98,32,46,32,98,32,97,32,46,32,124,32,42]]
theorem known_len {s:List UInt8} (h:s∈knownL):s.length≤1073741824:=by
 have:∀ s∈knownL,s.length≤100:=by decide
 have:=this s h
 omega
def someE (e:TExpr):Bool:=decide (0<e.Tokens.length)&&decide (e.Tokens.length≤30)
theorem someE_iff {e:TExpr}:someE e=true↔0<e.Tokens.length∧e.Tokens.length≤30:=by unfold someE;simp
theorem known_ok {s:List UInt8} (h:s∈knownL):0<(parseX s).1.Tokens.length∧(parseX s).1.Tokens.length≤30:=by
 have:knownL.all (fun s=>someE (parseX s).1)=true:=by decide +kernel
 exact someE_iff.1 (List.all_eq_true.1 this s h)
theorem FnD.mono {P:Program} {f:FuncId} {ins:List V0} {τ:Type} {p q:τ→Prop} {out:τ→V} (h:FnD P f ins p out) (hq:∀ x,p x→q x):FnD P f ins q out:=
 ⟨h.1,fun w g vs F a b c d=>(h.2 w g vs F a b c d).mono fun e w' ⟨x,v,G,h1,h2,h3⟩=>⟨x,v,G,h1,hq x h2,h3⟩⟩
end Go.Q
namespace Go.Proofs.YtdhojcaoljhbiaaGreatDoor
open Go.RowKit Go.Q Go.D
theorem specl1Pick (l:List (List UInt8)) (hl:0<l.length):FnD Tryz.prog 227 [.one (.sl 1 (l.map cStr))] (fun x:List UInt8=>x∈l) (fun x=>.a (.one (.v (.string (bs x))))):=by
 refine FnD.walk Tryz.func227 U (by kernel_rfl) Tryz.ntmps227 U (fun g=>rfl) fun w0 g=>?_
 refine Ae (Ak ?_);refine Aa (Ae (Ab ?_));refine Ab ?_;refine Ab ?_;refine Bc (.t) Tryz.underlying102 ?_;refine Bf (A9 900 (specl1Below _) U U U (.tm U) U U (.cons (.tm U) U .nil) (fun _=>rfl) (fun _=>rfl)) ?_
 rintro _ ⟨z9,hz9,rfl⟩
 try dsimp only at hz9
 refine Ag ((by exact An U (.no U) U (.tm U) (.tm U) Tryz.underlying102 ty9 (fun _=>⟨by simp at hz9;omega,Ao (List.getElem?_eq_getElem (i:=z9.toNat) (show z9.toNat<l.length by simp at hz9;omega))⟩))) U ?_;refine Aq ty9 ?_;refine Ah ?_;refine Aa (Al ?_);apply DRes.mk rfl
 case h=>
  refine Res.one U (.tmp U .nil) U ?_
  rfl
 case hp=>exact List.getElem_mem _
theorem specl8Known:FnD Tryz.prog 177 [] (fun e:TExpr=>0<e.Tokens.length∧e.Tokens.length≤30) (fun e=>.a (.agg (cExpr e))):=by
 refine FnD.walk Tryz.func177 U (by kernel_rfl) Tryz.ntmps177 U (fun g=>rfl) fun w0 g=>?_
 refine Ae (A6 (Bo 2 U U U in93 U U U) U ?_);refine Aa (Ae (Ab ?_))
 refine Bh (Ch (xs:=[.const (.string ⟨#[97]⟩),.const (.string ⟨#[97,32,98,32,46]⟩),.const (.string ⟨#[97,32,42]⟩),.const (.string ⟨#[97,32,98,32,124,32,42]⟩),.const (.string ⟨#[97,32,97,45,32,46]⟩),.const (.string ⟨#[97,32,42,32,98,32,46]⟩),.const (.string ⟨#[97,32,98,32,42,32,46,32,99,32,46]⟩),.const (.string ⟨#[97,32,97,32,124,32,42]⟩),.const (.string ⟨#[97,32,98,32,46,32,42]⟩),.const (.string ⟨#[48,32,97,32,46,32,42]⟩),.const (.string ⟨#[97,32,49,32,46,32,98,32,46]⟩),.const (.string ⟨#[97,32,123,48,44,50,125]⟩),.const (.string ⟨#[97,32,98,32,124,32,123,49,44,51,125]⟩),.const (.string ⟨#[40,41]⟩),.const (.string ⟨#[33]⟩),.const (.string ⟨#[97,45,32,42,32,97,32,46]⟩),.const (.string ⟨#[97,32,98,45,32,46,32,42,32,99,32,124]⟩),.const (.string ⟨#[97,32,42,32,97,32,42,32,46]⟩),.const (.string ⟨#[97,32,48,32,124,32,42,32,98,32,46]⟩),.const (.string ⟨#[97,32,97,32,46,32,42]⟩),.const (.string ⟨#[97,32,98,32,46,32,98,32,97,32,46,32,124,32,42]⟩)]) 7 U U U (.cons (.const U) U U (.cons (.const U) U U (.cons (.const U) U U (.cons (.const U) U U (.cons (.const U) U U (.cons (.const U) U U (.cons (.const U) U U (.cons (.const U) U U (.cons (.const U) U U (.cons (.const U) U U (.cons (.const U) U U (.cons (.const U) U U (.cons (.const U) U U (.cons (.const U) U U (.cons (.const U) U U (.cons (.const U) U U (.cons (.const U) U U (.cons (.const U) U U (.cons (.const U) U U (.cons (.const U) U U (.cons (.const U) U U .nil))))))))))))))))))))) Tryz.underlying102 in9 U U U U) U ?_
 refine Bf (A9 800 (specl1Pick knownL (by decide)) U U U (.tm U) U U (.cons (.tm U) U .nil) (fun _=>rfl) (fun _=>rfl)) ?_
 rintro _ ⟨z8,hz8,rfl⟩
 try dsimp only at hz8
 refine B8 (Cd 900 (specParseExpr z8 (known_len hz8)) U U U (.cons (.tm U) U .nil) U U) U ?_;refine Ag (Db U (.no U) U U fun _=>rfl) U ?_;refine Ag (Bn U (.no U) U U (fun _=>rfl) U) U ?_;refine Ag (Bn U (.no U) U U (fun _=>rfl) U) U ?_;refine A6 (Bo 3 U U U in93 U U U) U ?_;refine A4 Ci ?_;refine Bt (As [0,2,3,11] [888888,2,7,900,3]) ?_;refine Ah ?_;refine Aa (Ae (Bp Ci ?_));refine A4 Ci ?_;refine Aa (Al ?_);apply DRes.mk (x:=(parseX z8).1) rfl
 case h=>
  refine Res.one U (.cell U U Ci U U .nil) U ?_
  rfl
 case hp=>exact known_ok hz8
theorem specLetterExpr (k:Int):FnT Tryz.prog 229 [.one (.v (.int .i64 k))] (.a (.agg (cExpr ⟨[⟨3,k,0,0⟩]⟩))):=by
 refine Ay Tryz.func229 U (by kernel_rfl) Tryz.ntmps229 U fun hlen w0=>?_
 try simp [cPair,cToken,cExpr,cEdge,cGraph,cStep,cWalk,cChange,cBatch,cHistory,cPositions,cAutomaton,cProductStep,cPathAtom,cConjunction,cView,cDelta,cRegistered,cRegistry] at hlen
 refine Ae (A6 (Bo 2 U U U in93 U U U) U ?_);refine Aa (Ae (Ab ?_));refine Ag (Bd (ps:=[(0,.const (.int .i64 (3))),(1,.tmp 3)]) U U U Ck U U De (.cons (.const U) U U Cn (.cons (.tm U) U U fp137_1 .nil)) U) U ?_;refine Bh (Ch (xs:=[.tmp 4]) 5 U U U (.cons (.tm U) U U .nil) Tryz.underlying91 Ck U U U U) U ?_;refine Ag (Bd (ps:=[(0,.tmp 5)]) U U U in93 U U st93 (.cons (.tm U) U U fp93_0 .nil) U) U ?_;refine A4 Ci ?_;refine Aa (Al (Res.one U (.cell U U Ci U U .nil) U ?_))
 rfl
theorem specl8Make1 (n:Int) (b:Nat) (hb:b≤100) (hn:0≤n∧n≤3) (h:n≠0→FnD Tryz.prog 178 [.one (.v (.int .i64 (n-1)))] (fun e:TExpr=>0<e.Tokens.length∧e.Tokens.length≤b) (fun e=>.a (.agg (cExpr e)))):FnD Tryz.prog 178 [.one (.v (.int .i64 n))] (fun e:TExpr=>0<e.Tokens.length∧e.Tokens.length≤2*b+1) (fun e=>.a (.agg (cExpr e))):=by
 refine FnD.walk Tryz.func178 U (by kernel_rfl) Tryz.ntmps178 U (fun g=>rfl) fun w0 g=>?_
 refine Ae (A6 (Bo 4 U U U in93 U U U) U ?_);refine Aa (Ac (Ae (Ab ?_)));refine Br ?_;refine Aa (Ai (.tm U) (fun h7=>?_) (fun h7=>?_))
 · try simp at h7
   refine Ac (Ae (Ab ?_));refine Bf (A9 900 (specl1Once _) U U U (.tm U) U U (.cons (.const U) U .nil) (fun _=>rfl) (fun _=>rfl)) ?_
   rintro _ ⟨z9,hz9,rfl⟩
   try dsimp only at hz9
   refine Aa (Ai (.tm U) (fun h9=>?_) (fun h9=>?_))
   · try simp at h9
     refine Ae (Ab ?_);refine Bh (Ch (xs:=[.const (.int .i64 (1)),.const (.int .i64 (2))]) 11 U U U (.cons (.const U) U U (.cons (.const U) U U .nil)) Tryz.underlying34 in3 U U U U) U ?_;refine Bf (A9 1200 (specl1PickInt [1,2] (by decide)) U U U (.tm U) U U (.cons (.tm U) U .nil) (fun _=>rfl) (fun _=>rfl)) ?_
     rintro _ ⟨z12,hz12,rfl⟩
     try dsimp only at hz12
     refine B8 (Cd 1300 (specl8Leaf z12) U U U (.cons (.tm U) U .nil) U U) U ?_;refine A4 Ci ?_;refine Aa (Al ?_);apply DRes.mk (x:=⟨[tok0 z12]⟩) rfl
     case h=>
      refine Res.one U (.cell U U Ci U U .nil) U ?_
      rfl
     case hp=>exact⟨by simp,by simp⟩
   try simp at h9
   refine Aj (Ae (Ab ?_));refine Bh (Ch (xs:=[.const (.int .i64 (0)),.const (.int .i64 (0)),.const (.int .i64 (2)),.const (.int .i64 (2)),.const (.int .i64 (1)),.const (.int .i64 (4)),.const (.int .i64 (3)),.const (.int .i64 (6)),.const (.int .i64 (7))]) 15 U U U (.cons (.const U) U U (.cons (.const U) U U (.cons (.const U) U U (.cons (.const U) U U (.cons (.const U) U U (.cons (.const U) U U (.cons (.const U) U U (.cons (.const U) U U (.cons (.const U) U U .nil))))))))) Tryz.underlying34 in3 U U U U) U ?_;refine Bf (A9 1600 (specl1PickInt [0,0,2,2,1,4,3,6,7] (by decide)) U U U (.tm U) U U (.cons (.tm U) U .nil) (fun _=>rfl) (fun _=>rfl)) ?_
   rintro _ ⟨z16,hz16,rfl⟩
   try dsimp only at hz16
   refine B8 (Cd 1700 (specLetterExpr z16) U U U (.cons (.tm U) U .nil) U U) U ?_;refine A4 Ci ?_;refine Aa (Al ?_);apply DRes.mk (x:=⟨[⟨3,z16,0,0⟩]⟩) rfl
   case h=>
    refine Res.one U (.cell U U Ci U U .nil) U ?_
    rfl
   case hp=>exact⟨by simp,by simp⟩
 try simp at h7
 refine Aj (Ac (Ae (Ab ?_)));refine Bf (A9 1900 (specl1Below _) U U U (.tm U) U U (.cons (.const U) U .nil) (fun _=>rfl) (fun _=>rfl)) ?_
 rintro _ ⟨z19,hz19,rfl⟩
 try dsimp only at hz19
 refine Aa (AW.block (Ac (Ae (Br ?_))));refine Ah ?_;refine Aa (Ai (.tm U) (fun h20=>?_) (fun h20=>?_))
 · try simp at h20
   refine Aj (Ai (.tm U) (fun h20=>?_) (fun h20=>?_))
   · try simp at h20
     refine Ae (Ab ?_);refine Ab ?_;refine C6 ?_;refine Bf (A9 2600 (h (by assumption)) U U U (.tm U) U U (.cons (.tm U) U .nil) (fun _=>rfl) (fun _=>rfl)) ?_
     rintro _ ⟨z26,hz26,rfl⟩
     try dsimp only at hz26
     refine Ab ?_;refine Ab ?_;refine C6 ?_;refine Bf (A9 3000 (h (by assumption)) U U U (.tm U) U U (.cons (.tm U) U .nil) (fun _=>rfl) (fun _=>rfl)) ?_
     rintro _ ⟨z30,hz30,rfl⟩
     try dsimp only at hz30
     refine Ag (Bd (ps:=[(0,.const (.int .i64 (4)))]) U U U Ck U U De (.cons (.const U) U U Cn .nil) U) U ?_;refine B8 (Cd 3200 (specl8Join z26 z30 ⟨4,0,0,0⟩ (by omega)) U U U (.cons (.tm U) U (.cons (.tm U) U (.cons (.tm U) U .nil))) U U) U ?_;refine A4 Ci ?_;refine Aa (Al ?_);apply DRes.mk (x:=⟨z26.Tokens++z30.Tokens++[⟨4,0,0,0⟩]⟩) rfl
     case h=>
      refine Res.one U (.cell U U Ci U U .nil) U ?_
      rfl
     case hp=>exact⟨by simp;try omega,by simp;omega⟩
   exfalso;(try simp at h20);first|contradiction|omega|simp_all|grind
 try simp at h20
 refine Ad (Br ?_);refine Ah ?_;refine Aa (Ai (.tm U) (fun h20=>?_) (fun h20=>?_))
 · try simp at h20
   refine Ae (Ab ?_);refine Ab ?_;refine C6 ?_;refine Bf (A9 2600 (h (by assumption)) U U U (.tm U) U U (.cons (.tm U) U .nil) (fun _=>rfl) (fun _=>rfl)) ?_
   rintro _ ⟨z26,hz26,rfl⟩
   try dsimp only at hz26
   refine Ab ?_;refine Ab ?_;refine C6 ?_;refine Bf (A9 3000 (h (by assumption)) U U U (.tm U) U U (.cons (.tm U) U .nil) (fun _=>rfl) (fun _=>rfl)) ?_
   rintro _ ⟨z30,hz30,rfl⟩
   try dsimp only at hz30
   refine Ag (Bd (ps:=[(0,.const (.int .i64 (4)))]) U U U Ck U U De (.cons (.const U) U U Cn .nil) U) U ?_;refine B8 (Cd 3200 (specl8Join z26 z30 ⟨4,0,0,0⟩ (by omega)) U U U (.cons (.tm U) U (.cons (.tm U) U (.cons (.tm U) U .nil))) U U) U ?_;refine A4 Ci ?_;refine Aa (Al ?_);apply DRes.mk (x:=⟨z26.Tokens++z30.Tokens++[⟨4,0,0,0⟩]⟩) rfl
   case h=>
    refine Res.one U (.cell U U Ci U U .nil) U ?_
    rfl
   case hp=>exact⟨by simp;try omega,by simp;omega⟩
 try simp at h20
 refine Ac (Ae (Br ?_));refine Ah ?_;refine Aa (Ai (.tm U) (fun h33=>?_) (fun h33=>?_))
 · try simp at h33
   refine Aj (Ai (.tm U) (fun h33=>?_) (fun h33=>?_))
   · try simp at h33
     refine Ac (Am (As [0,1,4,19,20,33] [888888,4]) ?_);refine Ad (Ab ?_);refine Ab ?_;refine C6 ?_;refine Bf (A9 3900 (h (by assumption)) U U U (.tm U) U U (.cons (.tm U) U .nil) (fun _=>rfl) (fun _=>rfl)) ?_
     rintro _ ⟨z39,hz39,rfl⟩
     try dsimp only at hz39
     refine Ab ?_;refine Ab ?_;refine C6 ?_;refine Bf (A9 4300 (h (by assumption)) U U U (.tm U) U U (.cons (.tm U) U .nil) (fun _=>rfl) (fun _=>rfl)) ?_
     rintro _ ⟨z43,hz43,rfl⟩
     try dsimp only at hz43
     refine Ag (Bd (ps:=[(0,.const (.int .i64 (5)))]) U U U Ck U U De (.cons (.const U) U U Cn .nil) U) U ?_;refine B8 (Cd 4500 (specl8Join z39 z43 ⟨5,0,0,0⟩ (by omega)) U U U (.cons (.tm U) U (.cons (.tm U) U (.cons (.tm U) U .nil))) U U) U ?_;refine A4 Ci ?_;refine Aa (Al ?_);apply DRes.mk (x:=⟨z39.Tokens++z43.Tokens++[⟨5,0,0,0⟩]⟩) rfl
     case h=>
      refine Res.one U (.cell U U Ci U U .nil) U ?_
      rfl
     case hp=>exact⟨by simp;try omega,by simp;omega⟩
   exfalso;(try simp at h33);first|contradiction|omega|simp_all|grind
 try simp at h33
 refine Am (As [0,1,4,19,20,33] [888888,4]) ?_;refine Ad (Br ?_);refine Ah ?_;refine Aa (Ai (.tm U) (fun h33=>?_) (fun h33=>?_))
 · try simp at h33
   refine Ae (Ab ?_);refine Ab ?_;refine C6 ?_;refine Bf (A9 3900 (h (by assumption)) U U U (.tm U) U U (.cons (.tm U) U .nil) (fun _=>rfl) (fun _=>rfl)) ?_
   rintro _ ⟨z39,hz39,rfl⟩
   try dsimp only at hz39
   refine Ab ?_;refine Ab ?_;refine C6 ?_;refine Bf (A9 4300 (h (by assumption)) U U U (.tm U) U U (.cons (.tm U) U .nil) (fun _=>rfl) (fun _=>rfl)) ?_
   rintro _ ⟨z43,hz43,rfl⟩
   try dsimp only at hz43
   refine Ag (Bd (ps:=[(0,.const (.int .i64 (5)))]) U U U Ck U U De (.cons (.const U) U U Cn .nil) U) U ?_;refine B8 (Cd 4500 (specl8Join z39 z43 ⟨5,0,0,0⟩ (by omega)) U U U (.cons (.tm U) U (.cons (.tm U) U (.cons (.tm U) U .nil))) U U) U ?_;refine A4 Ci ?_;refine Aa (Al ?_);apply DRes.mk (x:=⟨z39.Tokens++z43.Tokens++[⟨5,0,0,0⟩]⟩) rfl
   case h=>
    refine Res.one U (.cell U U Ci U U .nil) U ?_
    rfl
   case hp=>exact⟨by simp;try omega,by simp;omega⟩
 try simp at h33
 refine Ae (Br ?_);refine Ah ?_;refine Aa (Ai (.tm U) (fun h46=>?_) (fun h46=>?_))
 · try simp at h46
   refine Ae (Ab ?_);refine Ab ?_;refine C6 ?_;refine Bf (A9 5100 (h (by assumption)) U U U (.tm U) U U (.cons (.tm U) U .nil) (fun _=>rfl) (fun _=>rfl)) ?_
   rintro _ ⟨z51,hz51,rfl⟩
   try dsimp only at hz51
   refine Ag (Bd (ps:=[]) U U U in93 U U st93 .nil U) U ?_;refine Dn (i:=52) 20001 4 0 U U U ?_;refine Ag (Bd (ps:=[(0,.const (.int .i64 (6)))]) U U U Ck U U De (.cons (.const U) U U Cn .nil) U) U ?_;refine B8 (Cd 5400 (specl8Join z51 ⟨[]⟩ ⟨6,0,0,0⟩ (by simp;omega)) U U U (.cons (.tm U) U (.cons (.tm U) U (.cons (.tm U) U .nil))) U U) U ?_;refine A4 Ci ?_;refine Aa (Al ?_);apply DRes.mk (x:=⟨z51.Tokens++[]++[⟨6,0,0,0⟩]⟩) rfl
   case h=>
    refine Res.one U (.cell U U Ci U U .nil) U ?_
    rfl
   case hp=>exact⟨by simp;try omega,by simp;omega⟩
 try simp at h46
 refine Aj (Ae (Ab ?_));refine Bf (A9 5600 (specl1Below _) U U U (.tm U) U U (.cons (.const U) U .nil) (fun _=>rfl) (fun _=>rfl)) ?_
 rintro _ ⟨z56,hz56,rfl⟩
 try dsimp only at hz56
 refine Ag (R_add U (.no U) U (.const U) (.tm U) (fun _=>by omega)) U ?_;refine Ah ?_;refine Aa (Ac (Am (As [0,1,4,5,19,20,33] [888888,4]) ?_));refine Ad (Ab ?_);refine Ab ?_;refine C6 ?_;refine Bf (A9 6100 (h (by assumption)) U U U (.tm U) U U (.cons (.tm U) U .nil) (fun _=>rfl) (fun _=>rfl)) ?_
 rintro _ ⟨z61,hz61,rfl⟩
 try dsimp only at hz61
 refine Ag (Bd (ps:=[]) U U U in93 U U st93 .nil U) U ?_;refine Dn (i:=62) 20002 4 0 U U U ?_;refine Ab ?_;refine Ab ?_;refine A8 ?_;refine Bf (A9 6600 (specl1Below _) U U U (.tm U) U U (.cons (.tm U) U .nil) (fun _=>rfl) (fun _=>rfl)) ?_
 rintro _ ⟨z66,hz66,rfl⟩
 try dsimp only at hz66
 refine Ab ?_;refine Ag (Bd (ps:=[(0,.const (.int .i64 (7))),(2,.tmp 66),(3,.tmp 67)]) U U U Ck U U De (.cons (.const U) U U Cn (.cons (.tm U) U U fp137_2 (.cons (.tm U) U U fp137_3 .nil))) U) U ?_;refine B8 (Cd 6900 (specl8Join z61 ⟨[]⟩ ⟨7,0,z66,1+z56⟩ (by simp;omega)) U U U (.cons (.tm U) U (.cons (.tm U) U (.cons (.tm U) U .nil))) U U) U ?_;refine A4 Ci ?_;refine Aa (Al ?_);apply DRes.mk (x:=⟨z61.Tokens++[]++[⟨7,0,z66,1+z56⟩]⟩) rfl
 case h=>
  refine Res.one U (.cell U U Ci U U .nil) U ?_
  rfl
 case hp=>exact⟨by simp;try omega,by simp;omega⟩
theorem specl8Make (n:Int) (hn:0≤n∧n≤3):FnD Tryz.prog 178 [.one (.v (.int .i64 n))] (fun e:TExpr=>0<e.Tokens.length∧e.Tokens.length≤30) (fun e=>.a (.agg (cExpr e))):=by
 have h0:=specl8Make1 0 0 (by omega) (by omega) fun h=>absurd rfl h
 have h1:=specl8Make1 1 1 (by omega) (by omega) fun _=>h0
 have h2:=specl8Make1 2 3 (by omega) (by omega) fun _=>h1
 have h3:=specl8Make1 3 7 (by omega) (by omega) fun _=>h2
 have:n=0∨n=1∨n=2∨n=3:=by omega
 rcases this with rfl|rfl|rfl|rfl
 · exact h0.mono fun x hx=>⟨hx.1,by omega⟩
 · exact h1.mono fun x hx=>⟨hx.1,by omega⟩
 · exact h2.mono fun x hx=>⟨hx.1,by omega⟩
 exact h3.mono fun x hx=>⟨hx.1,by omega⟩
theorem specl8Expr:FnD Tryz.prog 132 [] (fun e:TExpr=>0<e.Tokens.length∧e.Tokens.length≤30) (fun e=>.a (.agg (cExpr e))):=by
 refine FnD.walk Tryz.func132 U (by kernel_rfl) Tryz.ntmps132 U (fun g=>rfl) fun w0 g=>?_
 refine Ae (A6 (Bo 2 U U U in93 U U U) U ?_);refine Aa (Ac (Ae (Ab ?_)));refine Bf (A9 400 (specl1Once _) U U U (.tm U) U U (.cons (.const U) U .nil) (fun _=>rfl) (fun _=>rfl)) ?_
 rintro _ ⟨z4,hz4,rfl⟩
 try dsimp only at hz4
 refine Aa (Ai (.tm U) (fun h4=>?_) (fun h4=>?_))
 · try simp at h4
   refine Ae (Ab ?_);refine Bf (A9 600 (specl8Known) U U U (.tm U) U U .nil (fun _=>rfl) (fun _=>rfl)) ?_
   rintro _ ⟨z6,hz6,rfl⟩
   try dsimp only at hz6
   refine A4 Ci ?_;refine Aa (Al ?_);apply DRes.mk (x:=z6) rfl
   case h=>
    refine Res.one U (.cell U U Ci U U .nil) U ?_
    rfl
   case hp=>exact hz6
 try simp at h4
 refine Aj (Ae (Ab ?_));refine Ab ?_;refine Bf (A9 900 (specl1Below _) U U U (.tm U) U U (.cons (.const U) U .nil) (fun _=>rfl) (fun _=>rfl)) ?_
 rintro _ ⟨z9,hz9,rfl⟩
 try dsimp only at hz9
 refine Ag (R_add U (.no U) U (.const U) (.tm U) (fun _=>by omega)) U ?_;refine Bf (A9 1100 (specl8Make (1+z9) (by omega)) U U U (.tm U) U U (.cons (.tm U) U .nil) (fun _=>rfl) (fun _=>rfl)) ?_
 rintro _ ⟨z11,hz11,rfl⟩
 try dsimp only at hz11
 refine A4 Ci ?_;refine Aa (Al ?_);apply DRes.mk (x:=z11) rfl
 case h=>
  refine Res.one U (.cell U U Ci U U .nil) U ?_
  rfl
 case hp=>exact hz11
theorem specl8Any:FrD Tryz.prog 90 [] (fun e:TExpr=>e.Tokens.length≤32) (fun e=>.a (.agg (cExpr e))):=by
 refine FrD.walk Tryz.func90 rfl (by kernel_rfl) Tryz.ntmps90 rfl (fun g=>rfl) fun w0 g=>?_
 refine Ae (A6 (Bo 2 U U U in93 U U U) U ?_);refine Aa (Ae (Ab ?_));refine Bf (A9 500 (specl8Expr) U U U (.tm U) U U .nil (fun _=>rfl) (fun _=>rfl)) ?_
 rintro _ ⟨z5,hz5,rfl⟩
 try dsimp only at hz5
 refine A6 (Bo 3 U U U in93 U U U) U ?_;refine A4 Ci ?_;refine Aa (Ac (Ae (Ab ?_)));refine Bf (A9 700 (specl1Below _) U U U (.tm U) U U (.cons (.const U) U .nil) (fun _=>rfl) (fun _=>rfl)) ?_
 rintro _ ⟨z7,hz7,rfl⟩
 try dsimp only at hz7
 refine Aa (AW.block (Ae (Br ?_)));refine Ah ?_;refine Aa (Ai (.tm U) (fun h8=>?_) (fun h8=>?_))
 · try simp at h8
   refine Ad (B6 Cr ?_);refine Bp Dq ?_;refine Ag (R_slice_vwr (n:=1) U (.no U) U (.tm U) U (.yes (.const U) (fun _=>by first|rfl|omega|(simp<;>omega))) .no Tryz.underlying91 Cg (fun _=>⟨by simp;omega,by first|omega|(simp;omega)⟩)) U ?_;refine B6 Cr ?_;refine A4 Dq ?_;refine Aa (Ac (Am (As [0,2,3,7] [888888,2,500,3]) ?_));refine Ad (Bp Ci ?_);refine A4 Ci ?_;refine Aa (Al ?_);apply DRRes.mk (x:=⟨z5.Tokens.drop 1⟩) rfl
   case h=>
    refine ResR.one U (.cell U U Ci U U .nil) U ?_;exact congrArg (fun r=>[V0.agg [T.sl 4 r]]) (by rw [List.take_length,List.map_drop])
   case hp=>exact (by simp;omega)
 try simp at h8
 refine Ae (Br ?_);refine Ah ?_;refine Aa (Ai (.tm U) (fun h14=>?_) (fun h14=>?_))
 · try simp at h14
   obtain⟨t0,ht0⟩:∃ ξ,z5.Tokens[0]?=some ξ:=⟨_,List.getElem?_eq_getElem hz5.1⟩
   refine Am (As [0,2,3,7] [888888,2,500,3]) ?_;refine Am (As [0,2,3,7] [888888,2,500,3]) ?_;apply C5 (N:=11) (k:=5) (Hs:=[0,1,2,4,6,8]) (ms:=[[],[3],[3,5],[3,5,7],[3,5,7,9],[3,5,7,9,10]]) (es:=[(0,3,1),(1,5,2),(2,7,3),(3,9,4),(4,10,5)]) (σ1:=_) (SM:=⟨_,[(0,_),(2,_),(3,_),(7,_),(16,_),(17,_),(18,_),(20,_),(22,_),(24,_)],[(888888,_),(2,_),(500,_),(3,_)]⟩)
   case hm=>kernel_rfl
   case hB=>kernel_rfl
   case hP=>kernel_rfl
   case hL=>kernel_rfl
   case hN=>rfl
   case hpre=>
    apply Aw (P:=Tryz.prog) 0 rfl ((by exact Av rfl (.no rfl) rfl (.tm rfl) Cr)) (by exact .pp) rfl rfl rfl;apply Aw (P:=Tryz.prog) 1 rfl ((by exact Ax rfl (.no rfl) rfl (.tm rfl) rfl Dq rfl rfl)) (by exact HasV.load (x:=.tmp 16) (.tm rfl) rfl Dq rfl rfl) rfl rfl rfl;apply Aw (P:=Tryz.prog) 2 rfl (Az rfl (.no rfl) rfl (.tm rfl)) (by exact HasV.slot (t:=0) rfl) rfl rfl rfl;apply Aw (P:=Tryz.prog) 4 rfl (Az rfl (.no rfl) rfl (.tm rfl)) (by exact HasV.slot (t:=0) rfl) rfl rfl rfl;apply Aw (P:=Tryz.prog) 6 rfl (Az rfl (.no rfl) rfl (.tm rfl)) (by exact HasV.slot (t:=0) rfl) rfl rfl rfl;apply Aw (P:=Tryz.prog) 8 rfl (Az rfl (.no rfl) rfl (.tm rfl)) (by exact HasV.slot (t:=0) rfl) rfl rfl rfl;exact PreOk.nil
   case hS=>exact Bk
   case hH=>
    refine LocsH.fq Cr ?_;refine LocsH.lq Dq ?_;refine LocsH.mv ?_;refine LocsH.mv ?_;refine LocsH.mv ?_;refine LocsH.mv ?_
    trivial
   apply Dh.drw0 (i:=3)
   case ha=>rfl
   case ho=>rfl
   case hE=>
    intro  hp
    obtain _:=hp
    exact A9 1900 (specl1Below _) rfl rfl rfl (.tm rfl) rfl rfl (.cons (.const rfl) rfl .nil) (fun _=>rfl) (fun _=>rfl)
   case hb=>rfl
   case hL=>
    intro  z19 hp hy;exact C2 (As [0,2,3,7,16,17,18,19,20,22,24] [888888,2,500,3]) U
   case hS=>intros;exact Bk
   apply Dh.drw1 (i:=5)
   case ha=>rfl
   case ho=>rfl
   case hE=>
    intro z19 hp
    obtain⟨_,hz19⟩:=hp
    exact A9 2100 (specl1Below _) rfl rfl rfl (.tm rfl) rfl rfl (.cons (.const rfl) rfl .nil) (fun _=>rfl) (fun _=>rfl)
   case hb=>rfl
   case hL=>
    intro z19 z21 hp hy;exact C2 (As [0,2,3,7,16,17,18,19,20,21,22,24] [888888,2,500,3]) U
   case hS=>intros;exact Bk
   apply Dh.drw2 (i:=7)
   case ha=>rfl
   case ho=>rfl
   case hE=>
    intro z19 z21 hp
    obtain⟨⟨_,hz19⟩,hz21⟩:=hp
    exact A9 2300 (specl1Below _) rfl rfl rfl (.tm rfl) rfl rfl (.cons (.const rfl) rfl .nil) (fun _=>rfl) (fun _=>rfl)
   case hb=>rfl
   case hL=>
    intro z19 z21 z23 hp hy;exact C2 (As [0,2,3,7,16,17,18,19,20,21,22,23,24] [888888,2,500,3]) U
   case hS=>intros;exact Bk
   apply Dh.drw3 (i:=9)
   case ha=>rfl
   case ho=>rfl
   case hE=>
    intro z19 z21 z23 hp
    obtain⟨⟨⟨_,hz19⟩,hz21⟩,hz23⟩:=hp
    exact A9 2500 (specl1Below _) rfl rfl rfl (.tm rfl) rfl rfl (.cons (.const rfl) rfl .nil) (fun _=>rfl) (fun _=>rfl)
   case hb=>rfl
   case hL=>
    intro z19 z21 z23 z25 hp hy;exact C2 (As [0,2,3,7,16,17,18,19,20,21,22,23,24,25] [888888,2,500,3]) U
   case hS=>intros;exact Bk
   apply Dh.new4 (i:=10);rfl;rfl;rfl
   · intro w9 z19 z21 z23 z25 hp
     obtain⟨⟨⟨⟨_,hz19⟩,hz21⟩,hz23⟩,hz25⟩:=hp
     refine Ag (Bd (ps:=[(0,.tmp 19),(1,.tmp 21),(2,.tmp 23),(3,.tmp 25)]) U U U Ck U U De (.cons (.tm U) U U Cn (.cons (.tm U) U U fp137_1 (.cons (.tm U) U U fp137_2 (.cons (.tm U) U U fp137_3 .nil)))) U) U ?_;exact Bg [0,2,3,7,16,17,18,20,22,24,26] [888888,2,500,3]
   intros;exact Bk
   refine Dh.fin4 (k:=5) rfl ?_;intro z19 z21 z23 z25 hp
   obtain⟨⟨⟨⟨_,hz19⟩,hz21⟩,hz23⟩,hz25⟩:=hp
   refine Ag (Be U (.no U) U (.tm U) U (.const U) Tryz.underlying91 Cg (fun _=>⟨by omega,(Ao ht0)⟩)) U ?_;refine C3 (Dc U U U (.tm U) U (.tm U) U (Ao ht0) Cg U U U U) ?_;refine Aa (Ac (Am (As [0,2,3,7] [888888,2,500,3]) ?_));refine Ad (Bp Ci ?_);refine A4 Ci ?_;refine Aa (Al ?_);apply DRRes.mk (x:=⟨z5.Tokens.set 0 ⟨z19,z21,z23,z25⟩⟩) rfl
   case h=>
    refine ResR.one U (.cell U U Ci U U .nil) U ?_;exact congrArg (fun r=>[V0.agg [T.sl 4 r]]) (by rw [List.map_set];simp [cToken])
   case hp=>exact (by simp;omega)
 try simp at h14
 refine Ac (Am (As [0,2,3,7] [888888,2,500,3]) ?_);refine Ad (Br ?_);refine Ah ?_;refine Aa (Ai (.tm U) (fun h28=>?_) (fun h28=>?_))
 · try simp at h28
   refine Ac (AW.block (Bj (fun (L:List TToken)=>(L.length≤30)∧True) (fun (L:List TToken)=>⟨_,[(0,_),(2,_),(3,_)],[(2,.box [.t (.v (.slice none 0 0))]),(3,.box [.rf 500]),(500,.row 4 (L.map cToken)),(888888,.cur g)]⟩) (fun (L:List TToken)=>24-L.length) (z5.Tokens) ⟨hz5.2,Y⟩ Bm ?_))
   rintro L ⟨hk,he⟩
   refine Ac (Ae (B6 Cr ?_));refine Bp Dq ?_;refine Bc (.rf U) Tryz.underlying91 ?_;refine AWl.gc ?_;refine Ab ?_;refine Ag (Av U (by exact .yes1 U U U U) U (.tmp U (by exact fun _=>rfl)) Cr) U ?_;refine Ag (Ax U (by exact .yes1 U U U U) U (.tmp U (by exact id)) U Dq U U) U ?_;refine Ag (C4 U (by exact .yes1 U U U U) U (.tmp U (by exact id)) (by exact .rf U) Tryz.underlying91) U ?_;refine Ag (R_lt U (by exact .yes1 U U U U) U (.tmp U (by exact id)) (.const U)) U ?_;refine Cm ?_;refine Aa (Ai (.tm U) (fun h39=>?_) (fun h39=>?_))
   · skip
     skip
     have h39':0<L.length∧L.length<24:=(by have h:=h39;simp at h;omega)
     refine Aj (AW.block (Am (As [0,2,3] [2,3,500,888888]) ?_));refine Ad (B6 Cr ?_);refine Bp Dq ?_;refine Ag (Bd (ps:=[(0,.const (.int .i64 (6)))]) U U U Ck U U De (.cons (.const U) U U Cn .nil) U) U ?_;refine Bh (Ch (xs:=[.tmp 42]) 43 U U U (.cons (.tm U) U U .nil) Tryz.underlying91 Ck U U U U) U ?_;refine Bu (B7 U U U (.tm U) U (.tm U) (by exact .rf U) (by rfl) Tryz.underlying91 Ck U (by (simp [chunk];omega)) (by (unfold maxLen;simp [chunk];omega))) U ?_;refine Bt (As [0,2,3,44] [2,3,500,888888,43]) ?_;refine B6 Cr ?_;refine A4 Dq ?_;refine Aa ?_
     repeat (with_reducible refine Au ?_)
     refine Round1.next (L++[⟨6,0,0,0⟩]) ⟨by simp;omega,Y⟩ (by simp;omega) (Ar rfl ⟨rfl,rfl,rfl,Y⟩ ⟨(by rfl),(by rfl),(by (refine congrArg (fun r=>some (R.row _ r)) ?_;simp [chunk,List.map_set,cInt,cBool,cIntS,cPair,cToken,cExpr,cEdge,cGraph,cStep,cWalk,cChange,cBatch,cHistory,cPositions,cAutomaton,cProductStep,cPathAtom,cConjunction,cView,cDelta,cRegistered,cRegistry])),(by rfl),Y⟩)
   skip
   skip
   refine Ba (Ac (Am (As [0,2,3] [2,3,500,888888]) ?_));refine Ad (Ab ?_);refine Bf (A9 4700 (specl1Once _) U U U (.tm U) U U (.cons (.const U) U .nil) (fun _=>rfl) (fun _=>rfl)) ?_
   rintro _ ⟨z47,hz47,rfl⟩
   try dsimp only at hz47
   refine Aa (Ai (.tm U) (fun h47=>?_) (fun h47=>?_))
   · try simp at h47
     refine Ad (B6 Cr ?_);refine Bp Dq ?_;refine Ag (Bd (ps:=[(0,.const (.int .i64 (6)))]) U U U Ck U U De (.cons (.const U) U U Cn .nil) U) U ?_;refine Bh (Ch (xs:=[.tmp 50]) 51 U U U (.cons (.tm U) U U .nil) Tryz.underlying91 Ck U U U U) U ?_;refine Bu (B7 U U U (.tm U) U (.tm U) (by exact .rf U) (by rfl) Tryz.underlying91 Ck U (by (simp [chunk];omega)) (by (unfold maxLen;simp [chunk];omega))) U ?_;refine Bt (As [0,2,3,47,52] [2,3,500,888888,51]) ?_;refine B6 Cr ?_;refine A4 Dq ?_;refine Aa (Ae (Bp Ci ?_));refine A4 Ci ?_;refine Aa (Al ?_);apply DRRes.mk (x:=⟨L++[⟨6,0,0,0⟩]⟩) rfl
     case h=>
      refine ResR.one U (.cell U U Ci U U .nil) U ?_;exact congrArg (fun r=>[V0.agg [T.sl 4 r]]) (by simp [chunk,cToken])
     case hp=>exact (by simp;omega)
   try simp at h47
   refine Aj (Ae (Bp Ci ?_));refine A4 Ci ?_;refine Aa (Al ?_);apply DRRes.mk (x:=⟨L⟩) rfl
   case h=>
    refine ResR.one U (.cell U U Ci U U .nil) U ?_
    rfl
   case hp=>exact (by simp;omega)
 try simp at h28
 refine Aj (Ae (Bp Ci ?_));refine A4 Ci ?_;refine Aa (Al ?_);apply DRRes.mk (x:=z5) rfl
 case h=>
  refine ResR.one U (.cell U U Ci U U .nil) U ?_
  rfl
 case hp=>exact (by omega)
end Go.Proofs.YtdhojcaoljhbiaaGreatDoor
