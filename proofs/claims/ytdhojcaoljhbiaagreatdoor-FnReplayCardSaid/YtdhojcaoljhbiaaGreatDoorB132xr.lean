import Derived.Test.YtdhojcaoljhbiaaGreatDoorDraw5xr
import Derived.Test.YtdhojcaoljhbiaaGreatDoorB104xr
import Derived.Test.YtdhojcaoljhbiaaGreatDoorStdxr
import Derived.Test.YtdhojcaoljhbiaaGreatDoorB91xr
import Derived.Test.YtdhojcaoljhbiaaGreatDoorB90xr
import Derived.Test.YtdhojcaoljhbiaaGreatDoorB39xr
import Derived.Test.YtdhojcaoljhbiaaGreatDoorAbsWxr
import Derived.Lib.SlTrimSet
import Derived.Test.YtdhojcaoljhbiaaGreatDoorB92xr
import Derived.Test.YtdhojcaoljhbiaaGreatDoorDraw1xr
import Derived.Test.YtdhojcaoljhbiaaGreatDoorB93xr
import Derived.Shelf.Strings.SlTrimAscii
set_option linter.unusedVariables false
set_option linter.unusedSimpArgs false
set_option maxRecDepth 100000
namespace Go.Q
open Go.RowKit
section
variable {P:Program} {ops:Array Oper} {o:Oper} {σ:St} {τ:Type}
def readR (σ:St):E→Option T
 | .t (.v x)=>some (.v x)
 | .vw id x=>match look σ.res id with|some _=>some x|none=>none
 | .rf id=>match look σ.res id with|some (.row k rows)=>some (.sl k rows)|_=>none
 | .pp id off=>match look σ.res id with|some (.cur g)=>some (.v (.pointer (some ⟨g.1,off,none⟩)))|_=>none
 | _=>none
theorem readR_ok {I:Ip} {w0:Base} {w:World} {a:Act} (hr:RelI I w0 σ a w) {e:E} {t:T} {c:Value} (h:readR σ e=some t) (hv:VE I w e c):∃ G,C false w t c G∧∀ b∈G,w0.own b∧Thaw w b:=by
 match e,h with
 | .t (.v x),h=>
  cases h
  obtain⟨G,h1,_⟩:=hv
  have h1':=h1
  simp only [C] at h1'
  obtain⟨_,rfl,_⟩:=h1'
  exact⟨[],h1,by simp⟩
 | .vw id x,h=>
  rw [readR] at h
  split at h
  · rename_i r h0
    cases h
    obtain⟨G,h1,h2⟩:=hv
    exact⟨G,h1,fun b hb=>(hr.own id _ h0).2 b (h2 b hb)⟩
  cases h
 | .rf id,h=>
  rw [readR] at h
  split at h
  · rename_i k rows h0
    cases h
    have hc:c=I.hd id:=hv.1
    rw [hc];exact⟨_,C.read (show C true w (.sl k rows) _ _ from hr.res id _ h0),(hr.own id _ h0).2⟩
  cases h
 | .t (.sl _ _),h=>cases h
 | .t (.ad _),h=>cases h
 | .t (.fn _ _ _),h=>cases h
 | .pp id off,h=>
  rw [readR] at h
  split at h
  · rename_i g h0
    cases h
    have h1:=(hr.res id _ h0).2.1
    have h2:c=.pointer (some ⟨I.B id,off,none⟩):=hv
    rw [h1] at h2
    exact⟨[],by unfold C;exact⟨h2,rfl,rfl⟩,by simp⟩
  cases h
 | .pr _ _ _ _,h=>cases h
 | .sb _ _ _ _,h=>cases h
 | .tl _ _ _,h=>cases h
 | .pf _ _ _,h=>cases h
 | .no,h=>cases h
theorem readsR_ok {I:Ip} {w0:Base} {w:World} {a:Act} (hr:RelI I w0 σ a w):∀ {l:List E} {ts:List T} {cs:List Value},mapO (readR σ) l=some ts→VEs I w l cs→ts.length=l.length∧∃ G,Cs false w ts cs G∧∀ b∈G,w0.own b∧Thaw w b
 | [],ts,cs,h,hv=>by cases h;exact⟨rfl,[],by unfold Cs;exact⟨hv,rfl⟩,fun _ hb=>by cases hb⟩
 | e::r,ts,cs,h,hv=>by
  obtain⟨c,cr,rfl,h1,h2⟩:=hv
  rw [mapO] at h
  split at h
  · rename_i t e1
    split at h
    · rename_i ts' e2
      cases h
      obtain⟨G1,g1,k1⟩:=readR_ok hr e1 h1
      obtain⟨hl,G2,g2,k2⟩:=readsR_ok hr e2 h2
      exact⟨by simp [hl],G1++G2,by unfold Cs;exact⟨c,cr,G1,G2,rfl,g1,g2,rfl⟩,fun b hb=>(List.mem_append.1 hb).elim (k1 b) (k2 b)⟩
    cases h
  cases h
def ResR (P:Program) (fn:Func) (out:V) (σ:St):Prop:=∀ I w0 a w,RelI I w0 σ a w→∃ v F,(results fn a.tmps).run P w=.ok v w∧Vr false w out v F∧∀ b∈F,w0.own b∧Thaw w b
theorem ResR.one {fn:Func} {r:ResultVar} {x:A} {ts:List T} {y:V0} (hl:fn.results=#[r]) (h:RVs P σ [r] [x]) (ha:mapO (readR σ) (cellsA x)=some ts) (hy:unflT [x] ts=[y]):ResR P fn (.a y) σ:=by
 intro I w0 a w hr
 obtain⟨vs,h1,h2⟩:=run_results (fn:=fn) (l:=[r]) hr (by rw [hl]) h
 obtain⟨cs,g1,g2⟩:=VAs_cells h2
 simp only [List.flatMap_cons,List.flatMap_nil,List.append_nil] at g1 g2
 obtain⟨kl,G,k2,k4⟩:=readsR_ok hr ha g1
 have hV:=g2 false ts G k2 kl
 rw [hy] at hV
 obtain⟨v,vr,G1,G2,rfl,m1,⟨rfl,rfl⟩,m2⟩:=hV
 rw [List.append_nil] at m2
 subst m2
 exact⟨v,_,h1,m1,k4⟩
theorem ResR.many {fn:Func} {l:List ResultVar} {xs:List A} {ts:List T} {ys:List V0} (hl:fn.results=l.toArray) (h:RVs P σ l xs) (ha:mapO (readR σ) (xs.flatMap cellsA)=some ts) (hy:unflT xs ts=ys) (h2:(2≤ys.length)=True):ResR P fn (.tup ys) σ:=by
 intro I w0 a w hr
 obtain⟨vs,h1,h2'⟩:=run_results (fn:=fn) hr hl h
 obtain⟨cs,g1,g2⟩:=VAs_cells h2'
 obtain⟨kl,G,k2,k4⟩:=readsR_ok hr ha g1
 have hV:=g2 false ts G k2 kl
 rw [hy] at hV
 have hlen:∀ (ys:List V0) (vs:List Value) (G:List Nat),V0s false w ys vs G→vs.length=ys.length:=by
  intro ys
  induction ys with
  | nil=>rintro vs G ⟨rfl,_⟩;rfl
  | cons y ys ih=>rintro vs G ⟨v,vr,G1,G2,rfl,_,m,_⟩;simp [ih vr G2 m]
 have hl2:=hlen ys vs G hV
 have h3:2≤vs.length:=by rw [hl2,h2];trivial
 match vs,h3,h1,hV with
 | v1::v2::vr,_,h1,hV=>exact⟨_,G,h1,⟨_,rfl,hV⟩,k4⟩
def DRPost (w:World) (g:Nat×Value) (p:τ→Prop) (out:τ→V) (e:Ending) (w':World):Prop:=
 ∃ x v F,e=.returned v∧p x∧Vr false w' (out x) v F∧(∀ b∈F,w.heap.size≤b∧Thaw w' b)∧Chg w w' [g.1]∧CuOk w' g
def FrD (P:Program) (f:FuncId) (ins:List V0) (p:τ→Prop) (out:τ→V):Prop:=
 Callee P f∧∀ w g vs F,Good w [g.1]→CuOk w g→V0s false w ins vs F→g.1∉F→Calls P f (List.toArray (.pointer (some ⟨g.1,0,none⟩)::vs)) w (DRPost w g p out)
def DRRes (P:Program) (fn:Func) (g:Nat×Value) (p:τ→Prop) (out:τ→V) (σ:St):Prop:=∃ x,p x∧look σ.res 888888=some (.cur g)∧ResR P fn (out x) ⟨σ.n,σ.slots,delR σ.res 888888⟩
theorem DRRes.mk {fn:Func} {g:Nat×Value} {p:τ→Prop} {out:τ→V} {σ:St} {x:τ} (hc:look σ.res 888888=some (.cur g)) (h:ResR P fn (out x) ⟨σ.n,σ.slots,delR σ.res 888888⟩) (hp:p x):DRRes P fn g p out σ:=⟨x,hp,hc,h⟩
theorem ERRes.mk {fn:Func} {p:τ→Prop} {out:τ→V} {σ:St} {x:τ} (h:ResR P fn (out x) σ) (hp:p x):∃ x,p x∧ResR P fn (out x) σ:=⟨x,hp,h⟩
def RetDR (P:Program) (fn:Func) (g:Nat×Value) (p:τ→Prop) (out:τ→V):Exit→St→Prop
 | .normal,σ=>DRRes P fn g p out σ
 | .ret,σ=>DRRes P fn g p out σ
 | _,_=>False
def RetER (P:Program) (fn:Func) (p:τ→Prop) (out:τ→V):Exit→St→Prop
 | .normal,σ=>∃ x,p x∧ResR P fn (out x) σ
 | .ret,σ=>∃ x,p x∧ResR P fn (out x) σ
 | _,_=>False
theorem FrE.walk {n:Nat} {f:FuncId} {fn:Func} {c:Code} {ins:List V0} {p:τ→Prop} {out:τ→V} (hf:P.funcs[f]?=some fn) (hb:fn.body=some c) (hname:(fn.name == "runtime.NumGoroutine")=false) (hnt:fn.ntmps=n) (hn:Nat.ble ins.length n=true)
 (h:∀ w0,AW P w0 c (RetER P fn p out) (st0 n ins)):FrE P f ins (fun o=>∃ x,p x∧o=out x):=by
 subst hnt
 refine⟨⟨fn,hf,hname,by rw [hb];rfl⟩,fun w vs F hG hv=>?_⟩
 refine calls_of_wp hf hb (Code.wp_mono ?_ (h ⟨w,[],hG⟩ _ _ (rel0 hG hv hn)))
 rintro e a' w' ⟨σ,h1,I,hI⟩
 have key:(∃ x,p x∧ResR P fn (out x) σ)→a'.defers=[]∧∃ v,(results fn a'.tmps).run P w'=.ok v w'∧∃ o,(∃ x,p x∧o=out x)∧FrPost w o (.returned v) w':=fun ⟨x,hp,h1⟩=>by
  obtain⟨v,F,g1,g2,g3⟩:=h1 I ⟨w,[],hG⟩ a' w' hI
  exact⟨hI.defers,v,g1,_,⟨x,hp,rfl⟩,v,F,rfl,g2,fun b hb=>(g3 b hb).1.resolve_right (by simp),hI.ext.toExt⟩
 cases e with
 | normal=>exact key h1
 | ret=>exact key h1
 | exit id=>exact h1.elim
 | goto l=>exact h1.elim
 | panic c=>exact h1.elim
 | outgrown=>exact h1.elim
def XPost (w:World) (out:V) (e:Ending) (w':World):Prop:=∃ v F,e=.returned v∧Vr false w' out v F∧(∀ b∈F,w.heap.size≤b∧Thaw w' b)∧Ext w w'
def FrX (P:Program) (f:FuncId) (ins:List V0) (p:τ→Prop) (out:τ→V):Prop:=
 Callee P f∧∀ w vs F,Good w []→V0s false w ins vs F→Calls P f (List.toArray vs) w fun e w'=>∃ x,p x∧XPost w (out x) e w'
theorem FrX.fr {f:FuncId} {ins:List V0} {p:τ→Prop} {out:τ→V} (h:FrX P f ins p out):FrE P f ins (fun o=>∃ x,p x∧o=out x):=
 ⟨h.1,fun w vs F hg hv=>(h.2 w vs F hg hv).mono fun _ _ ⟨x,hx,v,G,h1,h2,h4,h5⟩=>⟨_,⟨x,hx,rfl⟩,v,G,h1,h2,fun b hb=>(h4 b hb).1,h5⟩⟩
theorem FrX.walk {n:Nat} {f:FuncId} {fn:Func} {c:Code} {ins:List V0} {p:τ→Prop} {out:τ→V} (hf:P.funcs[f]?=some fn) (hb:fn.body=some c) (hname:(fn.name == "runtime.NumGoroutine")=false) (hnt:fn.ntmps=n) (hn:Nat.ble ins.length n=true)
 (h:∀ w0,AW P w0 c (RetER P fn p out) (st0 n ins)):FrX P f ins p out:=by
 subst hnt
 refine⟨⟨fn,hf,hname,by rw [hb];rfl⟩,fun w vs F hG hv=>?_⟩
 refine calls_of_wp hf hb (Code.wp_mono ?_ (h ⟨w,[],hG⟩ _ _ (rel0 hG hv hn)))
 rintro e a' w' ⟨σ,h1,I,hI⟩
 have key:(∃ x,p x∧ResR P fn (out x) σ)→a'.defers=[]∧∃ v,(results fn a'.tmps).run P w'=.ok v w'∧∃ x,p x∧XPost w (out x) (.returned v) w':=fun ⟨x,hp,h1⟩=>by
  obtain⟨v,F,g1,g2,g3⟩:=h1 I ⟨w,[],hG⟩ a' w' hI
  exact⟨hI.defers,v,g1,x,hp,v,F,rfl,g2,fun b hb=>⟨(g3 b hb).1.resolve_right (by simp),(g3 b hb).2⟩,hI.ext.toExt⟩
 cases e with
 | normal=>exact key h1
 | ret=>exact key h1
 | exit id=>exact h1.elim
 | goto l=>exact h1.elim
 | panic c=>exact h1.elim
 | outgrown=>exact h1.elim
theorem FrD.walk {n:Nat} {f:FuncId} {fn:Func} {c:Code} {ins:List V0} {p:τ→Prop} {out:τ→V} {σ':Nat×Value→St} (hf:P.funcs[f]?=some fn) (hb:fn.body=some c) (hname:(fn.name == "runtime.NumGoroutine")=false) (hnt:fn.ntmps=n) (hn:Nat.ble (ins.length+1) n=true)
 (hi:∀ g,initC 1 (ins.map fun x=>(false,x)) ⟨n,[(0,(true,.a (.one (.pp 888888 0))))],[(888888,.cur g)]⟩=some (σ' g)) (h:∀ w0 g,AW P w0 c (RetDR P fn g p out) (σ' g)):FrD P f ins p out:=by
 subst hnt
 refine⟨⟨fn,hf,hname,by rw [hb];rfl⟩,fun w g vs F hG hC hv hgF=>?_⟩
 have hv':=hv.c (FF:=[g.1]) fun b hb hm=>hgF (by simp only [List.mem_singleton] at hm;rwa [←hm])
 have hl:vs.length=ins.length:=by simpa using hv'.len
 have hn':ins.length+1≤fn.ntmps:=Nat.le_of_ble_eq_true hn
 have hglt:g.1<w.heap.size:=hC.1.lt
 let a0:Act:=⟨(List.toArray (.pointer (some ⟨g.1,0,none⟩)::vs))++Array.replicate (fn.ntmps-(List.toArray (Value.pointer (some ⟨g.1,0,none⟩)::vs)).size) undef,[]⟩
 let I0:Ip:=⟨fun b=>b<w.heap.size∧b≠g.1,fun i=>if i=888888 then [g.1] else [],fun _=>undef,fun i=>if i=888888 then g.1 else 0⟩
 have hget:∀ (j:Nat) v,(Value.pointer (some ⟨g.1,0,none⟩)::vs)[j]?=some v→a0.tmps.getD j undef=v:=fun j v hj=>by
  have hjl:=(List.getElem?_eq_some_iff.1 hj).1
  simp only [a0]
  rw [Array.getD_eq_getD_getElem?,Array.getElem?_append_left (by simpa using hjl)]
  have:(List.toArray (Value.pointer (some ⟨g.1,0,none⟩)::vs))[j]?=some v:=by simpa using hj
  rw [this];rfl
 have hr0:RelI I0 ⟨w,[g.1],hG⟩ ⟨fn.ntmps,[(0,(true,.a (.one (.pp 888888 0))))],[(888888,.cur g)]⟩ a0 w:=by
  have key:∀ i r,look [(888888,R.cur g)] i=some r→i=888888∧r=.cur g:=fun i r hi=>by
   rw [look_cons] at hi
   split at hi
   · rename_i e;cases hi;exact⟨e.symm,rfl⟩
   cases hi
  refine⟨Chg.refl w [g.1],rfl,by simp [a0,hl];omega,fun i z hi=>?_,fun id r hi=>?_,fun b hb=>hb.1,fun id b hb=>?_,fun id r hi=>?_,fun i j hne b hb hb'=>?_⟩
  · rw [look_cons] at hi
    split at hi
    · rename_i e
      subst e;cases hi;exact hget 0 _ rfl
    cases hi
  · obtain⟨rfl,rfl⟩:=key id r hi
    exact⟨rfl,rfl,hC.1⟩
  · simp only [I0] at hb ⊢
    split at hb
    · simp only [List.mem_singleton] at hb;subst hb;exact⟨hglt,fun h=>h.2 rfl⟩
    cases hb
  · obtain⟨rfl,rfl⟩:=key id r hi
    refine⟨by simp [I0],fun b hb=>?_⟩
    have:b=g.1:=by simpa [I0] using hb
    subst this
    exact⟨.inr (by simp),hC.2⟩
  simp only [I0] at hb hb'
  split at hb
  · split at hb'
    · omega
    cases hb'
  cases hb
 obtain⟨I1,r1⟩:=initC_ok (FF:=[g.1]) (fun _ _ _=>trivial) (hi g) hr0 (fun b h1 h2=>⟨h1,fun e=>h2 (by simp [e])⟩) hv' (by simp) (fun b hb=>by cases hb) fun j v hj=>hget (1+j) v (by rw [Nat.add_comm];simpa using hj)
 refine calls_of_wp hf hb (Code.wp_mono ?_ (h ⟨w,[g.1],hG⟩ g _ _ ⟨I1,r1⟩))
 rintro e a' w' ⟨σ1,h1,I,hI⟩
 have key:DRRes P fn g p out σ1→a'.defers=[]∧∃ v,(results fn a'.tmps).run P w'=.ok v w'∧DRPost w g p out (.returned v) w':=fun ⟨x,hp,hcur,h1⟩=>by
  obtain⟨hF,hB,hcu⟩:I.F 888888=[g.1]∧I.B 888888=g.1∧CuB I.Z w' g:=hI.res _ _ hcur
  have hsz:w.heap.size≤w'.heap.size:=hI.ext.size
  let W:World:={ w' with heap:=w'.heap.extract 0 w.heap.size }
  have hW:W.heap.size=w.heap.size:=by simp [W];omega
  have hWk:∀ k,k<w.heap.size→W.heap[k]?=w'.heap[k]?:=fun k hk=>trunc_get _ _ _ hsz hk
  have hGW:Good W []:=hG.step (Nat.le_of_eq hW.symm) (fun k hk hn=>(hWk k hk).trans (hI.ext.block k hk hn)) fun b hb=>by cases hb
  have hI2:RelI I ⟨W,[],hGW⟩ ⟨σ1.n,σ1.slots,delR σ1.res 888888⟩ a' w':=by
   refine⟨⟨rfl,rfl,rfl,by rw [hW];exact hsz,fun k hk _=>?_⟩,hI.defers,hI.size,hI.slots,fun id r hr=>hI.res id r (look_delR _ _ _ _ hr).2,hI.old,hI.lt,fun id r hr=>?_,hI.apart⟩
   · rw [hW] at hk;exact (hWk k hk).symm
   obtain⟨e1,e2⟩:=look_delR _ _ _ _ hr
   refine⟨(hI.own id r e2).1,fun b hb=>⟨?_,((hI.own id r e2).2 b hb).2⟩⟩
   rcases ((hI.own id r e2).2 b hb).1 with h|h
   · left;show W.heap.size≤b;rw [hW];exact h
   exfalso
   have:b=g.1:=by simpa using h
   subst this;exact hI.apart id 888888 e1 _ hb (by rw [hF];simp)
  obtain⟨v,F,g1,g2,g3⟩:=h1 I ⟨W,[],hGW⟩ a' w' hI2
  refine⟨hI.defers,v,g1,x,v,F,rfl,hp,g2,fun b hb=>⟨?_,(g3 b hb).2⟩,hI.ext,?_,?_⟩
  · have:=(g3 b hb).1.resolve_right (by simp)
    rwa [show (Base.W ⟨W,[],hGW⟩).heap.size=w.heap.size from hW] at this
  · refine hcu.congr rfl fun b _ hz=>⟨⟨hI.old b hz,fun e=>?_⟩,rfl⟩
    subst e;exact (hI.lt 888888 _ (by rw [hF];simp)).2 hz
  exact ((hI.own 888888 _ hcur).2 g.1 (by rw [hF];simp)).2
 cases e with
 | normal=>exact key h1
 | ret=>exact key h1
 | exit id=>exact h1.elim
 | goto l=>exact h1.elim
 | panic c=>exact h1.elim
 | outgrown=>exact h1.elim
def ddup:List Nat→List Nat
 | []=>[]
 | x::r=>if x∈r then ddup r else x::ddup r
theorem mem_ddup {x:Nat}:∀ {l:List Nat},x∈ddup l↔x∈l
 | []=>Iff.rfl
 | y::r=>by
  rw [ddup]
  split
  · rename_i h
    rw [mem_ddup,List.mem_cons]
    exact⟨.inr,fun h'=>h'.elim (fun e=>e▸h) id⟩
  rw [List.mem_cons,List.mem_cons,mem_ddup]
theorem nodup_ddup:∀ l:List Nat,(ddup l).Nodup
 | []=>List.nodup_nil
 | y::r=>by
  rw [ddup]
  split
  · exact nodup_ddup r
  rename_i h
  exact List.nodup_cons.2 ⟨fun hm=>h (mem_ddup.1 hm),nodup_ddup r⟩
def vwE (n:Nat):T→E
 | .v x=>.t (.v x)
 | t=>.vw n t
def vwA (n:Nat):V0→A
 | .one t=>.one (vwE n t)
 | .agg l=>.agg (l.map (vwE n))
def vwV (n:Nat):V→S
 | .a x=>.a (vwA n x)
 | .tup l=>.tup (l.map (vwA n))
section
variable {I:Ip} {w:World} {n:Nat}
theorem vwE_ok {t:T} {c:Value} {G:List Nat} (h:C false w t c G) (hG:∀ b∈G,b∈I.F n):VE I w (vwE n t) c:=by
 cases t with
 | v x=>
  have h':=h
  simp only [C] at h'
  obtain⟨_,rfl,_⟩:=h'
  exact⟨[],h,by simp⟩
 | sl k rows=>exact⟨G,h,hG⟩
 | ad cs=>exact⟨G,h,hG⟩
 | fn f fs cs=>exact⟨G,h,hG⟩
theorem vwEs_ok:∀ {ts:List T} {cs:List Value} {G:List Nat},Cs false w ts cs G→(∀ b∈G,b∈I.F n)→VEs I w (ts.map (vwE n)) cs
 | [],cs,G,h,_=>by simp only [Cs] at h;exact h.1
 | t::ts,cs,G,h,hG=>by
  simp only [Cs] at h
  obtain⟨c,cr,G1,G2,rfl,h1,h2,rfl⟩:=h
  exact⟨c,cr,rfl,vwE_ok h1 fun b hb=>hG b (by simp [hb]),vwEs_ok h2 fun b hb=>hG b (by simp [hb])⟩
theorem vwA_ok {x:V0} {v:Value} {G:List Nat} (h:V0r false w x v G) (hG:∀ b∈G,b∈I.F n):VA I w (vwA n x) v:=by
 cases x with
 | one t=>exact vwE_ok h hG
 | agg l=>obtain⟨cs,e,h⟩:=h;exact⟨cs,e,vwEs_ok h hG⟩
theorem vwAs_ok:∀ {xs:List V0} {vs:List Value} {G:List Nat},V0s false w xs vs G→(∀ b∈G,b∈I.F n)→VAs I w (xs.map (vwA n)) vs
 | [],vs,G,h,_=>h.1
 | x::xs,vs,G,⟨v,vr,G1,G2,e,h1,h2,e2⟩,hG=>by
  subst e2
  exact⟨v,vr,e,vwA_ok h1 fun b hb=>hG b (by simp [hb]),vwAs_ok h2 fun b hb=>hG b (by simp [hb])⟩
theorem vwV_ok {x:V} {v:Value} {G:List Nat} (h:Vr false w x v G) (hG:∀ b∈G,b∈I.F n):VS I w (true,vwV n x) v:=by
 cases x with
 | a x=>exact vwA_ok h hG
 | tup l=>obtain⟨vs,e,h⟩:=h;exact⟨vs,e,vwAs_ok h hG⟩
end
theorem R_calldr {f:FuncId} {x:Operand} {l:List Operand} {tys:Array TypeId} {ins:List V0} {p:τ→Prop} {out:τ→V} {g:Nat×Value} {u:Nat} (n:Nat) (h:FrD P f ins p out) (ho:o.op=.call { callee:=.value (.func f),args:=(x::l).toArray,argTypes:=tys }) (hg:o.guard=none) (hd:o.dst.all (fun d=>Nat.blt d σ.n)=true)
 (hx:Get σ true x (.one (.pp u 0))) (hu:look σ.res u=some (.cur g)) (hn:nvB u σ.slots σ.res=true) (ha:ArgsD σ u true l ins) (hf:σ.has n=false):OpE P ops o σ fun σ'=>∃ z,p z∧σ'=(σ.add n .opq).put o.dst (true,vwV n (out z)):=by
 rintro w0 a w ⟨I,hr⟩ K Q hK
 simp only [Region.wanted,hg,if_true]
 obtain⟨hF,hB,hcu⟩:I.F u=[g.1]∧I.B u=g.1∧CuB I.Z w g:=hr.res _ _ hu
 obtain⟨F,hV,hap⟩:=ha.ok hr hu
 have hv:a.eval x=.pointer (some ⟨g.1,0,none⟩):=by
  have:a.eval x=.pointer (some ⟨I.B u,0,none⟩):=hx.va hr rfl
  rw [this,hB]
 have hZg:∀ b,I.Z b→b≠g.1:=fun b hz e=>by subst e;exact (hr.lt u _ (by rw [hF];simp)).2 hz
 have hgo:=(hr.own u _ hu).2 g.1 (by rw [hF];simp)
 have hok:CuOk w g:=⟨hcu.congr rfl fun b _ hz=>⟨⟨hr.old b hz,hZg b hz⟩,rfl⟩,hgo.2⟩
 have hgood:Good w [g.1]:=hr.goodF fun b hb=>by simp only [List.mem_singleton] at hb;subst hb;exact hgo.1
 unfold Oper.wp
 rw [run_enter h.1 ho,List.map_cons,hv]
 refine (h.2 w g _ F hgood hok hV (fun hm=>hap g.1 hm (by rw [hF];simp))).mono fun e w' hR=>?_
 obtain⟨z,v,G,rfl,hp,h1,h3,h4,h5⟩:=hR
 have hcu':CuB I.Z w' g:=by
  obtain⟨i,m,t,G0,bs,k1,k2,k3,k4,k5⟩:=hcu
  obtain⟨i',m',t',G0',bs',j1,j2,j3,j4,j5⟩:=h5.1
  exact⟨i',m',t',G0,bs,j1,k2.congr fun b hb=>h4.block b (k2.lt b hb) (by simpa using hZg b (k3 b hb)),k3,j4,k5⟩
 obtain⟨I',hr',hZ',hF'⟩:=hr.moved hu hn h4 h5 hZg hcu'
 have hr2:=hr'.addF (id:=n) hf (G:=ddup G) (u:=undef) (b:=0) (r:=.opq) (nodup_ddup G) (fun b hb=>by
  have hb:=mem_ddup.1 hb
  exact⟨.inl (Nat.le_trans hr.ext.size (h3 b hb).1),Vr.lt h1 b hb,(h3 b hb).2,fun hz=>by rw [hZ'] at hz;have:=hr.old b hz;have:=(h3 b hb).1;omega,fun i hi=>by rw [hF'] at hi;have:=(hr.lt i b hi).1;have:=(h3 b hb).1;omega⟩) trivial
 exact hK _ _ _ ⟨z,hp,rfl⟩ ⟨_,hr2.put hd (vwV_ok h1 fun b hb=>by simp only [Ip.set,if_true];exact mem_ddup.2 hb)⟩
theorem R_callX {f:FuncId} {l:List Operand} {tys:Array TypeId} {ins:List V0} {p:τ→Prop} {out:τ→V} (n:Nat) (h:FrX P f ins p out) (ho:o.op=.call { callee:=.value (.func f),args:=l.toArray,argTypes:=tys }) (hg:o.guard=none) (hd:o.dst.all (fun d=>Nat.blt d σ.n)=true)
 (ha:Args σ true l ins) (hf:σ.has n=false):OpE P ops o σ fun σ'=>∃ z,p z∧σ'=(σ.add n .opq).put o.dst (true,vwV n (out z)):=by
 rintro w0 a w ⟨I,hr⟩ K Q hK
 simp only [Region.wanted,hg,if_true]
 obtain⟨F,hF⟩:=ha.ok hr rfl
 unfold Oper.wp
 rw [run_enter h.1 ho]
 refine (h.2 w _ F hr.good hF).mono fun e w' hR=>?_
 obtain⟨z,hp,v,G,rfl,h1,h3,h4⟩:=hR
 have hr2:=(hr.later h4).addF (id:=n) hf (G:=ddup G) (u:=undef) (b:=0) (r:=.opq) (nodup_ddup G) (fun b hb=>by
  have hb:=mem_ddup.1 hb
  exact⟨.inl (Nat.le_trans hr.ext.size (h3 b hb).1),Vr.lt h1 b hb,(h3 b hb).2,fun hz=>by have:=hr.old b hz;have:=(h3 b hb).1;omega,fun i hi=>by have:=(hr.lt i b hi).1;have:=(h3 b hb).1;omega⟩) trivial
 exact hK _ _ _ ⟨z,hp,rfl⟩ ⟨_,hr2.put hd (vwV_ok h1 fun b hb=>by simp only [Ip.set,if_true];exact mem_ddup.2 hb)⟩
theorem R_calleX {f:FuncId} {l:List Operand} {tys:Array TypeId} {ins:List V0} {p:τ→Prop} {out:τ→V} (h:FrE P f ins (fun o=>∃ x,p x∧o=out x)) (ho:o.op=.call { callee:=.value (.func f),args:=l.toArray,argTypes:=tys }) (hg:o.guard=none) (hd:o.dst.all (fun d=>Nat.blt d σ.n)=true)
 (ha:Args σ true l ins):OpE P ops o σ fun σ'=>∃ z,p z∧σ'=σ.put o.dst (true,inS (out z)):=fun w0 a w hr K Q hK=>
 R_calle h ho hg hd ha w0 a w hr K Q fun σ' a' w' ⟨_,⟨z,hz,e1⟩,e2⟩ hr'=>hK σ' a' w' ⟨z,hz,by rw [e2,e1]⟩ hr'
end
end Go.Q
set_option maxHeartbeats 1000000
set_option maxRecDepth 100000
namespace Go.Q
open Go.RowKit Go.D
def dGr:TGraph:=⟨[],[]⟩
def hgOk (h:THistory) (g:TGraph):Bool:=validG g&&decide (g.Values=(h.Graphs[0]?.getD dGr).Values)
def validH (h:THistory):Bool:=h.Graphs.all (hgOk h)&&(inB h.Graphs.length 1 8&&inB h.First 1 (999-h.Graphs.length+1))
def lastV (h:THistory):Int:=if validH h=true then h.First+h.Graphs.length-1 else 0
def goodH (h:THistory):Prop:=0<h.Graphs.length∧h.Graphs.length≤8∧∀ g∈h.Graphs,validG g=true
theorem validH_r {h:THistory} (hv:validH h=true):(1≤h.Graphs.length∧h.Graphs.length≤8)∧1≤h.First∧h.First≤999-h.Graphs.length+1:=by
 unfold validH inB at hv
 simp only [Bool.and_eq_true,decide_eq_true_eq] at hv
 omega
theorem validH_one {g:TGraph} {v:Int} (hg:validG g=true) (h1:1≤v) (h2:v≤4):validH ⟨v,[g]⟩=true:=by
 unfold validH hgOk inB
 simp [hg]
 omega
theorem validG_z {g:TGraph} (h:validG g=true):g.Values.length≤5∧g.Edges.length≤12:=by
 have:=edges_12 h;omega
theorem goodH_one {g:TGraph} {v:Int} (hg:validG g=true):goodH ⟨v,[g]⟩:=⟨by simp,by simp,by simpa using hg⟩
theorem goodH_more {h:THistory} {g:TGraph} {v:Int} (hh:goodH h) (hg:validG g=true) (hl:h.Graphs.length+1≤8):goodH ⟨v,h.Graphs++[g]⟩:=
 ⟨by simp,by simp;omega,fun x hx=>by
  rcases List.mem_append.1 hx with hx|hx
  · exact hh.2.2 x hx
  rw [List.mem_singleton.1 hx];exact hg⟩
theorem goodH_shift {h:THistory} {g:TGraph} {v:Int} (hh:goodH h) (hg:validG g=true):goodH ⟨v,(h.Graphs++[g]).drop 1⟩:=
 ⟨by have:=hh.1;simp;omega,by have:=hh.2.1;simp;omega,fun x hx=>by
  rcases List.mem_append.1 (List.mem_of_mem_drop hx) with hx|hx
  · exact hh.2.2 x hx
  rw [List.mem_singleton.1 hx];exact hg⟩
theorem applyB_ok {g:TGraph} {b:TBatch} (hg:validG g=true):validG (applyB g b).1=true:=by
 cases h:(applyB g b).2 with
 | true=>exact (applyB_valid h).1
 | false=>
  unfold applyB at h ⊢
  split
  · rename_i hc;rw [if_pos hc] at h;rw [hc.2.2] at h;cases h
  exact hg
theorem hg_eq {h:THistory} {x y:TGraph} (hy:h.Graphs[0]?=some y):hgOk h x=(validG x&&decide (cmpL x.Values y.Values=0)):=by
 unfold hgOk;rw [hy,cmpL_zero];rfl
def hOut (x:THistory×Bool):V:=.tup [.agg (cHistory x.1),.one (.v (.bool x.2))]
end Go.Q
namespace Go.Proofs.YtdhojcaoljhbiaaGreatDoor
open Go.RowKit Go.Q Go.D
theorem specIsValidHistory (h:THistory):FnT Tryz.prog 10 [.agg (cHistory h)] (.a (.one (.v (.bool (validH h))))):=by
 refine Bb Tryz.func10 U (by kernel_rfl) Tryz.ntmps10 U fun hlen w0=>?_
 try simp [cEdge,cGraph,cHistory] at hlen
 refine Af (Ac (Bx U U U (.tm U) (ts:=_) (by rfl)) U ?_);refine Aj ?_;refine Aa (Ae (Af (Aj ?_)));refine Aa (AW.block (C8 (β:=Nat) (fun x=>x≤(h.Graphs).length∧∀ j y,j<x→(h.Graphs)[j]?=some y→(hgOk h) y=true) (fun x=>⟨_,[(3,(true,.a (.one (.t (.v (.int .i64 (x:Nat))))))),(1,_)],[]⟩) (fun x=>(h.Graphs).length-x) (0) ⟨Nat.zero_le _,fun j y hj=>absurd hj (Nat.not_lt_zero j)⟩ (A6 U ⟨U,U,Y⟩ trivial) ?_));intro k hk;refine Ae (Af (Ab ?_));refine Bz Bn ?_;refine A3 Ch ?_;refine Bu (.t) Tryz.underlying24 ?_;refine AWl.lt ?_;refine Aa (Al (.tm U) (fun hlt=>?_) (fun hlt=>?_))
 · try simp at hlt
   obtain⟨y,hy⟩:∃ ξ,h.Graphs[0]?=some ξ:=⟨_,List.getElem?_eq_getElem (by omega)⟩
   obtain⟨x,hx⟩:∃ ξ,(h.Graphs)[k]?=some ξ:=⟨_,List.getElem?_eq_getElem (by exact hlt)⟩
   refine Am (Ae (AW.block (Ae (Cv 22 (nthB [[],[0],[],[0,1,2],[0,1,2,3],[0,1,2,3,4],[0,1,2,3,4,5],[0,1,2,3,4,5,6],[0,1,2,3,4,5,6,7],[0,1,2,3,4,5,6,7,8],[0,1,2,3,4,5,6,7],[0,1,2,3,4,5,6,7,8,9,10],[0,1,2,3,4,5,6,7,8,9,10,11],[0,1,2,3,4,5,6,7,8,9,10,11,12],[0,1,2,3,4,5,6,7],[0,1,2,3,4,5,6,7,14],[0,1,2,3,4,5,6,7,14,15],[0,1,2,3,4,5,6,7,14,15,16],[0,1,2,3,4,5,6,7,14,15,16,17],[0,1,2,3,4,5,6,7,8,9,10,11,12,13,14,15,16,17,18],[0,1,2,3,4,5,6,7,8,9,10,11,12,13,14,15,16,17,18,19],[0,1,2,3,4,5,6,7,8,9,10,11,12,13,14,15,16,17,18,19,20]]) (by kernel_rfl) (by kernel_rfl) (by kernel_rfl) ?_))));refine Di Bn ?_;refine Cd Ch ?_;refine Bp ?_;refine DrawC.s (fun _ hs=>(by exact Aw U (.no U) (Ag hs U) (hs.tm U) (hs.tm U) Tryz.underlying24 A9 (fun _=>⟨by omega,(by exact A5 (by assumption))⟩))) ?_;refine Cd A9 ?_
   refine DrawC.s (fun _ hs=>Bo (FnT.fr (specIsValidGraph _)) U (.no U) (Ag hs U) (.cons (hs.tm U) (readA_sup hs U) .nil)) ?_;refine DrawC.s (fun _ hs=>Dq U (.no U) (Ag hs U) (hs.tm U)) ?_;refine Bp ?_;refine DrawC.s (fun _ hs=>(by exact Bc U (by exact hs.n1) (Ag hs U) (hs.tm U) Bn)) ?_;refine DrawC.s (fun _ hs=>(by exact Bl U (by exact hs.n1) (Ag hs U) (hs.ti U) Ch U U)) ?_;refine DrawC.s (fun _ hs=>Bh U (by exact hs.n1) (Ag hs U) (hs.tm U)) ?_;refine DrawC.s (fun _ hs=>(by exact Aw U (by exact hs.n1) (Ag hs U) (hs.ti U) (hs.ti U) Tryz.underlying24 A9 (fun hq=>by (try simp at hq);exact⟨by omega,(by exact A5 (by assumption))⟩))) ?_;refine DrawC.s (fun _ hs=>(by exact Bc U (by exact hs.n1) (Ag hs U) (hs.ti U) Cu)) ?_;refine DrawC.s (fun _ hs=>(by exact Bl U (by exact hs.n1) (Ag hs U) (hs.ti U) Dm U U)) ?_
   refine DrawC.s (fun _ hs=>(by exact Bc U (by exact hs.n1) (Ag hs U) (hs.tm U) Bn)) ?_;refine DrawC.s (fun _ hs=>(by exact Bl U (by exact hs.n1) (Ag hs U) (hs.ti U) Ch U U)) ?_;refine DrawC.s (fun _ hs=>(by exact Aw U (by exact hs.n1) (Ag hs U) (hs.ti U) (.const U) Tryz.underlying24 A9 (fun _=>⟨by omega,A5 hy⟩))) ?_;refine DrawC.s (fun _ hs=>(by exact Bc U (by exact hs.n1) (Ag hs U) (hs.ti U) Cu)) ?_;refine DrawC.s (fun _ hs=>(by exact Bl U (by exact hs.n1) (Ag hs U) (hs.ti U) Dm U U)) ?_;refine DrawC.s (fun _ hs=>R_callq U (by exact hs.n1) (Ag hs U) (.cons (hs.ti U) (readA_sup hs U) (.cons (hs.ti U) (readA_sup hs U) .nil)) fun hq=>FnT.fr (specl2Cmp _ _)) ?_;refine DrawC.s (fun _ hs=>R_ne U (by exact hs.n1) (Ag hs U) (hs.ti U) (.const U)) ?_;refine DrawC.s (fun _ hs=>R_or U (.no U) (Ag hs U) (hs.tm U) (hs.ti U)) ?_;refine Cm U U ?_;refine Aa (Al (.tm U) (fun h32=>?_) (fun h32=>?_))
   · try simp at h32
     refine Ae (Ar (Av [1,3] []) ?_);refine Ad (Aj ?_);refine Aa (Ap (By U U ?_))
     unfold validH;rw [not_all hx (by rw [hg_eq hy];revert h32;cases validG x<;>simp)];rfl
   try simp at h32
   refine Am (Ar (Av [1,3] []) ?_);refine Ad (Ab ?_);refine Bs ?_;refine Ah ?_;refine Aa ?_;refine Round.next (k+1) ⟨by omega,each_succ hk.2 hx (by rw [hg_eq hy];revert h32;cases validG x<;>simp)⟩ (by omega) (A6 rfl ⟨rfl,rfl,Y⟩ trivial)
 try simp at hlt
 refine Bt (Af (Bz Bn ?_));refine A3 Ch ?_;refine Bu (.t) Tryz.underlying24 ?_;refine Br (specl1In _ _ _) ?_;refine Ab ?_;refine AWl.fy Dj ?_;refine AWl.ly ty3 ?_;refine AWl.fy Bn ?_;refine AWl.ly Ch ?_;refine Ac (Cn U (by exact .yes1 U U U U) U (.tmp U (by exact id)) (by exact .t) Tryz.underlying24) U ?_;refine Ac (Dl U (by exact .yes1 U U U U) U (.const U) (.tmp U (by exact id)) (fun hq=>by first|omega|(simp at hq;omega))) U ?_;refine Ac (C5 U (by exact .yes1 U U U U) U (.tmp U (by exact id)) (.const U) (fun hq=>by first|omega|(simp at hq;omega))) U ?_;refine Ac (R_callq U (by exact .yes1 U U U U) U (.cons (.tmp U (by exact id)) U (.cons (.const U) U (.cons (.tmp U (by exact id)) U .nil))) fun hq=>FnT.fr (specl1In _ _ _)) U ?_;refine C1 ?_;refine Ah ?_;refine Aa (Ap (By U U ?_))
 unfold validH;rw [each_all hk.2 (by omega)];simp
theorem specLatestVersion (h:THistory):FnT Tryz.prog 11 [.agg (cHistory h)] (.a (.one (.v (.int .i64 (lastV h))))):=by
 refine Bb Tryz.func11 U (by kernel_rfl) Tryz.ntmps11 U fun hlen w0=>?_
 try simp [cEdge,cGraph,cHistory] at hlen
 refine Af (Ac (Bx U U U (.tm U) (ts:=_) (by rfl)) U ?_);refine Aj ?_;refine Aa (Ae (Af (A3 Be ?_)));refine Br (specIsValidHistory h) ?_;refine Cg ?_;refine Aa (Al (.tm U) (fun h5=>?_) (fun h5=>?_))
 · try simp at h5
   refine Af (Aj ?_);refine Aa (Ap (By U U ?_))
   unfold lastV;rw [if_neg (by simpa using h5)]
 try simp at h5
 have hv:=validH_r (by simpa using h5)
 refine Am (Af (Bz Dj ?_));refine A3 ty3 ?_;refine Bz Bn ?_;refine A3 Ch ?_;refine Bu (.t) Tryz.underlying24 ?_;refine Ac (C5 U (.no U) U (.tm U) (.tm U) (fun _=>by omega)) U ?_;refine Cy ?_;refine Ah ?_;refine Aa (Ap (By U U ?_))
 unfold lastV;rw [if_pos (by simpa using h5)]
theorem specl7Copy (h:THistory) (hh:goodH h):FnT Tryz.prog 38 [.agg (cHistory h)] (.a (.agg (cHistory h))):=by
 refine Bb Tryz.func38 U (by kernel_rfl) Tryz.ntmps38 U fun hlen w0=>?_
 try simp [cEdge,cGraph,cHistory] at hlen
 have hz1:=hh.1
 have hz2:=hh.2.1
 refine Af (Ac (Bx U U U (.tm U) (ts:=_) (by rfl)) U ?_);refine Au (Az 2 U U U C9 U U U) U ?_;refine Aa (Af (Bz Dj ?_));refine A3 ty3 ?_;refine Ac (Bw (ps:=[(0,.tmp 7)]) U U U C9 U U st26 (.cons (.tm U) U U fp26_0 .nil) U) U ?_;refine Cp (i:=8) 20001 2 1 U U U ?_;refine Au (Az 3 U U U C9 U U U) U ?_;refine An Be ?_;refine Aa (Ae (Af (Aj ?_)));refine Aa (AW.block (AW.loop1 (fun (k:Nat)=>(k≤h.Graphs.length)∧True) (fun (k:Nat)=>⟨_,[(4,(true,.a (.one (.t (.v (.int .i64 (k:Nat))))))),(1,_),(2,_),(3,_)],[(2,.box [.t (.v (.int .i64 0)),.t (.v (.slice none 0 0))]),(3,.box [.t (.v (.int .i64 h.First)),.rf 20001]),(20001,.row 2 ((h.Graphs.take k).map cGraph))]⟩) (fun (k:Nat)=>h.Graphs.length-k) (0) ⟨Nat.zero_le _,Y⟩ Ay ?_))
 rintro k ⟨hk,he⟩
 refine Ae (Af (Ab ?_));refine Bz Bn ?_;refine A3 Ch ?_;refine Bu (.t) Tryz.underlying24 ?_;refine AWl.lt ?_;refine Aa (Al (.tm U) (fun h13=>?_) (fun h13=>?_))
 · try simp at h13
   obtain⟨x,hx⟩:∃ ξ,h.Graphs[k]?=some ξ:=⟨_,List.getElem?_eq_getElem (by omega)⟩
   have hx9:=validG_z (hh.2.2 x (List.mem_of_getElem? hx))
   refine Am (Ae (AW.block (Af (Bz Bn ?_))));refine A3 Ch ?_;refine Ab ?_;refine Ac (Aw U (.no U) U (.tm U) (.tm U) Tryz.underlying24 A9 (fun _=>⟨by omega,(A5 hx)⟩)) U ?_;refine A3 A9 ?_;refine Bq (Cb 2100 (specl3Copy x (by omega) (by omega)) U U U (.cons (.tm U) U .nil) U U) U ?_;refine Au (Az 5 U U U Cj U U U) U ?_;refine An A9 ?_;refine Aa (Ad (A8 Bn ?_));refine Ai Ch ?_;refine Ai A9 ?_;refine Bd (B8 (xs:=[.tmp 24]) 25 U U U (.cons (.tm U) U U .nil) Tryz.underlying24 Cj U U U U) U ?_;refine Cq (Cw U U U (.tm U) U (.tm U) U U Tryz.underlying24 Cj U (by (simp [chunk];omega)) (by (unfold maxLen;simp [chunk];omega))) U ?_;refine A8 Bn ?_;refine An Ch ?_;refine Aa (Ad (Ab ?_));refine Bs ?_;refine Ah ?_;refine Aa ?_
   repeat (with_reducible refine A7 ?_)
   refine Round1.next (k+1) ⟨by omega,Y⟩ (by omega) (A6 rfl ⟨rfl,rfl,rfl,rfl,Y⟩ ⟨(by rfl),(by rfl),(by refine congrArg (fun r=>some (R.row 2 r)) ?_;rw [take_at hx];simp;try rfl),Y⟩)
 try simp at h13
 refine Bt (Af (Ai Be ?_));refine An Be ?_;refine Aa (Ap (Res.one U (.cell U U Be U U .nil) U ?_))
 rw [List.take_of_length_le (l:=h.Graphs) (by omega)];rfl
end Go.Proofs.YtdhojcaoljhbiaaGreatDoor
set_option maxHeartbeats 1000000
set_option maxRecDepth 100000
namespace Go.Q
open Go.RowKit Go.D
theorem C.bytes {w:World} {l:List Int} {v:Value} {F:List Nat} (h:C false w (.sl 1 (byR l)) v F):∃ a len cap,v=.slice a len cap∧l.length=len∧len≤9223372036854775807∧∀ i,i<len→∃ b off x,a=some ⟨b,off,none⟩∧b∈F∧l[i]?=some x∧w.cell? ⟨b,off+i,none⟩=some (.int .u8 x):=by
 simp only [C] at h
 obtain⟨a,len,cap,rfl,h2,h3,h4,h5⟩:=h
 rw [byR,List.length_map] at h2
 refine⟨a,len,cap,rfl,h2,by unfold maxLen at h4;omega,fun i hi=>?_⟩
 rcases h5 with ⟨h5,_⟩|⟨b,off,G,rfl,rfl,h7,h8,h9⟩
 · omega
 obtain⟨s1,xs,s2,s3,s4⟩:=h9.flat
 have hf:(byR l).flatten=l.map fun x=>T.v (.int .u8 x):=by
  unfold byR
  clear h9 s1 s2 s3 h2
  induction l with
  | nil=>rfl
  | cons x l ih=>rw [List.map_cons,List.flatten_cons,ih];rfl
 rw [hf] at s2
 have key:∀ (m:List Int) {cs:List Value} {G:List Nat},Cs false w (m.map fun x=>T.v (.int .u8 x)) cs G→cs=m.map fun x=>.int .u8 x:=by
  intro m
  induction m with
  | nil=>intro cs G h;unfold Cs at h;exact h.1
  | cons x m ih=>intro cs G h;rw [List.map_cons] at h;unfold Cs at h;obtain⟨c,cr,G1,G2,rfl,g1,g2,rfl⟩:=h;rw [ih g2];unfold C at g1;rw [g1.1];rfl
 have e:=key l s2
 subst e
 exact⟨b,off,l[i]'(by omega),rfl,by simp,List.getElem?_eq_getElem _,s4 i _ (by simp [List.getElem?_eq_getElem,h2,hi])⟩
theorem Chg.setCell (w:World) (p:Addr) (u:Value):Chg w (w.setCell p u) [p.block]:=⟨rfl,rfl,rfl,by simp [World.setCell],fun k _ hn=>heap_setCell_other w p k u (fun e=>hn (by simp [e]))⟩
theorem Chg.more {w w1 w2:World} {G:List Nat} (h:Chg w w1 G) (h2:Chg w1 w2 G):Chg w w2 G:=⟨h2.os.trans h.os,h2.tape.trans h.tape,h2.output.trans h.output,Nat.le_trans h.size h2.size,fun k hk hn=>(h2.block k (Nat.lt_of_lt_of_le hk h.size) hn).trans (h.block k hk hn)⟩
theorem cu_end {w w':World} {gb:Nat} {v:Value} {i z:Int} {t:TypeId} {G:List Nat} {bs:List Int} (hc:Chg w w' [gb]) (hC:C false w (.sl 1 (byR bs)) v G) (hZ:∀ b∈G,b<w.heap.size∧b≠gb) (hi:0≤i) (hb:∀ n∈bs,0≤n∧n<256) (B:Box w' gb [v,.int .i64 i,.int .i64 z] t):CuOk w' (gb,v):=
 ⟨⟨i,z,t,G,bs,B,hC.congr fun b hm=>hc.block b (hZ b hm).1 (by simpa using (hZ b hm).2),fun b hm=>⟨Nat.lt_of_lt_of_le (hZ b hm).1 hc.size,(hZ b hm).2⟩,hi,hb⟩,⟨.inl _,t,B⟩⟩
theorem and255 (u:Int):0≤bits .and .i64 u 255∧bits .and .i64 u 255<256:=by
 have h:bits .and .i64 u 255=((BitVec.ofInt 64 u&&&BitVec.ofInt 64 255).toNat:Int):=by
  have hlt:(BitVec.ofInt 64 u&&&BitVec.ofInt 64 255).toNat<2^63:=by
   rw [BitVec.toNat_and]
   exact Nat.lt_of_le_of_lt Nat.and_le_right (by decide)
  have hw:∀ m:Nat,m<2^63→IntKind.wrap .i64 (m:Int)=m:=fun m hm=>wrap_in ⟨by omega,by omega⟩
  exact hw _ hlt
 rw [h,BitVec.toNat_and]
 have:(BitVec.ofInt 64 u).toNat&&&(BitVec.ofInt 64 255).toNat≤255:=Nat.and_le_right
 omega
end Go.Q
namespace Go.Proofs.YtdhojcaoljhbiaaGreatDoor
open Go.RowKit Go.Q Go.D
set_option maxHeartbeats 1000000 in
theorem specl1New:FnN Tryz.prog 26:=by
 refine⟨⟨_,Tryz.func26,by kernel_rfl,by kernel_rfl⟩,fun w v F bs hG hC hb=>?_⟩
 obtain⟨a,len,cap,rfl,n1,n2,c1⟩:=hC.bytes
 clear hC
 go_enter Tryz.func26,Tryz.ntmps26
 go_wp2
 go_loopw [3,4] (fun h i wr=>∃ (k:Nat) (d:Int),k≤len∧i=.int .i64 k∧h=.int .i64 d∧wr=w) (fun _ i _=>len-(intOf i).toNat)
 case atStart=>exact⟨0,_,by omega,rfl,rfl,rfl⟩
 case round=>
  obtain⟨k,d,hk,rfl,rfl,rfl⟩:=hrel
  by_cases hlt:k<len
  · by_cases hlt':k<4000
    · obtain⟨b,off,x,rfl,_,hx,hc⟩:=c1 k hlt
      have hbx:=hb x (List.mem_of_getElem? hx)
      go_wp2
      go_roundw
      case rel=>exact⟨k+1,_,by omega,by go_num,rfl,trivial⟩
      case measure=>simp [intOf];omega
    go_wp2
    go_ret
    exact⟨_,0,d,_,rfl,Nat.le_refl _,thaw_new,heap_alloc_new _ _,by omega,(Ext.refl _).alloc _⟩
  go_wp2
  go_ret
  exact⟨_,0,d,_,rfl,Nat.le_refl _,thaw_new,heap_alloc_new _ _,by omega,(Ext.refl _).alloc _⟩
set_option maxHeartbeats 1000000 in
theorem specl1Byte:FnD Tryz.prog 91 [] (fun x:Int=>0≤x∧x<256) (fun x=>.a (.one (.v (.int .i64 x)))):=by
 refine⟨⟨_,Tryz.func91,by kernel_rfl,by kernel_rfl⟩,fun w g vs F hG hC hv hgF=>?_⟩
 obtain⟨rfl,rfl⟩:=hv
 obtain⟨gb,v⟩:=g
 obtain⟨⟨i,h,t,G,bs,hcell,hC,hZ,hi,hb⟩,hth⟩:=hC
 simp only at hcell hC hZ hth
 obtain⟨a,len,cap,rfl,n1,n2,c1⟩:=hC.bytes
 have B0:Box w gb [.slice a len cap,.int .i64 i,.int .i64 h] t:=hcell
 have e0:=B0.at 2 rfl
 have f0:=B0.thaw 2
 show Calls _ _ #[_] _ _
 go_enter Tryz.func91,Tryz.ntmps91
 go_wp2_with fail
 generalize wrap64 (wrap64 (h*6364136223846793005)+1442695040888963407)=z
 have B1:=B0.set 2 (.int .i64 z)
 have hz1:∀ b,b≠gb→(w.setCell ⟨gb,2,none⟩ (.int .i64 z)).heap[b]?=w.heap[b]?:=fun b hb=>heap_setCell_other w _ b _ hb
 have hsz:(w.setCell ⟨gb,2,none⟩ (.int .i64 z)).heap.size=w.heap.size:=by simp [World.setCell]
 have hch:=Chg.setCell w ⟨gb,2,none⟩ (.int .i64 z)
 generalize w.setCell ⟨gb,2,none⟩ (.int .i64 z)=w1 at B1 hz1 hsz hch ⊢
 simp only [List.set_cons_succ,List.set_cons_zero] at B1
 have e3:=Later.cell (B1.at 2 rfl)
 refine wp_region_later (by kernel_rfl) (by kernel_rfl) ?_
 repeat (go_big_quiet_step (fail))
 refine wpQuiet_nil ?_
 rintro _ ⟨y,rfl⟩
 have hX0:=and255 (bits BinOp.xor IntKind.i64 (z / 8589934592) (z / 35184372088832))
 generalize bits BinOp.and IntKind.i64 _ 255=X at hX0 ⊢
 have B2:=B1.mono y.2
 have x2:=y.2
 generalize y.1=w2 at B2 x2 ⊢
 clear e3 y
 have e1:=Later.cell (B2.at 0 rfl)
 have e2:=Later.cell (B2.at 1 rfl)
 go_wp2_with fail
 refine wp_region_later (by kernel_rfl) (by kernel_rfl) ?_
 repeat (go_big_quiet_step (fail))
 refine wpQuiet_nil ?_
 rintro _ ⟨y,rfl⟩
 have B3:=B2.mono y.2
 have x3:=x2.trans y.2
 generalize y.1=w3 at B3 x3 ⊢
 clear e1 e2 y
 by_cases hlt:i<len
 · obtain⟨k,rfl⟩:∃ k:Nat,i=(k:Int):=⟨i.toNat,by omega⟩
   obtain⟨b,off,x,rfl,hbG,hbx,hc⟩:=c1 k (by omega)
   have hxb:=hb x (List.mem_of_getElem? hbx)
   have hbz:=hZ b hbG
   have hc3:w3.cell? ⟨b,off+k,none⟩=some (.int .u8 x):=by
    unfold World.cell? at hc ⊢
    rw [x3.block (by rw [hsz];exact hbz.1),hz1 b hbz.2]
    exact hc
   have e1:=Later.cell (B3.at 0 rfl)
   have e2:=Later.cell (B3.at 1 rfl)
   have e4:=Later.cell hc3
   go_wp2_with fail
   refine wp_region_later (by kernel_rfl) (by kernel_rfl) ?_
   repeat (go_big_quiet_step (fail))
   refine wpQuiet_nil ?_
   rintro _ ⟨y,rfl⟩
   have hX1:=and255 (X+x)
   generalize bits BinOp.and IntKind.i64 _ 255=X1 at hX1 ⊢
   have B4:=B3.mono y.2
   have x4:=x3.trans y.2
   generalize y.1=w4 at B4 x4 ⊢
   clear e1 e2 e4 y
   have e1:=B4.at 1 rfl
   have f1:=B4.thaw 1
   go_wp2_with fail
   go_ret
   have B5:=B4.set 1 (.int .i64 ((k:Int)+1))
   have hch5:Chg w _ [gb]:=(hch.later x4).more (Chg.setCell w4 ⟨gb,1,none⟩ (.int .i64 ((k:Int)+1)))
   exact⟨X1,.int .i64 X1,[],rfl,hX1,by unfold Vr V0r C;exact⟨rfl,rfl,rfl⟩,List.nodup_nil,by simp,hch5,cu_end hch5 hC hZ (by omega) hb B5⟩
 go_wp2_with fail
 go_ret
 exact⟨X,.int .i64 X,[],rfl,hX0,by unfold Vr V0r C;exact⟨rfl,rfl,rfl⟩,List.nodup_nil,by simp,hch.later x3,cu_end (hch.later x3) hC hZ hi hb B3⟩
end Go.Proofs.YtdhojcaoljhbiaaGreatDoor
set_option maxHeartbeats 1000000
set_option maxRecDepth 100000
namespace Go.Q
open Go.RowKit Go.D
end Go.Q
namespace Go.Proofs.YtdhojcaoljhbiaaGreatDoor
open Go.RowKit Go.Q Go.D
theorem specl1Below (n:Int):FnD Tryz.prog 47 [.one (.v (.int .i64 n))] (fun x:Int=>(n≤0∧x=0)∨(0≤x∧x<n)) (fun x=>.a (.one (.v (.int .i64 x)))):=by
 refine FnD.walk Tryz.func47 U (by kernel_rfl) Tryz.ntmps47 U (fun g=>rfl) fun w0 g=>?_
 refine Af (Aj ?_);refine Aa (Ae (Af (Ab ?_)));refine Ac (R_le U (.no U) U (.tm U) (.const U)) U ?_;refine Aa (Al (.tm U) (fun h10=>?_) (fun h10=>?_))
 · try simp at h10
   refine Af (Aj ?_);refine Aa (Ap ?_);apply DRes.mk (x:=0) rfl
   case h=>
    refine Res.one U (.tmp U .nil) U ?_
    rfl
   case hp=>exact .inl ⟨by omega,rfl⟩
 try simp at h10
 refine Am (Ae (Af (Ab ?_)));refine Ac (R_le U (.no U) U (.tm U) (.const U)) U ?_;refine Aa (Al (.tm U) (fun h12=>?_) (fun h12=>?_))
 · try simp at h12
   refine Af (Ab ?_);refine Bi (Bj 1400 (specl1Byte) U U U (.tm U) U U .nil (fun _=>rfl) (fun _=>rfl)) ?_
   rintro _ ⟨z14,hz14,rfl⟩
   try dsimp only at hz14
   refine Ab ?_;refine Ac (R_rem U (.no U) U (.tm U) (.tm U) (fun _=>by omega)) U ?_;refine Ah ?_;refine Aa (Ap ?_);apply DRes.mk rfl
   case h=>
    refine Res.one U (.tmp U .nil) U ?_
    rfl
   case hp=>exact .inr ⟨Int.emod_nonneg _ (by omega),Int.emod_lt_of_pos _ (by omega)⟩
 try simp at h12
 refine Am (Af (Ab ?_));refine Bi (Bj 1800 (specl1Byte) U U U (.tm U) U U .nil (fun _=>rfl) (fun _=>rfl)) ?_
 rintro _ ⟨z18,hz18,rfl⟩
 try dsimp only at hz18
 refine Ah ?_;refine Aa (Ae (Ar (Av [0,1,4,5] [888888]) ?_));refine Ad (Ab ?_);refine Bi (Bj 2000 (specl1Byte) U U U (.tm U) U U .nil (fun _=>rfl) (fun _=>rfl)) ?_
 rintro _ ⟨z20,hz20,rfl⟩
 try dsimp only at hz20
 refine Ah ?_;refine Aa (Af (Ab ?_));refine Bi (Bj 2200 (specl1Byte) U U U (.tm U) U U .nil (fun _=>rfl) (fun _=>rfl)) ?_
 rintro _ ⟨z22,hz22,rfl⟩
 try dsimp only at hz22
 refine Ah ?_;refine Aa (Af (Ab ?_));refine Bi (Bj 2400 (specl1Byte) U U U (.tm U) U U .nil (fun _=>rfl) (fun _=>rfl)) ?_
 rintro _ ⟨z24,hz24,rfl⟩
 try dsimp only at hz24
 refine Ah ?_;refine Aa (Ae (Ar (Av [0,1,4,5,6,7,8] [888888]) ?_));refine Ad (Ab ?_);refine Ac (R_mul U (.no U) U (.tm U) (.const U) (fun _=>by omega)) U ?_;refine Ab ?_;refine Ac (R_mul U (.no U) U (.tm U) (.const U) (fun _=>by omega)) U ?_;refine Ac (C5 U (.no U) U (.tm U) (.tm U) (fun _=>by omega)) U ?_;refine Ab ?_;refine Ac (R_mul U (.no U) U (.tm U) (.const U) (fun _=>by omega)) U ?_;refine Ac (C5 U (.no U) U (.tm U) (.tm U) (fun _=>by omega)) U ?_;refine Ab ?_;refine Ac (C5 U (.no U) U (.tm U) (.tm U) (fun _=>by omega)) U ?_;refine Ab ?_;refine Ac (R_rem U (.no U) U (.tm U) (.tm U) (fun _=>by omega)) U ?_;refine Ah ?_;refine Aa (Ap ?_);apply DRes.mk rfl
 case h=>
  refine Res.one U (.tmp U .nil) U ?_
  rfl
 case hp=>exact .inr ⟨Int.emod_nonneg _ (by omega),Int.emod_lt_of_pos _ (by omega)⟩
theorem specl1Once (n:Int):FnD Tryz.prog 28 [.one (.v (.int .i64 n))] (fun _:Bool=>True) (fun x=>.a (.one (.v (.bool x)))):=by
 refine FnD.walk Tryz.func28 U (by kernel_rfl) Tryz.ntmps28 U (fun g=>rfl) fun w0 g=>?_
 refine Af (Aj ?_);refine Aa (Af (Ab ?_));refine Ab ?_;refine Bi (Bj 700 (specl1Below n) U U U (.tm U) U U (.cons (.tm U) U .nil) (fun _=>rfl) (fun _=>rfl)) ?_
 rintro _ ⟨z7,hz7,rfl⟩
 try dsimp only at hz7
 refine Ck ?_;refine Ah ?_;refine Aa (Ap ?_);apply DRes.mk rfl
 case h=>
  refine Res.one U (.tmp U .nil) U ?_
  rfl
 case hp=>exact trivial
theorem specl1PickInt (l:List Int) (hl:0<l.length):FnD Tryz.prog 77 [.one (.sl 1 (l.map cInt))] (fun x:Int=>x∈l) (fun x=>.a (.one (.v (.int .i64 x)))):=by
 refine FnD.walk Tryz.func77 U (by kernel_rfl) Tryz.ntmps77 U (fun g=>rfl) fun w0 g=>?_
 refine Af (Aj ?_);refine Aa (Af (Ab ?_));refine Ab ?_;refine Ab ?_;refine Bu (.t) Tryz.underlying34 ?_;refine Bi (Bj 900 (specl1Below _) U U U (.tm U) U U (.cons (.tm U) U .nil) (fun _=>rfl) (fun _=>rfl)) ?_
 rintro _ ⟨z9,hz9,rfl⟩
 try dsimp only at hz9
 refine Ac ((by exact Aw U (.no U) U (.tm U) (.tm U) Tryz.underlying34 ty3 (fun _=>⟨by simp at hz9;omega,A5 (List.getElem?_eq_getElem (i:=z9.toNat) (show z9.toNat<l.length by simp at hz9;omega))⟩))) U ?_;refine A3 ty3 ?_;refine Ah ?_;refine Aa (Ap ?_);apply DRes.mk rfl
 case h=>
  refine Res.one U (.tmp U .nil) U ?_
  rfl
 case hp=>exact List.getElem_mem _
end Go.Proofs.YtdhojcaoljhbiaaGreatDoor
set_option maxHeartbeats 1000000
set_option maxRecDepth 100000
namespace Go.Q
open Go.D
end Go.Q
namespace Go.Proofs.YtdhojcaoljhbiaaGreatDoor
open Go.RowKit Go.Q Go.D
end Go.Proofs.YtdhojcaoljhbiaaGreatDoor
set_option maxHeartbeats 1000000
set_option maxRecDepth 100000
namespace Go.Q
open Go.D
end Go.Q
namespace Go.Proofs.YtdhojcaoljhbiaaGreatDoor
open Go.RowKit Go.Q Go.D
end Go.Proofs.YtdhojcaoljhbiaaGreatDoor
namespace Go.Proofs.YtdhojcaoljhbiaaGreatDoor
open Go.RowKit Go.Q Go.D
end Go.Proofs.YtdhojcaoljhbiaaGreatDoor
set_option maxHeartbeats 1000000
set_option maxRecDepth 100000
namespace Go.Q
open Go.D
end Go.Q
namespace Go.Proofs.YtdhojcaoljhbiaaGreatDoor
open Go.RowKit Go.Q Go.D
end Go.Proofs.YtdhojcaoljhbiaaGreatDoor
set_option maxHeartbeats 1000000
set_option maxRecDepth 100000
namespace Go.Q
open Go.D
end Go.Q
namespace Go.Proofs.YtdhojcaoljhbiaaGreatDoor
open Go.RowKit Go.Q Go.D
end Go.Proofs.YtdhojcaoljhbiaaGreatDoor
set_option maxHeartbeats 1000000
set_option maxRecDepth 100000
namespace Go.Q
open Go.D
def gle (h g:TGraph):Prop:=h.Values=g.Values∧∀ e∈h.Edges,e∈g.Edges
theorem gle.refl (g:TGraph):gle g g:=⟨rfl,fun _ h=>h⟩
theorem gle.trans {a b c:TGraph} (h1:gle a b) (h2:gle b c):gle a c:=⟨h1.1.trans h2.1,fun e he=>h2.2 e (h1.2 e he)⟩
end Go.Q
set_option maxHeartbeats 1000000
set_option maxRecDepth 100000
namespace Go.Q
open Go.D
end Go.Q
namespace Go.Proofs.YtdhojcaoljhbiaaGreatDoor
open Go.RowKit Go.Q Go.D
end Go.Proofs.YtdhojcaoljhbiaaGreatDoor
set_option maxHeartbeats 1000000
set_option maxRecDepth 100000
namespace Go.Q
open Go.D
end Go.Q
set_option maxHeartbeats 1000000
set_option maxRecDepth 100000
namespace Go.Q
open Go.D
end Go.Q
set_option maxHeartbeats 1000000
set_option maxRecDepth 100000
namespace Go.Q
open Go.D
end Go.Q
namespace Go.Proofs.YtdhojcaoljhbiaaGreatDoor
open Go.RowKit Go.Q Go.D
end Go.Proofs.YtdhojcaoljhbiaaGreatDoor
set_option maxHeartbeats 1000000
set_option maxRecDepth 100000
namespace Go.Q
open Go.D
end Go.Q
namespace Go.Proofs.YtdhojcaoljhbiaaGreatDoor
open Go.RowKit Go.Q Go.D Go.Shelf
end Go.Proofs.YtdhojcaoljhbiaaGreatDoor
set_option maxHeartbeats 1000000
set_option maxRecDepth 100000
namespace Go.Q
open Go.RowKit Go.D
theorem FnD.mono {P:Program} {f:FuncId} {ins:List V0} {τ:Type} {p q:τ→Prop} {out:τ→V} (h:FnD P f ins p out) (hq:∀ x,p x→q x):FnD P f ins q out:=
 ⟨h.1,fun w g vs F a b c d=>(h.2 w g vs F a b c d).mono fun e w' ⟨x,v,G,h1,h2,h3⟩=>⟨x,v,G,h1,hq x h2,h3⟩⟩
end Go.Q
namespace Go.Proofs.YtdhojcaoljhbiaaGreatDoor
open Go.RowKit Go.Q Go.D
end Go.Proofs.YtdhojcaoljhbiaaGreatDoor
set_option maxHeartbeats 1000000
set_option maxRecDepth 100000
namespace Go.Q
open Go.RowKit Go.D
end Go.Q
namespace Go.Proofs.YtdhojcaoljhbiaaGreatDoor
open Go.RowKit Go.Q Go.D
theorem implEqualGraphs' (g h:TGraph):FnT Tryz.prog 42 [.agg (cGraph g),.agg (cGraph h)] (.a (.one (.v (.bool (decide (g=h)))))):=by
 refine Bb Tryz.func42 U (by kernel_rfl) Tryz.ntmps42 U fun hlen w0=>?_
 try simp [cEdge,cGraph,cHistory] at hlen
 refine Af (Ac (Bx U U U (.tm U) (ts:=_) (by rfl)) U ?_);refine Ac (Bx U U U (.tm U) (ts:=_) (by rfl)) U ?_;refine Aj ?_;refine Aa (Af (Bz Cu ?_));refine A3 Dm ?_;refine Bz Cu ?_;refine A3 Dm ?_;refine Br (slicesEqualInt g.Values h.Values) ?_;refine Ab ?_;refine AWl.fy Ca ?_;refine AWl.ly C6 ?_;refine AWl.fy Ca ?_;refine AWl.ly C6 ?_;refine Ac (R_callq U (by exact .yes1 U U U U) U (.cons (.tmp U (by exact id)) U (.cons (.tmp U (by exact id)) U .nil)) fun hq=>FnT.fr (slicesEqualEdge g.Edges h.Edges)) U ?_;refine C1 ?_;refine Ah ?_;refine Aa (Ap (By U U ?_))
 cases g;cases h;simp
end Go.Proofs.YtdhojcaoljhbiaaGreatDoor
