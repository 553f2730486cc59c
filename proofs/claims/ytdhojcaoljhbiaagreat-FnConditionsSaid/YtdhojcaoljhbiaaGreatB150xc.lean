import Derived.Test.YtdhojcaoljhbiaaGreatDraw5xc
import Derived.Test.YtdhojcaoljhbiaaGreatB98xc
import Derived.Test.YtdhojcaoljhbiaaGreatB149xc
import Derived.Test.YtdhojcaoljhbiaaGreatKnnxc
set_option linter.unusedVariables false
set_option linter.unusedSimpArgs false
set_option maxRecDepth 100000
set_option maxHeartbeats 1000000
open Go.Proofs.Tryz renaming prog->Z9,underlying40->ZA,underlying200->ZE,underlying43->ZI,func172->ZJ,ntmps172->ZK,func135->ZL,ntmps135->ZM,func173->ZN,ntmps173->ZO,underlying24->ZP,func136->ZQ,ntmps136->ZR,func73->ZS,ntmps73->ZT,func103->ZU,ntmps103->ZV,func104->ZW,ntmps104->ZX,func52->ZY,ntmps52->ZZ
open List renaming toArray->ZB,append_nil->ZF,mem_singleton->ZG,getElem?_eq_getElem->ZH
namespace Go.Q
open Go.RowKit Go.Proofs.YtdhojcaoljhbiaaGreat
section
variable {P:Program} {ops:Array Oper} {o:Oper} {σ:St} {τ:Type}
def N8 (σ:St):E→Option T
 | .t (.v x)=>some (.v x)
 | .vw id x=>match look σ.res id with|some _=>some x|none=>none
 | .rf id=>match look σ.res id with|some (.row k rows)=>some (.sl k rows)|_=>none
 | .pp id off=>match look σ.res id with|some (.cur g)=>some (.v (.pointer (some ⟨g.1,off,none⟩)))|_=>none
 | _=>none
theorem Vo {I:Ip} {w0:BB} {w:World} {a:Act} (hr:AU I w0 σ a w) {e:E} {t:T} {c:Value} (h:N8 σ e=some t) (hv:VE I w e c):∃ G,C false w t c G∧∀ b∈G,w0.own b∧DJ w b:=by
 match e,h with
 | .t (.v x),h=>
  cases h
  obtain⟨G,h1,_⟩:=hv
  have h1':=h1
  simp only [C] at h1'
  obtain⟨_,rfl,_⟩:=h1'
  exact⟨[],h1,by simp⟩
 | .vw id x,h=>
  rw [N8] at h
  split at h
  · rename_i r h0
    cases h
    obtain⟨G,h1,h2⟩:=hv
    exact⟨G,h1,fun b hb=>(hr.own id _ h0).2 b (h2 b hb)⟩
  cases h
 | .rf id,h=>
  rw [N8] at h
  split at h
  · rename_i k rows h0
    cases h
    have hc:c=I.hd id:=hv.1
    rw [hc];exact⟨_,C.read (show C true w (.sl k rows) _ _ from hr.res id _ h0),(hr.own id _ h0).2⟩
  cases h
 | .t (.sl _ _),h=>cases h
 | .t (.ad _),h=>cases h
 | .t (.fn _ _ _),h=>cases h
 | .pp id off,h=>
  rw [N8] at h
  split at h
  · rename_i g h0
    cases h
    have h1:=(hr.res id _ h0).2.1
    have h2:c=.pointer (some ⟨I.B id,off,none⟩):=hv
    rw [h1] at h2
    exact⟨[],by unfold C;exact⟨h2,rfl,rfl⟩,by simp⟩
  cases h
 | .pr _ _ _ _,h=>cases h
 | .sb _ _ _ _,h=>cases h
 | .tl _ _ _,h=>cases h
 | .pf _ _ _,h=>cases h
 | .no,h=>cases h
theorem LA {I:Ip} {w0:BB} {w:World} {a:Act} (hr:AU I w0 σ a w):∀ {l:List E} {ts:List T} {cs:List Value},Hu (N8 σ) l=some ts→VEs I w l cs→ts.length=l.length∧∃ G,Cs false w ts cs G∧∀ b∈G,w0.own b∧DJ w b
 | [],ts,cs,h,hv=>by cases h;exact⟨rfl,[],by unfold Cs;exact⟨hv,rfl⟩,fun _ hb=>by cases hb⟩
 | e::r,ts,cs,h,hv=>by
  obtain⟨c,cr,rfl,h1,h2⟩:=hv
  rw [Hu] at h
  split at h
  · rename_i t e1
    split at h
    · rename_i ts' e2
      cases h
      obtain⟨G1,g1,k1⟩:=Vo hr e1 h1
      obtain⟨hl,G2,g2,k2⟩:=LA hr e2 h2
      exact⟨by simp [hl],G1++G2,by unfold Cs;exact⟨c,cr,G1,G2,rfl,g1,g2,rfl⟩,fun b hb=>(List.mem_append.1 hb).elim (k1 b) (k2 b)⟩
    cases h
  cases h
def LZ (P:Program) (fn:Func) (out:V) (σ:St):Prop:=∀ I w0 a w,AU I w0 σ a w→∃ v F,(results fn a.tmps).run P w=.ok v w∧Vr false w out v F∧∀ b∈F,w0.own b∧DJ w b
theorem LZ.one {fn:Func} {r:ResultVar} {x:A} {ts:List T} {y:V0} (hl:fn.results=#[r]) (h:RVs P σ [r] [x]) (ha:Hu (N8 σ) (BK x)=some ts) (hy:Mf [x] ts=[y]):LZ P fn (.a y) σ:=by
 intro I w0 a w hr
 obtain⟨vs,h1,h2⟩:=EG (fn:=fn) (l:=[r]) hr (by rw [hl]) h
 obtain⟨cs,g1,g2⟩:=HM h2
 simp only [List.flatMap_cons,List.flatMap_nil,ZF] at g1 g2
 obtain⟨kl,G,k2,k4⟩:=LA hr ha g1
 have hV:=g2 false ts G k2 kl
 rw [hy] at hV
 obtain⟨v,vr,G1,G2,rfl,m1,⟨rfl,rfl⟩,m2⟩:=hV
 rw [ZF] at m2
 subst m2
 exact⟨v,_,h1,m1,k4⟩
theorem LZ.many {fn:Func} {l:List ResultVar} {xs:List A} {ts:List T} {ys:List V0} (hl:fn.results=l.toArray) (h:RVs P σ l xs) (ha:Hu (N8 σ) (xs.flatMap BK)=some ts) (hy:Mf xs ts=ys) (h2:(2≤ys.length)=True):LZ P fn (.tup ys) σ:=by
 intro I w0 a w hr
 obtain⟨vs,h1,h2'⟩:=EG (fn:=fn) hr hl h
 obtain⟨cs,g1,g2⟩:=HM h2'
 obtain⟨kl,G,k2,k4⟩:=LA hr ha g1
 have hV:=g2 false ts G k2 kl
 rw [hy] at hV
 have hlen:∀ (ys:List V0) (vs:List Value) (G:List Nat),V0s false w ys vs G→vs.length=ys.length:=by
  intro ys
  induction ys with
  | nil=>rintro vs G ⟨rfl,_⟩;rfl
  | cons y ys ih=>rintro vs G ⟨v,vr,G1,G2,rfl,_,m,_⟩;simp [ih vr G2 m]
 have hl2:=hlen ys vs G hV
 have h3:2≤vs.length:=by rw [hl2,h2];trivial
 match vs,h3,h1,hV with
 | v1::v2::vr,_,h1,hV=>exact⟨_,G,h1,⟨_,rfl,hV⟩,k4⟩
def W6 (w:World) (g:Nat×Value) (p:τ→Prop) (out:τ→V) (e:Ending) (w':World):Prop:=
 ∃ x v F,e=.returned v∧p x∧Vr false w' (out x) v F∧(∀ b∈F,w.heap.size≤b∧DJ w' b)∧Chg w w' [g.1]∧Tl w' g
def FrD (P:Program) (f:FuncId) (ins:List V0) (p:τ→Prop) (out:τ→V):Prop:=
 Ek P f∧∀ w g vs F,Good w [g.1]→Tl w g→V0s false w ins vs F→g.1∉F→Calls P f (ZB (.pointer (some ⟨g.1,0,none⟩)::vs)) w (W6 w g p out)
def Sj (P:Program) (fn:Func) (g:Nat×Value) (p:τ→Prop) (out:τ→V) (σ:St):Prop:=∃ x,p x∧look σ.res 888888=some (.cur g)∧LZ P fn (out x) ⟨σ.n,σ.slots,Iw σ.res 888888⟩
theorem Sj.mk {fn:Func} {g:Nat×Value} {p:τ→Prop} {out:τ→V} {σ:St} {x:τ} (hc:look σ.res 888888=some (.cur g)) (h:LZ P fn (out x) ⟨σ.n,σ.slots,Iw σ.res 888888⟩) (hp:p x):Sj P fn g p out σ:=⟨x,hp,hc,h⟩
theorem ERRes.mk {fn:Func} {p:τ→Prop} {out:τ→V} {σ:St} {x:τ} (h:LZ P fn (out x) σ) (hp:p x):∃ x,p x∧LZ P fn (out x) σ:=⟨x,hp,h⟩
def Zj (P:Program) (fn:Func) (g:Nat×Value) (p:τ→Prop) (out:τ→V):Exit→St→Prop
 | .normal,σ=>Sj P fn g p out σ
 | .ret,σ=>Sj P fn g p out σ
 | _,_=>False
def Yd (P:Program) (fn:Func) (p:τ→Prop) (out:τ→V):Exit→St→Prop
 | .normal,σ=>∃ x,p x∧LZ P fn (out x) σ
 | .ret,σ=>∃ x,p x∧LZ P fn (out x) σ
 | _,_=>False
theorem FrE.walk {n:Nat} {f:FuncId} {fn:Func} {c:Code} {ins:List V0} {p:τ→Prop} {out:τ→V} (hf:P.funcs[f]?=some fn) (hb:fn.body=some c) (hname:(fn.name == "runtime.NumGoroutine")=false) (hnt:fn.ntmps=n) (hn:Nat.ble ins.length n=true)
 (h:∀ w0,AW P w0 c (Yd P fn p out) (st0 n ins)):FrE P f ins (fun o=>∃ x,p x∧o=out x):=by
 subst hnt
 refine⟨⟨fn,hf,hname,by rw [hb];rfl⟩,fun w vs F hG hv=>?_⟩
 refine calls_of_wp hf hb (Code.wp_mono ?_ (h ⟨w,[],hG⟩ _ _ (Vj hG hv hn)))
 rintro e a' w' ⟨σ,h1,I,hI⟩
 have key:(∃ x,p x∧LZ P fn (out x) σ)→a'.defers=[]∧∃ v,(results fn a'.tmps).run P w'=.ok v w'∧∃ o,(∃ x,p x∧o=out x)∧Q8 w o (.returned v) w':=fun ⟨x,hp,h1⟩=>by
  obtain⟨v,F,g1,g2,g3⟩:=h1 I ⟨w,[],hG⟩ a' w' hI
  exact⟨hI.defers,v,g1,_,⟨x,hp,rfl⟩,v,F,rfl,g2,fun b hb=>(g3 b hb).1.resolve_right (by simp),hI.ext.toExt⟩
 cases e with
 | normal=>exact key h1
 | ret=>exact key h1
 | exit id=>exact h1.elim
 | goto l=>exact h1.elim
 | panic c=>exact h1.elim
 | outgrown=>exact h1.elim
def Ya (w:World) (out:V) (e:Ending) (w':World):Prop:=∃ v F,e=.returned v∧Vr false w' out v F∧(∀ b∈F,w.heap.size≤b∧DJ w' b)∧Ext w w'
def FrX (P:Program) (f:FuncId) (ins:List V0) (p:τ→Prop) (out:τ→V):Prop:=
 Ek P f∧∀ w vs F,Good w []→V0s false w ins vs F→Calls P f (ZB vs) w fun e w'=>∃ x,p x∧Ya w (out x) e w'
theorem FrX.fr {f:FuncId} {ins:List V0} {p:τ→Prop} {out:τ→V} (h:FrX P f ins p out):FrE P f ins (fun o=>∃ x,p x∧o=out x):=
 ⟨h.1,fun w vs F hg hv=>(h.2 w vs F hg hv).mono fun _ _ ⟨x,hx,v,G,h1,h2,h4,h5⟩=>⟨_,⟨x,hx,rfl⟩,v,G,h1,h2,fun b hb=>(h4 b hb).1,h5⟩⟩
theorem FrX.walk {n:Nat} {f:FuncId} {fn:Func} {c:Code} {ins:List V0} {p:τ→Prop} {out:τ→V} (hf:P.funcs[f]?=some fn) (hb:fn.body=some c) (hname:(fn.name == "runtime.NumGoroutine")=false) (hnt:fn.ntmps=n) (hn:Nat.ble ins.length n=true)
 (h:∀ w0,AW P w0 c (Yd P fn p out) (st0 n ins)):FrX P f ins p out:=by
 subst hnt
 refine⟨⟨fn,hf,hname,by rw [hb];rfl⟩,fun w vs F hG hv=>?_⟩
 refine calls_of_wp hf hb (Code.wp_mono ?_ (h ⟨w,[],hG⟩ _ _ (Vj hG hv hn)))
 rintro e a' w' ⟨σ,h1,I,hI⟩
 have key:(∃ x,p x∧LZ P fn (out x) σ)→a'.defers=[]∧∃ v,(results fn a'.tmps).run P w'=.ok v w'∧∃ x,p x∧Ya w (out x) (.returned v) w':=fun ⟨x,hp,h1⟩=>by
  obtain⟨v,F,g1,g2,g3⟩:=h1 I ⟨w,[],hG⟩ a' w' hI
  exact⟨hI.defers,v,g1,x,hp,v,F,rfl,g2,fun b hb=>⟨(g3 b hb).1.resolve_right (by simp),(g3 b hb).2⟩,hI.ext.toExt⟩
 cases e with
 | normal=>exact key h1
 | ret=>exact key h1
 | exit id=>exact h1.elim
 | goto l=>exact h1.elim
 | panic c=>exact h1.elim
 | outgrown=>exact h1.elim
theorem FrD.walk {n:Nat} {f:FuncId} {fn:Func} {c:Code} {ins:List V0} {p:τ→Prop} {out:τ→V} {σ':Nat×Value→St} (hf:P.funcs[f]?=some fn) (hb:fn.body=some c) (hname:(fn.name == "runtime.NumGoroutine")=false) (hnt:fn.ntmps=n) (hn:Nat.ble (ins.length+1) n=true)
 (hi:∀ g,IE 1 (ins.map fun x=>(false,x)) ⟨n,[(0,(true,.a (.one (.pp 888888 0))))],[(888888,.cur g)]⟩=some (σ' g)) (h:∀ w0 g,AW P w0 c (Zj P fn g p out) (σ' g)):FrD P f ins p out:=by
 subst hnt
 refine⟨⟨fn,hf,hname,by rw [hb];rfl⟩,fun w g vs F hG hC hv hgF=>?_⟩
 have hv':=hv.c (FF:=[g.1]) fun b hb hm=>hgF (by simp only [ZG] at hm;rwa [←hm])
 have hl:vs.length=ins.length:=by simpa using hv'.len
 have hn':ins.length+1≤fn.ntmps:=Nat.le_of_ble_eq_true hn
 have hglt:g.1<w.heap.size:=hC.1.lt
 let a0:Act:=⟨(ZB (.pointer (some ⟨g.1,0,none⟩)::vs))++Array.replicate (fn.ntmps-(ZB (Value.pointer (some ⟨g.1,0,none⟩)::vs)).size) undef,[]⟩
 let I0:Ip:=⟨fun b=>b<w.heap.size∧b≠g.1,fun i=>if i=888888 then [g.1] else [],fun _=>undef,fun i=>if i=888888 then g.1 else 0⟩
 have hget:∀ (j:Nat) v,(Value.pointer (some ⟨g.1,0,none⟩)::vs)[j]?=some v→a0.tmps.getD j undef=v:=fun j v hj=>by
  have hjl:=(List.getElem?_eq_some_iff.1 hj).1
  simp only [a0]
  rw [Array.getD_eq_getD_getElem?,Array.getElem?_append_left (by simpa using hjl)]
  have:(ZB (Value.pointer (some ⟨g.1,0,none⟩)::vs))[j]?=some v:=by simpa using hj
  rw [this];rfl
 have hr0:AU I0 ⟨w,[g.1],hG⟩ ⟨fn.ntmps,[(0,(true,.a (.one (.pp 888888 0))))],[(888888,.cur g)]⟩ a0 w:=by
  have key:∀ i r,look [(888888,R.cur g)] i=some r→i=888888∧r=.cur g:=fun i r hi=>by
   rw [AF] at hi
   split at hi
   · rename_i e;cases hi;exact⟨e.symm,rfl⟩
   cases hi
  refine⟨Chg.refl w [g.1],rfl,by simp [a0,hl];omega,fun i z hi=>?_,fun id r hi=>?_,fun b hb=>hb.1,fun id b hb=>?_,fun id r hi=>?_,fun i j hne b hb hb'=>?_⟩
  · rw [AF] at hi
    split at hi
    · rename_i e
      subst e;cases hi;exact hget 0 _ rfl
    cases hi
  · obtain⟨rfl,rfl⟩:=key id r hi
    exact⟨rfl,rfl,hC.1⟩
  · simp only [I0] at hb ⊢
    split at hb
    · simp only [ZG] at hb;subst hb;exact⟨hglt,fun h=>h.2 rfl⟩
    cases hb
  · obtain⟨rfl,rfl⟩:=key id r hi
    refine⟨by simp [I0],fun b hb=>?_⟩
    have:b=g.1:=by simpa [I0] using hb
    subst this
    exact⟨.inr (by simp),hC.2⟩
  simp only [I0] at hb hb'
  split at hb
  · split at hb'
    · omega
    cases hb'
  cases hb
 obtain⟨I1,r1⟩:=FZ (FF:=[g.1]) (fun _ _ _=>trivial) (hi g) hr0 (fun b h1 h2=>⟨h1,fun e=>h2 (by simp [e])⟩) hv' (by simp) (fun b hb=>by cases hb) fun j v hj=>hget (1+j) v (by rw [Nat.add_comm];simpa using hj)
 refine calls_of_wp hf hb (Code.wp_mono ?_ (h ⟨w,[g.1],hG⟩ g _ _ ⟨I1,r1⟩))
 rintro e a' w' ⟨σ1,h1,I,hI⟩
 have key:Sj P fn g p out σ1→a'.defers=[]∧∃ v,(results fn a'.tmps).run P w'=.ok v w'∧W6 w g p out (.returned v) w':=fun ⟨x,hp,hcur,h1⟩=>by
  obtain⟨hF,hB,hcu⟩:I.F 888888=[g.1]∧I.B 888888=g.1∧CuB I.Z w' g:=hI.res _ _ hcur
  have hsz:w.heap.size≤w'.heap.size:=hI.ext.size
  let W:World:={ w' with heap:=w'.heap.extract 0 w.heap.size }
  have hW:W.heap.size=w.heap.size:=by simp [W];omega
  have hWk:∀ k,k<w.heap.size→W.heap[k]?=w'.heap[k]?:=fun k hk=>OR _ _ _ hsz hk
  have hGW:Good W []:=hG.step (Nat.le_of_eq hW.symm) (fun k hk hn=>(hWk k hk).trans (hI.ext.block k hk hn)) fun b hb=>by cases hb
  have hI2:AU I ⟨W,[],hGW⟩ ⟨σ1.n,σ1.slots,Iw σ1.res 888888⟩ a' w':=by
   refine⟨⟨rfl,rfl,rfl,by rw [hW];exact hsz,fun k hk _=>?_⟩,hI.defers,hI.size,hI.slots,fun id r hr=>hI.res id r (DW _ _ _ _ hr).2,hI.old,hI.lt,fun id r hr=>?_,hI.apart⟩
   · rw [hW] at hk;exact (hWk k hk).symm
   obtain⟨e1,e2⟩:=DW _ _ _ _ hr
   refine⟨(hI.own id r e2).1,fun b hb=>⟨?_,((hI.own id r e2).2 b hb).2⟩⟩
   rcases ((hI.own id r e2).2 b hb).1 with h|h
   · left;show W.heap.size≤b;rw [hW];exact h
   exfalso
   have:b=g.1:=by simpa using h
   subst this;exact hI.apart id 888888 e1 _ hb (by rw [hF];simp)
  obtain⟨v,F,g1,g2,g3⟩:=h1 I ⟨W,[],hGW⟩ a' w' hI2
  refine⟨hI.defers,v,g1,x,v,F,rfl,hp,g2,fun b hb=>⟨?_,(g3 b hb).2⟩,hI.ext,?_,?_⟩
  · have:=(g3 b hb).1.resolve_right (by simp)
    rwa [show (BB.W ⟨W,[],hGW⟩).heap.size=w.heap.size from hW] at this
  · refine hcu.congr rfl fun b _ hz=>⟨⟨hI.old b hz,fun e=>?_⟩,rfl⟩
    subst e;exact (hI.lt 888888 _ (by rw [hF];simp)).2 hz
  exact ((hI.own 888888 _ hcur).2 g.1 (by rw [hF];simp)).2
 cases e with
 | normal=>exact key h1
 | ret=>exact key h1
 | exit id=>exact h1.elim
 | goto l=>exact h1.elim
 | panic c=>exact h1.elim
 | outgrown=>exact h1.elim
section
variable {I:Ip} {w:World} {n:Nat}
end
theorem Wy {f:FuncId} {l:List Operand} {tys:Array TypeId} {ins:List V0} {p:τ→Prop} {out:τ→V} (h:FrE P f ins (fun o=>∃ x,p x∧o=out x)) (ho:o.op=.call { callee:=.value (.func f),args:=l.toArray,argTypes:=tys }) (hg:o.guard=none) (hd:o.dst.all (fun d=>Nat.blt d σ.n)=true)
 (ha:L0 σ true l ins):OpE P ops o σ fun σ'=>∃ z,p z∧σ'=σ.put o.dst (true,inS (out z)):=fun w0 a w hr K Q hK=>
 XI h ho hg hd ha w0 a w hr K Q fun σ' a' w' ⟨_,⟨z,hz,e1⟩,e2⟩ hr'=>hK σ' a' w' ⟨z,hz,by rw [e2,e1]⟩ hr'
end
open Go.D
def NR:List (List UInt8):=[[97],[97,32,98,32,46],[97,32,42],[97,32,98,32,124,32,42],[97,32,97,45,32,46],[97,32,42,32,98,32,46],[97,32,98,32,42,32,46,32,99,32,46],[97,32,97,32,124,32,42],[97,32,98,32,46,32,42],[48,32,97,32,46,32,42],[97,32,49,32,46,32,98,32,46],[97,32,123,48,44,50,125],[97,32,98,32,124,32,123,49,44,51,125],[40,41],[33],[97,45,32,42,32,97,32,46],[97,32,98,45,32,46,32,42,32,99,32,124],[97,32,42,32,97,32,42,32,46],[97,32,48,32,124,32,42,32,98,32,46],[97,32,97,32,46,32,42],[97,32,98,32,46,32,98,32,97,32,46,32,124,32,42]]
theorem U2 {s:List UInt8} (h:s∈NR):s.length≤1073741824:=by
 have:∀ s∈NR,s.length≤100:=by decide
 have:=this s h
 omega
def UY (e:EW):Bool:=decide (0<e.Tokens.length)&&decide (e.Tokens.length≤30)
theorem Uq {e:EW}:UY e=true↔0<e.Tokens.length∧e.Tokens.length≤30:=by unfold UY;simp
theorem V4 {s:List UInt8} (h:s∈NR):0<(Jd s).1.Tokens.length∧(Jd s).1.Tokens.length≤30:=by
 have:NR.all (fun s=>UY (Jd s).1)=true:=by decide +kernel
 exact Uq.1 (List.all_eq_true.1 this s h)
theorem FnD.mono {P:Program} {f:FuncId} {ins:List V0} {τ:Type} {p q:τ→Prop} {out:τ→V} (h:FnD P f ins p out) (hq:∀ x,p x→q x):FnD P f ins q out:=
 ⟨h.1,fun w g vs F a b c d=>(h.2 w g vs F a b c d).mono fun e w' ⟨x,v,G,h1,h2,h3⟩=>⟨x,v,G,h1,hq x h2,h3⟩⟩
theorem S1 (l:List (List UInt8)) (hl:0<l.length):FnD Z9 172 [.one (.sl 1 (l.map Qu))] (fun x:List UInt8=>x∈l) (fun x=>.a (.one (.v (.string (bs x))))):=by
 refine FnD.walk ZJ U (by kernel_rfl) ZK U (fun g=>rfl) fun w0 g=>?_
 refine Af (An ?_);refine Aa (Af (Ab ?_));refine Ab ?_;refine Ab ?_;refine Bi (.t) ZE ?_;refine Bn (Bo 900 (BL _) U U U (.tm U) U U (.cons (.tm U) U .nil) (fun _=>rfl) (fun _=>rfl)) ?_
 rintro _ ⟨z9,hz9,rfl⟩
 try dsimp only at hz9
 refine Ac ((by exact Ak U (.no U) U (.tm U) (.tm U) ZE ty9 (fun _=>⟨by simp at hz9;omega,Ao (ZH (i:=z9.toNat) (show z9.toNat<l.length by simp at hz9;omega))⟩))) U ?_;refine Aj ty9 ?_;refine Ah ?_;refine Aa (Aq ?_);apply Ev.mk rfl
 case h=>
  refine Res.one U (.tmp U .nil) U ?_
  rfl
 case hp=>exact List.getElem_mem _
theorem QP:FnD Z9 135 [] (fun e:EW=>0<e.Tokens.length∧e.Tokens.length≤30) (fun e=>.a (.agg (BH e))):=by
 refine FnD.walk ZL U (by kernel_rfl) ZM U (fun g=>rfl) fun w0 g=>?_
 refine Af (A6 (Bd 2 U U U Dw U U U) U ?_);refine Aa (Af (Ab ?_))
 refine Bp (Ce (xs:=[.const (.string ⟨#[97]⟩),.const (.string ⟨#[97,32,98,32,46]⟩),.const (.string ⟨#[97,32,42]⟩),.const (.string ⟨#[97,32,98,32,124,32,42]⟩),.const (.string ⟨#[97,32,97,45,32,46]⟩),.const (.string ⟨#[97,32,42,32,98,32,46]⟩),.const (.string ⟨#[97,32,98,32,42,32,46,32,99,32,46]⟩),.const (.string ⟨#[97,32,97,32,124,32,42]⟩),.const (.string ⟨#[97,32,98,32,46,32,42]⟩),.const (.string ⟨#[48,32,97,32,46,32,42]⟩),.const (.string ⟨#[97,32,49,32,46,32,98,32,46]⟩),.const (.string ⟨#[97,32,123,48,44,50,125]⟩),.const (.string ⟨#[97,32,98,32,124,32,123,49,44,51,125]⟩),.const (.string ⟨#[40,41]⟩),.const (.string ⟨#[33]⟩),.const (.string ⟨#[97,45,32,42,32,97,32,46]⟩),.const (.string ⟨#[97,32,98,45,32,46,32,42,32,99,32,124]⟩),.const (.string ⟨#[97,32,42,32,97,32,42,32,46]⟩),.const (.string ⟨#[97,32,48,32,124,32,42,32,98,32,46]⟩),.const (.string ⟨#[97,32,97,32,46,32,42]⟩),.const (.string ⟨#[97,32,98,32,46,32,98,32,97,32,46,32,124,32,42]⟩)]) 7 U U U (.cons (.const U) U U (.cons (.const U) U U (.cons (.const U) U U (.cons (.const U) U U (.cons (.const U) U U (.cons (.const U) U U (.cons (.const U) U U (.cons (.const U) U U (.cons (.const U) U U (.cons (.const U) U U (.cons (.const U) U U (.cons (.const U) U U (.cons (.const U) U U (.cons (.const U) U U (.cons (.const U) U U (.cons (.const U) U U (.cons (.const U) U U (.cons (.const U) U U (.cons (.const U) U U (.cons (.const U) U U (.cons (.const U) U U .nil))))))))))))))))))))) ZE in9 U U U U) U ?_
 refine Bn (Bo 800 (S1 NR (by decide)) U U U (.tm U) U U (.cons (.tm U) U .nil) (fun _=>rfl) (fun _=>rfl)) ?_
 rintro _ ⟨z8,hz8,rfl⟩
 try dsimp only at hz8
 refine Cj (Dc 900 (OB z8 (U2 hz8)) U U U (.cons (.tm U) U .nil) U U) U ?_;refine Ac (Dd U (.no U) U U fun _=>rfl) U ?_;refine Ac (Bk U (.no U) U U (fun _=>rfl) U) U ?_;refine Ac (Bk U (.no U) U U (fun _=>rfl) U) U ?_;refine A6 (Bd 3 U U U Dw U U U) U ?_;refine A4 Ck ?_;refine Bv (Ay [0,2,3,11] [888888,2,7,900,3]) ?_;refine Ah ?_;refine Aa (Af (Bb Ck ?_));refine A4 Ck ?_;refine Aa (Aq ?_);apply Ev.mk (x:=(Jd z8).1) rfl
 case h=>
  refine Res.one U (.cell U U Ck U U .nil) U ?_
  rfl
 case hp=>exact V4 hz8
theorem N1 (k:Int):FnT Z9 173 [.one (.v (.int .i64 k))] (.a (.agg (BH ⟨[⟨3,k,0,0⟩]⟩))):=by
 refine A8 ZN U (by kernel_rfl) ZO U fun hlen w0=>?_
 try simp [AS,BH,AP,AG,AE] at hlen
 refine Af (A6 (Bd 2 U U U Dw U U U) U ?_);refine Aa (Af (Ab ?_));refine Ac (Bm (ps:=[(0,.const (.int .i64 (3))),(1,.tmp 3)]) U U U D1 U U Hr (.cons (.const U) U U Dp (.cons (.tm U) U U VK .nil)) U) U ?_;refine Bp (Ce (xs:=[.tmp 4]) 5 U U U (.cons (.tm U) U U .nil) ZP D1 U U U U) U ?_;refine Ac (Bm (ps:=[(0,.tmp 5)]) U U U Dw U U L3 (.cons (.tm U) U U Qj .nil) U) U ?_;refine A4 Ck ?_;refine Aa (Aq (Res.one U (.cell U U Ck U U .nil) U ?_))
 rfl
theorem Hd (n:Int) (b:Nat) (hb:b≤100) (hn:0≤n∧n≤3) (h:n≠0→FnD Z9 136 [.one (.v (.int .i64 (n-1)))] (fun e:EW=>0<e.Tokens.length∧e.Tokens.length≤b) (fun e=>.a (.agg (BH e)))):FnD Z9 136 [.one (.v (.int .i64 n))] (fun e:EW=>0<e.Tokens.length∧e.Tokens.length≤2*b+1) (fun e=>.a (.agg (BH e))):=by
 refine FnD.walk ZQ U (by kernel_rfl) ZR U (fun g=>rfl) fun w0 g=>?_
 refine Af (A6 (Bd 4 U U U Dw U U U) U ?_);refine Aa (Ae (Af (Ab ?_)));refine Bw ?_;refine Aa (Ai (.tm U) (fun h7=>?_) (fun h7=>?_))
 · try simp at h7
   refine Ae (Af (Ab ?_));refine Bn (Bo 900 (EF _) U U U (.tm U) U U (.cons (.const U) U .nil) (fun _=>rfl) (fun _=>rfl)) ?_
   rintro _ ⟨z9,hz9,rfl⟩
   try dsimp only at hz9
   refine Aa (Ai (.tm U) (fun h9=>?_) (fun h9=>?_))
   · try simp at h9
     refine Af (Ab ?_);refine Bp (Ce (xs:=[.const (.int .i64 (1)),.const (.int .i64 (2))]) 11 U U U (.cons (.const U) U U (.cons (.const U) U U .nil)) ZA in3 U U U U) U ?_;refine Bn (Bo 1200 (CL [1,2] (by decide)) U U U (.tm U) U U (.cons (.tm U) U .nil) (fun _=>rfl) (fun _=>rfl)) ?_
     rintro _ ⟨z12,hz12,rfl⟩
     try dsimp only at hz12
     refine Cj (Dc 1300 (HX z12) U U U (.cons (.tm U) U .nil) U U) U ?_;refine A4 Ck ?_;refine Aa (Aq ?_);apply Ev.mk (x:=⟨[Kw z12]⟩) rfl
     case h=>
      refine Res.one U (.cell U U Ck U U .nil) U ?_
      rfl
     case hp=>exact⟨by simp,by simp⟩
   try simp at h9
   refine Am (Af (Ab ?_));refine Bp (Ce (xs:=[.const (.int .i64 (0)),.const (.int .i64 (0)),.const (.int .i64 (2)),.const (.int .i64 (2)),.const (.int .i64 (1)),.const (.int .i64 (4)),.const (.int .i64 (3)),.const (.int .i64 (6)),.const (.int .i64 (7))]) 15 U U U (.cons (.const U) U U (.cons (.const U) U U (.cons (.const U) U U (.cons (.const U) U U (.cons (.const U) U U (.cons (.const U) U U (.cons (.const U) U U (.cons (.const U) U U (.cons (.const U) U U .nil))))))))) ZA in3 U U U U) U ?_;refine Bn (Bo 1600 (CL [0,0,2,2,1,4,3,6,7] (by decide)) U U U (.tm U) U U (.cons (.tm U) U .nil) (fun _=>rfl) (fun _=>rfl)) ?_
   rintro _ ⟨z16,hz16,rfl⟩
   try dsimp only at hz16
   refine Cj (Dc 1700 (N1 z16) U U U (.cons (.tm U) U .nil) U U) U ?_;refine A4 Ck ?_;refine Aa (Aq ?_);apply Ev.mk (x:=⟨[⟨3,z16,0,0⟩]⟩) rfl
   case h=>
    refine Res.one U (.cell U U Ck U U .nil) U ?_
    rfl
   case hp=>exact⟨by simp,by simp⟩
 try simp at h7
 refine Am (Ae (Af (Ab ?_)));refine Bn (Bo 1900 (BL _) U U U (.tm U) U U (.cons (.const U) U .nil) (fun _=>rfl) (fun _=>rfl)) ?_
 rintro _ ⟨z19,hz19,rfl⟩
 try dsimp only at hz19
 refine Aa (AW.block (Ae (Af (Bw ?_))));refine Ah ?_;refine Aa (Ai (.tm U) (fun h20=>?_) (fun h20=>?_))
 · try simp at h20
   refine Am (Ai (.tm U) (fun h20=>?_) (fun h20=>?_))
   · try simp at h20
     refine Af (Ab ?_);refine Ab ?_;refine C9 ?_;refine Bn (Bo 2600 (h (by assumption)) U U U (.tm U) U U (.cons (.tm U) U .nil) (fun _=>rfl) (fun _=>rfl)) ?_
     rintro _ ⟨z26,hz26,rfl⟩
     try dsimp only at hz26
     refine Ab ?_;refine Ab ?_;refine C9 ?_;refine Bn (Bo 3000 (h (by assumption)) U U U (.tm U) U U (.cons (.tm U) U .nil) (fun _=>rfl) (fun _=>rfl)) ?_
     rintro _ ⟨z30,hz30,rfl⟩
     try dsimp only at hz30
     refine Ac (Bm (ps:=[(0,.const (.int .i64 (4)))]) U U U D1 U U Hr (.cons (.const U) U U Dp .nil) U) U ?_;refine Cj (Dc 3200 (DP z26 z30 ⟨4,0,0,0⟩ (by omega)) U U U (.cons (.tm U) U (.cons (.tm U) U (.cons (.tm U) U .nil))) U U) U ?_;refine A4 Ck ?_;refine Aa (Aq ?_);apply Ev.mk (x:=⟨z26.Tokens++z30.Tokens++[⟨4,0,0,0⟩]⟩) rfl
     case h=>
      refine Res.one U (.cell U U Ck U U .nil) U ?_
      rfl
     case hp=>exact⟨by simp;try omega,by simp;omega⟩
   exfalso;(try simp at h20);first|contradiction|omega|simp_all|grind
 try simp at h20
 refine Ad (Bw ?_);refine Ah ?_;refine Aa (Ai (.tm U) (fun h20=>?_) (fun h20=>?_))
 · try simp at h20
   refine Af (Ab ?_);refine Ab ?_;refine C9 ?_;refine Bn (Bo 2600 (h (by assumption)) U U U (.tm U) U U (.cons (.tm U) U .nil) (fun _=>rfl) (fun _=>rfl)) ?_
   rintro _ ⟨z26,hz26,rfl⟩
   try dsimp only at hz26
   refine Ab ?_;refine Ab ?_;refine C9 ?_;refine Bn (Bo 3000 (h (by assumption)) U U U (.tm U) U U (.cons (.tm U) U .nil) (fun _=>rfl) (fun _=>rfl)) ?_
   rintro _ ⟨z30,hz30,rfl⟩
   try dsimp only at hz30
   refine Ac (Bm (ps:=[(0,.const (.int .i64 (4)))]) U U U D1 U U Hr (.cons (.const U) U U Dp .nil) U) U ?_;refine Cj (Dc 3200 (DP z26 z30 ⟨4,0,0,0⟩ (by omega)) U U U (.cons (.tm U) U (.cons (.tm U) U (.cons (.tm U) U .nil))) U U) U ?_;refine A4 Ck ?_;refine Aa (Aq ?_);apply Ev.mk (x:=⟨z26.Tokens++z30.Tokens++[⟨4,0,0,0⟩]⟩) rfl
   case h=>
    refine Res.one U (.cell U U Ck U U .nil) U ?_
    rfl
   case hp=>exact⟨by simp;try omega,by simp;omega⟩
 try simp at h20
 refine Ae (Af (Bw ?_));refine Ah ?_;refine Aa (Ai (.tm U) (fun h33=>?_) (fun h33=>?_))
 · try simp at h33
   refine Am (Ai (.tm U) (fun h33=>?_) (fun h33=>?_))
   · try simp at h33
     refine Ae (As (Ay [0,1,4,19,20,33] [888888,4]) ?_);refine Ad (Ab ?_);refine Ab ?_;refine C9 ?_;refine Bn (Bo 3900 (h (by assumption)) U U U (.tm U) U U (.cons (.tm U) U .nil) (fun _=>rfl) (fun _=>rfl)) ?_
     rintro _ ⟨z39,hz39,rfl⟩
     try dsimp only at hz39
     refine Ab ?_;refine Ab ?_;refine C9 ?_;refine Bn (Bo 4300 (h (by assumption)) U U U (.tm U) U U (.cons (.tm U) U .nil) (fun _=>rfl) (fun _=>rfl)) ?_
     rintro _ ⟨z43,hz43,rfl⟩
     try dsimp only at hz43
     refine Ac (Bm (ps:=[(0,.const (.int .i64 (5)))]) U U U D1 U U Hr (.cons (.const U) U U Dp .nil) U) U ?_;refine Cj (Dc 4500 (DP z39 z43 ⟨5,0,0,0⟩ (by omega)) U U U (.cons (.tm U) U (.cons (.tm U) U (.cons (.tm U) U .nil))) U U) U ?_;refine A4 Ck ?_;refine Aa (Aq ?_);apply Ev.mk (x:=⟨z39.Tokens++z43.Tokens++[⟨5,0,0,0⟩]⟩) rfl
     case h=>
      refine Res.one U (.cell U U Ck U U .nil) U ?_
      rfl
     case hp=>exact⟨by simp;try omega,by simp;omega⟩
   exfalso;(try simp at h33);first|contradiction|omega|simp_all|grind
 try simp at h33
 refine As (Ay [0,1,4,19,20,33] [888888,4]) ?_;refine Ad (Bw ?_);refine Ah ?_;refine Aa (Ai (.tm U) (fun h33=>?_) (fun h33=>?_))
 · try simp at h33
   refine Af (Ab ?_);refine Ab ?_;refine C9 ?_;refine Bn (Bo 3900 (h (by assumption)) U U U (.tm U) U U (.cons (.tm U) U .nil) (fun _=>rfl) (fun _=>rfl)) ?_
   rintro _ ⟨z39,hz39,rfl⟩
   try dsimp only at hz39
   refine Ab ?_;refine Ab ?_;refine C9 ?_;refine Bn (Bo 4300 (h (by assumption)) U U U (.tm U) U U (.cons (.tm U) U .nil) (fun _=>rfl) (fun _=>rfl)) ?_
   rintro _ ⟨z43,hz43,rfl⟩
   try dsimp only at hz43
   refine Ac (Bm (ps:=[(0,.const (.int .i64 (5)))]) U U U D1 U U Hr (.cons (.const U) U U Dp .nil) U) U ?_;refine Cj (Dc 4500 (DP z39 z43 ⟨5,0,0,0⟩ (by omega)) U U U (.cons (.tm U) U (.cons (.tm U) U (.cons (.tm U) U .nil))) U U) U ?_;refine A4 Ck ?_;refine Aa (Aq ?_);apply Ev.mk (x:=⟨z39.Tokens++z43.Tokens++[⟨5,0,0,0⟩]⟩) rfl
   case h=>
    refine Res.one U (.cell U U Ck U U .nil) U ?_
    rfl
   case hp=>exact⟨by simp;try omega,by simp;omega⟩
 try simp at h33
 refine Af (Bw ?_);refine Ah ?_;refine Aa (Ai (.tm U) (fun h46=>?_) (fun h46=>?_))
 · try simp at h46
   refine Af (Ab ?_);refine Ab ?_;refine C9 ?_;refine Bn (Bo 5100 (h (by assumption)) U U U (.tm U) U U (.cons (.tm U) U .nil) (fun _=>rfl) (fun _=>rfl)) ?_
   rintro _ ⟨z51,hz51,rfl⟩
   try dsimp only at hz51
   refine Ac (Bm (ps:=[]) U U U Dw U U L3 .nil U) U ?_;refine Cg (i:=52) 20001 4 0 U U U ?_;refine Ac (Bm (ps:=[(0,.const (.int .i64 (6)))]) U U U D1 U U Hr (.cons (.const U) U U Dp .nil) U) U ?_;refine Cj (Dc 5400 (DP z51 ⟨[]⟩ ⟨6,0,0,0⟩ (by simp;omega)) U U U (.cons (.tm U) U (.cons (.tm U) U (.cons (.tm U) U .nil))) U U) U ?_;refine A4 Ck ?_;refine Aa (Aq ?_);apply Ev.mk (x:=⟨z51.Tokens++[]++[⟨6,0,0,0⟩]⟩) rfl
   case h=>
    refine Res.one U (.cell U U Ck U U .nil) U ?_
    rfl
   case hp=>exact⟨by simp;try omega,by simp;omega⟩
 try simp at h46
 refine Am (Af (Ab ?_));refine Bn (Bo 5600 (BL _) U U U (.tm U) U U (.cons (.const U) U .nil) (fun _=>rfl) (fun _=>rfl)) ?_
 rintro _ ⟨z56,hz56,rfl⟩
 try dsimp only at hz56
 refine Ac (Dn U (.no U) U (.const U) (.tm U) (fun _=>by omega)) U ?_;refine Ah ?_;refine Aa (Ae (As (Ay [0,1,4,5,19,20,33] [888888,4]) ?_));refine Ad (Ab ?_);refine Ab ?_;refine C9 ?_;refine Bn (Bo 6100 (h (by assumption)) U U U (.tm U) U U (.cons (.tm U) U .nil) (fun _=>rfl) (fun _=>rfl)) ?_
 rintro _ ⟨z61,hz61,rfl⟩
 try dsimp only at hz61
 refine Ac (Bm (ps:=[]) U U U Dw U U L3 .nil U) U ?_;refine Cg (i:=62) 20002 4 0 U U U ?_;refine Ab ?_;refine Ab ?_;refine A9 ?_;refine Bn (Bo 6600 (BL _) U U U (.tm U) U U (.cons (.tm U) U .nil) (fun _=>rfl) (fun _=>rfl)) ?_
 rintro _ ⟨z66,hz66,rfl⟩
 try dsimp only at hz66
 refine Ab ?_;refine Ac (Bm (ps:=[(0,.const (.int .i64 (7))),(2,.tmp 66),(3,.tmp 67)]) U U U D1 U U Hr (.cons (.const U) U U Dp (.cons (.tm U) U U VJ (.cons (.tm U) U U VI .nil))) U) U ?_;refine Cj (Dc 6900 (DP z61 ⟨[]⟩ ⟨7,0,z66,1+z56⟩ (by simp;omega)) U U U (.cons (.tm U) U (.cons (.tm U) U (.cons (.tm U) U .nil))) U U) U ?_;refine A4 Ck ?_;refine Aa (Aq ?_);apply Ev.mk (x:=⟨z61.Tokens++[]++[⟨7,0,z66,1+z56⟩]⟩) rfl
 case h=>
  refine Res.one U (.cell U U Ck U U .nil) U ?_
  rfl
 case hp=>exact⟨by simp;try omega,by simp;omega⟩
theorem Sv (n:Int) (hn:0≤n∧n≤3):FnD Z9 136 [.one (.v (.int .i64 n))] (fun e:EW=>0<e.Tokens.length∧e.Tokens.length≤30) (fun e=>.a (.agg (BH e))):=by
 have h0:=Hd 0 0 (by omega) (by omega) fun h=>absurd rfl h
 have h1:=Hd 1 1 (by omega) (by omega) fun _=>h0
 have h2:=Hd 2 3 (by omega) (by omega) fun _=>h1
 have h3:=Hd 3 7 (by omega) (by omega) fun _=>h2
 have:n=0∨n=1∨n=2∨n=3:=by omega
 rcases this with rfl|rfl|rfl|rfl
 · exact h0.mono fun x hx=>⟨hx.1,by omega⟩
 · exact h1.mono fun x hx=>⟨hx.1,by omega⟩
 · exact h2.mono fun x hx=>⟨hx.1,by omega⟩
 exact h3.mono fun x hx=>⟨hx.1,by omega⟩
theorem Sw:FnD Z9 73 [] (fun e:EW=>0<e.Tokens.length∧e.Tokens.length≤30) (fun e=>.a (.agg (BH e))):=by
 refine FnD.walk ZS U (by kernel_rfl) ZT U (fun g=>rfl) fun w0 g=>?_
 refine Af (A6 (Bd 2 U U U Dw U U U) U ?_);refine Aa (Ae (Af (Ab ?_)));refine Bn (Bo 400 (EF _) U U U (.tm U) U U (.cons (.const U) U .nil) (fun _=>rfl) (fun _=>rfl)) ?_
 rintro _ ⟨z4,hz4,rfl⟩
 try dsimp only at hz4
 refine Aa (Ai (.tm U) (fun h4=>?_) (fun h4=>?_))
 · try simp at h4
   refine Af (Ab ?_);refine Bn (Bo 600 (QP) U U U (.tm U) U U .nil (fun _=>rfl) (fun _=>rfl)) ?_
   rintro _ ⟨z6,hz6,rfl⟩
   try dsimp only at hz6
   refine A4 Ck ?_;refine Aa (Aq ?_);apply Ev.mk (x:=z6) rfl
   case h=>
    refine Res.one U (.cell U U Ck U U .nil) U ?_
    rfl
   case hp=>exact hz6
 try simp at h4
 refine Am (Af (Ab ?_));refine Ab ?_;refine Bn (Bo 900 (BL _) U U U (.tm U) U U (.cons (.const U) U .nil) (fun _=>rfl) (fun _=>rfl)) ?_
 rintro _ ⟨z9,hz9,rfl⟩
 try dsimp only at hz9
 refine Ac (Dn U (.no U) U (.const U) (.tm U) (fun _=>by omega)) U ?_;refine Bn (Bo 1100 (Sv (1+z9) (by omega)) U U U (.tm U) U U (.cons (.tm U) U .nil) (fun _=>rfl) (fun _=>rfl)) ?_
 rintro _ ⟨z11,hz11,rfl⟩
 try dsimp only at hz11
 refine A4 Ck ?_;refine Aa (Aq ?_);apply Ev.mk (x:=z11) rfl
 case h=>
  refine Res.one U (.cell U U Ck U U .nil) U ?_
  rfl
 case hp=>exact hz11
def WY (z:AC×AA):V:=.tup [.agg (AG z.1),.agg (AE z.2)]
def Zc:Type:=AC×AA×Int
def X6 (z:Zc):V:=.tup [.agg (AG z.1),.agg (AE z.2.1),.one (.v (.int .i64 z.2.2))]
theorem Mo:FnD Z9 103 [] YB (fun a=>.a (.agg (AE a))):=by
 refine FnD.walk ZU U (by kernel_rfl) ZV U (fun g=>rfl) fun w0 g=>?_
 refine Af (A6 (Bd 2 U U U JZ U U U) U ?_);refine Aa (Ae (Af (Ab ?_)));refine Bn (Bo 800 (EF _) U U U (.tm U) U U (.cons (.const U) U .nil) (fun _=>rfl) (fun _=>rfl)) ?_
 rintro _ ⟨z8,hz8,rfl⟩
 try dsimp only at hz8
 refine Aa (Ai (.tm U) (fun h8=>?_) (fun h8=>?_))
 · try simp at h8
   refine Af (Ab ?_);refine Bn (Bo 1000 (Kf) U U U (.tm U) U U .nil (fun _=>rfl) (fun _=>rfl)) ?_
   rintro _ ⟨z10,hz10,rfl⟩
   try dsimp only at hz10
   refine A4 B6 ?_;refine Aa (Aq ?_);apply Ev.mk (x:=z10) rfl
   case h=>
    refine Res.one U (.cell U U B6 U U .nil) U ?_
    rfl
   case hp=>exact hz10
 try simp at h8
 refine Am (Af (Ab ?_));refine Bn (Bo 1300 (Sw) U U U (.tm U) U U .nil (fun _=>rfl) (fun _=>rfl)) ?_
 rintro _ ⟨z13,hz13,rfl⟩
 try dsimp only at hz13
 refine Bn (JX 1400 (JY z13) U U U (.cons (.tm U) U .nil) (fun _=>rfl) (fun _=>rfl)) ?_
 rintro _ ⟨z14,hz14,rfl⟩
 try dsimp only at hz14
 refine Ac (Dd U (.no U) U U fun _=>rfl) U ?_;refine Ac (Bk U (.no U) U U (fun _=>rfl) U) U ?_;refine Ac (Bk U (.no U) U U (fun _=>rfl) U) U ?_;refine A6 (Bd 3 U U U U4 U U U) U ?_;refine A4 KM ?_;refine Bv (Ay [0,2,3,8,16] [888888,2,1300,1400,1401,3]) ?_;refine Ah ?_;refine Aa (Af (Bb KM ?_));refine Bn (JX 1900 (M8 z14.1 hz14 12 (by decide)) U U U (.cons (.tm U) U (.cons (.const U) U .nil)) (fun _=>rfl) (fun _=>rfl)) ?_
 rintro _ ⟨z19,hz19,rfl⟩
 try dsimp only at hz19
 refine Ac (Dd U (.no U) U U fun _=>rfl) U ?_;refine Ac (Bk U (.no U) U U (fun _=>rfl) U) U ?_;refine Ac (Bk U (.no U) U U (fun _=>rfl) U) U ?_;refine A6 (Bd 5 U U U JZ U U U) U ?_;refine A4 B6 ?_;refine Bv (Ay [0,2,3,5,8,21] [888888,2,1300,1400,1401,3,1900,1901,5]) ?_;refine Ah ?_;refine Aa (Ae (Af (Ab ?_)));refine Cy ?_;refine Aa (Ai (.tm U) (fun h23=>?_) (fun h23=>?_))
 · try simp at h23
   refine Af (Ab ?_);refine Bn (Bo 2500 (Kf) U U U (.tm U) U U .nil (fun _=>rfl) (fun _=>rfl)) ?_
   rintro _ ⟨z25,hz25,rfl⟩
   try dsimp only at hz25
   refine A4 B6 ?_;refine Aa (Aq ?_);apply Ev.mk (x:=z25) rfl
   case h=>
    refine Res.one U (.cell U U B6 U U .nil) U ?_
    rfl
   case hp=>exact hz25
 try simp at h23
 refine Am (Af (Bb B6 ?_));refine A4 B6 ?_;refine Aa (Aq ?_);apply Ev.mk (x:=z19.1) rfl
 case h=>
  refine Res.one U (.cell U U B6 U U .nil) U ?_
  rfl
 case hp=>exact (hz19 (by simpa using h23))
theorem Sz:FnD Z9 104 [] (fun _:AC=>True) (fun g=>.a (.agg (AG g))):=by
 refine FnD.walk ZW U (by kernel_rfl) ZX U (fun g=>rfl) fun w0 g=>?_
 refine Af (A6 (Bd 2 U U U OF U U U) U ?_);refine Aa (Af (Ab ?_));refine Bn (Bo 500 (KR) U U U (.tm U) U U .nil (fun _=>rfl) (fun _=>rfl)) ?_
 rintro _ ⟨z5,hz5,rfl⟩
 try dsimp only at hz5
 refine A6 (Bd 3 U U U OF U U U) U ?_;refine A4 B7 ?_;refine Aa (Ae (Af (Ab ?_)));refine Bn (Bo 700 (BL _) U U U (.tm U) U U (.cons (.const U) U .nil) (fun _=>rfl) (fun _=>rfl)) ?_
 rintro _ ⟨z7,hz7,rfl⟩
 try dsimp only at hz7
 refine Aa (AW.block (Af (Bw ?_)));refine Ah ?_;refine Aa (Ai (.tm U) (fun h8=>?_) (fun h8=>?_))
 · try simp at h8
   obtain⟨v0,hv0⟩:∃ ξ,z5.Values[0]?=some ξ:=⟨_,ZH (by have:=hz5.1;omega)⟩
   refine As (Ay [0,2,3,4,5,6,7,8,9] [888888,2,500,501,3]) ?_;apply Cr (N:=5) (k:=2) (Hs:=[0,1,2]) (ms:=[[],[3],[3,4]]) (es:=[(0,3,1),(1,4,2)]) (σ1:=_) (SM:=⟨_,[(0,_),(2,_),(3,_),(4,_),(5,_),(6,_),(7,_),(8,_),(9,_),(10,_),(11,_),(12,_)],[(888888,_),(2,_),(500,_),(501,_),(3,_)]⟩)
   case hm=>kernel_rfl
   case hB=>kernel_rfl
   case hP=>kernel_rfl
   case hL=>kernel_rfl
   case hN=>rfl
   case hpre=>
    apply Ax (P:=Z9) 0 rfl ((Bj rfl (.no rfl) rfl (.tm rfl) Ci)) (by exact .pp) rfl rfl rfl;apply Ax (P:=Z9) 1 rfl ((by exact Be rfl (.no rfl) rfl (.tm rfl) rfl Cc rfl rfl)) (by exact BM.load (x:=.tmp 10) (.tm rfl) rfl Cc rfl rfl) rfl rfl rfl;apply Ax (P:=Z9) 2 rfl (Bh rfl (.no rfl) rfl (.tm rfl)) (by exact BM.slot (t:=0) rfl) rfl rfl rfl;exact EC.nil
   case hS=>exact Ba
   case hH=>
    refine AX.fq Ci ?_;refine AX.lq Cc ?_;refine AX.mv ?_
    trivial
   apply Dh.new0 (i:=3);rfl;rfl;rfl
   · intro w9 _;refine Ac (Cf (xs:=[.const (.int .i64 (-1)),.const (.int .i64 (3)),.const (.int .i64 (2))]) (rows:=[AQ (-1),AQ 3,AQ 2]) U U U (.cons (.const U) U U (.cons (.const U) U U (.cons (.const U) U U .nil))) ZA in3 U U (U)) U ?_;exact Al [0,2,3,4,5,6,7,8,9,10,11,12,13] [888888,2,500,501,3]
   intros;exact Ba
   apply Dh.drw0 (i:=4)
   case ha=>rfl
   case ho=>rfl
   case hE=>
    intro  hp
    obtain _:=hp
    exact Bo 1400 (CL [-1,3,2] (by decide)) rfl rfl rfl (.tm rfl) rfl rfl (.cons (.tm rfl) rfl .nil) (fun _=>rfl) (fun _=>rfl)
   case hb=>rfl
   case hL=>
    intro  z14 hp hy;exact CV.eq (Ay [0,2,3,4,5,6,7,8,9,10,11,12,14] [888888,2,500,501,3]) U
   case hS=>intros;exact Ba
   refine Dh.fin1 (k:=2) rfl ?_;intro z14 hp
   obtain⟨_,hz14⟩:=hp
   refine Ac (A3 U (.no U) U (.tm U) U (.const U) ZA ty3 (fun _=>⟨by omega,(Ao hv0)⟩)) U ?_;refine Cu (C0 U U U (.tm U) U (.tm U) U (Ao hv0) ty3 U U U U) ?_;refine Aa (Ae (As (Ay [0,2,3,7] [888888,2,500,501,3]) ?_));refine Ad (Bb B7 ?_);refine A4 B7 ?_;refine Aa (Aq ?_);apply Ev.mk (x:=⟨z5.Values.set 0 z14,z5.Edges⟩) rfl
   case h=>
    refine Res.one U (.cell U U B7 U U .nil) U ?_
    (refine congrArg (fun r=>[V0.agg [.sl 1 r,.sl 4 (z5.Edges.map AP)]]) ?_;rw [List.map_set];rfl)
   case hp=>exact trivial
 try simp at h8
 refine Af (Bw ?_);refine Ah ?_;refine Aa (Ai (.tm U) (fun h16=>?_) (fun h16=>?_))
 · try simp at h16
   refine As (Ay [0,2,3,7] [888888,2,500,501,3]) ?_;refine As (Ay [0,2,3,7] [888888,2,500,501,3]) ?_;apply Cr (N:=13) (k:=7) (Hs:=[0,1,2,5,7,9]) (ms:=[[],[3],[3,4],[3,4,6],[3,4,6,8],[3,4,6,8,10],[3,4,6,8,10,11],[3,4,6,8,10,11,12]]) (es:=[(0,3,1),(1,4,2),(2,6,3),(3,8,4),(4,10,5),(5,11,6),(6,12,7)]) (σ1:=_) (SM:=⟨_,[(0,_),(2,_),(3,_),(7,_),(18,_),(19,_),(20,_),(23,_),(25,_),(27,_)],[(888888,_),(2,_),(500,_),(501,_),(3,_)]⟩)
   case hm=>kernel_rfl
   case hB=>kernel_rfl
   case hP=>kernel_rfl
   case hL=>kernel_rfl
   case hN=>rfl
   case hpre=>
    apply Ax (P:=Z9) 0 rfl ((Bj rfl (.no rfl) rfl (.tm rfl) Ct)) (by exact .pp) rfl rfl rfl;apply Ax (P:=Z9) 1 rfl ((by exact Be rfl (.no rfl) rfl (.tm rfl) rfl D0 rfl rfl)) (by exact BM.load (x:=.tmp 18) (.tm rfl) rfl D0 rfl rfl) rfl rfl rfl;apply Ax (P:=Z9) 2 rfl (Bh rfl (.no rfl) rfl (.tm rfl)) (by exact BM.slot (t:=0) rfl) rfl rfl rfl;apply Ax (P:=Z9) 5 rfl (Bh rfl (.no rfl) rfl (.tm rfl)) (by exact BM.slot (t:=0) rfl) rfl rfl rfl;apply Ax (P:=Z9) 7 rfl (Bh rfl (.no rfl) rfl (.tm rfl)) (by exact BM.slot (t:=0) rfl) rfl rfl rfl;apply Ax (P:=Z9) 9 rfl (Bh rfl (.no rfl) rfl (.tm rfl)) (by exact BM.slot (t:=0) rfl) rfl rfl rfl;exact EC.nil
   case hS=>exact Ba
   case hH=>
    refine AX.fq Ct ?_;refine AX.lq D0 ?_;refine AX.mv ?_;refine AX.mv ?_;refine AX.mv ?_;refine AX.mv ?_
    trivial
   apply Dh.new0 (i:=3);rfl;rfl;rfl
   · intro w9 _;refine Ac (Cf (xs:=[.const (.int .i64 (0)),.const (.int .i64 (1)),.const (.int .i64 (99)),.const (.int .i64 (100))]) (rows:=[AQ 0,AQ 1,AQ 99,AQ 100]) U U U (.cons (.const U) U U (.cons (.const U) U U (.cons (.const U) U U (.cons (.const U) U U .nil)))) ZA in3 U U (U)) U ?_;exact Al [0,2,3,7,18,19,20,21,23,25,27] [888888,2,500,501,3]
   intros;exact Ba
   apply Dh.drw0 (i:=4)
   case ha=>rfl
   case ho=>rfl
   case hE=>
    intro  hp
    obtain _:=hp
    exact Bo 2200 (CL [0,1,99,100] (by decide)) rfl rfl rfl (.tm rfl) rfl rfl (.cons (.tm rfl) rfl .nil) (fun _=>rfl) (fun _=>rfl)
   case hb=>rfl
   case hL=>
    intro  z22 hp hy;exact CV.eq (Ay [0,2,3,7,18,19,20,22,23,25,27] [888888,2,500,501,3]) U
   case hS=>intros;exact Ba
   apply Dh.drw1 (i:=6)
   case ha=>rfl
   case ho=>rfl
   case hE=>
    intro z22 hp
    obtain⟨_,hz22⟩:=hp
    exact Bo 2400 (BL _) rfl rfl rfl (.tm rfl) rfl rfl (.cons (.const rfl) rfl .nil) (fun _=>rfl) (fun _=>rfl)
   case hb=>rfl
   case hL=>
    intro z22 z24 hp hy;exact CV.eq (Ay [0,2,3,7,18,19,20,22,23,24,25,27] [888888,2,500,501,3]) U
   case hS=>intros;exact Ba
   apply Dh.drw2 (i:=8)
   case ha=>rfl
   case ho=>rfl
   case hE=>
    intro z22 z24 hp
    obtain⟨⟨_,hz22⟩,hz24⟩:=hp
    exact Bo 2600 (BL _) rfl rfl rfl (.tm rfl) rfl rfl (.cons (.const rfl) rfl .nil) (fun _=>rfl) (fun _=>rfl)
   case hb=>rfl
   case hL=>
    intro z22 z24 z26 hp hy;exact CV.eq (Ay [0,2,3,7,18,19,20,22,23,24,25,26,27] [888888,2,500,501,3]) U
   case hS=>intros;exact Ba
   apply Dh.drw3 (i:=10)
   case ha=>rfl
   case ho=>rfl
   case hE=>
    intro z22 z24 z26 hp
    obtain⟨⟨⟨_,hz22⟩,hz24⟩,hz26⟩:=hp
    exact Bo 2800 (BL _) rfl rfl rfl (.tm rfl) rfl rfl (.cons (.const rfl) rfl .nil) (fun _=>rfl) (fun _=>rfl)
   case hb=>rfl
   case hL=>
    intro z22 z24 z26 z28 hp hy;exact CV.eq (Ay [0,2,3,7,18,19,20,22,23,24,25,26,27,28] [888888,2,500,501,3]) U
   case hS=>intros;exact Ba
   apply Dh.new4 (i:=11);rfl;rfl;rfl
   · intro w9 z22 z24 z26 z28 hp
     obtain⟨⟨⟨⟨_,hz22⟩,hz24⟩,hz26⟩,hz28⟩:=hp
     refine Ac (Bm (ps:=[(0,.tmp 22),(1,.tmp 24),(2,.tmp 26),(3,.tmp 28)]) U U U HF U U UW (.cons (.tm U) U U TG (.cons (.tm U) U U TF (.cons (.tm U) U U TE (.cons (.tm U) U U TD .nil)))) U) U ?_;exact Al [0,2,3,7,18,19,20,23,25,27,29] [888888,2,500,501,3]
   intros;exact Ba
   apply Dh.new4 (i:=12);rfl;rfl;rfl
   · intro w9 z22 z24 z26 z28 hp
     obtain⟨⟨⟨⟨_,hz22⟩,hz24⟩,hz26⟩,hz28⟩:=hp
     refine Ac (Cf (xs:=[.tmp 29]) (rows:=[AP ⟨z22,z24,z26,z28⟩]) U U U (.cons (.tm U) U U .nil) ZI HF U U (U)) U ?_;exact Al [0,2,3,7,18,19,20,23,25,27,30] [888888,2,500,501,3]
   intros;exact Ba
   refine Dh.fin4 (k:=7) rfl ?_;intro z22 z24 z26 z28 hp
   obtain⟨⟨⟨⟨_,hz22⟩,hz24⟩,hz26⟩,hz28⟩:=hp
   refine Bt (B8 U U U (.tm U) U (.tm U) (by exact .t) (by rfl) ZI HF U (by (simp [AH];omega)) (by (unfold maxLen;simp [AH];omega))) U ?_;refine Bv (Ay [0,2,3,7,31] [888888,2,500,501,3]) ?_;refine Bq Ct ?_;refine A4 D0 ?_;refine Aa (Af (Bb B7 ?_));refine A4 B7 ?_;refine Aa (Aq ?_);apply Ev.mk (x:=⟨z5.Values,z5.Edges++[⟨z22,z24,z26,z28⟩]⟩) rfl
   case h=>
    refine Res.one U (.cell U U B7 U U .nil) U ?_
    (refine congrArg (fun r=>[V0.agg [.sl 1 (z5.Values.map AQ),.sl 4 r]]) ?_;rw [List.map_append];rfl)
   case hp=>exact trivial
 try simp at h16
 refine Ae (As (Ay [0,2,3,7] [888888,2,500,501,3]) ?_);refine Ad (Bw ?_);refine Ah ?_;refine Aa (Ai (.tm U) (fun h33=>?_) (fun h33=>?_))
 · try simp at h33
   refine Ad (Bq Ci ?_);refine AWl.chgb (Oy U U U (.tm U) (.const U) U Cc U U U (by kernel_rfl) U) ?_;refine Cz (b:=3) 29001 1 0 U U U ?_;refine Aa (Af (Bb B7 ?_));refine A4 B7 ?_;refine Aa (Aq ?_);apply Ev.mk (x:=⟨[],z5.Edges⟩) rfl
   case h=>
    refine Res.one U (.cell U U B7 U U .nil) U ?_
    rfl
   case hp=>exact trivial
 try simp at h33
 refine Am (Af (Bb B7 ?_));refine A4 B7 ?_;refine Aa (Aq ?_);apply Ev.mk (x:=z5) rfl
 case h=>
  refine Res.one U (.cell U U B7 U U .nil) U ?_
  rfl
 case hp=>exact trivial
theorem PL:FnD Z9 52 [] (fun x:Int=> -1≤x∧x≤5) (fun x=>.a (.one (.v (.int .i64 x)))):=by
 refine FnD.walk ZY U (by kernel_rfl) ZZ U (fun g=>rfl) fun w0 g=>?_
 refine Af (An ?_);refine Aa (Af (Ab ?_));refine Ac (Cf (xs:=[.const (.int .i64 (0)),.const (.int .i64 (1)),.const (.int .i64 (2)),.const (.int .i64 (2)),.const (.int .i64 (3)),.const (.int .i64 (4)),.const (.int .i64 (5)),.const (.int .i64 (-1))]) (rows:=[AQ 0,AQ 1,AQ 2,AQ 2,AQ 3,AQ 4,AQ 5,AQ (-1)]) U U U (.cons (.const U) U U (.cons (.const U) U U (.cons (.const U) U U (.cons (.const U) U U (.cons (.const U) U U (.cons (.const U) U U (.cons (.const U) U U (.cons (.const U) U U .nil)))))))) ZA in3 U U (U)) U ?_;refine Bn (Bo 500 (CL [0,1,2,2,3,4,5,-1] (by decide)) U U U (.tm U) U U (.cons (.tm U) U .nil) (fun _=>rfl) (fun _=>rfl)) ?_
 rintro _ ⟨z5,hz5,rfl⟩
 try dsimp only at hz5
 refine Ah ?_;refine Aa (Aq ?_);apply Ev.mk (x:=z5) rfl
 case h=>
  refine Res.one U (.tmp U .nil) U ?_
  rfl
 case hp=>exact (by simp at hz5;omega)
end Go.Q
