import Derived.Test.YtdhojcaoljhbiaaGreatDoorAbs2xr
import Derived.Deep.LoopGhost
import Derived.WalkKit
set_option linter.unusedVariables false
set_option linter.unusedSimpArgs false
namespace Go.Q
open Go.RowKit
def lift (w0:Base) (Q:Exit→St→Prop):Exit→Act→World→Prop:=fun e a w=>∃ σ,Q e σ∧Rel w0 σ a w
def AW (P:Program) (w0:Base) (c:Code) (Q:Exit→St→Prop) (σ:St):Prop:=∀ a w,Rel w0 σ a w→c.wp P (lift w0 Q) a w
def AWl (P:Program) (w0:Base) (ops:Array Oper) (Q:Exit→St→Prop) (l:List Oper) (σ:St):Prop:=∀ a w,Rel w0 σ a w→wpList P ops (lift w0 Q) l a w
def Le (σ σ':St):Prop:=∀ w0 a w,Rel w0 σ a w→Rel w0 σ' a w
theorem Le.refl (σ:St):Le σ σ:=fun _ _ _ h=>h
inductive Get (σ:St) (q:Bool):Operand→A→Prop where
 | tmp {i:Nat} {p:Bool} {x:A} (h:look σ.slots i=some (p,.a x)) (hp:q=true→p=true):Get σ q (.tmp i) x
 | const {v:Value} (h:v.oneCell'=true):Get σ q (.const v) (.one (.t (.v v)))
 | func {f:FuncId}:Get σ q (.func f) (.one (.t (.fn (.func f) [] [])))
theorem Get.va {σ:St} {q:Bool} {x:Operand} {A0:A} (h:Get σ q x A0) {I:Ip} {w0:Base} {w:World} {a:Act} (hr:RelI I w0 σ a w) (hq:q=true):VA I w A0 (a.eval x):=by
 cases h with
 | tmp h hp=>
  have:=hr.slots _ _ h
  rw [hp hq] at this
  exact this
 | const h=>exact⟨[],by simp [C,Act.eval,h],by simp⟩
 | func=>exact⟨[],by simp only [C];exact⟨[],[],[],[],rfl,by simp [Cs],by simp [Cs],rfl⟩,by simp⟩
theorem Get.int {σ:St} {q:Bool} {x:Operand} {v:Value} (h:Get σ q x (.one (.t (.v v)))) {I:Ip} {w0:Base} {w:World} {a:Act} (hr:RelI I w0 σ a w) (hq:q=true):a.eval x=v:=by
 obtain⟨G,h1,_⟩:=h.va hr hq
 simp only [C] at h1
 exact h1.1
section
variable {P:Program} {w0:Base} {Q:Exit→St→Prop} {σ:St}
theorem Ar {c:Code} {σ':St} (hl:Le σ σ') (h:AW P w0 c Q σ'):AW P w0 c Q σ:=fun a w hr=>h a w (hl w0 a w hr)
def ThenQ (K:St→Prop) (Q:Exit→St→Prop):Exit→St→Prop
 | .normal,σ=>K σ
 | e,σ=>Q e σ
theorem Ae {x y:Code} (h:AW P w0 x (ThenQ (AW P w0 y Q) Q) σ):AW P w0 (.seq x y) Q σ:=fun a w hr=>by
 refine wp_seq (wp_mono (h a w hr) ?_)
 rintro e a' w' ⟨σ',h1,h2⟩
 cases e with
 | normal=>exact h1 a' w' h2
 | exit id=>exact⟨σ',h1,h2⟩
 | goto l=>exact⟨σ',h1,h2⟩
 | ret=>exact⟨σ',h1,h2⟩
 | panic c=>exact⟨σ',h1,h2⟩
 | outgrown=>exact⟨σ',h1,h2⟩
def BlockQ (id:Nat) (Q:Exit→St→Prop):Exit→St→Prop
 | .exit i,σ=>bif Nat.beq i id then Q .normal σ else Q (.exit i) σ
 | e,σ=>Q e σ
theorem AW.block {id:Nat} {c:Code} (h:AW P w0 c (BlockQ id Q) σ):AW P w0 (.block id c) Q σ:=fun a w hr=>by
 refine wp_block (wp_mono (h a w hr) ?_)
 rintro e a' w' ⟨σ',h1,h2⟩
 cases e with
 | normal=>exact⟨σ',h1,h2⟩
 | exit i=>
  simp only [BlockQ] at h1
  simp only [Exit.inBlock]
  split
  · rename_i e;subst e;simp only [Nat.beq_refl,cond_true] at h1;exact⟨σ',h1,h2⟩
  rename_i e
  have eb:Nat.beq i id=false:=by
   cases hb:Nat.beq i id with
   | false=>rfl
   | true=>exact absurd (Nat.eq_of_beq_eq_true hb) e
  simp only [eb,cond_false] at h1;exact⟨σ',h1,h2⟩
 | goto l=>exact⟨σ',h1,h2⟩
 | ret=>exact⟨σ',h1,h2⟩
 | panic c=>exact⟨σ',h1,h2⟩
 | outgrown=>exact⟨σ',h1,h2⟩
theorem Am (h:Q .normal σ):AW P w0 .skip Q σ:=fun _ _ hr=>wp_skip ⟨σ,h,hr⟩
theorem Ap (h:Q .ret σ):AW P w0 .ret Q σ:=fun _ _ hr=>wp_ret ⟨σ,h,hr⟩
theorem Bt {id:Nat} (h:Q (.exit id) σ):AW P w0 (.exit id) Q σ:=fun _ _ hr=>wp_exit ⟨σ,h,hr⟩
theorem Al {c:Operand} {x y:Code} {b:Bool} (hc:Get σ true c (.one (.t (.v (.bool b))))) (ht:b=true→AW P w0 x Q σ) (hf:b=false→AW P w0 y Q σ):AW P w0 (.cond c x y) Q σ:=fun a w hr=>by
 obtain⟨I,hI⟩:=hr
 exact wp_cond_split (hc.int hI rfl) (fun e=>ht e a w ⟨I,hI⟩) (fun e=>hf e a w ⟨I,hI⟩)
def Round {β:Type} (Inv:β→Prop) (J:β→St) (m:β→Nat) (x:β) (Q:Exit→St→Prop):Exit→St→Prop:=ThenQ (fun σ=>∃ y,Inv y∧m y<m x∧Le σ (J y)) Q
theorem C8 {β:Type} (Inv:β→Prop) (J:β→St) (m:β→Nat) (x0:β) {c:Code} (h0:Inv x0) (hs:Le σ (J x0)) (round:∀ x,Inv x→AW P w0 c (Round Inv J m x Q) (J x)):AW P w0 (.loop c) Q σ:=fun a w hr=>by
 refine wp_loop_ghost (fun n a w=>∃ x,Inv x∧m x=n∧Rel w0 (J x) a w) (m x0) ⟨x0,h0,rfl,hs w0 a w hr⟩ ?_
 rintro n a w ⟨x,hx,rfl,hr⟩
 refine wp_mono (round x hx a w hr) ?_
 rintro e a' w' ⟨σ',h1,h2⟩
 cases e with
 | normal=>
  obtain⟨y,hy,hm,hl⟩:=h1
  exact⟨m y,hm,y,hy,rfl,hl w0 a' w' h2⟩
 | exit id=>exact⟨σ',h1,h2⟩
 | goto l=>exact⟨σ',h1,h2⟩
 | ret=>exact⟨σ',h1,h2⟩
 | panic c=>exact⟨σ',h1,h2⟩
 | outgrown=>exact⟨σ',h1,h2⟩
theorem Round.next {β:Type} {Inv:β→Prop} {J:β→St} {m:β→Nat} {x:β} (y:β) (h1:Inv y) (h2:m y<m x) (h3:Le σ (J y)):Round Inv J m x Q .normal σ:=⟨y,h1,h2,h3⟩
theorem Ad {id:Nat} {l:List Oper} (h:AWl P w0 l.toArray Q l σ):AW P w0 (.region id l.toArray false) Q σ:=fun a w hr=>wp_region_lit (h a w hr)
theorem Aa {ops:Array Oper} (h:Q .normal σ):AWl P w0 ops Q [] σ:=fun _ _ hr=>wpList_nil ⟨σ,h,hr⟩
def Op1 (P:Program) (ops:Array Oper) (o:Oper) (σ σ':St):Prop:=∀ w0 a w,Rel w0 σ a w→∀ (K:Act→World→Prop) (Q:Exit→Act→World→Prop),(∀ a' w',Rel w0 σ' a' w'→K a' w')→
 if Region.wanted o (yielded ops a.tmps) then o.wp P a w K Q else K (a.put o.dst undef) w
theorem AWl.op {ops:Array Oper} {o:Oper} {l:List Oper} {σ':St} (ho:Op1 P ops o σ σ') (h:AWl P w0 ops Q l σ'):AWl P w0 ops Q (o::l) σ:=fun a w hr=>
 wpList_step fun K hK=>ho w0 a w hr K _ fun a' w' hr'=>hK a' w' (h a' w' hr')
end
inductive Grd (ops:Array Oper) (o:Oper) (σ:St):Bool→Prop where
 | no (hg:o.guard=none):Grd ops o σ true
 | yes {j d:Nat} {p b:Bool} (hg:o.guard=some (j,true)) (hd:(ops[j]?).bind (·.dst)=some d) (h:look σ.slots d=some (p,.a (.one (.t (.v (.bool b)))))) (hn:Nat.blt d σ.n=true):Grd ops o σ (p&&b)
 | not {j d:Nat} {p b:Bool} (hg:o.guard=some (j,false)) (hd:(ops[j]?).bind (·.dst)=some d) (h:look σ.slots d=some (p,.a (.one (.t (.v (.bool b)))))) (hn:Nat.blt d σ.n=true):Grd ops o σ (p&&!b)
 | yes1 {j d:Nat} {b:Bool} (hg:o.guard=some (j,true)) (hd:(ops[j]?).bind (·.dst)=some d) (h:look σ.slots d=some (true,.a (.one (.t (.v (.bool b)))))) (hn:Nat.blt d σ.n=true):Grd ops o σ b
 | not1 {j d:Nat} {b:Bool} (hg:o.guard=some (j,false)) (hd:(ops[j]?).bind (·.dst)=some d) (h:look σ.slots d=some (true,.a (.one (.t (.v (.bool b)))))) (hn:Nat.blt d σ.n=true):Grd ops o σ (!b)
theorem yield_of {ops:Array Oper} {σ:St} {I:Ip} {w0:Base} {w:World} {a:Act} (hr:RelI I w0 σ a w) {j d:Nat} {p b:Bool} (hd:(ops[j]?).bind (·.dst)=some d) (h:look σ.slots d=some (p,.a (.one (.t (.v (.bool b)))))) (hn:Nat.blt d σ.n=true) :
 yielded ops a.tmps j=if p=true then some b else none:=by
 have hdn:d<a.tmps.size:=by rw [hr.size];exact Nat.le_of_ble_eq_true hn
 have hv:=hr.slots d _ h
 unfold yielded
 rw [hd]
 simp only [Option.bind_some,Array.getElem?_eq_getElem hdn]
 rw [Array.getD_eq_getD_getElem?,Array.getElem?_eq_getElem hdn,Option.getD_some] at hv
 cases p with
 | false=>
  have hv':a.tmps[d]=undef:=hv
  rw [hv'];rfl
 | true=>
  obtain⟨G,h1,_⟩:VA I w (.one (.t (.v (.bool b)))) a.tmps[d]:=hv
  simp only [C] at h1
  rw [h1.1];rfl
theorem Grd.wanted {ops:Array Oper} {o:Oper} {σ:St} {q:Bool} (h:Grd ops o σ q) {I:Ip} {w0:Base} {w:World} {a:Act} (hr:RelI I w0 σ a w):Region.wanted o (yielded ops a.tmps)=q:=by
 cases h with
 | no hg=>simp [Region.wanted,hg]
 | yes hg hd h hn=>
  rename_i p b
  simp only [Region.wanted,hg]
  rw [yield_of hr hd h hn]
  cases p<;>cases b<;>rfl
 | not hg hd h hn=>
  rename_i p b
  simp only [Region.wanted,hg]
  rw [yield_of hr hd h hn]
  cases p<;>cases b<;>rfl
 | yes1 hg hd h hn=>
  simp only [Region.wanted,hg]
  rw [yield_of hr hd h hn]
  cases q<;>rfl
 | not1 hg hd h hn=>
  rename_i b
  simp only [Region.wanted,hg]
  rw [yield_of hr hd h hn]
  cases b<;>rfl
theorem Op1.val {P:Program} {ops:Array Oper} {o:Oper} {σ:St} {q:Bool} {x:S} (hg:Grd ops o σ q) (hd:o.dst.all (fun d=>Nat.blt d σ.n)=true)
 (h:∀ I w0 a w,RelI I w0 σ a w→q=true→∃ v,(execOp a.eval o).run P w=.ok (.value v) w∧VS I w (true,x) v):Op1 P ops o σ (σ.put o.dst (q,x)):=by
 rintro w0 a w ⟨I,hI⟩ K Q hK
 rw [hg.wanted hI]
 cases q with
 | true=>
  simp only [if_true]
  obtain⟨v,h1,h2⟩:=h I w0 a w hI rfl
  unfold Oper.wp
  rw [h1]
  exact hK _ _ ⟨I,hI.put hd h2⟩
 | false=>exact hK _ _ ⟨I,hI.put hd rfl⟩
inductive V0 where
 | one (t:T)
 | agg (l:List T)
inductive V where
 | a (x:V0)
 | tup (l:List V0)
def V0r (o:Bool) (w:World):V0→Value→List Nat→Prop
 | .one t,v,F=>C o w t v F
 | .agg l,v,F=>∃ cs,v=.agg (List.toArray cs)∧Cs o w l cs F
def V0s (o:Bool) (w:World):List V0→List Value→List Nat→Prop
 | [],vs,F=>vs=[]∧F=[]
 | x::r,vs,F=>∃ v vr G1 G2,vs=v::vr∧V0r o w x v G1∧V0s o w r vr G2∧F=G1++G2
def Vr (o:Bool) (w:World):V→Value→List Nat→Prop
 | .a x,v,F=>V0r o w x v F
 | .tup l,v,F=>∃ vs,v=.tuple (List.toArray vs)∧V0s o w l vs F
def FnPost (w:World) (out:V) (e:Ending) (w':World):Prop:=∃ v F,e=.returned v∧Vr true w' out v F∧F.Nodup∧(∀ b∈F,w.heap.size≤b∧Thaw w' b)∧Ext w w'
def Callee (P:Program) (f:FuncId):Prop:=∃ fn,P.funcs[f]?=some fn∧(fn.name == "runtime.NumGoroutine")=false∧fn.body.isNone=false
def FnT (P:Program) (f:FuncId) (ins:List V0) (out:V):Prop:=Callee P f∧∀ w vs F,Good w []→V0s false w ins vs F→Calls P f (List.toArray vs) w (FnPost w out)
def FrPost (w:World) (out:V) (e:Ending) (w':World):Prop:=∃ v F,e=.returned v∧Vr false w' out v F∧(∀ b∈F,w.heap.size≤b)∧Ext w w'
def FrT (P:Program) (f:FuncId) (ins:List V0) (out:V):Prop:=Callee P f∧∀ w vs F,Good w []→V0s false w ins vs F→Calls P f (List.toArray vs) w (FrPost w out)
theorem V0r.read {w:World} {x:V0} {v:Value} {F:List Nat} (h:V0r true w x v F):V0r false w x v F:=by
 cases x with
 | one t=>exact C.read h
 | agg l=>obtain⟨cs,h1,h2⟩:=h;exact⟨cs,h1,h2.read⟩
theorem V0s.read {w:World}:∀ {l:List V0} {vs:List Value} {F:List Nat},V0s true w l vs F→V0s false w l vs F
 | [],_,_,h=>h
 | _::_,_,_,⟨v,vr,G1,G2,h1,h2,h3,h4⟩=>⟨v,vr,G1,G2,h1,h2.read,h3.read,h4⟩
theorem Vr.read {w:World} {x:V} {v:Value} {F:List Nat} (h:Vr true w x v F):Vr false w x v F:=by
 cases x with
 | a x=>exact V0r.read h
 | tup l=>obtain⟨vs,h1,h2⟩:=h;exact⟨vs,h1,h2.read⟩
theorem FnT.fr {P:Program} {f:FuncId} {ins:List V0} {out:V} (h:FnT P f ins out):FrT P f ins out:=⟨h.1,fun w vs F hg hv=>(h.2 w vs F hg hv).mono fun _ _ ⟨v,F,h1,h2,_,h4,h3⟩=>⟨v,F,h1,h2.read,fun b hb=>(h4 b hb).1,h3⟩⟩
def Res (P:Program) (fn:Func) (o:Bool) (out:V) (σ:St):Prop:=∀ I w0 a w,RelI I w0 σ a w→∃ v F,(results fn a.tmps).run P w=.ok v w∧Vr o w out v F∧(∀ b∈F,w0.own b)∧(o=true→F.Nodup∧∀ b∈F,Thaw w b)
def RetQ (P:Program) (fn:Func) (o:Bool) (out:V):Exit→St→Prop
 | .normal,σ=>Res P fn o out σ
 | .ret,σ=>Res P fn o out σ
 | _,_=>False
def inA:V0→A
 | .one t=>.one (.t t)
 | .agg l=>.agg (l.map .t)
def inSlots:Nat→List V0→List (Nat×(Bool×S))
 | _,[]=>[]
 | i,x::r=>(i,(true,.a (inA x)))::inSlots (i+1) r
def st0 (n:Nat) (ins:List V0):St:=⟨n,inSlots 0 ins,[]⟩
def ip0 (w:World):Ip:=⟨fun b=>b<w.heap.size,fun _=>[],fun _=>undef,fun _=>0⟩
theorem VEs_in {w:World}:∀ {l:List T} {cs:List Value} {F:List Nat},Cs false w l cs F→VEs (ip0 w) w (l.map .t) cs
 | [],cs,F,h=>by simp only [Cs] at h;exact h.1
 | t::r,cs,F,h=>by
  simp only [Cs] at h
  obtain⟨c,cr,G1,G2,h1,h2,h3,_⟩:=h
  exact⟨c,cr,h1,⟨G1,h2,fun b hb=>h2.lt b hb⟩,VEs_in h3⟩
theorem VA_in {w:World} {x:V0} {v:Value} {F:List Nat} (h:V0r false w x v F):VA (ip0 w) w (inA x) v:=by
 cases x with
 | one t=>exact⟨F,h,fun b hb=>C.lt h b hb⟩
 | agg l=>obtain⟨cs,h1,h2⟩:=h;exact⟨cs,h1,VEs_in h2⟩
theorem in_slots {w:World}:∀ {ins:List V0} {vs:List Value} {F:List Nat} (k:Nat),V0s false w ins vs F→(vs.length=ins.length)∧∀ i x,look (inSlots k ins) i=some x→∃ v,vs[i-k]?=some v∧k≤i∧VS (ip0 w) w x v
 | [],vs,F,k,h=>by obtain⟨rfl,_⟩:=h;exact⟨rfl,fun i x hi=>by cases hi⟩
 | y::r,vs,F,k,h=>by
  obtain⟨v,vr,G1,G2,rfl,h2,h3,_⟩:=h
  obtain⟨g1,g2⟩:=in_slots (k+1) h3
  refine⟨by simp [g1],fun i x hi=>?_⟩
  rw [inSlots,look_cons] at hi
  by_cases e:k=i
  · subst e
    rw [if_pos rfl] at hi
    cases hi
    exact⟨v,by simp,Nat.le_refl _,VA_in h2⟩
  rw [if_neg e] at hi
  obtain⟨u,h4,h5,h6⟩:=g2 i x hi
  exact⟨u,by rw [show i-k=(i-(k+1))+1 by omega];simpa using h4,by omega,h6⟩
theorem rel0 {w:World} (hG:Good w []) {ins:List V0} {vs:List Value} {F:List Nat} (h:V0s false w ins vs F) {n:Nat} (hn:Nat.ble ins.length n=true):Rel ⟨w,[],hG⟩ (st0 n ins) ⟨vs.toArray++Array.replicate (n-vs.toArray.size) undef,[]⟩ w:=by
 obtain⟨h1,h2⟩:=in_slots 0 h
 have hn':ins.length≤n:=Nat.le_of_ble_eq_true hn
 refine⟨ip0 w,Chg.refl w [],rfl,by simp [h1,st0];omega,fun i x hi=>?_,fun id r hi=>(by cases hi),fun b hb=>hb,fun id b hb=>(by cases hb),fun id r hi=>(by cases hi),fun i j _ b hb=>(by cases hb)⟩
 obtain⟨v,h3,_,h5⟩:=h2 i x hi
 have hl:i<vs.length:=(List.getElem?_eq_some_iff.1 h3).1
 have e:(vs.toArray++Array.replicate (n-vs.toArray.size) undef).getD i undef=v:=by
  rw [Array.getD_eq_getD_getElem?,Array.getElem?_append_left (by simpa using hl)]
  simp at h3
  simp [h3]
 rw [e];exact h5
theorem FnT.intro {P:Program} {f:FuncId} {fn:Func} {c:Code} {ins:List V0} {out:V} (hf:P.funcs[f]?=some fn) (hb:fn.body=some c) (hname:(fn.name == "runtime.NumGoroutine")=false) (hn:Nat.ble ins.length fn.ntmps=true)
 (h:∀ w0,AW P w0 c (RetQ P fn true out) (st0 fn.ntmps ins)):FnT P f ins out:=⟨⟨fn,hf,hname,by rw [hb];rfl⟩,fun w vs F hG hv=>by
 refine calls_of_wp hf hb (Code.wp_mono ?_ (h ⟨w,[],hG⟩ _ _ (rel0 hG hv hn)))
 rintro e a' w' ⟨σ,h1,I,hI⟩
 have key:Res P fn true out σ→a'.defers=[]∧∃ v,(results fn a'.tmps).run P w'=.ok v w'∧FnPost w out (.returned v) w':=fun h1=>by
  obtain⟨v,F,g1,g2,g3⟩:=h1 I ⟨w,[],hG⟩ a' w' hI
  exact⟨hI.defers,v,g1,v,F,rfl,g2,(g3.2 rfl).1,fun b hb=>⟨(g3.1 b hb).resolve_right (by simp),(g3.2 rfl).2 b hb⟩,hI.ext.toExt⟩
 cases e with
 | normal=>exact key h1
 | ret=>exact key h1
 | exit id=>exact h1.elim
 | goto l=>exact h1.elim
 | panic c=>exact h1.elim
 | outgrown=>exact h1.elim⟩
theorem FrT.intro {P:Program} {f:FuncId} {fn:Func} {c:Code} {ins:List V0} {out:V} (hf:P.funcs[f]?=some fn) (hb:fn.body=some c) (hname:(fn.name == "runtime.NumGoroutine")=false) (hn:Nat.ble ins.length fn.ntmps=true)
 (h:∀ w0,AW P w0 c (RetQ P fn false out) (st0 fn.ntmps ins)):FrT P f ins out:=⟨⟨fn,hf,hname,by rw [hb];rfl⟩,fun w vs F hG hv=>by
 refine calls_of_wp hf hb (Code.wp_mono ?_ (h ⟨w,[],hG⟩ _ _ (rel0 hG hv hn)))
 rintro e a' w' ⟨σ,h1,I,hI⟩
 have key:Res P fn false out σ→a'.defers=[]∧∃ v,(results fn a'.tmps).run P w'=.ok v w'∧FrPost w out (.returned v) w':=fun h1=>by
  obtain⟨v,F,g1,g2,g3⟩:=h1 I ⟨w,[],hG⟩ a' w' hI
  exact⟨hI.defers,v,g1,v,F,rfl,g2,fun b hb=>(g3.1 b hb).resolve_right (by simp),hI.ext.toExt⟩
 cases e with
 | normal=>exact key h1
 | ret=>exact key h1
 | exit id=>exact h1.elim
 | goto l=>exact h1.elim
 | panic c=>exact h1.elim
 | outgrown=>exact h1.elim⟩
end Go.Q
namespace Go.Q
open Go.RowKit
theorem A5 {α β:Type} {f:α→β} {l:List α} {i:Nat} {x:α} (h:l[i]?=some x):(l.map f)[i]?=some (f x):=by simp [h]
def tyB (P:Program) (t:TypeId) (ag:Bool) (n:Nat):Bool:=match P.info? t,P.underlying t with
 | some i,some d=>Nat.beq i.size n&&(match d with|.struct _=>ag|.array _ _=>ag|_=>!ag)
 | _,_=>false
section
variable {P:Program} {ops:Array Oper} {o:Oper} {σ:St} {q:Bool}
theorem tyB_info {t:TypeId} {ag:Bool} {n:Nat} (h:tyB P t ag n=true):∃ i d,P.info? t=some i∧P.underlying t=some d∧i.size=n∧(match d with|.struct _=>ag|.array _ _=>ag|_=>!ag)=true:=by
 unfold tyB at h
 cases h1:P.info? t with
 | none=>rw [h1] at h;cases h
 | some i=>
  cases h2:P.underlying t with
  | none=>rw [h1,h2] at h;cases h
  | some d=>
   rw [h1,h2] at h
   simp only [Bool.and_eq_true] at h
   exact⟨i,d,rfl,rfl,Nat.eq_of_beq_eq_true h.1,h.2⟩
theorem tyB_agg {t:TypeId} {ag:Bool} {n:Nat} (h:tyB P t ag n=true) (w:World):(isAgg t).run P w=.ok ag w:=by
 obtain⟨i,d,_,h2,_,h4⟩:=tyB_info h
 unfold isAgg
 simp only [Sem.run_bind,run_underlying h2,Result.andThen_ok]
 cases d<;>simp_all
theorem tyB_size {t:TypeId} {ag:Bool} {n:Nat} (h:tyB P t ag n=true) (w:World):(sizeOf t).run P w=.ok n w:=by
 obtain⟨i,d,h1,_,h3,_⟩:=tyB_info h
 simp [sizeOf,typeInfo,h1,h3]
theorem Bh {x:Operand} {A0:A} (ho:o.op=.move x) (hg:Grd ops o σ q) (hd:o.dst.all (fun d=>Nat.blt d σ.n)=true) (hx:Get σ q x A0):Op1 P ops o σ (σ.put o.dst (q,.a A0)):=
 .val hg hd fun I w0 a w hr hq=>⟨a.eval x,by simp [execOp,ho],hx.va hr hq⟩
theorem R_assign {x:Operand} {A0:A} (ho:o.op=.assign x) (hg:Grd ops o σ q) (hd:o.dst.all (fun d=>Nat.blt d σ.n)=true) (hx:Get σ q x A0):Op1 P ops o σ (σ.put o.dst (q,.a A0)):=
 .val hg hd fun I w0 a w hr hq=>⟨a.eval x,by simp [execOp,ho],hx.va hr hq⟩
theorem VS_v {I:Ip} {w:World} (x:Value) (h:x.oneCell'=true:=by rfl):VS I w (true,.a (.one (.t (.v x)))) x:=⟨[],by simp [C,h],by simp⟩
theorem Dr {op:BinOp} {t t':TypeId} {x y:Operand} {u v r:Value} (ho:o.op=.binOp op t x y t') (hg:Grd ops o σ q) (hd:o.dst.all (fun d=>Nat.blt d σ.n)=true) (hx:Get σ q x (.one (.t (.v u)))) (hy:Get σ q y (.one (.t (.v v))))
 (h1:∀ w,(eqGuard op t x y u v).run P w=.ok () w) (hr1:r.oneCell'=true:=by rfl) (h:q=true→∀ w,(binOp op t u v).run P w=.ok r w):Op1 P ops o σ (σ.put o.dst (q,.a (.one (.t (.v r))))):=
 .val hg hd fun I w0 a w hr hq=>⟨r,by simp [execOp,ho,hx.int hr hq,hy.int hr hq,h1,h hq],VS_v r hr1⟩
theorem guard_int {op:BinOp} {t:TypeId} {x y:Operand} {k k':IntKind} {n m:Int} (w:World):(eqGuard op t x y (.int k n) (.int k' m)).run P w=.ok () w:=by
 unfold eqGuard;split<;>rfl
theorem R_lt {t t':TypeId} {x y:Operand} {k:IntKind} {n m:Int} (ho:o.op=.binOp .lss t x y t') (hg:Grd ops o σ q) (hd:o.dst.all (fun d=>Nat.blt d σ.n)=true) (hx:Get σ q x (.one (.t (.v (.int k n))))) (hy:Get σ q y (.one (.t (.v (.int k m))))) :
 Op1 P ops o σ (σ.put o.dst (q,.a (.one (.t (.v (.bool (decide (n<m)))))))):=Dr ho hg hd hx hy guard_int (h:=fun _ w=>by simp [binOp,Op.intCmp])
theorem R_le {t t':TypeId} {x y:Operand} {k:IntKind} {n m:Int} (ho:o.op=.binOp .leq t x y t') (hg:Grd ops o σ q) (hd:o.dst.all (fun d=>Nat.blt d σ.n)=true) (hx:Get σ q x (.one (.t (.v (.int k n))))) (hy:Get σ q y (.one (.t (.v (.int k m))))) :
 Op1 P ops o σ (σ.put o.dst (q,.a (.one (.t (.v (.bool (decide (n≤m)))))))):=Dr ho hg hd hx hy guard_int (h:=fun _ w=>by simp [binOp,Op.intCmp])
theorem R_gt {t t':TypeId} {x y:Operand} {k:IntKind} {n m:Int} (ho:o.op=.binOp .gtr t x y t') (hg:Grd ops o σ q) (hd:o.dst.all (fun d=>Nat.blt d σ.n)=true) (hx:Get σ q x (.one (.t (.v (.int k n))))) (hy:Get σ q y (.one (.t (.v (.int k m))))) :
 Op1 P ops o σ (σ.put o.dst (q,.a (.one (.t (.v (.bool (decide (m<n)))))))):=Dr ho hg hd hx hy guard_int (h:=fun _ w=>by simp [binOp,Op.intCmp])
theorem R_ge {t t':TypeId} {x y:Operand} {k:IntKind} {n m:Int} (ho:o.op=.binOp .geq t x y t') (hg:Grd ops o σ q) (hd:o.dst.all (fun d=>Nat.blt d σ.n)=true) (hx:Get σ q x (.one (.t (.v (.int k n))))) (hy:Get σ q y (.one (.t (.v (.int k m))))) :
 Op1 P ops o σ (σ.put o.dst (q,.a (.one (.t (.v (.bool (decide (m≤n)))))))):=Dr ho hg hd hx hy guard_int (h:=fun _ w=>by simp [binOp,Op.intCmp])
theorem R_eq {t t':TypeId} {x y:Operand} {k:IntKind} {n m:Int} (ho:o.op=.binOp .eql t x y t') (hg:Grd ops o σ q) (hd:o.dst.all (fun d=>Nat.blt d σ.n)=true) (hx:Get σ q x (.one (.t (.v (.int k n))))) (hy:Get σ q y (.one (.t (.v (.int k m))))) :
 Op1 P ops o σ (σ.put o.dst (q,.a (.one (.t (.v (.bool (decide (n=m)))))))):=Dr ho hg hd hx hy guard_int (h:=fun _ w=>by simp [binOp,Op.intCmp];rfl)
theorem R_ne {t t':TypeId} {x y:Operand} {k:IntKind} {n m:Int} (ho:o.op=.binOp .neq t x y t') (hg:Grd ops o σ q) (hd:o.dst.all (fun d=>Nat.blt d σ.n)=true) (hx:Get σ q x (.one (.t (.v (.int k n))))) (hy:Get σ q y (.one (.t (.v (.int k m))))) :
 Op1 P ops o σ (σ.put o.dst (q,.a (.one (.t (.v (.bool (!decide (n=m)))))))):=Dr ho hg hd hx hy guard_int (h:=fun _ w=>by simp [binOp,Op.intCmp];rfl)
theorem wrap_in {e:Int} (h:-9223372036854775808≤e∧e≤9223372036854775807):IntKind.i64.wrap e=e:=IntWalk.i64_in e h
theorem C5 {t t':TypeId} {x y:Operand} {n m:Int} (ho:o.op=.binOp .add t x y t') (hg:Grd ops o σ q) (hd:o.dst.all (fun d=>Nat.blt d σ.n)=true) (hx:Get σ q x (.one (.t (.v (.int .i64 n))))) (hy:Get σ q y (.one (.t (.v (.int .i64 m)))))
 (hb:q=true→ -9223372036854775808≤n+m∧n+m≤9223372036854775807) :
 Op1 P ops o σ (σ.put o.dst (q,.a (.one (.t (.v (.int .i64 (n+m))))))):=Dr ho hg hd hx hy guard_int (h:=fun hq w=>by simp [binOp,Op.intArith,wrap_in (hb hq)])
theorem Dl {t t':TypeId} {x y:Operand} {n m:Int} (ho:o.op=.binOp .sub t x y t') (hg:Grd ops o σ q) (hd:o.dst.all (fun d=>Nat.blt d σ.n)=true) (hx:Get σ q x (.one (.t (.v (.int .i64 n))))) (hy:Get σ q y (.one (.t (.v (.int .i64 m)))))
 (hb:q=true→ -9223372036854775808≤n-m∧n-m≤9223372036854775807) :
 Op1 P ops o σ (σ.put o.dst (q,.a (.one (.t (.v (.int .i64 (n-m))))))):=Dr ho hg hd hx hy guard_int (h:=fun hq w=>by simp [binOp,Op.intArith,wrap_in (hb hq)])
theorem R_mul {t t':TypeId} {x y:Operand} {n m:Int} (ho:o.op=.binOp .mul t x y t') (hg:Grd ops o σ q) (hd:o.dst.all (fun d=>Nat.blt d σ.n)=true) (hx:Get σ q x (.one (.t (.v (.int .i64 n))))) (hy:Get σ q y (.one (.t (.v (.int .i64 m)))))
 (hb:q=true→ -9223372036854775808≤n*m∧n*m≤9223372036854775807) :
 Op1 P ops o σ (σ.put o.dst (q,.a (.one (.t (.v (.int .i64 (n*m))))))):=Dr ho hg hd hx hy guard_int (h:=fun hq w=>by simp [binOp,Op.intArith,wrap_in (hb hq)])
theorem R_quo {t t':TypeId} {x y:Operand} {n m:Int} (ho:o.op=.binOp .quo t x y t') (hg:Grd ops o σ q) (hd:o.dst.all (fun d=>Nat.blt d σ.n)=true) (hx:Get σ q x (.one (.t (.v (.int .i64 n))))) (hy:Get σ q y (.one (.t (.v (.int .i64 m)))))
 (hb:q=true→0≤n∧n≤9223372036854775807∧0<m) :
 Op1 P ops o σ (σ.put o.dst (q,.a (.one (.t (.v (.int .i64 (n / m))))))):=Dr ho hg hd hx hy guard_int (h:=fun hq w=>by
  obtain⟨h1,h2,h3⟩:=hb hq
  have h4:¬ m=0:=by omega
  have h5:n / m≤n:=Int.ediv_le_self m h1
  have h6:0≤n / m:=Int.ediv_nonneg h1 (by omega)
  simp [binOp,Op.intDiv,h4,Int.tdiv_eq_ediv_of_nonneg h1,wrap_in (e:=n / m) ⟨by omega,by omega⟩])
theorem R_rem {t t':TypeId} {x y:Operand} {n m:Int} (ho:o.op=.binOp .rem t x y t') (hg:Grd ops o σ q) (hd:o.dst.all (fun d=>Nat.blt d σ.n)=true) (hx:Get σ q x (.one (.t (.v (.int .i64 n))))) (hy:Get σ q y (.one (.t (.v (.int .i64 m)))))
 (hb:q=true→0≤n∧0<m) :
 Op1 P ops o σ (σ.put o.dst (q,.a (.one (.t (.v (.int .i64 (n%m))))))):=Dr ho hg hd hx hy guard_int (h:=fun hq w=>by
  obtain⟨h1,h3⟩:=hb hq
  have h4:¬ m=0:=by omega
  simp [binOp,Op.intDiv,h4,Int.tmod_eq_emod_of_nonneg h1])
theorem Dq {t:TypeId} {x:Operand} {b:Bool} (ho:o.op=.unOp .not t x) (hg:Grd ops o σ q) (hd:o.dst.all (fun d=>Nat.blt d σ.n)=true) (hx:Get σ q x (.one (.t (.v (.bool b))))):Op1 P ops o σ (σ.put o.dst (q,.a (.one (.t (.v (.bool !b)))))):=
 .val hg hd fun I w0 a w hr hq=>⟨.bool !b,by simp [execOp,ho,hx.int hr hq,Op.unary],VS_v _⟩
theorem R_or {c y:Operand} {b b':Bool} (ho:o.op=.pick c (.const (.bool true)) y) (hg:Grd ops o σ q) (hd:o.dst.all (fun d=>Nat.blt d σ.n)=true) (hx:Get σ q c (.one (.t (.v (.bool b))))) (hy:Get σ (q&&!b) y (.one (.t (.v (.bool b'))))) :
 Op1 P ops o σ (σ.put o.dst (q,.a (.one (.t (.v (.bool (b||b'))))))):=
 .val hg hd fun I w0 a w hr hq=>⟨.bool (b||b'),by
  cases b with
  | true=>have hc:a.eval (.const (.bool true))=.bool true:=rfl;simp [execOp,ho,hx.int hr hq,asBool,hc]
  | false=>simp [execOp,ho,hx.int hr hq,asBool,hy.int hr (by simp [hq])],VS_v _⟩
theorem R_and {c x:Operand} {b b':Bool} (ho:o.op=.pick c x (.const (.bool false))) (hg:Grd ops o σ q) (hd:o.dst.all (fun d=>Nat.blt d σ.n)=true) (hx:Get σ q c (.one (.t (.v (.bool b))))) (hy:Get σ (q&&b) x (.one (.t (.v (.bool b'))))) :
 Op1 P ops o σ (σ.put o.dst (q,.a (.one (.t (.v (.bool (b&&b'))))))):=
 .val hg hd fun I w0 a w hr hq=>⟨.bool (b&&b'),by
  cases b with
  | false=>have hc:a.eval (.const (.bool false))=.bool false:=rfl;simp [execOp,ho,hx.int hr hq,asBool,hc]
  | true=>simp [execOp,ho,hx.int hr hq,asBool,hy.int hr (by simp [hq])],VS_v _⟩

inductive Sq (σ:St):A→Nat→List (List T)→Prop where
 | t {k:Nat} {rows:List (List T)}:Sq σ (.one (.t (.sl k rows))) k rows
 | rf {id k:Nat} {rows:List (List T)} (h:look σ.res id=some (.row k rows)):Sq σ (.one (.rf id)) k rows
 | vw {id k:Nat} {rows:List (List T)}:Sq σ (.one (.vw id (.sl k rows))) k rows
 | nil {k:Nat}:Sq σ (.one (.t (.v (.slice none 0 0)))) k []
theorem Sq.val {A0:A} {k:Nat} {rows:List (List T)} (h:Sq σ A0 k rows) {I:Ip} {w0:Base} {w:World} {a:Act} (hr:RelI I w0 σ a w) {v:Value} (hv:VA I w A0 v):∃ F,C false w (.sl k rows) v F:=by
 cases h with
 | t=>obtain⟨G,h1,_⟩:=hv;exact⟨G,h1⟩
 | rf h=>have:=hr.res _ _ h;have hv':v=I.hd _:=hv.1;subst hv';exact⟨_,C.read this⟩
 | vw=>obtain⟨G,h1,_⟩:=hv;exact⟨G,h1⟩
 | nil=>
  obtain⟨G,h1,_⟩:=hv
  simp only [C] at h1
  obtain⟨rfl,_⟩:=h1
  exact⟨[],by unfold C;exact⟨none,0,0,rfl,rfl,Nat.le_refl _,Nat.zero_le _,.inl ⟨rfl,rfl,by simp⟩⟩⟩
theorem R_len {x:Operand} {t:TypeId} {A0:A} {k:Nat} {rows:List (List T)} (ho:o.op=.call { callee:=.builtin .len,args:=#[x],argTypes:=#[t] }) (hg:Grd ops o σ q) (hd:o.dst.all (fun d=>Nat.blt d σ.n)=true)
 (hx:Get σ q x A0) (hs:Sq σ A0 k rows) {e:TypeId} (hu:P.underlying t=some (.slice e)):Op1 P ops o σ (σ.put o.dst (q,.a (.one (.t (.v (.int .i64 rows.length)))))):=
 .val hg hd fun I w0 a w hr hq=>by
  obtain⟨F,hC⟩:=hs.val hr (hx.va hr hq)
  simp only [C] at hC
  obtain⟨b,len,cap,h1,h2,h3,h4,h5⟩:=hC
  refine⟨_,?_,VS_v _⟩
  rw [h2]
  simp [execOp,ho,resolve,invoke,builtin,h1,Builtin.len_,goInt,run_underlying hu]
theorem C4 {x:Operand} {t:TypeId} {s:ByteArray} (ho:o.op=.call { callee:=.builtin .len,args:=#[x],argTypes:=#[t] }) (hg:Grd ops o σ q) (hd:o.dst.all (fun d=>Nat.blt d σ.n)=true)
 (hx:Get σ q x (.one (.t (.v (.string s))))) (hu:P.underlying t=some .string):Op1 P ops o σ (σ.put o.dst (q,.a (.one (.t (.v (.int .i64 s.size)))))):=
 .val hg hd fun I w0 a w hr hq=>⟨_,by simp [execOp,ho,resolve,invoke,builtin,hx.int hr hq,Builtin.len_,goInt,run_underlying hu],VS_v _⟩
theorem C_ad {w:World} {b off:Nat} {row:List T} {G:List Nat} (h:Ms false w b off row G) (hb:b<w.heap.size):C false w (.ad row) (.pointer (some ⟨b,off,none⟩)) (b::G):=by
 simp only [C];exact⟨b,off,G,rfl,rfl,hb,h⟩
theorem run_indexAt {t e:TypeId} {k:Nat} {ag:Bool} {w:World} {v:Value} {F:List Nat} {o:Bool} {rows:List (List T)} {n:Int} {row:List T} (hu:P.underlying t=some (.slice e)) (hk:tyB P e ag k=true) (hC:C o w (.sl k rows) v F) (h0:0≤n) (hi:rows[n.toNat]?=some row) :
 ∃ b off len cap,v=.slice (some ⟨b,off,none⟩) len cap∧(Instr.indexAt t v (.int .i64 n)).run P w=.ok (.pointer (some ⟨b,off+n.toNat*k,none⟩)) w∧b<w.heap.size∧b∈F∧(o=true→off=0)∧(o=true→∃ cur e,w.heap[b]?=some (.cells cur e (0,0))∧cur.size=cap*k∧len≤cap)∧
  ∃ G,Ms o w b (off+n.toNat*k) row G∧row.length=k∧∀ x∈G,x∈F:=by
 simp only [C] at hC
 obtain⟨b,len,cap,h1,h2,h3,h4,h5⟩:=hC
 have hlt:n.toNat<rows.length:=(List.getElem?_eq_some_iff.1 hi).1
 rcases h5 with ⟨h6,_⟩|⟨b,off,G,rfl,rfl,h8,h9,h10⟩
 · omega
 obtain⟨G',g1,g2,g3⟩:=h10.get hi
 refine⟨b,off,len,cap,h1,?_,h8,by simp,fun ho=>(h9 ho).1,fun ho=>?_,G',g1,g2,fun x hx=>by simp [g3 x hx]⟩
 · have hn:n<(len:Int):=by omega
   subst h1
   simp [Instr.indexAt,asIntOf,run_underlying hu,h0,hn,tyB_size hk,Addr.add_lit]
 obtain⟨_,cur,e',h11,h12⟩:=h9 ho
 exact⟨cur,e',h11,h12,h3⟩
theorem Aw {t e:TypeId} {x y:Operand} {n:Int} {k:Nat} {ag:Bool} {rows:List (List T)} {row:List T} (ho:o.op=.indexAddr t x y) (hg:Grd ops o σ q) (hd:o.dst.all (fun d=>Nat.blt d σ.n)=true) (hx:Get σ q x (.one (.t (.sl k rows))))
 (hy:Get σ q y (.one (.t (.v (.int .i64 n))))) (hu:P.underlying t=some (.slice e)) (hk:tyB P e ag k=true) (hi:q=true→0≤n∧rows[n.toNat]?=some row):Op1 P ops o σ (σ.put o.dst (q,.a (.one (.t (.ad row))))):=
 .val hg hd fun I w0 a w hr hq=>by
  obtain⟨F,hC,hF⟩:VA I w (.one (.t (.sl k rows))) (a.eval x):=hx.va hr hq
  obtain⟨b,off,len,cap,h1,h2,h3,h4,-,-,G,h5,h6,h7⟩:=run_indexAt hu hk hC (hi hq).1 (hi hq).2
  refine⟨_,by simp [execOp,ho,hy.int hr hq,h2],b::G,C_ad h5 h3,fun c hc=>?_⟩
  rcases List.mem_cons.1 hc with rfl|hc
  · exact hF _ h4
  exact hF _ (h7 c hc)
theorem R_indexAddr_vw {id:Nat} {t e:TypeId} {x y:Operand} {n:Int} {k:Nat} {ag:Bool} {rows:List (List T)} {row:List T} (ho:o.op=.indexAddr t x y) (hg:Grd ops o σ q) (hd:o.dst.all (fun d=>Nat.blt d σ.n)=true) (hx:Get σ q x (.one (.vw id (.sl k rows))))
 (hy:Get σ q y (.one (.t (.v (.int .i64 n))))) (hu:P.underlying t=some (.slice e)) (hk:tyB P e ag k=true) (hi:q=true→0≤n∧rows[n.toNat]?=some row):Op1 P ops o σ (σ.put o.dst (q,.a (.one (.vw id (.ad row))))):=
 .val hg hd fun I w0 a w hr hq=>by
  obtain⟨F,hC,hF⟩:VA I w (.one (.vw id (.sl k rows))) (a.eval x):=hx.va hr hq
  obtain⟨b,off,len,cap,h1,h2,h3,h4,-,-,G,h5,h6,h7⟩:=run_indexAt hu hk hC (hi hq).1 (hi hq).2
  refine⟨_,by simp [execOp,ho,hy.int hr hq,h2],b::G,C_ad h5 h3,fun c hc=>?_⟩
  rcases List.mem_cons.1 hc with rfl|hc
  · exact hF _ h4
  exact hF _ (h7 c hc)
theorem C2 {id:Nat} {t e:TypeId} {x y:Operand} {n:Int} {k:Nat} {ag:Bool} {rows:List (List T)} {row:List T} (ho:o.op=.indexAddr t x y) (hg:Grd ops o σ q) (hd:o.dst.all (fun d=>Nat.blt d σ.n)=true) (hx:Get σ q x (.one (.rf id)))
 (hs:look σ.res id=some (.row k rows)) (hy:Get σ q y (.one (.t (.v (.int .i64 n))))) (hu:P.underlying t=some (.slice e)) (hk:tyB P e ag k=true) (hi:q=true→0≤n∧rows[n.toNat]?=some row):Op1 P ops o σ (σ.put o.dst (q,.a (.one (.pr id k n.toNat 0)))):=
 .val hg hd fun I w0 a w hr hq=>by
  have hv:a.eval x=I.hd id:=(show VE I w (.rf id) (a.eval x) from hx.va hr hq).1
  have hC:C true w (.sl k rows) _ _:=hr.res _ _ hs
  obtain⟨b,off,len,cap,h1,h2,h3,h4,h5,-,G,h6,h7,h8⟩:=run_indexAt hu hk hC (hi hq).1 (hi hq).2
  have h9:=h5 rfl
  subst h9
  exact⟨.pointer (some ⟨b,0+n.toNat*k,none⟩),by simp [execOp,ho,hy.int hr hq,hv,h2],b,len,cap,h1,by simp⟩
def fldB (P:Program) (t:TypeId) (j off:Nat):Bool:=match P.underlying t with
 | some (.struct fs)=>match fs[j]? with
  | some f=>Nat.beq f.offset off&&(match P.info? f.type with|some i=>!(Nat.beq i.size 0)|none=>false)
  | none=>false
 | _=>false
theorem run_fieldAt {t:TypeId} {j off:Nat} (h:fldB P t j off=true) (w:World) (b p:Nat):(Instr.fieldAt t (.pointer (some ⟨b,p,none⟩)) j).run P w=.ok (.pointer (some ⟨b,p+off,none⟩)) w:=by
 unfold fldB at h
 split at h
 · rename_i fs hu
   split at h
   · rename_i f hf
     simp only [Bool.and_eq_true] at h
     obtain⟨h1,h2⟩:=h
     have h1:=Nat.eq_of_beq_eq_true h1
     split at h2
     · rename_i i hi
       have h3:¬ i.size=0:=by intro e;simp [e,Nat.beq] at h2
       simp [Instr.fieldAt,run_underlying hu,hf,Instr.sureAddr,fieldPlace,sizeOf,typeInfo,hi,h3,Addr.add_lit,h1]
     cases h2
   cases h
 cases h
theorem Bc {t:TypeId} {x:Operand} {j off:Nat} {cs:List T} (ho:o.op=.fieldAddr t x j) (hg:Grd ops o σ q) (hd:o.dst.all (fun d=>Nat.blt d σ.n)=true) (hx:Get σ q x (.one (.t (.ad cs)))) (hf:fldB P t j off=true):Op1 P ops o σ (σ.put o.dst (q,.a (.one (.t (.ad (cs.drop off)))))):=
 .val hg hd fun I w0 a w hr hq=>by
  obtain⟨F,hC,hF⟩:VA I w (.one (.t (.ad cs))) (a.eval x):=hx.va hr hq
  simp only [C] at hC
  obtain⟨b,p,G,h1,rfl,h2,h3⟩:=hC
  obtain⟨G',h4,h5⟩:=h3.drop off
  refine⟨_,by simp [execOp,ho,h1,run_fieldAt hf],b::G',C_ad h4 h2,fun c hc=>hF c ?_⟩
  rcases List.mem_cons.1 hc with rfl|hc
  · simp
  simp [h5 c hc]
theorem Bk {id p:Nat} {t:TypeId} {x:Operand} {j off:Nat} (ho:o.op=.fieldAddr t x j) (hg:Grd ops o σ q) (hd:o.dst.all (fun d=>Nat.blt d σ.n)=true) (hx:Get σ q x (.one (.pp id p))) (hf:fldB P t j off=true):Op1 P ops o σ (σ.put o.dst (q,.a (.one (.pp id (p+off))))):=
 .val hg hd fun I w0 a w hr hq=>by
  have hv:a.eval x=_:=hx.va hr hq
  exact⟨.pointer (some ⟨I.B id,p+off,none⟩),by simp [execOp,ho,hv,run_fieldAt hf],rfl⟩
theorem R_fieldAddr_pr {id k i p:Nat} {t:TypeId} {x:Operand} {j off:Nat} (ho:o.op=.fieldAddr t x j) (hg:Grd ops o σ q) (hd:o.dst.all (fun d=>Nat.blt d σ.n)=true) (hx:Get σ q x (.one (.pr id k i p))) (hf:fldB P t j off=true):Op1 P ops o σ (σ.put o.dst (q,.a (.one (.pr id k i (p+off))))):=
 .val hg hd fun I w0 a w hr hq=>by
  obtain⟨g,n,m,h1,hv⟩:VE I w (.pr id k i p) (a.eval x):=hx.va hr hq
  exact⟨.pointer (some ⟨g,i*k+p+off,none⟩),by simp [execOp,ho,hv,run_fieldAt hf],g,n,m,h1,by simp [Nat.add_assoc]⟩
def mkA (ag:Bool) (l:List E):A:=bif ag then .agg l else match l with|e::_=>.one e|[]=>.one .no
theorem run_load {t:TypeId} {ag:Bool} {n b p:Nat} {w:World} (ht:tyB P t ag n=true) {cs:List Value} (hl:cs.length=n) (h1:ag=false→n=1) (hc:∀ (j:Nat) (u:Value),cs[j]?=some u→w.cell? ⟨b,p+j,none⟩=some u) :
 (Instr.loadAt t (.pointer (some ⟨b,p,none⟩))).run P w=.ok (if ag=true then .agg cs.toArray else cs.headD undef) w:=by
 cases ag with
 | true=>
  have:=run_loadCells_list (P:=P) w ⟨b,p,none⟩ cs (fun j v hj=>by rw [Addr.add_lit];exact hc j v hj)
  rw [hl] at this
  simp [Instr.loadAt,Instr.sureAddr,loadVar,tyB_agg ht,tyB_size ht,this]
 | false=>
  have:=h1 rfl
  subst this
  match cs,hl with
  | [c],_=>
   have:=hc 0 c rfl
   simp only [Nat.add_zero] at this
   simp [Instr.loadAt,Instr.sureAddr,loadVar,tyB_agg ht,this]
theorem VA_mk {I:Ip} {w:World} {ag:Bool} {l:List E} {cs:List Value} (h:VEs I w l cs) (h1:ag=false→l.length=1):VA I w (mkA ag l) (if ag=true then .agg cs.toArray else cs.headD undef):=by
 cases ag with
 | true=>exact⟨cs,rfl,h⟩
 | false=>
  match l,h1 rfl,h with
  | [e],_,h=>
   obtain⟨c,cr,h1,h2,h3⟩:=h
   subst h1;exact h2
theorem Cs_t {I:Ip} {w:World}:∀ {l:List T} {cs:List Value} {F:List Nat},Cs false w l cs F→(∀ b∈F,I.Z b)→VEs I w (l.map .t) cs
 | [],cs,F,h,_=>by simp only [Cs] at h;exact h.1
 | t::r,cs,F,h,hF=>by
  simp only [Cs] at h
  obtain⟨c,cr,G1,G2,h1,h2,h3,rfl⟩:=h
  exact⟨c,cr,h1,⟨G1,h2,fun b hb=>hF b (by simp [hb])⟩,Cs_t h3 fun b hb=>hF b (by simp [hb])⟩
def toE (id:Nat):T→E
 | .v x=>.t (.v x)
 | t=>.vw id t
theorem VE_toE {I:Ip} {w:World} {id:Nat} {t:T} {c:Value} {G:List Nat} (h:C false w t c G) (hG:∀ b∈G,b∈I.F id):VE I w (toE id t) c:=by
 cases t with
 | v x=>
  simp only [C] at h
  obtain⟨rfl,_,h⟩:=h
  exact⟨[],by simp [C,h],by simp⟩
 | sl k rows=>exact⟨G,h,hG⟩
 | ad cs=>exact⟨G,h,hG⟩
 | fn f x y=>exact⟨G,h,hG⟩
theorem Cs_vw {I:Ip} {w:World} {id:Nat}:∀ {l:List T} {cs:List Value} {F:List Nat},Cs false w l cs F→(∀ b∈F,b∈I.F id)→VEs I w (l.map (toE id)) cs
 | [],cs,F,h,_=>by simp only [Cs] at h;exact h.1
 | t::r,cs,F,h,hF=>by
  simp only [Cs] at h
  obtain⟨c,cr,G1,G2,h1,h2,h3,rfl⟩:=h
  exact⟨c,cr,h1,VE_toE h2 fun b hb=>hF b (by simp [hb]),Cs_vw h3 fun b hb=>hF b (by simp [hb])⟩
theorem Bl {t:TypeId} {x:Operand} {cs:List T} {ag:Bool} {n:Nat} (ho:o.op=.load t x) (hg:Grd ops o σ q) (hd:o.dst.all (fun d=>Nat.blt d σ.n)=true) (hx:Get σ q x (.one (.t (.ad cs)))) (ht:tyB P t ag n=true) (hn:Nat.ble n cs.length=true) (h1:(ag||Nat.beq n 1)=true) :
 Op1 P ops o σ (σ.put o.dst (q,.a (mkA ag ((cs.take n).map .t)))):=
 .val hg hd fun I w0 a w hr hq=>by
  obtain⟨F,hC,hF⟩:VA I w (.one (.t (.ad cs))) (a.eval x):=hx.va hr hq
  simp only [C] at hC
  obtain⟨b,p,G,h2,rfl,h3,h4⟩:=hC
  obtain⟨G',h5,h6⟩:=h4.take n
  obtain⟨vs,h7,h8,h9⟩:=h5.cells
  have hn':=Nat.le_of_ble_eq_true hn
  have h1':ag=false→n=1:=fun e=>by rw [e] at h1;exact Nat.eq_of_beq_eq_true (by simpa using h1)
  refine⟨_,by simp [execOp,ho,h2,run_load ht (cs:=vs) (by rw [h8,List.length_take];omega) h1' h9],VA_mk (Cs_t h7 fun b hb=>hF b (by simp [h6 b hb])) fun e=>by rw [List.length_map,List.length_take];have:=h1' e;omega⟩
theorem R_load_vw {id:Nat} {t:TypeId} {x:Operand} {cs:List T} {ag:Bool} {n:Nat} (ho:o.op=.load t x) (hg:Grd ops o σ q) (hd:o.dst.all (fun d=>Nat.blt d σ.n)=true) (hx:Get σ q x (.one (.vw id (.ad cs)))) (ht:tyB P t ag n=true) (hn:Nat.ble n cs.length=true) (h1:(ag||Nat.beq n 1)=true) :
 Op1 P ops o σ (σ.put o.dst (q,.a (mkA ag ((cs.take n).map (toE id))))):=
 .val hg hd fun I w0 a w hr hq=>by
  obtain⟨F,hC,hF⟩:VA I w (.one (.vw id (.ad cs))) (a.eval x):=hx.va hr hq
  simp only [C] at hC
  obtain⟨b,p,G,h2,rfl,h3,h4⟩:=hC
  obtain⟨G',h5,h6⟩:=h4.take n
  obtain⟨vs,h7,h8,h9⟩:=h5.cells
  have hn':=Nat.le_of_ble_eq_true hn
  have h1':ag=false→n=1:=fun e=>by rw [e] at h1;exact Nat.eq_of_beq_eq_true (by simpa using h1)
  refine⟨_,by simp [execOp,ho,h2,run_load ht (cs:=vs) (by rw [h8,List.length_take];omega) h1' h9],VA_mk (Cs_vw h7 fun b hb=>hF b (by simp [h6 b hb])) fun e=>by rw [List.length_map,List.length_take];have:=h1' e;omega⟩
end
end Go.Q
