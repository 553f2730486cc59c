import Derived.Test.YtdhojcaoljhbiaaGreatDoorAbsRxk
import Derived.Test.YtdhojcaoljhbiaaGreatDoorAbs13xk
set_option linter.unusedVariables false
set_option linter.unusedSimpArgs false
namespace Go.Q
open Go.RowKit
section
variable {P:Program} {ops:Array Oper} {o:Oper} {σ:St} {q:Bool}
def V0c (w:World) (FF:List Nat):List (Bool×V0)→List Value→List Nat→Prop
 | [],vs,F=>vs=[]∧F=[]
 | (o,x)::r,vs,F=>∃ v vr G1 G2,vs=v::vr∧V0r o w x v G1∧V0c w FF r vr G2∧(if o=true then F=G1++G2 else F=G2∧∀ b∈G1,b∉FF)
def CPost (w:World) (out:V) (F:List Nat) (e:Ending) (w':World):Prop:=
 ∃ v F',e=.returned v∧Vr true w' out v F'∧F'.Nodup∧(∀ b∈F',(w.heap.size≤b∨b∈F)∧Thaw w' b)∧Chg w w' F
def FnC (P:Program) (f:FuncId) (ins:List (Bool×V0)) (out:V):Prop:=Callee P f∧∀ w vs F,Good w F→V0c w F ins vs F→F.Nodup→(∀ b∈F,Thaw w b)→Calls P f (List.toArray vs) w (CPost w out F)
theorem V0c.len {w:World} {FF:List Nat}:∀ {ins:List (Bool×V0)} {vs:List Value} {F:List Nat},V0c w FF ins vs F→vs.length=ins.length
 | [],_,_,⟨h,_⟩=>by subst h;rfl
 | (_,_)::_,_,_,⟨v,vr,_,_,rfl,_,h,_⟩=>by simp [h.len]
theorem V0c.sub {w:World} {FF:List Nat}:∀ {ins:List (Bool×V0)} {vs:List Value} {F:List Nat},V0c w FF ins vs F→∀ b∈F,b<w.heap.size
 | [],_,_,⟨_,h⟩,b,hb=>by subst h;cases hb
 | (o,x)::r,_,F,⟨v,vr,G1,G2,rfl,h1,h2,h3⟩,b,hb=>by
  cases o with
  | true=>
   simp only [if_true] at h3
   subst h3
   rcases List.mem_append.1 hb with hb|hb
   · exact h1.lt b hb
   exact h2.sub b hb
  | false=>
   simp only [Bool.false_eq_true,if_false] at h3
   rw [h3.1] at hb
   exact h2.sub b hb
def initC:Nat→List (Bool×V0)→St→Option St
 | _,[],σ=>some σ
 | i,(false,x)::r,σ=>initC (i+1) r ⟨σ.n,(i,(true,.a (inA x)))::σ.slots,σ.res⟩
 | i,(true,x)::r,σ=>match outV0 (1000+50*i) x with
  | some (y,rs)=>bif (rs.all fun x=>!σ.has x.1) then initC (i+1) r ⟨σ.n,(i,(true,.a y))::σ.slots,addsR rs σ.res⟩ else none
  | none=>none
theorem initC_ok {w0:Base} {w:World} {a:Act} {FF:List Nat} (hZ0:∀ b,b<w.heap.size→b∉FF→True):∀ {ins:List (Bool×V0)} {i:Nat} {σ σ':St} {I:Ip} {vs:List Value} {F:List Nat},initC i ins σ=some σ'→RelI I w0 σ a w→(∀ b,b<w.heap.size→b∉FF→I.Z b)→V0c w FF ins vs F→F.Nodup→(∀ b∈F,Free I w0 w b)→(∀ j v,vs[j]?=some v→a.tmps.getD (i+j) undef=v)→
 ∃ I',RelI I' w0 σ' a w
 | [],i,σ,σ',I,vs,F,h,hr,_,_,_,_,_=>by simp only [initC,Option.some.injEq] at h;subst h;exact⟨I,hr⟩
 | (false,x)::r,i,σ,σ',I,vs,F,h,hr,hZ,⟨v,vr,G1,G2,e,h1,h2,h3⟩,hn,hf,hv=>by
  subst e
  rw [initC] at h
  simp only [Bool.false_eq_true,if_false] at h3
  obtain⟨rfl,h3⟩:=h3
  refine initC_ok hZ0 h (hr.reslot ?_) hZ h2 hn hf fun j u hj=>?_
  · rw [show a.tmps.getD i undef=v from hv 0 v rfl]
    exact VA_also h1 fun b hb=>hZ b (h1.lt b hb) (h3 b hb)
  rw [show i+1+j=i+(j+1) by omega];exact hv (j+1) u (by simpa using hj)
 | (true,x)::r,i,σ,σ',I,vs,F,h,hr,hZ,⟨v,vr,G1,G2,e,h1,h2,h3⟩,hn,hf,hv=>by
  subst e
  rw [initC] at h
  simp only [if_true] at h3
  subst h3
  split at h
  · rename_i y rs hy
    cases hb:(rs.all fun x=>!σ.has x.1) with
    | false=>rw [hb] at h;cases h
    | true=>
     rw [hb] at h
     obtain⟨n1,n2,n3⟩:=List.nodup_append.1 hn
     obtain⟨I1,r1,r2,r3,r4⟩:=outV0_ok hy hb hr h1 n1 fun b hb=>hf b (by simp [hb])
     have e1:σ.adds rs=⟨σ.n,σ.slots,addsR rs σ.res⟩:=adds_eq rs σ.n σ.slots σ.res
     rw [e1] at r1
     refine initC_ok hZ0 (σ:=⟨σ.n,(i,(true,.a y))::σ.slots,addsR rs σ.res⟩) h (r1.reslot ?_) (by rw [r3.1];exact hZ) h2 n2 (fun b hb=>r4 b (hf b (by simp [hb])) fun hm=>n3 b hm b hb rfl) fun j u hj=>?_
     · rw [show a.tmps.getD i undef=v from hv 0 v rfl];exact r2
     rw [show i+1+j=i+(j+1) by omega];exact hv (j+1) u (by simpa using hj)
  cases h
theorem FnC.walk {n:Nat} {f:FuncId} {fn:Func} {c:Code} {ins:List (Bool×V0)} {out:V} {σ':St} (hf:P.funcs[f]?=some fn) (hb:fn.body=some c) (hname:(fn.name == "runtime.NumGoroutine")=false) (hnt:fn.ntmps=n) (hn:Nat.ble ins.length n=true) (hi:initC 0 ins ⟨n,[],[]⟩=some σ')
 (h:∀ w0,AW P w0 c (RetQ P fn true out) σ'):FnC P f ins out:=by
 subst hnt
 refine⟨⟨fn,hf,hname,by rw [hb];rfl⟩,fun w vs F hG hv hnd hth=>?_⟩
 have hl:=hv.len
 have hn':ins.length≤fn.ntmps:=Nat.le_of_ble_eq_true hn
 have hlt:=hv.sub
 let a0:Act:=⟨(List.toArray vs)++Array.replicate (fn.ntmps-(List.toArray vs).size) undef,[]⟩
 let I0:Ip:=⟨fun b=>b<w.heap.size∧b∉F,fun _=>[],fun _=>undef,fun _=>0⟩
 have hr0:RelI I0 ⟨w,F,hG⟩ ⟨fn.ntmps,[],[]⟩ a0 w:=by
  refine⟨Chg.refl w F,rfl,by simp [a0,hl];omega,fun i z hi=>(by cases hi),fun id r hi=>(by cases hi),fun b hb=>hb.1,fun id b hb=>(by cases hb),fun id r hi=>(by cases hi),fun i j _ b hb=>(by cases hb)⟩
 obtain⟨I1,r1⟩:=initC_ok (fun _ _ _=>trivial) hi hr0 (fun b h1 h2=>⟨h1,h2⟩) hv hnd (fun b hb=>⟨.inr hb,hlt b hb,hth b hb,fun hz=>hz.2 hb,fun i hi=>by cases hi⟩) fun j v hj=>by
  have hjl:j<vs.length:=(List.getElem?_eq_some_iff.1 hj).1
  simp only [Nat.zero_add,a0]
  rw [Array.getD_eq_getD_getElem?,Array.getElem?_append_left (by simpa using hjl)]
  simp [hj]
 refine calls_of_wp hf hb (Code.wp_mono ?_ (h ⟨w,F,hG⟩ _ _ ⟨_,r1⟩))
 rintro e a' w' ⟨σ1,h1,I,hI⟩
 have key:Res P fn true out σ1→a'.defers=[]∧∃ v',(results fn a'.tmps).run P w'=.ok v' w'∧CPost w out F (.returned v') w':=fun h1=>by
  obtain⟨v',F',g1,g2,g3,g4⟩:=h1 I ⟨w,F,hG⟩ a' w' hI
  exact⟨hI.defers,v',g1,v',F',rfl,g2,(g4 rfl).1,fun b hb=>⟨g3 b hb,(g4 rfl).2 b hb⟩,hI.ext⟩
 cases e with
 | normal=>exact key h1
 | ret=>exact key h1
 | exit id=>exact h1.elim
 | goto l=>exact h1.elim
 | panic c=>exact h1.elim
 | outgrown=>exact h1.elim
theorem RelI.chgF {I:Ip} {w0:Base} {w w':World} {a:Act} (h:RelI I w0 σ a w) {G:List Nat} (hG:∀ b∈G,Free I w0 w b) (hc:Chg w w' G):RelI I w0 σ a w':=by
 have hZ:∀ b,I.Z b→b∉G:=fun b hz hb=>(hG b hb).2.2.2.1 hz
 have hv:∀ i,∀ b∈I.F i,b∉G:=fun i b hb hg=>(hG b hg).2.2.2.2 i hb
 have hm:∀ i,memN [] i=false→∀ b∈I.F i,b∉G:=fun i _=>hv i
 have hI:I.newF [] I.F=I:=by unfold Ip.newF;congr 1
 have hE:∀ e:E,e.puvL []=e:=fun e=>by cases e<;>rfl
 have hA:∀ e:A,e.puvL []=e:=fun e=>by
  cases e with
  | one e=>simp only [A.puvL,hE]
  | agg l=>simp only [A.puvL];rw [map_same fun e _=>hE e]
 have hS:∀ e:S,e.puvL []=e:=fun e=>by
  cases e with
  | a x=>simp only [S.puvL,hA]
  | tup l=>simp only [S.puvL];rw [map_same fun e _=>hA e]
 refine⟨Chg.ext h.ext hc fun b hb=>(hG b hb).1,h.defers,h.size,fun i x hi=>?_,fun i r hi=>?_,fun b hb=>Nat.lt_of_lt_of_le (h.old b hb) hc.size,fun i b hb=>⟨Nat.lt_of_lt_of_le (h.lt i b hb).1 hc.size,(h.lt i b hb).2⟩,fun i r hi=>⟨(h.own i r hi).1,fun b hb=>⟨((h.own i r hi).2 b hb).1,((h.own i r hi).2 b hb).2.chg hc (hv i b hb)⟩⟩,h.apart⟩
 · have:=(h.slots i x hi).puvL (NF:=I.F) hc hZ hm
   rw [hI,hS] at this
   exact this
 have:=h.res i r hi
 cases r with
 | row k rows=>
  have this:C true w (.sl k rows) (I.hd i) (I.F i):=this
  exact (this.congr fun b hb=>hc.block b (this.lt b hb) (hv i b hb):C true w' (.sl k rows) (I.hd i) (I.F i))
 | box cs=>
  obtain⟨h1,vs,t,h2,h3⟩:=this
  refine⟨h1,vs,t,?_,?_⟩
  · exact (hc.block _ (Array.getElem?_eq_some_iff.1 h2).1 (hv i _ (by rw [h1];simp))).trans h2
  have:=h3.puvL (NF:=I.F) hc hZ hm
  rw [hI,map_same fun e _=>hE e] at this
  exact this
 | hdr j x=>exact this
 | blk j b=>exact this
 | opq=>trivial
 | cur g=>
  have this:I.F i=[g.1]∧I.B i=g.1∧CuB I.Z w g:=this
  exact⟨this.1,this.2.1,this.2.2.congr (hc.block _ this.2.2.lt (hv i _ (by rw [this.1];simp))) fun b hb hz=>⟨hz,hc.block b hb (hZ b hz)⟩⟩
 | mp b f=>
  have this:I.F i=[b]∧MapB w b f:=this
  exact⟨this.1,this.2.congr (hc.block _ this.2.lt (hv i _ (by rw [this.1];simp)))⟩
 | kept K=>exact⟨this.1,fun x hx=>⟨(hc.block x.1 (h.old _ (this.2 x hx).2) (hZ _ (this.2 x hx).2)).trans (this.2 x hx).1,(this.2 x hx).2⟩⟩
inductive ArgRd (σ:St):List Operand→List (Bool×V0)→Prop where
 | nil:ArgRd σ [] []
 | cons {x:Operand} {A0:A} {ts:List T} {l:List Operand} {ins:List (Bool×V0)} (hx:Get σ true x A0) (hts:cellsA A0=ts.map .t) (h:ArgRd σ l ins):ArgRd σ (x::l) ((false,V0of A0 ts)::ins)
inductive ArgC (σ:St) (xo:Operand) (x0:V0):List Operand→List (Bool×V0)→Prop where
 | own {l:List Operand} {ins:List (Bool×V0)} (h:ArgRd σ l ins):ArgC σ xo x0 (xo::l) ((true,x0)::ins)
 | cons {x:Operand} {A0:A} {ts:List T} {l:List Operand} {ins:List (Bool×V0)} (hx:Get σ true x A0) (hts:cellsA A0=ts.map .t) (h:ArgC σ xo x0 l ins):ArgC σ xo x0 (x::l) ((false,V0of A0 ts)::ins)
theorem ArgRd.one {σ:St} {x:Operand} {t:T} {l:List Operand} {ins:List (Bool×V0)} (hx:Get σ true x (.one (.t t))) (h:ArgRd σ l ins):ArgRd σ (x::l) ((false,.one t)::ins):=.cons (ts:=[t]) hx rfl h
theorem ArgRd.agg {σ:St} {x:Operand} {ts:List T} {l:List Operand} {ins:List (Bool×V0)} (hx:Get σ true x (.agg (ts.map .t))) (h:ArgRd σ l ins):ArgRd σ (x::l) ((false,.agg ts)::ins):=.cons hx rfl h
theorem ArgC.one {σ:St} {xo x:Operand} {x0:V0} {t:T} {l:List Operand} {ins:List (Bool×V0)} (hx:Get σ true x (.one (.t t))) (h:ArgC σ xo x0 l ins):ArgC σ xo x0 (x::l) ((false,.one t)::ins):=.cons (ts:=[t]) hx rfl h
theorem ArgC.agg {σ:St} {xo x:Operand} {x0:V0} {ts:List T} {l:List Operand} {ins:List (Bool×V0)} (hx:Get σ true x (.agg (ts.map .t))) (h:ArgC σ xo x0 l ins):ArgC σ xo x0 (x::l) ((false,.agg ts)::ins):=.cons hx rfl h
theorem VEs_Z {I:Ip} {w:World}:∀ {ts:List T} {cs:List Value},VEs I w (ts.map .t) cs→∃ G,Cs false w ts cs G∧∀ b∈G,I.Z b
 | [],cs,h=>⟨[],by unfold Cs;exact⟨h,rfl⟩,by simp⟩
 | t::ts,cs,⟨c,cr,e,⟨G1,h1,h2⟩,h3⟩=>by
  obtain⟨G2,g1,g2⟩:=VEs_Z h3
  exact⟨G1++G2,by unfold Cs;exact⟨c,cr,G1,G2,e,h1,g1,rfl⟩,fun b hb=>by rcases List.mem_append.1 hb with hb|hb;exact h2 b hb;exact g2 b hb⟩
theorem read_Z {I:Ip} {w0:Base} {w:World} {a:Act} (hr:RelI I w0 σ a w) {x:Operand} {A0:A} {ts:List T} (hx:Get σ true x A0) (hts:cellsA A0=ts.map .t):∃ G,V0r false w (V0of A0 ts) (a.eval x) G∧∀ b∈G,I.Z b:=by
 have hv:=hx.va hr rfl
 obtain⟨cs,h1,h2⟩:=V0of_r hv
 rw [hts] at h1
 obtain⟨G,g1,g2⟩:=VEs_Z h1
 exact⟨G,(h2 (by rw [hts];simp)).2 g1,g2⟩
theorem ArgRd.ok {I:Ip} {w0:Base} {w:World} {a:Act} (hr:RelI I w0 σ a w) {FF:List Nat} (hZ:∀ b,I.Z b→b∉FF) {l:List Operand} {ins:List (Bool×V0)} (h:ArgRd σ l ins):V0c w FF ins (l.map a.eval) []:=by
 induction h with
 | nil=>exact⟨rfl,rfl⟩
 | cons hx hts h ih=>
  obtain⟨G,g1,g2⟩:=read_Z hr hx hts
  exact⟨_,_,G,[],rfl,g1,ih,by simp only [Bool.false_eq_true,if_false];exact⟨trivial,fun b hb=>hZ b (g2 b hb)⟩⟩
theorem ArgC.ok {I:Ip} {w0:Base} {w:World} {a:Act} (hr:RelI I w0 σ a w) {F:List Nat} (hZ:∀ b,I.Z b→b∉F) {xo:Operand} {x0:V0} (hx0:V0r true w x0 (a.eval xo) F) {l:List Operand} {ins:List (Bool×V0)} (h:ArgC σ xo x0 l ins):V0c w F ins (l.map a.eval) F:=by
 induction h with
 | own h=>exact⟨_,_,F,[],rfl,hx0,h.ok hr hZ,by simp⟩
 | cons hx hts h ih=>
  obtain⟨G,g1,g2⟩:=read_Z hr hx hts
  exact⟨_,_,G,F,rfl,g1,ih,by simp only [Bool.false_eq_true,if_false];exact⟨trivial,fun b hb=>hZ b (g2 b hb)⟩⟩
theorem Da {f:FuncId} {xo:Operand} {l:List Operand} {tys:Array TypeId} {ins:List (Bool×V0)} {out:V} {A0:A} {ts:List T} {σ':St} {y:S} {rs:List (Nat×R)} (n:Nat) (h:FnC P f ins out) (ho:o.op=.call { callee:=.value (.func f),args:=l.toArray,argTypes:=tys }) (hg:o.guard=none) (hd:o.dst.all (fun d=>Nat.blt d σ.n)=true)
 (hx:Get σ true xo A0) (ha:absorb σ (cellsA A0)=some (σ',ts)) (hl:Nat.beq ts.length (cellsA A0).length=true) (hargs:ArgC σ' xo (V0of A0 ts) l ins) (hout:outV n out=some (y,rs)) (hf:(rs.all fun x=>!σ'.has x.1)=true):Op1 P ops o σ ((σ'.adds rs).put o.dst (true,y)):=by
 rintro w0 a w ⟨I,hr⟩ K Q hK
 simp only [Region.wanted,hg,if_true]
 obtain⟨cs,hes,hcs⟩:=V0of_r (hx.va hr rfl)
 obtain⟨I',G,r1,r2,r3,r4,_⟩:=RelI.absorb ha hr hes
 have hx0:=(hcs (oo:=true) (w':=w) (F:=G) (Nat.eq_of_beq_eq_true hl)).2 r2
 have hZ:∀ b,I'.Z b→b∉G:=fun b hz hb=>(r4 b hb).2.2.2.1 hz
 have hc:=hargs.ok r1 hZ hx0
 unfold Oper.wp
 rw [run_enter h.1 ho]
 refine (h.2 w _ G (r1.goodF fun b hb=>(r4 b hb).1) hc r3 fun b hb=>(r4 b hb).2.2.1).mono fun e w' hR=>?_
 obtain⟨v,F',rfl,h1,h2,h3,h4⟩:=hR
 have r1':=r1.chgF r4 h4
 have hfree:∀ b∈F',Free I' w0 w' b:=fun b hb=>by
  rcases (h3 b hb).1 with g|g
  · exact⟨.inl (Nat.le_trans r1.ext.size g),Vr.lt h1 b hb,(h3 b hb).2,fun hz=>by have:=r1.old b hz;omega,fun i hi=>by have:=(r1.lt i b hi).1;omega⟩
  exact⟨(r4 b g).1,Vr.lt h1 b hb,(h3 b hb).2,(r4 b g).2.2.2.1,(r4 b g).2.2.2.2⟩
 obtain⟨I2,g1,g2⟩:=outV_ok hout hf r1' h1 h2 hfree
 refine hK _ _ ⟨I2,g1.put ?_ g2⟩
 have e1:(σ'.adds rs).n=σ'.n:=adds_n rs
 rw [e1,absorb_n ha];exact hd
variable {w0:Base} {Q:Exit→St→Prop} {n:Nat} {sl:List (Nat×(Bool×S))} {rs:List (Nat×R)} {l:List Oper}
theorem Cu {d:Nat} {rl:List (Nat×R)} {σ':St} {x:Bool×S} (ho:Op1 P ops o ⟨n,sl,rs⟩ ((σ'.adds rl).put o.dst x)) (hd:o.dst=some d) (h:AWl P w0 ops Q l ⟨σ'.n,(d,x)::σ'.slots,addsR rl σ'.res⟩):AWl P w0 ops Q (o::l) ⟨n,sl,rs⟩:=
 AWl.op ho (by rw [hd,show σ'=⟨σ'.n,σ'.slots,σ'.res⟩ from rfl,adds_eq];exact h)
end
end Go.Q
namespace Go.Q
open Go.RowKit
section
variable {P:Program} {ops:Array Oper} {o:Oper} {σ:St} {q:Bool}
variable {w0:Base} {Q:Exit→St→Prop} {n:Nat} {sl:List (Nat×(Bool×S))} {rs:List (Nat×R)} {l:List Oper}
theorem RelI.take {I:Ip} {w:World} {a:Act} {id k i p k2:Nat} (nid:Nat) {rows rows2:List (List T)} {row:List T} (hr:RelI I w0 ⟨n,sl,rs⟩ a w) (hs:look rs id=some (.row k rows)) (hi:rows[i]?=some row) (hp:row[p]?=some (.sl k2 rows2))
 (hf:∀ c0,St.has ⟨n,puvS id sl,updR id (.row k (rows.set i (row.take p++.v c0::row.drop (p+1)))) rs⟩ nid=false) :
 ∃ c I',(∃ a l k,c=.slice a l k)∧RelI I' w0 ⟨n,puvS id sl,(nid,.row k2 rows2)::updR id (.row k (rows.set i (row.take p++.v c::row.drop (p+1)))) rs⟩ a w∧I'.hd nid=c∧∀ g n' m',I.hd id=.slice (some ⟨g,0,none⟩) n' m'→w.cell? ⟨g,i*k+p,none⟩=some c:=by
 have hC:C true w (.sl k rows) _ _:=hr.res id _ hs
 have own:=hr.own id _ hs
 simp only [C] at hC
 obtain⟨a0,len,cap,g1,g2,g3,g4,g5⟩:=hC
 have hlti:i<rows.length:=(List.getElem?_eq_some_iff.1 hi).1
 rcases g5 with ⟨g5,_⟩|⟨g,off,Gr,rfl,hF,g6,g7,g8⟩
 · omega
 obtain⟨rfl,cur,e,hcur,hcs⟩:=g7 trivial
 have hg1:=g1
 rw [hF] at own
 obtain⟨u1,xs,u2,u3,u4⟩:=g8.flat
 simp only [Nat.zero_add] at u4
 obtain⟨p1,_⟩:=set_split (.sl k2 rows2:T) hp
 have hrk:row.length=k:=u1 row (List.mem_of_getElem? hi)
 have hpl:p<row.length:=(List.getElem?_eq_some_iff.1 hp).1
 have s1:=(set_split row hi).1
 have e1:rows.flatten=((rows.take i).flatten++row.take p)++([.sl k2 rows2]++(row.drop (p+1)++(rows.drop (i+1)).flatten)):=by
  conv=>lhs;rw [s1,p1]
  simp
 rw [e1] at u2
 obtain⟨x1,x23,F1,F23,rfl,rfl,v1,v2,v3⟩:=u2.split
 obtain⟨x2,x3,F2,F3,rfl,rfl,v4,v5,v6⟩:=v2.split
 match x2,v6 with
 | [c],_=>
 have v4':C true w (.sl k2 rows2) c F2:=by
  rw [Cs] at v4
  obtain⟨c',cr,G1,G2,e,h1,h2,rfl⟩:=v4
  cases e
  rw [Cs] at h2
  obtain⟨_,rfl⟩:=h2
  simpa using h1
 have hfl:((rows.take i).flatten).length=i*k:=by
  have key:∀ (l:List (List T)),(∀ r∈l,r.length=k)→l.flatten.length=l.length*k:=by
   intro l
   induction l with
   | nil=>intro _;simp
   | cons r l ih=>intro h;rw [List.flatten_cons,List.length_append,ih fun r hr=>h r (by simp [hr]),h r (by simp),List.length_cons,Nat.succ_mul];omega
  rw [key _ fun r hr=>u1 r (List.mem_of_mem_take hr),List.length_take,Nat.min_eq_left (Nat.le_of_lt hlti)]
 have lx1:x1.length=i*k+p:=by rw [v3,List.length_append,hfl,List.length_take];omega
 have hc:=u4 (i*k+p) c (by rw [←lx1,List.getElem?_append_right (Nat.le_refl _),Nat.sub_self];rfl)
 have hsl:∃ a l k,c=.slice a l k:=by
  simp only [C] at v4'
  obtain⟨a1,l1,c1,e,_⟩:=v4'
  exact⟨_,_,_,e⟩
 have hnd:=List.nodup_cons.1 own.1
 obtain⟨d1,d23,d12⟩:=List.nodup_append.1 hnd.2
 obtain⟨d2,d3,d23'⟩:=List.nodup_append.1 d23
 have inG:∀ b,b∈g::(F1++F3)→b∈g::(F1++(F2++F3))∧b∉F2:=fun b hb=>by
  rcases List.mem_cons.1 hb with rfl|hb
  · exact⟨by simp,fun hm=>hnd.1 (by simp [hm])⟩
  rcases List.mem_append.1 hb with hb|hb
  · exact⟨by simp [hb],fun hm=>d12 b hb b (by simp [hm]) rfl⟩
  exact⟨by simp [hb],fun hm=>d23' b hm b hb rfl⟩
 have r1:=hr.upd (G:=g::(F1++F3)) (r:=.row k (rows.set i (row.take p++.v c::row.drop (p+1)))) hs (Chg.refl w _) ⟨List.nodup_cons.2 ⟨fun hm=>?_,List.nodup_append.2 ⟨d1,d3,fun b hb b' hb' e=>?_⟩⟩,fun b hb=>?_⟩ ?_
 · have r2:=r1.addF (hf c) (G:=F2) (u:=c) (b:=0) (r:=.row k2 rows2) d2 (fun b hb=>?_) (by
    show C true w (.sl k2 rows2) _ _
    simp only [Ip.set,if_true]
    exact v4')
   · refine⟨c,_,hsl,r2,by simp only [Ip.set,if_true],fun g0 n0 m0 h0=>?_⟩
     rw [hg1] at h0
     cases h0
     exact hc
   obtain⟨o1,cc,ee,o2⟩:=own.2 b (by simp [hb])
   have hlt:b<w.heap.size:=(Array.getElem?_eq_some_iff.1 o2).1
   refine⟨o1,hlt,⟨cc,ee,o2⟩,fun hz=>(hr.lt id b (by rw [hF];simp [hb])).2 hz,fun j hj=>?_⟩
   by_cases ej:j=id
   · simp only [Ip.set,if_pos ej] at hj
     exact (inG b hj).2 hb
   simp only [Ip.set,if_neg ej] at hj
   exact hr.apart j id ej b hj (by rw [hF];simp [hb])
 · rcases List.mem_append.1 hm with hm|hm
   · exact hnd.1 (by simp [hm])
   exact hnd.1 (by simp [hm])
 · subst e
   exact d12 b hb b (by simp [hb']) rfl
 · obtain⟨hin,_⟩:=inG b hb
   obtain⟨o1,cc,ee,o2⟩:=own.2 b hin
   exact⟨o1,(Array.getElem?_eq_some_iff.1 o2).1,⟨cc,ee,o2⟩,.inl (by rw [hF];exact hin)⟩
 show C true _ _ _ _
 simp only [Ip.set,if_true]
 unfold C
 refine⟨_,_,_,hg1,by simpa using g2,g3,g4,.inr ⟨g,0,F1++F3,rfl,rfl,g6,fun _=>⟨rfl,cur,e,hcur,hcs⟩,Rws.of (xs:=x1++([c]++x3)) (fun r hm=>?_) ?_ fun j u hj=>?_⟩⟩
 · rcases List.mem_or_eq_of_mem_set hm with hm|rfl
   · exact u1 r hm
   simp only [List.length_append,List.length_take,List.length_cons,List.length_drop]
   omega
 · rw [(set_split (row.take p++.v c::row.drop (p+1)) hi).2]
   have ef:(rows.take i++(row.take p++.v c::row.drop (p+1))::rows.drop (i+1)).flatten=((rows.take i).flatten++row.take p)++([.v c]++(row.drop (p+1)++(rows.drop (i+1)).flatten)):=by simp
   rw [ef]
   refine v1.append (Cs.append (F:=[]) ?_ v5)
   unfold Cs
   obtain⟨a1,l1,c1,rfl⟩:=hsl
   exact⟨_,[],[],[],rfl,by unfold C;exact⟨rfl,rfl,rfl⟩,by unfold Cs;exact⟨rfl,rfl⟩,rfl⟩
 rw [Nat.zero_add]
 exact u4 j u hj
theorem AW.takeR {code:Code} {id k i p k2:Nat} (nid hid:Nat) {rows rows2:List (List T)} {row:List T} (hs:look rs id=some (.row k rows)) (hi:rows[i]?=some row) (hp:row[p]?=some (.sl k2 rows2))
 (hf:∀ c0,St.has ⟨n,puvS id sl,updR id (.row k (rows.set i (row.take p++.v c0::row.drop (p+1)))) rs⟩ nid=false)
 (hf2:∀ c0,St.has ⟨n,puvS id sl,(nid,.row k2 rows2)::updR id (.row k (rows.set i (row.take p++.v c0::row.drop (p+1)))) rs⟩ hid=false)
 (h:∀ c0,AW P w0 code Q ⟨n,puvS id sl,(hid,.hdr (some nid) c0)::(nid,.row k2 rows2)::updR id (.row k (rows.set i (row.take p++.v c0::row.drop (p+1)))) rs⟩):AW P w0 code Q ⟨n,sl,rs⟩:=fun a w ⟨I,hr⟩=>by
 obtain⟨c,I',h1,h2,h3,h4⟩:=hr.take nid hs hi hp hf
 have hne:nid≠hid:=fun e=>by
  have:=hf2 c
  simp [St.has,e,Nat.beq_refl] at this
 refine h c a w ⟨_,h2.addF (id:=hid) (G:=[]) (u:=undef) (b:=0) (r:=.hdr (some nid) c) (hf2 c) List.nodup_nil (by simp) ⟨by simp [Ip.set],fun j hj=>?_⟩⟩
 cases hj
 simp only [Ip.set,if_neg hne]
 exact h3
end
end Go.Q
namespace Go.Q
open Go.RowKit
section
variable {P:Program} {ops:Array Oper} {o:Oper} {σ:St} {q:Bool}
theorem C.hdr {o:Bool} {w:World} {k:Nat} {rows:List (List T)} {a:Option Addr} {n m:Nat} {F:List Nat} (h:C o w (.sl k rows) (.slice a n m) F):rows.length=n∧n≤m∧m≤maxLen:=by
 simp only [C] at h
 obtain⟨a',n',m',e,h1,h2,h3,_⟩:=h
 cases e
 exact⟨h1,h2,h3⟩
theorem C.blk {w:World} {k:Nat} {rows:List (List T)} {a:Option Addr} {n m:Nat} {F:List Nat} (h:C true w (.sl k rows) (.slice a n m) F):(m=0∧F=[]∧rows=[])∨∃ g G cur e,a=some ⟨g,0,none⟩∧F=g::G∧w.heap[g]?=some (.cells cur e (0,0))∧cur.size=m*k∧Rws true w g k 0 rows G:=by
 simp only [C] at h
 obtain⟨a',n',m',e,h1,h2,h3,h4⟩:=h
 cases e
 rcases h4 with ⟨h4,rfl,h5⟩|⟨b,off,G,rfl,rfl,h6,h7,h8⟩
 · exact .inl ⟨h5 trivial,rfl,List.eq_nil_of_length_eq_zero (by omega)⟩
 obtain⟨rfl,cur,e,h9,h10⟩:=h7 trivial
 exact .inr ⟨b,G,cur,e,rfl,rfl,h9,h10,h8⟩
theorem R_len_tl {id k j:Nat} {rows:List (List T)} {x:Operand} {t e:TypeId} (ho:o.op=.call { callee:=.builtin .len,args:=#[x],argTypes:=#[t] }) (hg:Grd ops o σ q) (hd:o.dst.all (fun d=>Nat.blt d σ.n)=true)
 (hx:Get σ q x (.one (.tl id k j))) (hs:look σ.res id=some (.row k rows)) (hu:P.underlying t=some (.slice e)):Op1 P ops o σ (σ.put o.dst (q,.a (.one (.t (.v (.int .i64 ((rows.length-j:Nat):Int))))))):=
 .val hg hd fun I w0 a w hr hq=>by
  obtain⟨a0,a',n,m,h1,h2,h3,h4,h5⟩:VE I w (.tl id k j) (a.eval x):=hx.va hr hq
  have hC:C true w (.sl k rows) (I.hd id) (I.F id):=hr.res id _ hs
  rw [h1] at hC
  obtain⟨e1,e2,e3⟩:=hC.hdr
  refine⟨.int .i64 ((rows.length-j:Nat):Int),?_,[],by unfold C;exact⟨rfl,rfl,rfl⟩,by simp⟩
  simp [execOp,ho,resolve,invoke,builtin,Builtin.len_,h2,run_underlying hu,Builtin.lenOf,e1]
  rfl
theorem Dk {id k j:Nat} {t e:TypeId} {x y:Operand} {n:Int} {ag:Bool} {rows:List (List T)} {row:List T} (ho:o.op=.indexAddr t x y) (hg:Grd ops o σ q) (hd:o.dst.all (fun d=>Nat.blt d σ.n)=true) (hx:Get σ q x (.one (.tl id k j)))
 (hs:look σ.res id=some (.row k rows)) (hy:Get σ q y (.one (.t (.v (.int .i64 n))))) (hu:P.underlying t=some (.slice e)) (hk:tyB P e ag k=true) (hi:q=true→0≤n∧rows[j+n.toNat]?=some row):Op1 P ops o σ (σ.put o.dst (q,.a (.one (.pr id k (j+n.toNat) 0)))):=
 .val hg hd fun I w0 a w hr hq=>by
  obtain⟨a0,a',N,M,h1,h2,h3,h4,h5⟩:VE I w (.tl id k j) (a.eval x):=hx.va hr hq
  have hC:C true w (.sl k rows) (I.hd id) (I.F id):=hr.res id _ hs
  rw [h1] at hC
  obtain⟨e1,e2,e3⟩:=hC.hdr
  obtain⟨h0,hi⟩:=hi hq
  have hlt:j+n.toNat<rows.length:=(List.getElem?_eq_some_iff.1 hi).1
  obtain⟨g,rfl,rfl⟩:=h5 (by omega)
  have hn:n<((N-j:Nat):Int):=by omega
  refine⟨.pointer (some ⟨g,j*k+n.toNat*k,none⟩),?_,g,N,M,h1,by rw [Nat.add_mul];simp⟩
  simp [execOp,ho,hy.int hr hq,h2,Instr.indexAt,asIntOf,run_underlying hu,h0,hn,tyB_size hk,Addr.add_lit]
theorem R_slice_rf {id k m:Nat} {t e:TypeId} {x:Operand} {lo:Option Operand} {ag:Bool} {rows:List (List T)} (ho:o.op=.slice t x lo none none) (hg:Grd ops o σ q) (hd:o.dst.all (fun d=>Nat.blt d σ.n)=true) (hx:Get σ q x (.one (.rf id)))
 (hs:look σ.res id=some (.row k rows)) (hl:Bnd σ q lo 0 m) (hu:P.underlying t=some (.slice e)) (hk:tyB P e ag k=true) (hb:q=true→m≤rows.length):Op1 P ops o σ (σ.put o.dst (q,.a (.one (.tl id k m)))):=
 .val hg hd fun I w0 a w hr hq=>by
  obtain⟨h1,a0,N,M,h2⟩:VE I w (.rf id) (a.eval x):=hx.va hr hq
  have hC:C true w (.sl k rows) (I.hd id) (I.F id):=hr.res id _ hs
  rw [←h1,h2] at hC
  obtain⟨e1,e2,e3⟩:=hC.hdr
  have hb:=hb hq
  have hrun:(Instr.sliceAt t (.slice a0 N M) (lo.map a.eval) none none).run P w=.ok (.slice (if M=m then a0 else a0.map (·.add (m*k))) (N-m) (M-m)) w:=by
   have b1:m≤M:=by omega
   have b2:m≤N:=by omega
   rcases hl.val hr hq with ⟨h6,rfl⟩|h6<;>rw [h6]<;>simp [Instr.sliceAt,Instr.slice,run_underlying hu,Instr.sliceBounds,Instr.sliceBound,asIntOf,tyB_size hk,b1,b2,e2]
  refine⟨.slice (if M=m then a0 else a0.map (·.add (m*k))) (N-m) (M-m),by simp [execOp,ho,h2,hrun],a0,(if M=m then a0 else a0.map (·.add (m*k))),N,M,by rw [←h1,h2],rfl,by omega,e2,fun hm=>?_⟩
  rcases hC.blk with ⟨h3,_⟩|⟨g,G,cur,e,rfl,_⟩
  · omega
  refine⟨g,rfl,?_⟩
  rw [if_neg (by omega)]
  simp [Addr.add_lit]
def OpE (P:Program) (ops:Array Oper) (o:Oper) (σ:St) (Φ:St→Prop):Prop:=∀ w0 a w,Rel w0 σ a w→∀ (K:Act→World→Prop) (Q:Exit→Act→World→Prop),(∀ σ' a' w',Φ σ'→Rel w0 σ' a' w'→K a' w')→
 if Region.wanted o (yielded ops a.tmps) then o.wp P a w K Q else K (a.put o.dst undef) w
theorem OpE.eff {Φ:St→Prop} (hg:o.guard=none) (h:∀ w0 a w,Rel w0 σ a w→∃ v w' σ',(execOp a.eval o).run P w=.ok (.value v) w'∧Φ σ'∧Rel w0 σ' (a.put o.dst v) w'):OpE P ops o σ Φ:=by
 intro w0 a w hr K Q hK
 simp only [Region.wanted,hg,if_true]
 obtain⟨v,w',σ',h1,h2,h3⟩:=h w0 a w hr
 unfold Oper.wp
 rw [h1]
 exact hK _ _ _ h2 h3
theorem Bf {w0:Base} {Q:Exit→St→Prop} {l:List Oper} {Φ:St→Prop} (ho:OpE P ops o σ Φ) (h:∀ σ',Φ σ'→AWl P w0 ops Q l σ'):AWl P w0 ops Q (o::l) σ:=fun a w hr=>
 wpList_step fun K hK=>ho w0 a w hr K _ fun σ' a' w' hφ hr'=>hK a' w' (h σ' hφ a' w' hr')
variable {w0:Base} {Q:Exit→St→Prop} {n:Nat} {sl:List (Nat×(Bool×S))} {rs:List (Nat×R)} {l:List Oper}
end
end Go.Q
namespace Go.Q
open Go.RowKit
section
variable {P:Program} {ops:Array Oper} {o:Oper} {σ:St} {q:Bool}
theorem Rws.takeN {w:World} {b k:Nat}:∀ {rows:List (List T)} {off:Nat} {G:List Nat},Rws true w b k off rows G→G.Nodup→∀ m,∃ G',Rws true w b k off (rows.take m) G'∧G'.Sublist G
 | [],off,G,h,_,m=>⟨G,by simpa using h,List.Sublist.refl _⟩
 | row::rows,off,G,h,hn,0=>⟨[],by simp [Rws],by simp⟩
 | row::rows,off,G,h,hn,m+1=>by
  simp only [Rws] at h
  obtain⟨G1,G2,h1,h2,h3,rfl⟩:=h
  obtain⟨G',g1,g2⟩:=Rws.takeN h3 (List.nodup_append.1 hn).2.1 m
  refine⟨G1++G',?_,List.Sublist.append (List.Sublist.refl _) g2⟩
  rw [List.take_succ_cons]
  simp only [Rws]
  exact⟨G1,G',h1,h2,g1,rfl⟩
theorem R_cut {id k m:Nat} {t e:TypeId} {x:Operand} {hi:Option Operand} {ag:Bool} {rows:List (List T)} (ho:o.op=.slice t x none hi none) (hg:o.guard=none) (hd:o.dst.all (fun d=>Nat.blt d σ.n)=true) (hx:Get σ true x (.one (.rf id)))
 (hs:look σ.res id=some (.row k rows)) (hh:Bnd σ true hi rows.length m) (hu:P.underlying t=some (.slice e)) (hk:tyB P e ag k=true) (hb:m≤rows.length):Op1 P ops o σ ((σ.chg id (.row k (rows.take m))).put o.dst (true,.a (.one (.rf id)))):=
 .eff hg fun w0 a w ⟨I,hr⟩=>by
  obtain⟨h1,a0,N,M,h2⟩:VE I w (.rf id) (a.eval x):=hx.va hr rfl
  have hC:C true w (.sl k rows) (I.hd id) (I.F id):=hr.res id _ hs
  have own:=hr.own id _ hs
  rw [←h1,h2] at hC
  obtain⟨e1,e2,e3⟩:=hC.hdr
  have hrun:(Instr.sliceAt t (.slice a0 N M) none (hi.map a.eval) none).run P w=.ok (.slice (if M=0 then a0 else a0.map (·.add (0*k))) (m-0) (M-0)) w:=by
   have b1:m≤M:=by omega
   rcases hh.val hr rfl with ⟨h6,rfl⟩|h6<;>rw [h6]<;>simp [Instr.sliceAt,Instr.slice,run_underlying hu,Instr.sliceBounds,Instr.sliceBound,asIntOf,tyB_size hk,b1,e1,e2]
  have hadr:(if M=0 then a0 else a0.map (·.add (0*k)))=a0:=by
   split
   · rfl
   cases a0 with
   | none=>rfl
   | some ga=>obtain⟨g,off,sp⟩:=ga;simp [Addr.add]
  rw [hadr,Nat.sub_zero,Nat.sub_zero] at hrun
  rcases hC.blk with ⟨h3,h4,h5⟩|⟨g,G,cur,e',rfl,h4,h5,h6,h7⟩
  · subst h5
    have hm0:m=0:=by simpa using hb
    have hN0:N=0:=by simpa using e1.symm
    have hR:=hr.chg hs (Chg.refl _ _) (G:=[]) (u:=.slice a0 m M) (r:=.row k (([]:List (List T)).take m)) ⟨List.nodup_nil,by simp⟩ (by
     show C true _ _ _ _
     simp only [Ip.set,if_true]
     unfold C
     exact⟨_,_,_,rfl,by simp;omega,by omega,e3,.inl ⟨hm0,rfl,fun _=>h3⟩⟩)
    exact⟨.slice a0 m M,w,by simp [execOp,ho,h2,hrun],_,hR.put hd ⟨by simp [Ip.set],a0,m,M,rfl⟩⟩
  rw [h4] at own
  have hnd:=List.nodup_cons.1 own.1
  obtain⟨G',g1,g2⟩:=h7.takeN hnd.2 m
  have hR:=hr.chg hs (Chg.refl _ _) (G:=g::G') (u:=.slice (some ⟨g,0,none⟩) m M) (r:=.row k (rows.take m)) ⟨List.nodup_cons.2 ⟨fun hm=>hnd.1 (g2.subset hm),hnd.2.sublist g2⟩,fun b hb=>by
   have hin:b∈g::G:=by
    rcases List.mem_cons.1 hb with rfl|hb
    · simp
    simp [g2.subset hb]
   obtain⟨o1,o2⟩:=own.2 b hin
   exact⟨o1,(hr.lt id b (by rw [h4];exact hin)).1,o2,.inl (by rw [h4];exact hin)⟩⟩ (by
   show C true _ _ _ _
   simp only [Ip.set,if_true]
   unfold C
   exact⟨_,_,_,rfl,by simp;omega,by omega,e3,.inr ⟨g,0,G',rfl,rfl,(Array.getElem?_eq_some_iff.1 h5).1,fun _=>⟨rfl,cur,e',h5,h6⟩,g1⟩⟩)
  exact⟨.slice (some ⟨g,0,none⟩) m M,w,by simp [execOp,ho,h2,hrun],_,hR.put hd ⟨by simp [Ip.set],some ⟨g,0,none⟩,m,M,rfl⟩⟩
theorem zeroCells_flat (zs:List Value) (n:Nat):(Builtin.zeroCells zs.toArray n).toList=(List.replicate n zs).flatten:=by
 unfold Builtin.zeroCells
 rw [←made_flat zs (.inr trivial) n]
 simp
theorem R_clear {id k j bytes:Nat} {t e:TypeId} {x:Operand} {z:Value} {zs:List Value} {rows:List (List T)} (ho:o.op=.call { callee:=.builtin .clear,args:=#[x],argTypes:=#[t] }) (hg:o.guard=none) (hd:o.dst=none) (hx:Get σ true x (.one (.tl id k j)))
 (hs:look σ.res id=some (.row k rows)) (hu:P.underlying t=some (.slice e)) (hi:(P.info? e).map (fun i=>(i.zero,i.size,i.bytes))=some (some z,k,bytes)) (hz:z.cells=zs.toArray) (hk:(Nat.beq zs.length k&&zs.all Value.oneCell')=true) :
 Op1 P ops o σ (σ.upd id (.row k (rows.take j++List.replicate (rows.length-j) (zs.map .v)))):=
 .eff hg fun w0 a w ⟨I,hr⟩=>by
  simp only [Bool.and_eq_true] at hk
  have hzk:=Nat.eq_of_beq_eq_true hk.1
  obtain⟨a0,a',N,M,h1,h2,h3,h4,h5⟩:VE I w (.tl id k j) (a.eval x):=hx.va hr rfl
  have hC:C true w (.sl k rows) (I.hd id) (I.F id):=hr.res id _ hs
  have hC0:=hC
  have own:=hr.own id _ hs
  rw [h1] at hC
  obtain⟨e1,e2,e3⟩:=hC.hdr
  obtain⟨i,hi1,hi2,hi3,hi4⟩:=info_parts hi
  subst hi3
  by_cases hj:j=N
  · have hrun:(Builtin.clear_ #[t] o.type #[a.eval x]).run P w=.ok (.tuple #[]) w:=by
     rw [h2,show N-j=0 by omega]
     cases a'<;>simp [Builtin.clear_,run_underlying hu]
    have er:rows.take j++List.replicate (rows.length-j) (zs.map T.v)=rows:=by
     rw [show rows.length-j=0 by omega,List.take_of_length_le (by omega)];simp
    rw [er]
    have hR:=hr.upd (G:=I.F id) (r:=.row i.size rows) hs (Chg.refl _ _) ⟨own.1,fun b hb=>⟨(own.2 b hb).1,(hr.lt id b hb).1,(own.2 b hb).2,.inl hb⟩⟩ (by show C true _ _ _ _;simpa [Ip.set] using hC0)
    exact⟨.tuple #[],w,by simp [execOp,ho,resolve,invoke,builtin,hrun],_,by rw [hd];exact hR⟩
  have hjN:j<N:=by omega
  obtain⟨g',rfl,rfl⟩:=h5 (by omega)
  rcases hC.blk with ⟨q1,_⟩|⟨g,G,cur,e',q1,q2,q3,q4,q5⟩
  · omega
  cases q1
  have hvals:∀ v∈(List.replicate (N-j) zs).flatten,v.oneCell'=true:=fun v hv=>by
   rw [List.mem_flatten] at hv
   obtain⟨l,hl,hv⟩:=hv
   rw [(List.mem_replicate.1 hl).2] at hv
   exact List.all_eq_true.1 hk.2 v hv
  have hlen:((List.replicate (N-j) zs).flatten).length=(N-j)*i.size:=by simp [hzk]
  have hjk:j*i.size+(N-j)*i.size=N*i.size:=by rw [←Nat.add_mul];congr 1;omega
  have hNM:N*i.size≤M*i.size:=Nat.mul_le_mul_right _ e2
  have hst:=run_storeCells_at P g' (j*i.size) e' ((List.replicate (N-j) zs).flatten) 0 cur w q3 (by rw [hlen,q4];omega) hvals
  simp only [Nat.add_zero] at hst
  have hzv:(zeroValue e).run P w=.ok z w:=by simp [zeroValue,typeInfo,hi1,hi2]
  have hrun:(Builtin.clear_ #[t] o.type #[a.eval x]).run P w=.ok (.tuple #[]) (w.setRow g' (cur.toList.take (j*i.size)++(List.replicate (N-j) zs).flatten++cur.toList.drop (j*i.size+((List.replicate (N-j) zs).flatten).length)).toArray):=by
   rw [h2]
   have hnz:∃ n',N-j=n'+1:=⟨N-j-1,by omega⟩
   obtain⟨n',hn'⟩:=hnz
   have hzc:(Builtin.zeroCells z.cells (N-j)).toList=(List.replicate (N-j) zs).flatten:=by rw [hz];exact zeroCells_flat zs _
   rw [←hzc,hn'] at hst ⊢
   simp [Builtin.clear_,run_underlying hu,hzv,hst]
  generalize harr:(cur.toList.take (j*i.size)++(List.replicate (N-j) zs).flatten++cur.toList.drop (j*i.size+((List.replicate (N-j) zs).flatten).length)).toArray=arr at hrun
  have hgn:(w.setRow g' arr).heap[g']?=some (.cells arr e' (0,0)):=setRow_heap w g' cur _ e' _ q3
  have hsz:arr.size=M*i.size:=by
   rw [←harr,←q4]
   simp only [List.size_toArray,List.length_append,List.length_take,List.length_drop,Array.length_toList,hlen]
   omega
  have hch:Chg w (w.setRow g' arr) (I.F id):=⟨rfl,rfl,rfl,by simp [World.setRow],fun b _ hb=>setRow_other w g' b _ (fun e=>hb (by rw [q2,e];simp))⟩
  rw [q2] at own
  have hnd:=List.nodup_cons.1 own.1
  obtain⟨G',g1,g2⟩:=q5.takeN hnd.2 j
  obtain⟨s1,xs,s2,s3,s4⟩:=g1.flat
  simp only [Nat.zero_add] at s4
  have hxl:xs.length=j*i.size:=by rw [s3,List.length_take];congr 1;omega
  have hxs:cur.toList.take (j*i.size)=xs:=by
   apply List.ext_getElem?;intro p
   by_cases hp:p<xs.length
   · have:=s4 p _ (List.getElem?_eq_getElem hp)
     simp only [World.cell?,q3] at this
     rw [List.getElem?_take,if_pos (by omega),List.getElem?_eq_getElem hp]
     simpa using this
   rw [List.getElem?_eq_none (by simp;omega),List.getElem?_eq_none (by omega)]
  have hgne:∀ b∈G',b≠g':=fun b hb e=>hnd.1 (e▸g2.subset hb)
  have hR:=hr.upd (G:=g'::G') (r:=.row i.size (rows.take j++List.replicate (rows.length-j) (zs.map .v))) hs hch ⟨List.nodup_cons.2 ⟨fun hm=>hnd.1 (g2.subset hm),hnd.2.sublist g2⟩,fun b hb=>by
   have hin:b∈g'::G:=by
    rcases List.mem_cons.1 hb with rfl|hb
    · simp
    simp [g2.subset hb]
   obtain⟨o1,o2⟩:=own.2 b hin
   refine⟨o1,Nat.lt_of_lt_of_le (hr.lt id b (by rw [q2];exact hin)).1 hch.size,?_,.inl (by rw [q2];exact hin)⟩
   by_cases eb:b=g'
   · subst eb;exact⟨.inl _,_,hgn⟩
   · obtain⟨cc,ee,o3⟩:=o2
     exact⟨cc,ee,(setRow_other w g' b _ eb).trans o3⟩⟩ (by
   show C true _ _ _ _
   simp only [Ip.set,if_true]
   rw [h1]
   unfold C
   refine⟨_,_,_,rfl,by simp;omega,e2,e3,.inr ⟨g',0,G',rfl,rfl,(Array.getElem?_eq_some_iff.1 hgn).1,fun _=>⟨rfl,arr,e',hgn,hsz⟩,Rws.of (xs:=xs++(List.replicate (N-j) zs).flatten) (fun row hm=>?_) ?_ fun p u hp=>?_⟩⟩
   · rcases List.mem_append.1 hm with hm|hm
     · exact s1 row hm
     rw [(List.mem_replicate.1 hm).2,List.length_map];exact hzk
   · rw [List.flatten_append]
     have s2':Cs true (w.setRow g' arr) (rows.take j).flatten xs G':=s2.congr fun b hb=>setRow_other w g' b _ (hgne b hb)
     have s3':Cs true (w.setRow g' arr) (List.replicate (rows.length-j) (zs.map T.v)).flatten ((List.replicate (N-j) zs).flatten) []:=by
      rw [flatten_replicate_map,e1]
      exact Cs_vals (List.all_eq_true.2 hvals)
     simpa using s2'.append s3'
   simp only [World.cell?,hgn,Nat.zero_add]
   rw [←harr,hxs]
   have hlt:=(List.getElem?_eq_some_iff.1 hp).1
   simp only [Option.isSome_none,Bool.false_eq_true,if_false,List.getElem?_toArray]
   rw [List.getElem?_append_left hlt];exact hp)
  exact⟨.tuple #[],w.setRow g' arr,by simp [execOp,ho,resolve,invoke,builtin,hrun],_,by rw [hd];exact hR⟩
def FnS (P:Program) (f:FuncId) (k:Nat) (rows:List (List T)) (kv:Value) (rows':List (List T)):Prop:=
 Callee P f∧∀ w v F,Good w F→C true w (.sl k rows) v F→F.Nodup→(∀ b∈F,Thaw w b)→Calls P f (List.toArray [v,kv]) w fun e w'=>e=.returned (.tuple #[])∧Chg w w' F∧∃ F',C true w' (.sl k rows') v F'∧F'.Nodup∧∀ b∈F',b∈F∧Thaw w' b
theorem R_sortc {f:FuncId} {xo ko:Operand} {tys:Array TypeId} {id k:Nat} {g:FuncId} {rows rows':List (List T)} (ho:o.op=.call { callee:=.value (.func f),args:=[xo,ko].toArray,argTypes:=tys }) (hg:o.guard=none) (hd:o.dst.all (fun d=>Nat.blt d σ.n)=true)
 (hx:Get σ true xo (.one (.rf id))) (hs:look σ.res id=some (.row k rows)) (hk:Get σ true ko (.one (.t (.fn (.func g) [] [])))) (h:FnS P f k rows (.func (.func g) #[] #[]) rows'):Op1 P ops o σ ((σ.upd id (.row k rows')).put o.dst (true,.tup [])):=by
 rintro w0 a w ⟨I,hr⟩ K Q hK
 simp only [Region.wanted,hg,if_true]
 obtain⟨h1,a0,N,M,h2⟩:VE I w (.rf id) (a.eval xo):=hx.va hr rfl
 have hC:C true w (.sl k rows) (I.hd id) (I.F id):=hr.res id _ hs
 have own:=hr.own id _ hs
 have hkv:a.eval ko=.func (.func g) #[] #[]:=by
  obtain⟨G,k1,_⟩:VE I w (.t (.fn (.func g) [] [])) (a.eval ko):=hk.va hr rfl
  simp only [C] at k1
  obtain⟨xs,ys,G1,G2,k2,k3,k4,_⟩:=k1
  simp only [Cs] at k3 k4
  rw [k2,k3.1,k4.1]
 unfold Oper.wp
 rw [run_enter h.1 ho]
 have hcall:=h.2 w _ _ (hr.goodF fun b hb=>(own.2 b hb).1) hC own.1 fun b hb=>(own.2 b hb).2
 rw [←h1,←hkv] at hcall
 refine hcall.mono fun e w' hR=>?_
 obtain⟨rfl,h4,F',h5,h6,h7⟩:=hR
 refine hK _ _ ⟨_,(hr.upd (G:=F') (r:=.row k rows') hs h4 ⟨h6,fun b hb=>⟨(own.2 b (h7 b hb).1).1,C.lt h5 b hb,(h7 b hb).2,.inl (h7 b hb).1⟩⟩ (by show C true _ _ _ _;simp only [Ip.set,if_true];rw [←h1];exact h5)).put (by exact hd) ⟨[],rfl,rfl⟩⟩
theorem R_load_prq {id k i p:Nat} {t:TypeId} {x:Operand} {rows:List (List T)} {row:List T} {ag:Bool} {n:Nat} (ho:o.op=.load t x) (hg:Grd ops o σ q) (hd:o.dst.all (fun d=>Nat.blt d σ.n)=true) (hx:Get σ q x (.one (.pr id k i p))) (hs:look σ.res id=some (.row k rows)) (hi:q=true→rows[i]?=some row) (ht:tyB P t ag n=true)
 (hn:Nat.ble (p+n) row.length=true) (h1:(ag||Nat.beq n 1)=true):Op1 P ops o σ (σ.put o.dst (q,.a (mkA ag (((row.drop p).take n).map (toE id))))):=by
 cases q with
 | true=>exact Bx ho hg hd hx hs (hi rfl) ht hn h1
 | false=>exact .val hg hd fun I w0 a w hr hq=>by cases hq
theorem Dw {f:FuncId} {l:List Operand} {tys:Array TypeId} {ins:List V0} {out:V} (ho:o.op=.call { callee:=.value (.func f),args:=l.toArray,argTypes:=tys }) (hg:Grd ops o σ q) (hd:o.dst.all (fun d=>Nat.blt d σ.n)=true)
 (ha:Args σ q l ins) (h:q=true→FrT P f ins out):Op1 P ops o σ (σ.put o.dst (q,inS out)):=by
 cases q with
 | true=>exact A3 (h rfl) ho hg hd ha
 | false=>
  rintro w0 a w ⟨I,hr⟩ K Q hK
  rw [hg.wanted hr]
  exact hK _ _ ⟨I,hr.put hd rfl⟩
theorem isV_map {α:Type} {f:α→List T} (h:∀ x,(f x).all T.isV=true):∀ l:List α,(l.map f).flatten.all T.isV=true
 | []=>rfl
 | x::l=>by rw [List.map_cons,List.flatten_cons,List.all_append,h x,isV_map h l];rfl
theorem isV_part {α:Type} {f:α→List T} (h:∀ x,(f x).all T.isV=true) (l:List α) (n m:Nat):(((l.map f).take m).drop n).flatten.all T.isV=true:=by
 rw [←List.map_take,←List.map_drop];exact isV_map h _
theorem R_slice_vwr {id:Nat} {t e:TypeId} {x:Operand} {lo hi:Option Operand} {k n m:Nat} {ag:Bool} {rows:List (List T)} (ho:o.op=.slice t x lo hi none) (hg:Grd ops o σ q) (hd:o.dst.all (fun d=>Nat.blt d σ.n)=true) (hx:Get σ q x (.one (.rf id))) (hs:look σ.res id=some (.row k rows))
 (hl:Bnd σ q lo 0 n) (hh:Bnd σ q hi rows.length m) (hu:P.underlying t=some (.slice e)) (hk:tyB P e ag k=true) (hb:q=true→n≤m∧m≤rows.length):Op1 P ops o σ (σ.put o.dst (q,.a (.one (.vw id (.sl k ((rows.take m).drop n)))))):=
 .val hg hd fun I w0 a w hr hq=>by
  have hv:VE I w (.rf id) (a.eval x):=hx.va hr hq
  have hC:C true w (.sl k rows) (I.hd id) (I.F id):=hr.res id _ hs
  obtain⟨v',F',g1,g2,g3⟩:=slice_C hu hk (C.read hC) (hl.val hr hq) (hh.val hr hq) (hb hq).2 (hb hq).1
  rw [←hv.1] at g1
  exact⟨v',by simp [execOp,ho,g1],F',g2,g3⟩
theorem Rws_nils {w:World} {b k':Nat}:∀ {n off:Nat} {G:List Nat},Rws true w b 1 off (List.replicate n [.v (.slice none 0 0)]) G→Rws true w b 1 off (List.replicate n [.sl k' []]) G
 | 0,_,_,h=>h
 | n+1,off,G,h=>by
  rw [List.replicate_succ] at h ⊢
  simp only [Rws] at h ⊢
  obtain⟨G1,G2,h1,h2,h3,rfl⟩:=h
  refine⟨G1,G2,rfl,?_,Rws_nils h3,rfl⟩
  simp only [Ms] at h2 ⊢
  obtain⟨c,G3,G4,h4,h5,h6,rfl⟩:=h2
  refine⟨c,G3,G4,h4,?_,h6,rfl⟩
  simp only [C] at h5
  obtain⟨rfl,rfl,_⟩:=h5
  unfold C
  exact⟨none,0,0,rfl,rfl,Nat.le_refl _,Nat.zero_le _,.inl ⟨rfl,rfl,fun _=>rfl⟩⟩
theorem C_nils {w:World} {n k':Nat} {v:Value} {F:List Nat} (h:C true w (.sl 1 (List.replicate n [.v (.slice none 0 0)])) v F):C true w (.sl 1 (List.replicate n [.sl k' []])) v F:=by
 simp only [C] at h ⊢
 obtain⟨a,len,cap,h1,h2,h3,h4,h5⟩:=h
 refine⟨a,len,cap,h1,by simpa using h2,h3,h4,?_⟩
 rcases h5 with h5|⟨b,off,G,h6,h7,h8,h9,h10⟩
 · exact .inl h5
 exact .inr ⟨b,off,G,h6,h7,h8,h9,Rws_nils h10⟩
theorem RelI.rerow {I:Ip} {w0:Base} {w:World} {a:Act} (h:RelI I w0 σ a w) {id:Nat} {r0 r:R} (h0:look σ.res id=some r0) (hv:RR I w id r0→RR I w id r):RelI I w0 ⟨σ.n,σ.slots,setR σ.res id r⟩ a w:=by
 have key:∀ i r',look (setR σ.res id r) i=some r'→(i=id∧r'=r)∨look σ.res i=some r':=fun i r' hi=>by
  rcases look_setR _ _ _ _ _ hi with ⟨h1,h2,_⟩|⟨_,h2⟩
  · exact .inl ⟨h1,h2⟩
  exact .inr h2
 refine⟨h.ext,h.defers,h.size,h.slots,fun i r' hi=>?_,h.old,h.lt,fun i r' hi=>?_,h.apart⟩
 · rcases key i r' hi with ⟨rfl,rfl⟩|hi
   · exact hv (h.res _ _ h0)
   exact h.res i r' hi
 rcases key i r' hi with ⟨rfl,rfl⟩|hi
 · exact h.own _ _ h0
 exact h.own i r' hi
theorem Le.nilRow {n0:Nat} {sl:List (Nat×(Bool×S))} {rs:List (Nat×R)} {id m:Nat} (k':Nat) (hs:look rs id=some (.row 1 (List.replicate m [.v (.slice none 0 0)]))):Le ⟨n0,sl,rs⟩ ⟨n0,sl,setR rs id (.row 1 (List.replicate m [.sl k' []]))⟩:=fun w0 a w ⟨I,hr⟩=>
 ⟨I,hr.rerow (r:=.row 1 (List.replicate m [.sl k' []])) hs fun h=>C_nils h⟩
end
end Go.Q
namespace Go.Q
open Go.RowKit
section
variable {P:Program}
theorem stL_res0 (L:Nat→Bool):∀ (outs:List Out) (i:Nat) (σ:St),(∀ y∈outs,y.2.2=[])→(stL L i outs σ).res=σ.res
 | [],_,_,_=>rfl
 | y::r,i,σ,h=>by
  rw [stL,stL_res0 L r (i+1) _ fun z hz=>h z (by simp [hz])]
  cases L i with
  | false=>rfl
  | true=>simp only [cond_true];rw [h y (by simp)];rfl
theorem stL_look {L:Nat→Bool} {outs:List Out} {σ:St} (hno:∀ y∈outs,look σ.slots y.1=none) (hun:∀ (i j:Nat) (y z:Out),outs[i]?=some y→outs[j]?=some z→y.1=z.1→i=j) (t:Nat) (x:Bool×S) :
 look (stL L 0 outs σ).slots t=some x↔(∃ j y,outs[j]?=some y∧L j=true∧y.1=t∧y.2.1=x)∨look σ.slots t=some x:=by
 by_cases hex:∃ j y,outs[j]?=some y∧L j=true∧y.1=t
 · obtain⟨j,y,hy,hj,rfl⟩:=hex
   have e:=stL_slot (L:=L) outs 0 σ j y hy (by rw [Nat.zero_add];exact hj) rfl rfl fun k z hk e=>hun k j z y hk hy e
   rw [e,hno y (List.mem_of_getElem? hy)]
   constructor
   · intro h;exact .inl ⟨j,y,hy,hj,rfl,Option.some.inj h⟩
   rintro (⟨k,z,hz,_,h1,h2⟩|h)
   · have:=hun k j z y hz hy h1
     subst this
     rw [hy] at hz;cases hz;rw [h2]
   cases h
 rw [stL_slot_base outs 0 σ fun j z hz hj e=>hex ⟨j,z,hz,by rw [Nat.zero_add] at hj;exact hj,e⟩]
 constructor
 · exact .inr
 rintro (⟨j,z,hz,hj,h1,_⟩|h)
 · exact absurd ⟨j,z,hz,hj,h1⟩ hex
 exact h
theorem stL_sup {L M:Nat→Bool} {outs:List Out} {σ σ':St} (hs:Sup σ σ') (hno:∀ y∈outs,look σ.slots y.1=none) (hno':∀ y∈outs,look σ'.slots y.1=none) (hun:∀ (i j:Nat) (y z:Out),outs[i]?=some y→outs[j]?=some z→y.1=z.1→i=j) (hnr:∀ y∈outs,y.2.2=[])
 (hLM:∀ j,L j=true→M j=true):Sup (stL L 0 outs σ) (stL M 0 outs σ'):=by
 refine⟨by rw [stL_n,stL_n];exact hs.n,fun t x h=>?_,fun t x h=>?_⟩
 · rw [stL_look hno hun] at h
   rw [stL_look hno' hun]
   rcases h with ⟨j,y,h1,h2,h3,h4⟩|h
   · exact .inl ⟨j,y,h1,hLM j h2,h3,h4⟩
   exact .inr (hs.slots _ _ h)
 rw [stL_res0 _ _ _ _ hnr] at h ⊢
 exact hs.res _ _ h
theorem upd_slot {σ:St} {id:Nat} {r:R} (t:Nat):look (σ.upd id r).slots t=(look σ.slots t).map fun x=>(x.1,x.2.puv id):=look_map (fun x:Bool×S=>(x.1,x.2.puv id)) _ _
theorem AW.drawF {w0:Base} {Q:Exit→St→Prop} {σ:St} {id fid:Nat} {l:List Oper} (N:Nat) (B:Nat→List Nat) (outs:List Out) (X:Nat→Bool) (r:R) (σ2:St) (hm:P.follows .mixedOrders=true) (hB:planC l.toArray (N+1)=true) (hO:ordB l B (N+1)=true) (hl:outs.length=N)
 (hnr:∀ y∈outs,y.2.2=[]) (hpv:∀ y∈outs,y.2.1.2.puv fid=y.2.1.2) (hno:∀ y∈outs,look σ.slots y.1=none) (hun:∀ (i j:Nat) (y z:Out),outs[i]?=some y→outs[j]?=some z→y.1=z.1→i=j)
 (h2:Sup σ2 σ) (h2':Sup σ2 (σ.upd fid r)) (hX:∀ i,i<N→X i=true∨i∈B N)
 (hsteps:∀ i o y,l[i]?=some o→outs[i]?=some y→Loc P l.toArray o (stL (memN (B i)) 0 outs (bif X i then σ2 else σ)) y)
 (hst:∀ o,l[N]?=some o→∀ σ',Sup (stL (memN (B N)) 0 outs σ) σ'→Op1 P l.toArray o σ' (σ'.upd fid r))
 (hfin:AWl P w0 l.toArray Q (l.drop (N+1)) (stL (fun _=>true) 0 outs (σ.upd fid r))):AW P w0 (.region id l.toArray true) Q σ:=by
 intro a w hr;refine wp_region_any hm ?_
 have hlN:N+1≤l.length:=by
  simp only [planC,Bool.and_eq_true,decide_eq_true_eq] at hB
  simpa using hB.1.1.1
 have hno2:∀ y∈outs,look σ2.slots y.1=none:=fun y hy=>by
  cases h:look σ2.slots y.1 with
  | none=>rfl
  | some x=>have:=h2.slots _ _ h;rw [hno y hy] at this;cases this
 have hnou:∀ y∈outs,look (σ.upd fid r).slots y.1=none:=fun y hy=>by rw [upd_slot,hno y hy];rfl
 have inB:∀ (listed:Array Bool),HeadInv .any l.toArray (N+1) listed→∀ i o,i<N+1→l[i]?=some o→(∀ j∈deps o,listed.getD j false=true)→∀ j∈B i,listed.getD j false=true:=by
  intro listed inv i o hi ho hd
  have hOi:=List.all_eq_true.1 hO i (List.mem_range.2 hi)
  rw [ho] at hOi
  have hOi':=List.all_eq_true.1 hOi
  have key:∀ d j,N+1-j≤d→j∈B i→listed.getD j false=true:=by
   intro d
   induction d with
   | zero=>
    intro j hj hm
    have:=hOi' j hm
    simp only [Bool.or_eq_true,List.contains_iff_mem,List.any_eq_true,Bool.and_eq_true,decide_eq_true_eq] at this
    rcases this with h|⟨m,hmB,⟨h1,h2⟩,h3⟩
    · exact hd j h
    omega
   | succ d ih=>
    intro j hj hm
    have:=hOi' j hm
    simp only [Bool.or_eq_true,List.contains_iff_mem,List.any_eq_true,Bool.and_eq_true,decide_eq_true_eq] at this
    rcases this with h|⟨m,hmB,⟨h1,h2⟩,h3⟩
    · exact hd j h
    have hml:=ih m (by omega) hmB
    cases hom:l[m]? with
    | none=>rw [hom] at h3;cases h3
    | some om=>
     rw [hom] at h3
     simp only [List.contains_iff_mem] at h3
     obtain⟨e,he,hb,rfl⟩:=mem_deps.1 h3
     exact inv.closed m om (by simpa using hom) hml e he hb
  exact fun j hm=>key (N+1-j) j (Nat.le_refl _) hm
 have H:=wpAny_inv (P:=P) (N:=N+1) (Q:=lift w0 Q) (J:=fun listed a w=>Rel w0 (stL (fun j=>listed.getD j false) 0 outs (bif listed.getD N false then σ.upd fid r else σ)) a w) hB (fun i o hi ho listed a w inv hd hu hJ=>?_) (fun listed a w hall hJ=>?_)
  (unl (N+1) (Array.replicate l.toArray.size false)) (Array.replicate l.toArray.size false) a { w with drawn:=w.drawn+1 } rfl
  ⟨by simp,fun j oj _ hl=>(by rw [getD_replicate_false] at hl;cases hl),fun t _ ht=>getD_in (by simpa using ht) (getD_replicate_false _ _)⟩ ?_
 · have hu:unl (N+1) (Array.replicate l.toArray.size false)=N+1:=by
    unfold unl
    rw [List.countP_eq_length.2 (fun j _=>by rw [getD_replicate_false];rfl),List.length_range]
   rw [hu,show N+1+(l.toArray.size-(N+1))=l.toArray.size by simp;omega] at H
   exact H
 · -- one step
   have ho':l[i]?=some o:=by simpa using ho
   have hBL:=inB listed inv i o hi ho' hd
   have hget:∀ j,(listed.setIfInBounds i true).getD j false=if j=i then true else listed.getD j false:=by
    intro j
    by_cases e:j=i
    · subst e
      have:j<listed.size:=by rw [inv.size];simp;omega
      simp [this]
    rw [if_neg e];exact getD_set_ne false (fun h=>e h.symm)
   intro K Q' hK
   by_cases hiN:i=N
   · subst hiN
     have hst':=hst o ho' (stL (fun j=>listed.getD j false) 0 outs σ) (stL_sup ⟨rfl,fun _ _ h=>h,fun _ _ h=>h⟩ hno hno hun hnr fun j hj=>hBL j (memN_iff.1 hj))
     rw [hu] at hJ
     refine hst' w0 a w hJ K Q' fun a' w' hr'=>hK a' w' ?_
     rw [hget,if_pos rfl]
     refine Rel.of_look hr' (by rw [stL_n];show σ.n=_;exact (stL_n _ _ _ _).symm) (fun t x hx=>?_) (fun t x hx=>?_)
     · simp only [cond_true] at hx
       rw [stL_look hnou hun] at hx
       rw [upd_slot]
       rcases hx with ⟨j,y,h1,h2,h3,h4⟩|hx
       · have hj:j≠i:=by have:=(List.getElem?_eq_some_iff.1 h1).1;omega
         rw [hget,if_neg hj] at h2
         rw [(stL_look hno hun t x).2 (.inl ⟨j,y,h1,h2,h3,h4⟩)]
         have:=hpv y (List.mem_of_getElem? h1)
         rw [h4] at this
         simp only [Option.map_some,this]
       rw [upd_slot] at hx
       cases hl:look σ.slots t with
       | none=>rw [hl] at hx;cases hx
       | some x0=>
        rw [hl] at hx
        rw [(stL_look hno hun t x0).2 (.inr hl)]
        exact hx
     simp only [cond_true] at hx
     rw [stL_res0 _ _ _ _ hnr] at hx
     have:(St.upd (stL (fun j=>listed.getD j false) 0 outs σ) fid r).res=(σ.upd fid r).res:=by
      simp only [St.upd];rw [stL_res0 _ _ _ _ hnr]
     rw [this];exact hx
   have hiN':i<N:=by omega
   obtain⟨y,hy⟩:∃ y,outs[i]?=some y:=⟨outs[i]'(by omega),List.getElem?_eq_getElem _⟩
   have hym:=List.mem_of_getElem? hy
   have hloc:=hsteps i o y ho' hy
   have hcur:∀ y∈outs,look (bif listed.getD N false then σ.upd fid r else σ).slots y.1=none:=by
    cases listed.getD N false
    · exact hno
    exact hnou
   have hbs:∀ y∈outs,look (bif X i then σ2 else σ).slots y.1=none:=by
    cases X i
    · exact hno
    exact hno2
   have hsb:Sup (bif X i then σ2 else σ) (bif listed.getD N false then σ.upd fid r else σ):=by
    cases hx:X i with
    | true=>
     cases listed.getD N false
     · exact h2
     exact h2'
    | false=>
     cases hln:listed.getD N false with
     | false=>exact⟨rfl,fun _ _ h=>h,fun _ _ h=>h⟩
     | true=>
      exfalso
      rcases hX i hiN' with h|h
      · rw [hx] at h;cases h
      have hoN:l[N]?=some (l[N]'(by omega)):=List.getElem?_eq_getElem _
      have:=inB listed inv N _ (by omega) hoN (fun k hk=>by
       obtain⟨e,he,hb,rfl⟩:=mem_deps.1 hk
       exact inv.closed N _ (by simp) hln e he hb) i h
      rw [hu] at this;cases this
   have hsup:=stL_sup (L:=memN (B i)) (M:=fun j=>listed.getD j false) hsb hbs hcur hun hnr fun j hj=>hBL j (memN_iff.1 hj)
   refine hloc _ hsup (fun z hz=>by rw [hnr y hym] at hz;cases hz) w0 a w hJ K Q' fun a' w' hr'=>hK a' w' ?_
   rw [hget,if_neg (fun h=>hiN h.symm)]
   refine Rel.of_look hr' (by rw [stL_n,stL_n]) (fun t x hx=>?_) (fun t x hx=>?_)
   · rw [stL_look hcur hun] at hx
     show look ((y.1,y.2.1)::_) t=some x
     rw [look_cons]
     rcases hx with ⟨j,z,h1,h2,h3,h4⟩|hx
     · by_cases e:j=i
       · subst e
         rw [hy] at h1;cases h1
         rw [if_pos h3,h4]
       rw [hget,if_neg e] at h2
       rw [if_neg (fun e'=>e (hun j i z y h1 hy (h3.trans e'.symm)))]
       exact (stL_look hcur hun t x).2 (.inl ⟨j,z,h1,h2,h3,h4⟩)
     rw [if_neg (fun e'=>by rw [←e',hcur y hym] at hx;cases hx)]
     exact (stL_look hcur hun t x).2 (.inr hx)
   rw [stL_res0 _ _ _ _ hnr] at hx
   rw [hnr y hym]
   show look (stL _ 0 outs _).res t=some x
   rw [stL_res0 _ _ _ _ hnr]
   exact hx
 · -- behind them
   have hall':listed.getD N false=true:=hall N (by omega)
   rw [hall'] at hJ
   have H:=hfin a w (Rel.of_look hJ (by rw [stL_n,stL_n];rfl) (fun t x hx=>?_) (fun t x hx=>?_))
   · simpa using H
   · rw [stL_look hnou hun] at hx
     simp only [cond_true]
     rw [stL_look hnou hun]
     rcases hx with ⟨j,y,h1,_,h3⟩|hx
     · exact .inl ⟨j,y,h1,hall j (by have:=(List.getElem?_eq_some_iff.1 h1).1;omega),h3⟩
     exact .inr hx
   simp only [cond_true]
   rw [stL_res0 _ _ _ _ hnr] at hx ⊢
   exact hx
 -- the start
 have e:stL (fun j=>(Array.replicate l.toArray.size false).getD j false) 0 outs σ=σ:=by
  have key:∀ (os:List Out) (i:Nat) (σ:St),stL (fun j=>(Array.replicate l.toArray.size false).getD j false) i os σ=σ:=by
   intro os
   induction os with
   | nil=>intro i σ;rfl
   | cons y os ih=>
    intro i σ
    rw [stL,getD_replicate_false]
    exact ih (i+1) σ
  exact key outs 0 _
 show Rel w0 (stL (fun j=>(Array.replicate l.toArray.size false).getD j false) 0 outs (bif (Array.replicate l.toArray.size false).getD N false then σ.upd fid r else σ)) a _
 rw [getD_replicate_false,cond_false,e]
 obtain⟨I,hI⟩:=hr
 exact⟨I,hI.later (Ext.refl w).drawn⟩
def disN:List Nat→Bool
 | []=>true
 | x::l=>l.all (fun y=>!(Nat.beq x y))&&disN l
theorem disN_inj:∀ {outs:List Out},disN (outs.map (·.1))=true→∀ (i j:Nat) (y z:Out),outs[i]?=some y→outs[j]?=some z→y.1=z.1→i=j
 | [],_,i,j,y,z,h,_,_=>by simp at h
 | u::r,h,i,j,y,z,h1,h2,e=>by
  simp only [List.map_cons,disN,Bool.and_eq_true,List.all_map,List.all_eq_true] at h
  have key:∀ v∈r,u.1≠v.1:=fun v hv e=>by have:=h.1 v hv;simp [e] at this
  match i,j,h1,h2 with
  | 0,0,_,_=>rfl
  | 0,j+1,h1,h2=>simp at h1 h2;subst h1;exact absurd e (key z (List.mem_of_getElem? h2))
  | i+1,0,h1,h2=>simp at h1 h2;subst h2;exact absurd e.symm (key y (List.mem_of_getElem? h1))
  | i+1,j+1,h1,h2=>rw [disN_inj h.2 i j y z (by simpa using h1) (by simpa using h2) e]
theorem Loc.ofE {ops:Array Oper} {o:Oper} {σ:St} {d:Nat} {x x':Bool×S} (hd:o.dst=some d) (h:∀ σ',Sup σ σ'→Op1 P ops o σ' (σ'.put o.dst x)) (hx:x=x'):Loc P ops o σ (d,x',[]):=by
 subst hx;exact Loc.of hd h
theorem Sup.sub0 {σ σ':St} (hn:σ'.n=σ.n) (hs:SubS0 σ σ'.slots) (hr:SubR0 σ σ'.res):Sup σ' σ:=⟨hn.symm,fun i x h=>look_SubS0 hs i x h,fun i x h=>look_SubR0 hr i x h⟩
theorem Bk {σ σ':St} (hn:σ'.n=σ.n:=by exact rfl) (hs:SubS0 σ σ'.slots:=by (repeat refine⟨rfl,?_⟩);exact trivial) (hr:SubR0 σ σ'.res:=by (repeat refine⟨rfl,?_⟩);exact trivial):Sup σ' σ:=Sup.sub0 hn hs hr
def StepsF (P:Program) (ops:Array Oper) (B:Nat→List Nat) (outs:List Out) (X:Nat→Bool) (σ σ2:St):Nat→List Oper→List Out→Prop
 | i,o::l,y::r=>Loc P ops o (stL (memN (B i)) 0 outs (bif X i then σ2 else σ)) y∧StepsF P ops B outs X σ σ2 (i+1) l r
 | _,_,_=>True
theorem StepsF.at {ops:Array Oper} {B:Nat→List Nat} {outs:List Out} {X:Nat→Bool} {σ σ2:St}:∀ (l:List Oper) (r:List Out) (k:Nat),StepsF P ops B outs X σ σ2 k l r→∀ i o y,l[i]?=some o→r[i]?=some y→Loc P ops o (stL (memN (B (k+i))) 0 outs (bif X (k+i) then σ2 else σ)) y
 | [],r,k,h,i,o,y,hl,hr=>by simp at hl
 | o'::l,[],k,h,i,o,y,hl,hr=>by simp at hr
 | o'::l,y'::r,k,h,0,o,y,hl,hr=>by simp at hl hr;subst hl;subst hr;exact h.1
 | o'::l,y'::r,k,h,i+1,o,y,hl,hr=>by
  have:=StepsF.at l r (k+1) h.2 i o y (by simpa using hl) (by simpa using hr)
  rwa [show k+1+i=k+(i+1) by omega] at this
theorem AW.drawnF {w0:Base} {Q:Exit→St→Prop} {σ:St} {id fid:Nat} {l:List Oper} {o:Oper} (N:Nat) (B:Nat→List Nat) (outs:List Out) (X:Nat→Bool) (r:R) (σ2:St) (hm:P.follows .mixedOrders=true) (hB:planC l.toArray (N+1)=true) (hO:ordB l B (N+1)=true) (hl:outs.length=N)
 (h2:Sup σ2 σ) (ho:l[N]?=some o)
 (hsteps:StepsF P l.toArray B outs X σ σ2 0 l outs)
 (hst:∀ σ',Sup (stL (memN (B N)) 0 outs σ) σ'→Op1 P l.toArray o σ' (σ'.upd fid r))
 (h2':Sup σ2 (σ.upd fid r))
 (hnr:outs.all (fun y=>y.2.2.isEmpty)=true) (hpv:outs.map (fun y=>y.2.1.2.puv fid)=outs.map (fun y=>y.2.1.2)) (hno:outs.all (fun y=>(look σ.slots y.1).isNone)=true) (hun:disN (outs.map (·.1))=true)
 (hX:(List.range N).all (fun i=>X i||memN (B N) i)=true)
 (hfin:AWl P w0 l.toArray Q (l.drop (N+1)) (stL (fun _=>true) 0 outs (σ.upd fid r))):AW P w0 (.region id l.toArray true) Q σ:=
 AW.drawF N B outs X r σ2 hm hB hO hl (fun y hy=>List.isEmpty_iff.1 (List.all_eq_true.1 hnr y hy)) (fun y hy=>List.map_inj_left.1 hpv y hy) (fun y hy=>Option.isNone_iff_eq_none.1 (List.all_eq_true.1 hno y hy)) (disN_inj hun) h2 h2'
  (fun i hi=>by have:=List.all_eq_true.1 hX i (List.mem_range.2 hi);simp only [Bool.or_eq_true] at this;exact this.imp (fun h=>h) memN_iff.1)
  (fun i o y h1 h2=>by have:=StepsF.at l outs 0 hsteps i o y h1 h2;rwa [Nat.zero_add] at this)
  (fun o' ho'=>by rw [ho] at ho';cases ho';exact hst) hfin
end
end Go.Q
namespace Go.Q
open Go.RowKit
section
variable {P:Program} {ops:Array Oper} {o:Oper} {σ:St} {q:Bool}
theorem R_append0 {t e:TypeId} {x y:Operand} {A2:A} {id k:Nat} {rows rows2:List (List T)} {z:Value} {bytes:Nat} (ho:o.op=.call { callee:=.builtin .append,args:=#[x,y],argTypes:=#[t,t] }) (hg:o.guard=none) (hd:o.dst.all (fun d=>Nat.blt d σ.n)=true)
 (hx:∀ I w0 a w,RelI I w0 σ a w→VE I w (.rf id) (a.eval x)) (hs:look σ.res id=some (.row k rows)) (hy:Get σ true y A2) (hq:Sq σ A2 k rows2) (hv:rows2.flatten.all T.isV=true) (ht:P.underlying t=some (.slice e)) (hi:(P.info? e).map (fun i=>(i.zero,i.size,i.bytes))=some (some z,k,bytes)) (hzs:z.cells.size=k)
 (hb:(rows.length+rows2.length)*bytes≤140737488355328) (hm:rows.length+rows2.length≤maxLen) :
 Op1 P ops o σ ((σ.chg id (.row k (rows++rows2))).put o.dst (true,.a (.one (.rf id)))):=
 .eff hg fun w0 a w ⟨I,hr⟩=>by
  have hv1:VE I w (.rf id) (a.eval x):=hx I w0 a w hr
  have hC:C true w (.sl k rows) (I.hd id) (I.F id):=hr.res id _ hs
  obtain⟨F2,hC2⟩:=hq.val hr (hy.va hr rfl)
  obtain⟨v',w',hrun,h⟩:=run_append_T (ty:=o.type) w ht hi hzs hC hC2 hb hm
  refine⟨v',w',by simp [execOp,ho,resolve,invoke,builtin,hv1.1,hrun],?_⟩
  rcases h with ⟨rfl,rfl,rfl⟩|⟨g,cap,cur,e',G,rfl,h1,h2,h3,h4,h5,h6,h7,xs,news,h8,h9,h10,h11,h12⟩
  · have:=hr.chg hs (Chg.refl _ _) (G:=I.F id) (u:=I.hd id) (r:=.row k (rows++[])) ⟨(hr.own id _ hs).1,fun b hb=>⟨((hr.own id _ hs).2 b hb).1,(hr.lt id b hb).1,((hr.own id _ hs).2 b hb).2,.inl hb⟩⟩ (by show C true _ _ _ _;simpa [Ip.set] using hC)
    exact⟨_,this.put hd ⟨by simp [Ip.set],hv1.1▸hv1.2⟩⟩
  obtain⟨h13,_⟩:=Cs_flat (o':=true) (w':=w) hv h9
  have:=hr.append hs h1 h2 h3 h4 h5 h6 h7 h8 h13 h10 h11 h12 (by simp) List.nodup_nil
  exact⟨_,this.put hd ⟨by simp [Ip.set],_,_,_,rfl⟩⟩
theorem R_append_hd {t e:TypeId} {x y:Operand} {A2:A} {id hid k:Nat} {c0:Value} {rows rows2:List (List T)} {z:Value} {bytes:Nat} (ho:o.op=.call { callee:=.builtin .append,args:=#[x,y],argTypes:=#[t,t] }) (hg:o.guard=none) (hd:o.dst.all (fun d=>Nat.blt d σ.n)=true)
 (hx:Get σ true x (.one (.t (.v c0)))) (hh:look σ.res hid=some (.hdr (some id) c0)) (hs:look σ.res id=some (.row k rows)) (hy:Get σ true y A2) (hq:Sq σ A2 k rows2) (hv:rows2.flatten.all T.isV=true) (ht:P.underlying t=some (.slice e)) (hi:(P.info? e).map (fun i=>(i.zero,i.size,i.bytes))=some (some z,k,bytes)) (hzs:z.cells.size=k)
 (hb:(rows.length+rows2.length)*bytes≤140737488355328) (hm:rows.length+rows2.length≤maxLen) :
 Op1 P ops o σ ((σ.chg id (.row k (rows++rows2))).put o.dst (true,.a (.one (.rf id)))):=
 R_append0 ho hg hd (fun I w0 a w hr=>by
  obtain⟨G,k1,_⟩:VE I w (.t (.v c0)) (a.eval x):=hx.va hr rfl
  simp only [C] at k1
  have k2:I.hd id=c0:=(hr.res _ _ hh).2 id rfl
  have hC:C true w (.sl k rows) (I.hd id) (I.F id):=hr.res id _ hs
  simp only [C] at hC
  obtain⟨a1,l1,c1,e1,_⟩:=hC
  exact⟨by rw [k1.1,k2],a1,l1,c1,by rw [k1.1,←k2,e1]⟩) hs hy hq hv ht hi hzs hb hm
structure DrawG (P:Program) (N:Nat) (B:Nat→List Nat) (l:List Oper) (n:Nat) (sl:List (Nat×(Bool×S))) (rs:List (Nat×R)) (Fin:List Out→Prop) (acc:List Out) (k:Nat) (rest:List Oper):Prop where
 pf:acc.length=k→rest=l.drop k→∃ more:List Out,(acc.reverse++more).length=N∧
  Steps P l.toArray B (acc.reverse++more) ⟨n,sl,rs⟩ k rest more∧Fin (acc.reverse++more)
variable {N:Nat} {B:Nat→List Nat} {l:List Oper} {n:Nat} {sl:List (Nat×(Bool×S))} {rs:List (Nat×R)} {Fin:List Out→Prop} {acc:List Out} {k:Nat} {rest:List Oper}
theorem DrawG.step {y:Out} (hN:Nat.blt k N=true) (hlt:((B k).all fun j=>Nat.blt j k)=true) (hl:Loc P l.toArray o (stR (memN (B k)) k acc ⟨n,sl,rs⟩) y) (h:DrawG P N B l n sl rs Fin (y::acc) (k+1) rest):DrawG P N B l n sl rs Fin acc k (o::rest):=⟨fun ha hr=>by
 have hd:rest=l.drop (k+1):=by
  have:=congrArg (List.drop 1) hr
  simpa using this
 obtain⟨more,h1,h3,h4⟩:=h.pf (by simp [ha]) hd
 have e:(y::acc).reverse++more=acc.reverse++(y::more):=by simp
 rw [e] at h1 h3 h4
 refine⟨y::more,h1,⟨?_,h3⟩,h4⟩
 have:stL (memN (B k)) 0 (acc.reverse++(y::more)) ⟨n,sl,rs⟩=stR (memN (B k)) k acc ⟨n,sl,rs⟩:=by
  rw [stL_append,←ha,stR_eq,stL_false]
  intro j hj
  rw [List.length_reverse,Nat.zero_add,ha] at hj
  cases hm:memN (B acc.length) j with
  | false=>rfl
  | true=>
   have h1:=List.all_eq_true.1 hlt j (by rw [←ha];exact memN_iff.1 hm)
   have h2:j<k:=Nat.le_of_ble_eq_true h1
   omega
 rw [this]
 exact hl⟩
theorem DrawG.s {d:Nat} {x:Bool×S} (hl:∀ σ',Sup (stR (memN (B k)) k acc ⟨n,sl,rs⟩) σ'→Op1 P l.toArray o σ' (σ'.put o.dst x)) (h:DrawG P N B l n sl rs Fin ((d,x,[])::acc) (k+1) rest) (hN:Nat.blt k N=true:=by exact rfl) (hlt:((B k).all fun j=>Nat.blt j k)=true:=by exact rfl) (hd:o.dst=some d:=by exact rfl):DrawG P N B l n sl rs Fin acc k (o::rest):=DrawG.step hN hlt (Loc.of hd hl) h
theorem DrawG.mv {d i:Nat} {x:A} (h:DrawG P N B l n sl rs Fin ((d,(true,.a x),[])::acc) (k+1) rest) (ho:o.op=.move (.tmp i):=by exact rfl) (hg:o.guard=none:=by exact rfl) (hN:Nat.blt k N=true:=by exact rfl) (hlt:((B k).all fun j=>Nat.blt j k)=true:=by exact rfl) (hd:o.dst=some d:=by exact rfl) (hdn:o.dst.all (fun d=>Nat.blt d (stR (memN (B k)) k acc ⟨n,sl,rs⟩).n)=true:=by exact rfl) (hx:look (stR (memN (B k)) k acc ⟨n,sl,rs⟩).slots i=some (true,.a x):=by exact rfl):DrawG P N B l n sl rs Fin acc k (o::rest):=DrawG.step hN hlt (Loc.of hd fun σ' hs=>Az ho (.no hg) (Af hs hdn) (.tm (hs.slots _ _ hx))) h
theorem DrawG.fin (hk:Nat.beq k N=true) (h:Fin acc.reverse):DrawG P N B l n sl rs Fin acc k rest:=⟨fun ha hr=>by
 have hk':=Nat.eq_of_beq_eq_true hk
 refine⟨[],by simp [ha,hk'],by unfold Steps;split<;>first|trivial|(rename_i h;cases h),by rw [List.append_nil];exact h⟩⟩
def FinA (P:Program) (w0:Base) (Q:Exit→St→Prop) (N:Nat) (B:Nat→List Nat) (l:List Oper) (σ:St) (o:Oper) (nid d:Nat) (r:R) (x:Bool×S) (outs:List Out):Prop:=
 (outs.all (fun y=>y.2.2.isEmpty)=true∧outs.map (fun y=>y.2.1.2.pur nid)=outs.map (fun y=>y.2.1.2)∧outs.all (fun y=>(look σ.slots y.1).isNone&&!(Nat.beq y.1 d))=true∧disN (outs.map (·.1))=true)∧
 (∀ σ',Sup (stL (memN (B N)) 0 outs σ) σ'→Op1 P l.toArray o σ' ((σ'.chg nid r).put o.dst x))∧
 AWl P w0 l.toArray Q (l.drop (N+1)) (stL (fun _=>true) 0 outs ((σ.chg nid r).put (some d) x))
theorem chg_slot {σ:St} {id:Nat} {r:R} (t:Nat):look (σ.chg id r).slots t=(look σ.slots t).map fun x=>(x.1,x.2.pur id):=look_map (fun x:Bool×S=>(x.1,x.2.pur id)) _ _
theorem AW.drawA {w0:Base} {Q:Exit→St→Prop} {id:Nat} (N:Nat) (B:Nat→List Nat) (nid d:Nat) (r:R) (x:Bool×S) (σ2:St) (hm:P.follows .mixedOrders=true) (hB:planC l.toArray (N+1)=true) (hO:ordB l B (N+1)=true)
 (h2:Sup σ2 σ) (h2':Sup σ2 ((σ.chg nid r).put (some d) x)) (ho:l[N]?=some o) (hod:o.dst=some d) (h:DrawG P N B l σ2.n σ2.slots σ2.res (FinA P w0 Q N B l σ o nid d r x) [] 0 l):AW P w0 (.region id l.toArray true) Q σ:=by
 obtain⟨outs,hl,hsteps,⟨hnr0,hpv0,hno0,hun0⟩,hst,hfin⟩:=h.pf rfl rfl
 simp only [List.reverse_nil,List.nil_append] at hl hsteps hnr0 hpv0 hno0 hun0 hst hfin
 have hnr:∀ y∈outs,y.2.2=[]:=fun y hy=>List.isEmpty_iff.1 (List.all_eq_true.1 hnr0 y hy)
 have hpv:∀ y∈outs,y.2.1.2.pur nid=y.2.1.2:=fun y hy=>List.map_inj_left.1 hpv0 y hy
 have hun:=fun i j y z=>disN_inj hun0 i j y z
 have hno1:∀ y∈outs,look σ.slots y.1=none∧y.1≠d:=fun y hy=>by
  have:=List.all_eq_true.1 hno0 y hy
  simp only [Bool.and_eq_true,Option.isNone_iff_eq_none,Bool.not_eq_true'] at this
  exact⟨this.1,beq_ne this.2⟩
 have hno:∀ y∈outs,look σ.slots y.1=none:=fun y hy=>(hno1 y hy).1
 generalize hσe:(σ.chg nid r).put (some d) x=σe at h2' hfin
 have hslot:∀ t,look σe.slots t=if d=t then some x else (look σ.slots t).map fun x=>(x.1,x.2.pur nid):=fun t=>by
  rw [←hσe]
  show look ((d,x)::(σ.chg nid r).slots) t=_
  rw [look_cons,chg_slot]
 have hres:σe.res=(σ.chg nid r).res:=by rw [←hσe];rfl
 have hne:σe.n=σ.n:=by rw [←hσe];rfl
 have hnoe:∀ y∈outs,look σe.slots y.1=none:=fun y hy=>by rw [hslot,if_neg (fun e=>(hno1 y hy).2 e.symm),hno y hy];rfl
 have hno2:∀ y∈outs,look σ2.slots y.1=none:=fun y hy=>by
  cases h:look σ2.slots y.1 with
  | none=>rfl
  | some x=>have:=h2.slots _ _ h;rw [hno y hy] at this;cases this
 intro a w hr;refine wp_region_any hm ?_
 have hlN:N+1≤l.length:=by
  simp only [planC,Bool.and_eq_true,decide_eq_true_eq] at hB
  simpa using hB.1.1.1
 have inB:∀ (listed:Array Bool),HeadInv .any l.toArray (N+1) listed→∀ i o,i<N+1→l[i]?=some o→(∀ j∈deps o,listed.getD j false=true)→∀ j∈B i,listed.getD j false=true:=by
  intro listed inv i o hi ho hd
  have hOi:=List.all_eq_true.1 hO i (List.mem_range.2 hi)
  rw [ho] at hOi
  have hOi':=List.all_eq_true.1 hOi
  have key:∀ d j,N+1-j≤d→j∈B i→listed.getD j false=true:=by
   intro d
   induction d with
   | zero=>
    intro j hj hm
    have:=hOi' j hm
    simp only [Bool.or_eq_true,List.contains_iff_mem,List.any_eq_true,Bool.and_eq_true,decide_eq_true_eq] at this
    rcases this with h|⟨m,hmB,⟨h1,h2⟩,h3⟩
    · exact hd j h
    omega
   | succ d ih=>
    intro j hj hm
    have:=hOi' j hm
    simp only [Bool.or_eq_true,List.contains_iff_mem,List.any_eq_true,Bool.and_eq_true,decide_eq_true_eq] at this
    rcases this with h|⟨m,hmB,⟨h1,h2⟩,h3⟩
    · exact hd j h
    have hml:=ih m (by omega) hmB
    cases hom:l[m]? with
    | none=>rw [hom] at h3;cases h3
    | some om=>
     rw [hom] at h3
     simp only [List.contains_iff_mem] at h3
     obtain⟨e,he,hb,rfl⟩:=mem_deps.1 h3
     exact inv.closed m om (by simpa using hom) hml e he hb
  exact fun j hm=>key (N+1-j) j (Nat.le_refl _) hm
 have H:=wpAny_inv (P:=P) (N:=N+1) (Q:=lift w0 Q) (J:=fun listed a w=>Rel w0 (stL (fun j=>listed.getD j false) 0 outs (bif listed.getD N false then σe else σ)) a w) hB (fun i o1 hi ho1 listed a w inv hd hu hJ=>?_) (fun listed a w hall hJ=>?_)
  (unl (N+1) (Array.replicate l.toArray.size false)) (Array.replicate l.toArray.size false) a { w with drawn:=w.drawn+1 } rfl
  ⟨by simp,fun j oj _ hl=>(by rw [getD_replicate_false] at hl;cases hl),fun t _ ht=>getD_in (by simpa using ht) (getD_replicate_false _ _)⟩ ?_
 · have hu:unl (N+1) (Array.replicate l.toArray.size false)=N+1:=by
    unfold unl
    rw [List.countP_eq_length.2 (fun j _=>by rw [getD_replicate_false];rfl),List.length_range]
   rw [hu,show N+1+(l.toArray.size-(N+1))=l.toArray.size by simp;omega] at H
   exact H
 · -- one step
   have ho':l[i]?=some o1:=by simpa using ho1
   have hBL:=inB listed inv i o1 hi ho' hd
   have hget:∀ j,(listed.setIfInBounds i true).getD j false=if j=i then true else listed.getD j false:=by
    intro j
    by_cases e:j=i
    · subst e
      have:j<listed.size:=by rw [inv.size];simp;omega
      simp [this]
    rw [if_neg e];exact getD_set_ne false (fun h=>e h.symm)
   intro K Q' hK
   by_cases hiN:i=N
   · subst hiN
     have eo:o1=o:=by rw [ho] at ho';exact (Option.some.inj ho').symm
     subst eo
     have hst':=hst (stL (fun j=>listed.getD j false) 0 outs σ) (stL_sup ⟨rfl,fun _ _ h=>h,fun _ _ h=>h⟩ hno hno hun hnr fun j hj=>hBL j (memN_iff.1 hj))
     rw [hu] at hJ
     refine hst' w0 a w hJ K Q' fun a' w' hr'=>hK a' w' ?_
     rw [hget,if_pos rfl]
     rw [hod] at hr'
     refine Rel.of_look hr' (by rw [stL_n];show σe.n=(stL _ 0 outs σ).n;rw [stL_n];exact hne) (fun t y' hx=>?_) (fun t y' hx=>?_)
     · simp only [cond_true] at hx
       rw [stL_look hnoe hun] at hx
       show look ((d,x)::(St.chg (stL _ 0 outs σ) nid r).slots) t=some y'
       rw [look_cons,chg_slot]
       rcases hx with ⟨j,y,h1,h2,h3,h4⟩|hx
       · have hj:j≠i:=by have:=(List.getElem?_eq_some_iff.1 h1).1;omega
         rw [hget,if_neg hj] at h2
         have hym:=List.mem_of_getElem? h1
         rw [if_neg (fun e=>(hno1 y hym).2 (h3.trans e.symm)),(stL_look hno hun t y').2 (.inl ⟨j,y,h1,h2,h3,h4⟩)]
         have:=hpv y hym
         rw [h4] at this
         simp only [Option.map_some,this]
       rw [hslot] at hx
       by_cases e:d=t
       · rw [if_pos e] at hx ⊢;exact hx
       rw [if_neg e] at hx ⊢
       cases hl:look σ.slots t with
       | none=>rw [hl] at hx;cases hx
       | some x0=>
        rw [hl] at hx
        rw [(stL_look hno hun t x0).2 (.inr hl)]
        exact hx
     simp only [cond_true] at hx
     rw [stL_res0 _ _ _ _ hnr,hres] at hx
     show look (St.chg (stL _ 0 outs σ) nid r).res t=some y'
     have:(St.chg (stL (fun j=>listed.getD j false) 0 outs σ) nid r).res=(σ.chg nid r).res:=by
      simp only [St.chg,St.pur];rw [stL_res0 _ _ _ _ hnr]
     rw [this];exact hx
   have hiN':i<N:=by omega
   obtain⟨y,hy⟩:∃ y,outs[i]?=some y:=⟨outs[i]'(by omega),List.getElem?_eq_getElem _⟩
   have hym:=List.mem_of_getElem? hy
   have hloc:Loc P l.toArray o1 (stL (memN (B i)) 0 outs σ2) y:=by
    have:=hsteps.at l outs 0 i o1 y ho' hy
    rwa [Nat.zero_add] at this
   have hcur:∀ y∈outs,look (bif listed.getD N false then σe else σ).slots y.1=none:=by
    cases listed.getD N false
    · exact hno
    exact hnoe
   have hsb:Sup σ2 (bif listed.getD N false then σe else σ):=by
    cases listed.getD N false
    · exact h2
    exact h2'
   have hsup:=stL_sup (L:=memN (B i)) (M:=fun j=>listed.getD j false) hsb hno2 hcur hun hnr fun j hj=>hBL j (memN_iff.1 hj)
   refine hloc _ hsup (fun z hz=>by rw [hnr y hym] at hz;cases hz) w0 a w hJ K Q' fun a' w' hr'=>hK a' w' ?_
   rw [hget,if_neg (fun h=>hiN h.symm)]
   refine Rel.of_look hr' (by rw [stL_n,stL_n]) (fun t x hx=>?_) (fun t x hx=>?_)
   · rw [stL_look hcur hun] at hx
     show look ((y.1,y.2.1)::_) t=some x
     rw [look_cons]
     rcases hx with ⟨j,z,h1,h2,h3,h4⟩|hx
     · by_cases e:j=i
       · subst e
         rw [hy] at h1;cases h1
         rw [if_pos h3,h4]
       rw [hget,if_neg e] at h2
       rw [if_neg (fun e'=>e (hun j i z y h1 hy (h3.trans e'.symm)))]
       exact (stL_look hcur hun t x).2 (.inl ⟨j,z,h1,h2,h3,h4⟩)
     rw [if_neg (fun e'=>by rw [←e',hcur y hym] at hx;cases hx)]
     exact (stL_look hcur hun t x).2 (.inr hx)
   rw [stL_res0 _ _ _ _ hnr] at hx
   rw [hnr y hym]
   show look (stL _ 0 outs _).res t=some x
   rw [stL_res0 _ _ _ _ hnr]
   exact hx
 · -- behind them
   have hall':listed.getD N false=true:=hall N (by omega)
   rw [hall'] at hJ
   have H:=hfin a w (Rel.of_look hJ (by rw [stL_n,stL_n];rfl) (fun t x hx=>?_) (fun t x hx=>?_))
   · simpa using H
   · rw [stL_look hnoe hun] at hx
     simp only [cond_true]
     rw [stL_look hnoe hun]
     rcases hx with ⟨j,y,h1,_,h3⟩|hx
     · exact .inl ⟨j,y,h1,hall j (by have:=(List.getElem?_eq_some_iff.1 h1).1;omega),h3⟩
     exact .inr hx
   simp only [cond_true]
   rw [stL_res0 _ _ _ _ hnr] at hx ⊢
   exact hx
 -- the start
 have e:stL (fun j=>(Array.replicate l.toArray.size false).getD j false) 0 outs σ=σ:=by
  have key:∀ (os:List Out) (i:Nat) (σ:St),stL (fun j=>(Array.replicate l.toArray.size false).getD j false) i os σ=σ:=by
   intro os
   induction os with
   | nil=>intro i σ;rfl
   | cons y os ih=>
    intro i σ
    rw [stL,getD_replicate_false]
    exact ih (i+1) σ
  exact key outs 0 _
 show Rel w0 (stL (fun j=>(Array.replicate l.toArray.size false).getD j false) 0 outs (bif (Array.replicate l.toArray.size false).getD N false then σe else σ)) a _
 rw [getD_replicate_false,cond_false,e]
 obtain⟨I,hI⟩:=hr
 exact⟨I,hI.later (Ext.refl w).drawn⟩
theorem stL_all:∀ (outs:List Out) (i:Nat) (σ:St),stL (fun _=>true) i outs σ=⟨σ.n,finSl outs.reverse σ.slots,finRs outs.reverse σ.res⟩:=fun outs i σ=>by
 have h:=fin_eq (n:=σ.n) (sl:=σ.slots) (rs:=σ.res) outs.reverse outs.reverse.length
 rw [stR_eq,List.reverse_reverse] at h
 have key:∀ (os:List Out) (i j:Nat) (σ:St),stL (fun _=>true) i os σ=stL (fun _=>true) j os σ:=by
  intro os
  induction os with
  | nil=>intro i j σ;rfl
  | cons y os ih=>intro i j σ;rw [stL,stL];exact ih _ _ _
 rw [key outs i 0 σ]
 exact h
theorem FinA.mk {w0:Base} {Q:Exit→St→Prop} {nid d:Nat} {r:R} {x:Bool×S} (h1:(acc.reverse.all (fun y=>y.2.2.isEmpty)&&(acc.reverse.all (fun y=>(look σ.slots y.1).isNone&&!(Nat.beq y.1 d))&&disN (acc.reverse.map (·.1))))=true) (h2:acc.reverse.map (fun y=>y.2.1.2.pur nid)=acc.reverse.map (fun y=>y.2.1.2))
 (h3:∀ σ',Sup (stR (memN (B N)) N acc σ) σ'→Op1 P l.toArray o σ' ((σ'.chg nid r).put o.dst x)) (hk:Nat.beq acc.length N=true)
 (h4:AWl P w0 l.toArray Q (l.drop (N+1)) ⟨σ.n,finSl acc ((d,x)::(σ.chg nid r).slots),finRs acc (σ.chg nid r).res⟩):FinA P w0 Q N B l σ o nid d r x acc.reverse:=by
 simp only [Bool.and_eq_true] at h1
 have hk':=Nat.eq_of_beq_eq_true hk
 refine⟨⟨h1.1,h2,by simpa only [Bool.and_eq_true] using h1.2.1,h1.2.2⟩,fun σ' hs=>h3 σ' ?_,?_⟩
 · rw [←hk',stR_eq,hk'];exact hs
 rw [stL_all,List.reverse_reverse];exact h4
end
end Go.Q
