import Derived.Test.YtdhojcaoljhbiaaGreatDoorB178xr
set_option linter.unusedVariables false
set_option linter.unusedSimpArgs false
namespace Go.Q
open Go.RowKit Go.D
section
variable {P:Program} {ops:Array Oper} {o:Oper} {σ:St}
structure JZ where
 First:Int
 R:List TGraph
 j:Nat
 b:Bool
def JZ.his (z:JZ):THistory:=⟨z.First,z.R.drop z.j⟩
def tlV (hd c:Value) (j:Nat):Prop:=∃ a a' n m,hd=.slice a n m∧c=.slice a' (n-j) (m-j)∧j≤n∧n≤m∧(j<m→∃ g,a=some ⟨g,0,none⟩∧a'=some ⟨g,j*2,none⟩)
def jV (two:Bool) (z:JZ) (c:Value):Value:=match two with|true=>.tuple #[.agg #[.int .i64 z.First,c],.bool z.b]|false=>.agg #[.int .i64 z.First,c]
def JRel (two:Bool) (w:World) (z:JZ) (v:Value) (F:List Nat):Prop:=∃ hd c,v=jV two z c∧C true w (.sl 2 (z.R.map cGraph)) hd F∧tlV hd c z.j
def ResJ (P:Program) (fn:Func) (two:Bool) (z:JZ) (σ:St):Prop:=∀ I w0 a w,RelI I w0 σ a w→∃ v F,(results fn a.tmps).run P w=.ok v w∧JRel two w z v F∧F.Nodup∧∀ b∈F,w0.own b∧Thaw w b
theorem tlV_rf {I:Ip} {w0:Base} {w:World} {a:Act} (hr:RelI I w0 σ a w) {i:Nat} {rows:List (List T)} (hi:look σ.res i=some (.row 2 rows)) {c:Value} (h:VE I w (.rf i) c):tlV (I.hd i) c 0:=by
 obtain⟨h1,a0,n0,m0,h2⟩:=h
 have hC:C true w (.sl 2 rows) (I.hd i) (I.F i):=hr.res i _ hi
 rw [h1] at h2
 rw [h2] at hC
 obtain⟨e1,e2,e3⟩:=hC.hdr
 refine⟨a0,a0,n0,m0,h2,by rw [h1,h2,Nat.sub_zero,Nat.sub_zero],Nat.zero_le _,e2,fun hm=>?_⟩
 rcases hC.blk with ⟨h3,_⟩|⟨g,G,cur,e,h4,_⟩
 · omega
 exact⟨g,h4,by simp [h4]⟩
theorem ResJ.mk {fn:Func} {two:Bool} {z:JZ} {rs:List ResultVar} {i:Nat} {E1:E} {rows:List (List T)} (hl:fn.results=List.toArray rs) (h:RVs P σ rs (.agg [.t (.v (.int .i64 z.First)),E1]::(match two with|true=>[.one (.t (.v (.bool z.b)))]|false=>[])))
 (hi:look σ.res i=some (.row 2 rows)) (hE:(E1=.rf i∧z.j=0)∨E1=.tl i 2 z.j) (he:rows=z.R.map cGraph):ResJ P fn two z σ:=by
 subst he;intro I w0 a w hr
 obtain⟨vs,h1,h2⟩:=run_results (fn:=fn) hr hl h
 obtain⟨c,cr,rfl,⟨cs,rfl,c1,r1,e1,⟨_,k1,_⟩,c2,r2,e2,k2,e3⟩,h4⟩:=h2
 have e3:r2=[]:=e3
 subst e1;subst e2;subst e3
 simp only [C] at k1
 have hC:C true w (.sl 2 (z.R.map cGraph)) (I.hd i) (I.F i):=hr.res i _ hi
 have ht:tlV (I.hd i) c2 z.j:=by
  rcases hE with ⟨rfl,h0⟩|rfl
  · rw [h0];exact tlV_rf hr hi k2
  exact k2
 have ho:=hr.own i _ hi
 cases two with
 | true=>
  obtain⟨c3,r3,rfl,⟨_,k3,_⟩,h5⟩:=h4
  have h5:r3=[]:=h5
  subst h5
  simp only [C] at k3
  exact⟨_,I.F i,h1,⟨I.hd i,c2,by rw [k1.1,k3.1];rfl,hC,ht⟩,ho.1,ho.2⟩
 | false=>
  have h4:cr=[]:=h4
  subst h4
  exact⟨_,I.F i,h1,⟨I.hd i,c2,by rw [k1.1];rfl,hC,ht⟩,ho.1,ho.2⟩
def JPost (w:World) (p:JZ→Prop) (e:Ending) (w':World):Prop:=∃ z v F,e=.returned v∧p z∧JRel true w' z v F∧F.Nodup∧(∀ b∈F,w.heap.size≤b∧Thaw w' b)∧Ext w w'
def FnJ (P:Program) (f:FuncId) (ins:List V0) (p:JZ→Prop):Prop:=Callee P f∧∀ w vs F,Good w []→V0s false w ins vs F→Calls P f (List.toArray vs) w (JPost w p)
def JDPost (w:World) (g:Nat×Value) (p:JZ→Prop) (e:Ending) (w':World):Prop:=∃ z v F,e=.returned v∧p z∧JRel false w' z v F∧F.Nodup∧(∀ b∈F,w.heap.size≤b∧Thaw w' b)∧Chg w w' [g.1]∧CuOk w' g
def FnJD (P:Program) (f:FuncId) (ins:List V0) (p:JZ→Prop):Prop:=
 Callee P f∧∀ w g vs F,Good w [g.1]→CuOk w g→V0s false w ins vs F→g.1∉F→Calls P f (List.toArray (.pointer (some ⟨g.1,0,none⟩)::vs)) w (JDPost w g p)
def JDRes (P:Program) (fn:Func) (g:Nat×Value) (p:JZ→Prop) (σ:St):Prop:=∃ x,p x∧look σ.res 888888=some (.cur g)∧ResJ P fn false x ⟨σ.n,σ.slots,delR σ.res 888888⟩
def RetJD (P:Program) (fn:Func) (g:Nat×Value) (p:JZ→Prop):Exit→St→Prop
 | .normal,σ=>JDRes P fn g p σ
 | .ret,σ=>JDRes P fn g p σ
 | _,_=>False
def RetJ (P:Program) (fn:Func) (p:JZ→Prop):Exit→St→Prop
 | .normal,σ=>∃ x,p x∧ResJ P fn true x σ
 | .ret,σ=>∃ x,p x∧ResJ P fn true x σ
 | _,_=>False
theorem FnJ.walk {n:Nat} {f:FuncId} {fn:Func} {c:Code} {ins:List V0} {p:JZ→Prop} (hf:P.funcs[f]?=some fn) (hb:fn.body=some c) (hname:(fn.name == "runtime.NumGoroutine")=false) (hnt:fn.ntmps=n) (hn:Nat.ble ins.length n=true)
 (h:∀ w0,AW P w0 c (RetJ P fn p) (st0 n ins)):FnJ P f ins p:=by
 subst hnt
 refine⟨⟨fn,hf,hname,by rw [hb];rfl⟩,fun w vs F hG hv=>?_⟩
 refine calls_of_wp hf hb (Code.wp_mono ?_ (h ⟨w,[],hG⟩ _ _ (rel0 hG hv hn)))
 rintro e a' w' ⟨σ,h1,I,hI⟩
 have key:(∃ x,p x∧ResJ P fn true x σ)→a'.defers=[]∧∃ v,(results fn a'.tmps).run P w'=.ok v w'∧JPost w p (.returned v) w':=fun ⟨x,hp,h1⟩=>by
  obtain⟨v,F,g1,g2,g4,g3⟩:=h1 I ⟨w,[],hG⟩ a' w' hI
  exact⟨hI.defers,v,g1,x,v,F,rfl,hp,g2,g4,fun b hb=>⟨(g3 b hb).1.resolve_right (by simp),(g3 b hb).2⟩,hI.ext.toExt⟩
 cases e with
 | normal=>exact key h1
 | ret=>exact key h1
 | exit id=>exact h1.elim
 | goto l=>exact h1.elim
 | panic c=>exact h1.elim
 | outgrown=>exact h1.elim
theorem FnJD.walk {n:Nat} {f:FuncId} {fn:Func} {c:Code} {ins:List V0} {p:JZ→Prop} {σ':Nat×Value→St} (hf:P.funcs[f]?=some fn) (hb:fn.body=some c) (hname:(fn.name == "runtime.NumGoroutine")=false) (hnt:fn.ntmps=n) (hn:Nat.ble (ins.length+1) n=true)
 (hi:∀ g,initC 1 (ins.map fun x=>(false,x)) ⟨n,[(0,(true,.a (.one (.pp 888888 0))))],[(888888,.cur g)]⟩=some (σ' g)) (h:∀ w0 g,AW P w0 c (RetJD P fn g p) (σ' g)):FnJD P f ins p:=by
 subst hnt
 refine⟨⟨fn,hf,hname,by rw [hb];rfl⟩,fun w g vs F hG hC hv hgF=>?_⟩
 have hv':=hv.c (FF:=[g.1]) fun b hb hm=>hgF (by simp only [List.mem_singleton] at hm;rwa [←hm])
 have hl:vs.length=ins.length:=by simpa using hv'.len
 have hn':ins.length+1≤fn.ntmps:=Nat.le_of_ble_eq_true hn
 have hglt:g.1<w.heap.size:=hC.1.lt
 let a0:Act:=⟨(List.toArray (.pointer (some ⟨g.1,0,none⟩)::vs))++Array.replicate (fn.ntmps-(List.toArray (Value.pointer (some ⟨g.1,0,none⟩)::vs)).size) undef,[]⟩
 let I0:Ip:=⟨fun b=>b<w.heap.size∧b≠g.1,fun i=>if i=888888 then [g.1] else [],fun _=>undef,fun i=>if i=888888 then g.1 else 0⟩
 have hget:∀ (j:Nat) v,(Value.pointer (some ⟨g.1,0,none⟩)::vs)[j]?=some v→a0.tmps.getD j undef=v:=fun j v hj=>by
  have hjl:=(List.getElem?_eq_some_iff.1 hj).1
  simp only [a0]
  rw [Array.getD_eq_getD_getElem?,Array.getElem?_append_left (by simpa using hjl)]
  have:(List.toArray (Value.pointer (some ⟨g.1,0,none⟩)::vs))[j]?=some v:=by simpa using hj
  rw [this];rfl
 have hr0:RelI I0 ⟨w,[g.1],hG⟩ ⟨fn.ntmps,[(0,(true,.a (.one (.pp 888888 0))))],[(888888,.cur g)]⟩ a0 w:=by
  have key:∀ i r,look [(888888,R.cur g)] i=some r→i=888888∧r=.cur g:=fun i r hi=>by
   rw [look_cons] at hi
   split at hi
   · rename_i e;cases hi;exact⟨e.symm,rfl⟩
   cases hi
  refine⟨Chg.refl w [g.1],rfl,by simp [a0,hl];omega,fun i z hi=>?_,fun id r hi=>?_,fun b hb=>hb.1,fun id b hb=>?_,fun id r hi=>?_,fun i j hne b hb hb'=>?_⟩
  · rw [look_cons] at hi
    split at hi
    · rename_i e
      subst e;cases hi;exact hget 0 _ rfl
    cases hi
  · obtain⟨rfl,rfl⟩:=key id r hi
    exact⟨rfl,rfl,hC.1⟩
  · simp only [I0] at hb ⊢
    split at hb
    · simp only [List.mem_singleton] at hb;subst hb;exact⟨hglt,fun h=>h.2 rfl⟩
    cases hb
  · obtain⟨rfl,rfl⟩:=key id r hi
    refine⟨by simp [I0],fun b hb=>?_⟩
    have:b=g.1:=by simpa [I0] using hb
    subst this
    exact⟨.inr (by simp),hC.2⟩
  simp only [I0] at hb hb'
  split at hb
  · split at hb'
    · omega
    cases hb'
  cases hb
 obtain⟨I1,r1⟩:=initC_ok (FF:=[g.1]) (fun _ _ _=>trivial) (hi g) hr0 (fun b h1 h2=>⟨h1,fun e=>h2 (by simp [e])⟩) hv' (by simp) (fun b hb=>by cases hb) fun j v hj=>hget (1+j) v (by rw [Nat.add_comm];simpa using hj)
 refine calls_of_wp hf hb (Code.wp_mono ?_ (h ⟨w,[g.1],hG⟩ g _ _ ⟨I1,r1⟩))
 rintro e a' w' ⟨σ1,h1,I,hI⟩
 have key:JDRes P fn g p σ1→a'.defers=[]∧∃ v,(results fn a'.tmps).run P w'=.ok v w'∧JDPost w g p (.returned v) w':=fun ⟨x,hp,hcur,h1⟩=>by
  obtain⟨hF,hB,hcu⟩:I.F 888888=[g.1]∧I.B 888888=g.1∧CuB I.Z w' g:=hI.res _ _ hcur
  have hsz:w.heap.size≤w'.heap.size:=hI.ext.size
  let W:World:={ w' with heap:=w'.heap.extract 0 w.heap.size }
  have hW:W.heap.size=w.heap.size:=by simp [W];omega
  have hWk:∀ k,k<w.heap.size→W.heap[k]?=w'.heap[k]?:=fun k hk=>trunc_get _ _ _ hsz hk
  have hGW:Good W []:=hG.step (Nat.le_of_eq hW.symm) (fun k hk hn=>(hWk k hk).trans (hI.ext.block k hk hn)) fun b hb=>by cases hb
  have hI2:RelI I ⟨W,[],hGW⟩ ⟨σ1.n,σ1.slots,delR σ1.res 888888⟩ a' w':=by
   refine⟨⟨rfl,rfl,rfl,by rw [hW];exact hsz,fun k hk _=>?_⟩,hI.defers,hI.size,hI.slots,fun id r hr=>hI.res id r (look_delR _ _ _ _ hr).2,hI.old,hI.lt,fun id r hr=>?_,hI.apart⟩
   · rw [hW] at hk;exact (hWk k hk).symm
   obtain⟨e1,e2⟩:=look_delR _ _ _ _ hr
   refine⟨(hI.own id r e2).1,fun b hb=>⟨?_,((hI.own id r e2).2 b hb).2⟩⟩
   rcases ((hI.own id r e2).2 b hb).1 with h|h
   · left;show W.heap.size≤b;rw [hW];exact h
   exfalso
   have:b=g.1:=by simpa using h
   subst this;exact hI.apart id 888888 e1 _ hb (by rw [hF];simp)
  obtain⟨v,F,g1,g2,g4,g3⟩:=h1 I ⟨W,[],hGW⟩ a' w' hI2
  refine⟨hI.defers,v,g1,x,v,F,rfl,hp,g2,g4,fun b hb=>⟨?_,(g3 b hb).2⟩,hI.ext,?_,?_⟩
  · have:=(g3 b hb).1.resolve_right (by simp)
    rwa [show (Base.W ⟨W,[],hGW⟩).heap.size=w.heap.size from hW] at this
  · refine hcu.congr rfl fun b _ hz=>⟨⟨hI.old b hz,fun e=>?_⟩,rfl⟩
    subst e;exact (hI.lt 888888 _ (by rw [hF];simp)).2 hz
  exact ((hI.own 888888 _ hcur).2 g.1 (by rw [hF];simp)).2
 cases e with
 | normal=>exact key h1
 | ret=>exact key h1
 | exit id=>exact h1.elim
 | goto l=>exact h1.elim
 | panic c=>exact h1.elim
 | outgrown=>exact h1.elim
def jA (n:Nat) (z:JZ):A:=.agg [.t (.v (.int .i64 z.First)),.tl n 2 z.j]
theorem jA_ok {I:Ip} {w:World} {n:Nat} {z:JZ} {c:Value} (h:tlV (I.hd n) c z.j):VA I w (jA n z) (.agg #[.int .i64 z.First,c]):=
 ⟨_,rfl,_,_,rfl,⟨[],by simp only [C];exact⟨trivial,trivial,rfl⟩,by simp⟩,_,_,rfl,h,rfl⟩
theorem jS_ok {I:Ip} {w:World} {n:Nat} {z:JZ} {c:Value} (h:tlV (I.hd n) c z.j):VS I w (true,.a (jA n z)) (jV false z c):=jA_ok h
theorem R_calldJ {f:FuncId} {x:Operand} {l:List Operand} {tys:Array TypeId} {ins:List V0} {p:JZ→Prop} {g:Nat×Value} {u:Nat} (n:Nat) (h:FnJD P f ins p) (ho:o.op=.call { callee:=.value (.func f),args:=(x::l).toArray,argTypes:=tys }) (hg:o.guard=none) (hd:o.dst.all (fun d=>Nat.blt d σ.n)=true)
 (hx:Get σ true x (.one (.pp u 0))) (hu:look σ.res u=some (.cur g)) (hn:nvB u σ.slots σ.res=true) (ha:ArgsD σ u true l ins) (hf:σ.has n=false):OpE P ops o σ fun σ'=>∃ z,p z∧σ'=(σ.add n (.row 2 (z.R.map cGraph))).put o.dst (true,.a (jA n z)):=by
 rintro w0 a w ⟨I,hr⟩ K Q hK
 simp only [Region.wanted,hg,if_true]
 obtain⟨hF,hB,hcu⟩:I.F u=[g.1]∧I.B u=g.1∧CuB I.Z w g:=hr.res _ _ hu
 obtain⟨F,hV,hap⟩:=ha.ok hr hu
 have hv:a.eval x=.pointer (some ⟨g.1,0,none⟩):=by
  have:a.eval x=.pointer (some ⟨I.B u,0,none⟩):=hx.va hr rfl
  rw [this,hB]
 have hZg:∀ b,I.Z b→b≠g.1:=fun b hz e=>by subst e;exact (hr.lt u _ (by rw [hF];simp)).2 hz
 have hgo:=(hr.own u _ hu).2 g.1 (by rw [hF];simp)
 have hok:CuOk w g:=⟨hcu.congr rfl fun b _ hz=>⟨⟨hr.old b hz,hZg b hz⟩,rfl⟩,hgo.2⟩
 have hgood:Good w [g.1]:=hr.goodF fun b hb=>by simp only [List.mem_singleton] at hb;subst hb;exact hgo.1
 unfold Oper.wp
 rw [run_enter h.1 ho,List.map_cons,hv]
 refine (h.2 w g _ F hgood hok hV (fun hm=>hap g.1 hm (by rw [hF];simp))).mono fun e w' hR=>?_
 obtain⟨z,v,G,rfl,hp,⟨hd0,c0,rfl,h1,h2⟩,hnd,h3,h4,h5⟩:=hR
 have hcu':CuB I.Z w' g:=by
  obtain⟨i,m,t,G0,bs,k1,k2,k3,k4,k5⟩:=hcu
  obtain⟨i',m',t',G0',bs',j1,j2,j3,j4,j5⟩:=h5.1
  exact⟨i',m',t',G0,bs,j1,k2.congr fun b hb=>h4.block b (k2.lt b hb) (by simpa using hZg b (k3 b hb)),k3,j4,k5⟩
 obtain⟨I',hr',hZ',hF'⟩:=hr.moved hu hn h4 h5 hZg hcu'
 have hr2:=hr'.addF (id:=n) hf (G:=G) (u:=hd0) (b:=0) (r:=.row 2 (z.R.map cGraph)) hnd (fun b hb=>
  ⟨.inl (Nat.le_trans hr.ext.size (h3 b hb).1),C.lt h1 b hb,(h3 b hb).2,fun hz=>by rw [hZ'] at hz;have:=hr.old b hz;have:=(h3 b hb).1;omega,fun i hi=>by rw [hF'] at hi;have:=(hr.lt i b hi).1;have:=(h3 b hb).1;omega⟩) (by show C true w' _ _ _;simpa [Ip.set] using h1)
 exact hK _ _ _ ⟨z,hp,rfl⟩ ⟨_,hr2.put hd (jS_ok (by simpa [Ip.set] using h2))⟩
theorem R_callJ {f:FuncId} {l:List Operand} {tys:Array TypeId} {ins:List V0} {p:JZ→Prop} (n:Nat) (h:FnJ P f ins p) (ho:o.op=.call { callee:=.value (.func f),args:=l.toArray,argTypes:=tys }) (hg:o.guard=none) (hd:o.dst.all (fun d=>Nat.blt d σ.n)=true)
 (ha:Args σ true l ins) (hf:σ.has n=false):OpE P ops o σ fun σ'=>∃ z,p z∧σ'=(σ.add n (.row 2 (z.R.map cGraph))).put o.dst (true,.tup [jA n z,.one (.t (.v (.bool z.b)))]):=by
 rintro w0 a w ⟨I,hr⟩ K Q hK
 simp only [Region.wanted,hg,if_true]
 obtain⟨F,hF⟩:=ha.ok hr rfl
 unfold Oper.wp
 rw [run_enter h.1 ho]
 refine (h.2 w _ F hr.good hF).mono fun e w' hR=>?_
 obtain⟨z,v,G,rfl,hp,⟨hd0,c0,rfl,h1,h2⟩,hnd,h3,h4⟩:=hR
 have hr2:=(hr.later h4).addF (id:=n) hf (G:=G) (u:=hd0) (b:=0) (r:=.row 2 (z.R.map cGraph)) hnd (fun b hb=>
  ⟨.inl (Nat.le_trans hr.ext.size (h3 b hb).1),C.lt h1 b hb,(h3 b hb).2,fun hz=>by have:=hr.old b hz;have:=(h3 b hb).1;omega,fun i hi=>by have:=(hr.lt i b hi).1;have:=(h3 b hb).1;omega⟩) (by show C true w' _ _ _;simpa [Ip.set] using h1)
 refine hK _ _ _ ⟨z,hp,rfl⟩ ⟨_,hr2.put hd ?_⟩
 exact⟨_,rfl,_,_,rfl,jA_ok (by simpa [Ip.set] using h2),_,_,rfl,⟨[],by simp only [C];exact⟨trivial,trivial,rfl⟩,by simp⟩,rfl⟩
theorem R_store_px {id k i p:Nat} {t:TypeId} {x y:Operand} {rows:List (List T)} {row:List T} {A0:A} {σ':St} {ts:List T} {ag:Bool} {n:Nat} (ho:o.op=.store t x y) (hg:o.guard=none) (hdn:o.dst=none) (hy:Get σ true y A0) (ha:absorb σ (cellsA A0)=some (σ',ts))
 (hx:Get σ' true x (.one (.pr id k i p))) (hs:look σ'.res id=some (.row k rows)) (hi:rows[i]?=some row) (ht:tyB P t ag n=true) (he:(cellsA A0).all E.cell1=true) (hl:Nat.beq (cellsA A0).length n=true) (hn:Nat.ble (p+n) row.length=true) :
 Op1 P ops o σ (σ'.upd id (.row k (rows.set i (row.take p++ts++row.drop (p+n))))):=
 .skip hg fun w0 a w ⟨I,hr⟩=>by
  obtain⟨ds,hd1,hd2,hd3⟩:=(hy.va hr rfl).cells he
  have hdl:=VEs_len hd2
  obtain⟨I',G,r1,r2,r3,r4,_⟩:=RelI.absorb ha hr hd2
  obtain⟨g,n',m',hg1,hv⟩:VE I' w (.pr id k i p) (a.eval x):=hx.va r1 rfl
  have hC:C true w (.sl k rows) _ _:=r1.res id _ hs
  have own:=r1.own id _ hs
  have hlt:=r1.lt id
  simp only [C] at hC
  obtain⟨a0,len,cap,g1,g2,g3,g4,g5⟩:=hC
  have hlti:i<rows.length:=(List.getElem?_eq_some_iff.1 hi).1
  have hn':=Nat.le_of_ble_eq_true hn
  have hl':=Nat.eq_of_beq_eq_true hl
  rcases g5 with ⟨g5,_⟩|⟨b,off,Gr,rfl,hF,g6,g7,g8⟩
  · omega
  obtain⟨rfl,cur,e,hcur,hcs⟩:=g7 trivial
  rw [hg1] at g1
  cases g1
  rw [hF] at own hlt
  obtain⟨u1,xs,u2,u3,u4⟩:=g8.flat
  simp only [Nat.zero_add] at u4
  obtain⟨s1,s2⟩:=set_split (row.take p++ts++row.drop (p+n)) hi
  have hrow:row=row.take p++((row.drop p).take n++row.drop (p+n)):=by
   rw [←List.drop_drop,List.take_append_drop,List.take_append_drop]
  have hrk:row.length=k:=u1 row (List.mem_of_getElem? hi)
  have e1:rows.flatten=((rows.take i).flatten++row.take p)++((row.drop p).take n++(row.drop (p+n)++(rows.drop (i+1)).flatten)):=by
   conv=>lhs;rw [s1,hrow]
   simp
  rw [e1] at u2
  obtain⟨x1,x23,F1,F23,rfl,rfl,v1,v2,v3⟩:=u2.split
  obtain⟨x2,x3,F2,F3,rfl,rfl,v4,v5,v6⟩:=v2.split
  have hfl:((rows.take i).flatten).length=i*k:=by
   have key:∀ (l:List (List T)),(∀ r∈l,r.length=k)→l.flatten.length=l.length*k:=by
    intro l
    induction l with
    | nil=>intro _;simp
    | cons r l ih=>intro h;rw [List.flatten_cons,List.length_append,ih fun r hr=>h r (by simp [hr]),h r (by simp),List.length_cons,Nat.succ_mul];omega
   rw [key _ fun r hr=>u1 r (List.mem_of_mem_take hr),List.length_take,Nat.min_eq_left (Nat.le_of_lt hlti)]
  have lx1:x1.length=i*k+p:=by rw [v3,List.length_append,hfl,List.length_take];omega
  have lx2:x2.length=n:=by rw [v6,List.length_take,List.length_drop];omega
  have hdn':ds.length=n:=hdl.trans hl'
  have htot:(i*k+p)+n+x3.length=rows.length*k:=by
   have:=u3
   simp only [List.length_append] at this
   omega
  have hcurl:cur.toList=x1++(x2++x3)++cur.toList.drop (x1++(x2++x3)).length:=by
   apply List.ext_getElem?;intro j
   by_cases hj:j<(x1++(x2++x3)).length
   · have:=u4 j _ (List.getElem?_eq_getElem hj)
     simp only [World.cell?,hcur] at this
     rw [List.getElem?_append_left hj,List.getElem?_eq_getElem hj]
     simpa using this
   rw [List.getElem?_append_right (by omega),List.getElem?_drop]
   congr 1
   omega
  have hst:=run_storeCells_at P g (i*k+p) e ds 0 cur w hcur (by rw [hcs];have:=Nat.mul_le_mul_right k g3;rw [←g2] at this;simp;omega) hd3
  simp only [Nat.add_zero] at hst
  have hnew:cur.toList.take (i*k+p)++ds++cur.toList.drop (i*k+p+ds.length)=x1++(ds++x3)++cur.toList.drop (x1++(x2++x3)).length:=by
   rw [hcurl]
   generalize cur.toList.drop (x1++(x2++x3)).length=tl
   have t1:(x1++(x2++x3)++tl).take (i*k+p)=x1:=by rw [List.append_assoc,←lx1,List.take_left' rfl]
   have t2:(x1++(x2++x3)++tl).drop (i*k+p+ds.length)=x3++tl:=by
    rw [←List.drop_drop,List.append_assoc,←lx1,List.drop_left' rfl,List.append_assoc,hdn',←lx2,List.drop_left' rfl]
   rw [t1,t2]
   have t3:(x1++(x2++x3)++tl).drop (x1++(x2++x3)).length=tl:=List.drop_left' rfl
   simp
  rw [hnew] at hst
  generalize htl:cur.toList.drop (x1++(x2++x3)).length=tl at hst
  have hb:g∈I'.F id:=by rw [hF];simp
  have hgG:∀ c∈G,c≠g:=fun c hc e=>(r4 c hc).2.2.2.2 id (e▸hb)
  have hgF:∀ c∈F1++(F2++F3),c≠g:=fun c hc e=>(List.nodup_cons.1 own.1).1 (e▸hc)
  have hch:Chg w (w.setRow g (x1++(ds++x3)++tl).toArray) (I'.F id):=
   ⟨rfl,rfl,rfl,by simp [World.setRow],fun c _ hk=>setRow_other w g c _ (fun e=>hk (by rw [hF,e];simp))⟩
  have hset:=setRow_heap w g cur (x1++(ds++x3)++tl).toArray e (0,0) hcur
  have hoth:∀ c,c≠g→(w.setRow g (x1++(ds++x3)++tl).toArray).heap[c]?=w.heap[c]?:=fun c hc=>setRow_other w g c _ hc
  have hsz:(w.setRow g (x1++(ds++x3)++tl).toArray).heap.size=w.heap.size:=by simp [World.setRow]
  refine⟨w.setRow g (x1++(ds++x3)++tl).toArray,?_,I'.set id (g::(F1++(G++F3))) (I'.hd id) (I'.B id),?_⟩
  · have hsz':(a.eval y).cells.size=n:=by rw [hd1];simpa using hdn'
    simp [execOp,ho,hv,Instr.storeAt,Instr.sureAddr,storeVar,tyB_size ht,hd1,hst]
    omega
  rw [hdn]
  refine r1.upd hs hch ⟨List.nodup_cons.2 ⟨fun hm=>?_,?_⟩,fun c hc=>?_⟩ ?_
  · rcases List.mem_append.1 hm with hm|hm
    · exact hgF g (by simp [hm]) rfl
    rcases List.mem_append.1 hm with hm|hm
    · exact hgG g hm rfl
    exact hgF g (by simp [hm]) rfl
  · have hnd:=(List.nodup_cons.1 own.1).2
    obtain⟨d1,d23,d3⟩:=List.nodup_append.1 hnd
    obtain⟨_,d2,_⟩:=List.nodup_append.1 d23
    have hGF:∀ c∈G,c∉F1∧c∉F3:=fun c hc=>⟨fun h=>(r4 c hc).2.2.2.2 id (by rw [hF];simp [h]),fun h=>(r4 c hc).2.2.2.2 id (by rw [hF];simp [h])⟩
    refine List.nodup_append.2 ⟨d1,List.nodup_append.2 ⟨r3,d2,fun c hc d hd e=>(hGF c hc).2 (e▸hd)⟩,fun c hc d hd e=>?_⟩
    rcases List.mem_append.1 hd with hd|hd
    · exact (hGF d hd).1 (e▸hc)
    exact d3 c hc d (by simp [hd]) e
  · by_cases hcg:c=g
    · subst hcg
      exact⟨(own.2 c (by simp)).1,by rw [hsz];exact g6,⟨.inl _,e,hset⟩,.inl hb⟩
    have hold':c∈F1++(F2++F3)→w0.own c∧c<(w.setRow g (x1++(ds++x3)++tl).toArray).heap.size∧Thaw (w.setRow g (x1++(ds++x3)++tl).toArray) c∧(c∈I'.F id∨w.heap.size≤c∨Free I' w0 w c):=fun hm=>by
     obtain⟨o1,cc,ee,o2⟩:=own.2 c (List.mem_cons_of_mem _ hm)
     exact⟨o1,by rw [hsz];exact (hlt c (List.mem_cons_of_mem _ hm)).1,⟨cc,ee,(hoth c hcg).trans o2⟩,.inl (by rw [hF];exact List.mem_cons_of_mem _ hm)⟩
    rcases List.mem_cons.1 hc with hc|hc
    · exact absurd hc hcg
    rcases List.mem_append.1 hc with hc|hc
    · exact hold' (by simp [hc])
    rcases List.mem_append.1 hc with hc|hc
    · obtain⟨f1,f2,⟨cc,ee,f3⟩,f4⟩:=r4 c hc
      exact⟨f1,by rw [hsz];exact f2,⟨cc,ee,(hoth c hcg).trans f3⟩,.inr (.inr ⟨f1,f2,⟨cc,ee,f3⟩,f4⟩)⟩
    exact hold' (by simp [hc])
  show C true _ _ _ _
  simp only [Ip.set,if_true]
  unfold C
  refine⟨_,_,_,hg1,by simpa using g2,g3,g4,.inr ⟨g,0,F1++(G++F3),rfl,rfl,by rw [hsz];exact g6,fun _=>⟨rfl,_,e,hset,?_⟩,Rws.of (xs:=x1++(ds++x3)) (fun r hm=>?_) ?_ fun j u hj=>?_⟩⟩
  · rw [←hcs]
    have:=congrArg List.length hcurl
    rw [htl] at this
    simp only [List.length_append,Array.length_toList] at this
    simp only [List.size_toArray,List.length_append]
    omega
  · rcases List.mem_or_eq_of_mem_set hm with hm|rfl
    · exact u1 r hm
    have:=Cs.len r2
    simp only [List.length_append,List.length_take,List.length_drop]
    omega
  · rw [s2]
    have ef:(rows.take i++(row.take p++ts++row.drop (p+n))::rows.drop (i+1)).flatten=((rows.take i).flatten++row.take p)++(ts++(row.drop (p+n)++(rows.drop (i+1)).flatten)):=by simp
    rw [ef]
    exact (v1.congr fun c hc=>hoth c (hgF c (by simp [hc]))).append ((r2.congr fun c hc=>hoth c (hgG c hc)).append (v5.congr fun c hc=>hoth c (hgF c (by simp [hc]))))
  simp only [World.cell?,hset,Nat.zero_add]
  simp only [Option.isSome_none,Bool.false_eq_true,if_false,List.getElem?_toArray]
  rw [List.getElem?_append_left (List.getElem?_eq_some_iff.1 hj).1]
  exact hj
theorem C_tl {w:World} {rows:List (List T)} {hd c:Value} {j:Nat} {F:List Nat} (hC:C true w (.sl 2 rows) hd F) (h:tlV hd c j):∃ G,C false w (.sl 2 (rows.drop j)) c G∧∀ b∈G,b∈F:=by
 obtain⟨a,a',n,m,rfl,rfl,h3,h4,h5⟩:=h
 obtain⟨e1,e2,e3⟩:=hC.hdr
 rcases (C.read hC) with hR
 simp only [C] at hR
 obtain⟨a1,n1,m1,e,_,_,_,hb⟩:=hR
 cases e
 by_cases hj:j=n
 · refine⟨[],?_,by simp⟩
   unfold C
   exact⟨_,_,_,rfl,by simp;omega,by omega,by omega,.inl ⟨by omega,rfl,by simp⟩⟩
 rcases hb with ⟨h6,_⟩|⟨b,off,G,rfl,rfl,h7,_,h8⟩
 · omega
 obtain⟨g,hg,rfl⟩:=h5 (by omega)
 cases hg
 obtain⟨G2,g3,g4⟩:=h8.drop j (by omega)
 refine⟨b::G2,?_,fun x hx=>?_⟩
 · unfold C
   refine⟨_,_,_,rfl,by simp;omega,by omega,by omega,.inr ⟨b,0+j*2,G2,?_,rfl,h7,by simp,g3⟩⟩
   simp
 rcases List.mem_cons.1 hx with rfl|hx
 · simp
 simp [g4 x hx]
def frzJ (i:Nat) (R:List TGraph):E→E
 | .tl i' k j=>bif Nat.beq i' i then .vw i (.sl 2 ((R.drop j).map cGraph)) else .tl i' k j
 | .rf i'=>bif Nat.beq i' i then .vw i (.sl 2 (R.map cGraph)) else .rf i'
 | .t x=>.t x
 | _=>.no
def tl2:E→Bool
 | .tl _ k _=>Nat.beq k 2
 | _=>true
theorem VEs_frzJ {I:Ip} {w0:Base} {w:World} {a:Act} (hr:RelI I w0 σ a w) {i:Nat} {R:List TGraph} (hi:look σ.res i=some (.row 2 (R.map cGraph))):∀ {cs:List E} {vs:List Value},(∀ i' k' j',E.tl i' k' j'∈cs→k'=2)→VEs I w cs vs→VEs I w (cs.map (frzJ i R)) vs
 | [],vs,_,h=>h
 | e::cs,vs,hk,⟨c,cr,ev,h1,h2⟩=>by
  refine⟨c,cr,ev,?_,VEs_frzJ hr hi (fun i' k' j' hm=>hk i' k' j' (List.mem_cons_of_mem _ hm)) h2⟩
  have hC:C true w (.sl 2 (R.map cGraph)) (I.hd i) (I.F i):=hr.res i _ hi
  cases e with
  | tl i' k j=>
   show VE I w (bif Nat.beq i' i then _ else _) c
   cases hb:Nat.beq i' i with
   | true=>
    have e:=Nat.eq_of_beq_eq_true hb
    subst e
    have:=hk i' k j List.mem_cons_self
    subst this
    obtain⟨G,g1,g2⟩:=C_tl hC (show tlV (I.hd i') c j from h1)
    exact⟨G,by rw [List.map_drop];exact g1,g2⟩
   | false=>exact h1
  | rf i'=>
   show VE I w (bif Nat.beq i' i then _ else _) c
   cases hb:Nat.beq i' i with
   | true=>
    have e:=Nat.eq_of_beq_eq_true hb
    subst e
    exact⟨I.F i',by rw [h1.1];exact hC.read,fun b hb=>hb⟩
   | false=>exact h1
  | t x=>exact h1
  | vw id x=>trivial
  | pp id off=>trivial
  | pr id k i j=>trivial
  | sb id k i j=>trivial
  | pf id k m=>trivial
  | no=>trivial
theorem Le.frzT (u i:Nat) {n:Nat} {sl:List (Nat×(Bool×S))} {rs:List (Nat×R)} {cs:List E} {rows:List (List T)} {R0:List TGraph} (hne:u≠i) (h1:look rs u=some (.box cs)) (h2:look rs i=some (.row 2 rows)) (he:rows=R0.map cGraph) (hk:cs.all tl2=true) :
 Le ⟨n,sl,rs⟩ ⟨n,sl,(u,.box (cs.map (frzJ i R0)))::(i,.opq)::delR (delR rs u) i⟩:=fun w0 a w ⟨I,hr⟩=>by
 subst he
 have hk:∀ i' k' j',E.tl i' k' j'∈cs→k'=2:=fun i' k' j' hm=>Nat.eq_of_beq_eq_true (List.all_eq_true.1 hk _ hm)
 have key:∀ j r,look ((u,R.box (cs.map (frzJ i R0)))::(i,.opq)::delR (delR rs u) i) j=some r→(j=u∧r=.box (cs.map (frzJ i R0)))∨(j=i∧r=.opq)∨look rs j=some r:=fun j r hj=>by
  rw [look_cons] at hj
  split at hj
  · rename_i e;cases hj;exact .inl ⟨e.symm,rfl⟩
  rw [look_cons] at hj
  split at hj
  · rename_i e;cases hj;exact .inr (.inl ⟨e.symm,rfl⟩)
  obtain⟨_,a2⟩:=look_delR _ _ _ _ hj
  exact .inr (.inr (look_delR _ _ _ _ a2).2)
 refine⟨I,⟨hr.ext,hr.defers,hr.size,hr.slots,fun j r hj=>?_,hr.old,hr.lt,fun j r hj=>?_,hr.apart⟩⟩
 · rcases key j r hj with ⟨rfl,rfl⟩|⟨rfl,rfl⟩|hj
   · obtain⟨hF,vs,e,hb,hv⟩:RR I w j (.box cs):=hr.res _ _ h1
     exact⟨hF,vs,e,hb,VEs_frzJ hr h2 hk hv⟩
   · trivial
   exact hr.res j r hj
 rcases key j r hj with ⟨rfl,_⟩|⟨rfl,_⟩|hj
 · exact hr.own _ _ h1
 · exact hr.own _ _ h2
 exact hr.own j r hj
end
end Go.Q
