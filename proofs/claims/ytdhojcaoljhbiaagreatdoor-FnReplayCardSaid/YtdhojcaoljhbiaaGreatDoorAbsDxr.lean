import Derived.Test.YtdhojcaoljhbiaaGreatDoorAbs8xr
import Derived.Test.YtdhojcaoljhbiaaGreatDoorAbs2xr
set_option linter.unusedVariables false
set_option linter.unusedSimpArgs false
namespace Go.Q
open Go.RowKit
section
variable {P:Program} {ops:Array Oper} {o:Oper} {σ:St} {q:Bool}
def cellsV0:V0→List T
 | .one t=>[t]
 | .agg l=>l
def unflE:List V0→List E→List A
 | [],_=>[]
 | x::r,es=>match x with
  | .one _=>.one (es.headD .no)::unflE r (es.drop 1)
  | .agg l=>.agg (es.take l.length)::unflE r (es.drop l.length)
theorem V0s.cells {o:Bool} {w:World}:∀ {xs:List V0} {vs:List Value} {G:List Nat},V0s o w xs vs G→∃ cs,Cs o w (xs.flatMap cellsV0) cs G∧∀ I es,VEs I w es cs→VAs I w (unflE xs es) vs
 | [],vs,G,⟨h1,h2⟩=>⟨[],by unfold Cs;exact⟨rfl,h2⟩,fun I es h=>by rw [unflE];exact h1⟩
 | x::xs,vs,G,⟨v,vr,G1,G2,h1,h2,h3,h4⟩=>by
  obtain⟨cs,g1,g2⟩:=V0s.cells h3
  cases x with
  | one t=>
   refine⟨v::cs,?_,fun I es h=>?_⟩
   · rw [List.flatMap_cons]
     show Cs o w (t::_) _ _
     unfold Cs
     exact⟨v,cs,G1,G2,rfl,h2,g1,h4⟩
   match es,h with
   | [],h=>simp [VEs] at h
   | e::es,h=>
    obtain⟨c,cr,e1,k1,k2⟩:=h
    cases e1
    exact⟨v,vr,h1,k1,g2 I es k2⟩
  | agg l=>
   obtain⟨ds,e1,h2⟩:=h2
   refine⟨ds++cs,by rw [List.flatMap_cons,h4];exact h2.append g1,fun I es h=>?_⟩
   have hl:=h2.len
   refine⟨v,vr,h1,⟨ds,e1,?_⟩,g2 I _ ?_⟩
   · have:=VEs_take l.length h
     rwa [List.take_left' hl] at this
   have:=VEs_drop l.length h
   rwa [List.drop_left' hl] at this
def outV (n:Nat):V→Option (S×List (Nat×R))
 | .a x=>match outV0 n x with|some (y,rs)=>some (.a y,rs)|none=>none
 | .tup l=>match outL n (l.flatMap cellsV0) with|some (es,rs)=>some (.tup (unflE l es),rs)|none=>none
theorem outV_ok {w0:Base} {w:World} {a:Act} {x:V} {n:Nat} {y:S} {rs:List (Nat×R)} {I:Ip} {v:Value} {G:List Nat} (h:outV n x=some (y,rs)) (hf:(rs.all fun x=>!σ.has x.1)=true) (hr:RelI I w0 σ a w) (hC:Vr true w x v G) (hn:G.Nodup) (hG:∀ b∈G,Free I w0 w b) :
 ∃ I',RelI I' w0 (σ.adds rs) a w∧VS I' w (true,y) v:=by
 cases x with
 | a x=>
  rw [outV] at h
  split at h
  · rename_i h1
    simp only [Option.some.injEq,Prod.mk.injEq] at h
    obtain⟨rfl,rfl⟩:=h
    obtain⟨I',g1,g2,_,_⟩:=outV0_ok h1 hf hr hC hn hG
    exact⟨I',g1,g2⟩
  cases h
 | tup l=>
  rw [outV] at h
  split at h
  · rename_i es rs' h1
    simp only [Option.some.injEq,Prod.mk.injEq] at h
    obtain⟨rfl,rfl⟩:=h
    obtain⟨vs,e1,h2⟩:=hC
    obtain⟨cs,g1,g2⟩:=h2.cells
    obtain⟨I',k1,k2,_,_⟩:=outL_ok h1 hf hr g1 hn hG
    exact⟨I',k1,vs,e1,g2 I' es k2⟩
  cases h
inductive Args (σ:St) (q:Bool):List Operand→List V0→Prop where
 | nil:Args σ q [] []
 | cons {x:Operand} {A0:A} {v:V0} {l:List Operand} {vs:List V0} (hx:Get σ q x A0) (hv:readA σ A0=some v) (h:Args σ q l vs):Args σ q (x::l) (v::vs)
theorem Args.ok {l:List Operand} {ins:List V0} (h:Args σ q l ins) {I:Ip} {w0:Base} {w:World} {a:Act} (hr:RelI I w0 σ a w) (hq:q=true):∃ F,V0s false w ins (l.map a.eval) F:=by
 induction h with
 | nil=>exact⟨[],rfl,rfl⟩
 | cons hx hv h ih=>
  obtain⟨F,ih⟩:=ih
  obtain⟨G,hg⟩:=readA_ok hr hv (hx.va hr hq)
  exact⟨G++F,_,_,G,F,rfl,hg,ih,rfl⟩
theorem V0r.lt {oo:Bool} {w:World} {x:V0} {v:Value} {F:List Nat} (h:V0r oo w x v F):∀ b∈F,b<w.heap.size:=by
 cases x with
 | one t=>exact C.lt h
 | agg l=>obtain⟨cs,_,h⟩:=h;exact h.lt
theorem V0s.lt {oo:Bool} {w:World}:∀ {l:List V0} {vs:List Value} {F:List Nat},V0s oo w l vs F→∀ b∈F,b<w.heap.size
 | [],_,_,⟨_,h⟩,b,hb=>by subst h;cases hb
 | _::_,_,_,⟨v,vr,G1,G2,_,h2,h3,h4⟩,b,hb=>by
  subst h4
  rcases List.mem_append.1 hb with hb|hb
  · exact h2.lt b hb
  exact V0s.lt h3 b hb
theorem Vr.lt {oo:Bool} {w:World} {x:V} {v:Value} {F:List Nat} (h:Vr oo w x v F):∀ b∈F,b<w.heap.size:=by
 cases x with
 | a x=>exact V0r.lt h
 | tup l=>obtain⟨vs,_,h⟩:=h;exact h.lt
theorem adds_n:∀ {σ:St} (rs:List (Nat×R)),(σ.adds rs).n=σ.n
 | σ,[]=>rfl
 | σ,(id,r)::l=>by rw [St.adds,adds_n l];rfl
theorem run_enter {f:FuncId} (hc:Callee P f) {l:List Operand} {tys:Array TypeId} {a:Act} {w:World} (ho:o.op=.call { callee:=.value (.func f),args:=l.toArray,argTypes:=tys }) :
 (execOp a.eval o).run P w=.ok (.enter f (l.map a.eval).toArray) w:=by
 obtain⟨fn,h1,h2,h3⟩:=hc
 have:a.eval (.func f)=.func (.func f) #[] #[]:=rfl
 have h2':¬ fn.name= "runtime.NumGoroutine":=by simpa using h2
 have h3':¬ fn.body=none:=by intro e;rw [e] at h3;cases h3
 simp [execOp,ho,resolve,this,Deferred.ofValue,invoke,callFunc,h1,h2',h3']
theorem Cb {f:FuncId} {l:List Operand} {tys:Array TypeId} {ins:List V0} {out:V} {y:S} {rs:List (Nat×R)} (n:Nat) (h:FnT P f ins out) (ho:o.op=.call { callee:=.value (.func f),args:=l.toArray,argTypes:=tys }) (hg:o.guard=none) (hd:o.dst.all (fun d=>Nat.blt d σ.n)=true)
 (ha:Args σ true l ins) (hout:outV n out=some (y,rs)) (hf:(rs.all fun x=>!σ.has x.1)=true):Op1 P ops o σ ((σ.adds rs).put o.dst (true,y)):=by
 rintro w0 a w ⟨I,hr⟩ K Q hK
 simp only [Region.wanted,hg,if_true]
 obtain⟨F,hF⟩:=ha.ok hr rfl
 unfold Oper.wp
 rw [run_enter h.1 ho]
 refine (h.2 w _ F hr.good hF).mono fun e w' hR=>?_
 obtain⟨v,G,rfl,h1,h2,h3,h4⟩:=hR
 obtain⟨I',g1,g2⟩:=outV_ok hout hf (hr.later h4) h1 h2 fun b hb=>⟨.inl (Nat.le_trans hr.ext.size (h3 b hb).1),(Vr.lt h1 b hb),(h3 b hb).2,fun hz=>by have:=hr.old b hz;have:=(h3 b hb).1;omega,fun i hi=>by have:=(hr.lt i b hi).1;have:=(h3 b hb).1;omega⟩
 refine hK _ _ ⟨I',g1.put ?_ g2⟩
 have:(σ.adds rs).n=σ.n:=adds_n rs
 rw [this];exact hd
def Ip.also (I:Ip) (G:List Nat):Ip:=⟨fun b=>I.Z b∨b∈G,I.F,I.hd,I.B⟩
theorem VE.also {I:Ip} {w:World} (G:List Nat) {e:E} {c:Value} (h:VE I w e c):VE (I.also G) w e c:=by
 cases e with
 | t x=>obtain⟨G,h1,h2⟩:=h;exact⟨G,h1,fun b hb=>.inl (h2 b hb)⟩
 | rf i=>exact h
 | tl i k j=>exact h
 | pf i k j=>exact h
 | vw i x=>exact h
 | pp i x=>exact h
 | pr i a b c=>exact h
 | sb i a b c=>exact h
 | no=>trivial
theorem VEs.also {I:Ip} {w:World} (G:List Nat):∀ {l:List E} {cs:List Value},VEs I w l cs→VEs (I.also G) w l cs
 | [],_,h=>h
 | _::_,_,⟨c,cr,h1,h2,h3⟩=>⟨c,cr,h1,h2.also G,h3.also G⟩
theorem VA.also {I:Ip} {w:World} (G:List Nat) {x:A} {v:Value} (h:VA I w x v):VA (I.also G) w x v:=by
 cases x with
 | one e=>exact VE.also G h
 | agg l=>obtain⟨cs,h1,h2⟩:=h;exact⟨cs,h1,h2.also G⟩
theorem VAs.also {I:Ip} {w:World} (G:List Nat):∀ {l:List A} {cs:List Value},VAs I w l cs→VAs (I.also G) w l cs
 | [],_,h=>h
 | _::_,_,⟨c,cr,h1,h2,h3⟩=>⟨c,cr,h1,h2.also G,h3.also G⟩
theorem VS.also {I:Ip} {w:World} (G:List Nat) {x:Bool×S} {v:Value} (h:VS I w x v):VS (I.also G) w x v:=by
 obtain⟨p,x⟩:=x
 cases p
 · exact h
 cases x with
 | a x=>exact VA.also G h
 | tup l=>obtain⟨vs,h1,h2⟩:=h;exact⟨vs,h1,h2.also G⟩
theorem RelI.also {I:Ip} {w0:Base} {w:World} {a:Act} (h:RelI I w0 σ a w) {G:List Nat} (hG:∀ b∈G,b<w.heap.size∧∀ i,b∉I.F i):RelI (I.also G) w0 σ a w:=
 ⟨h.ext,h.defers,h.size,fun i x hi=>(h.slots i x hi).also G,fun i r hi=>by
  have:=h.res i r hi
  cases r with
  | row k rows=>exact this
  | box cs=>obtain⟨h1,vs,e,h2,h3⟩:=this;exact⟨h1,vs,e,h2,h3.also G⟩
  | kept K=>exact⟨this.1,fun x hx=>⟨(this.2 x hx).1,.inl (this.2 x hx).2⟩⟩
  | opq=>trivial
  | cur g=>exact⟨this.1,this.2.1,this.2.2.congr rfl fun b _ hz=>⟨.inl hz,rfl⟩⟩
  | mp b f=>exact this
  | hdr j x=>exact this
  | blk j b=>exact this,
  fun b hb=>hb.elim (h.old b) fun hb=>(hG b hb).1,fun i b hb=>⟨(h.lt i b hb).1,fun hz=>hz.elim (h.lt i b hb).2 fun hm=>(hG b hm).2 i hb⟩,h.own,h.apart⟩
def inS:V→S
 | .a x=>.a (inA x)
 | .tup l=>.tup (l.map inA)
theorem VEs_also {I:Ip} {w:World}:∀ {l:List T} {cs:List Value} {F:List Nat},Cs false w l cs F→(∀ b∈F,I.Z b)→VEs I w (l.map .t) cs
 | [],cs,F,h,_=>by simp only [Cs] at h;exact h.1
 | t::r,cs,F,h,hF=>by
  simp only [Cs] at h
  obtain⟨c,cr,G1,G2,h1,h2,h3,rfl⟩:=h
  exact⟨c,cr,h1,⟨G1,h2,fun b hb=>hF b (by simp [hb])⟩,VEs_also h3 fun b hb=>hF b (by simp [hb])⟩
theorem VA_also {I:Ip} {w:World} {x:V0} {v:Value} {F:List Nat} (h:V0r false w x v F) (hF:∀ b∈F,I.Z b):VA I w (inA x) v:=by
 cases x with
 | one t=>exact⟨F,h,hF⟩
 | agg l=>obtain⟨cs,h1,h2⟩:=h;exact⟨cs,h1,VEs_also h2 hF⟩
theorem VAs_also {I:Ip} {w:World}:∀ {l:List V0} {vs:List Value} {F:List Nat},V0s false w l vs F→(∀ b∈F,I.Z b)→VAs I w (l.map inA) vs
 | [],vs,F,⟨h,_⟩,_=>h
 | x::l,vs,F,⟨v,vr,G1,G2,h1,h2,h3,h4⟩,hF=>by
  subst h4
  exact⟨v,vr,h1,VA_also h2 fun b hb=>hF b (by simp [hb]),VAs_also h3 fun b hb=>hF b (by simp [hb])⟩
theorem VS_also {I:Ip} {w:World} {x:V} {v:Value} {F:List Nat} (h:Vr false w x v F) (hF:∀ b∈F,I.Z b):VS I w (true,inS x) v:=by
 cases x with
 | a x=>exact VA_also h hF
 | tup l=>obtain⟨vs,h1,h2⟩:=h;exact⟨vs,h1,VAs_also h2 hF⟩
theorem Bo {f:FuncId} {l:List Operand} {tys:Array TypeId} {ins:List V0} {out:V} (h:FrT P f ins out) (ho:o.op=.call { callee:=.value (.func f),args:=l.toArray,argTypes:=tys }) (hg:Grd ops o σ q) (hd:o.dst.all (fun d=>Nat.blt d σ.n)=true)
 (ha:Args σ q l ins):Op1 P ops o σ (σ.put o.dst (q,inS out)):=by
 rintro w0 a w ⟨I,hr⟩ K Q hK
 rw [hg.wanted hr]
 cases q with
 | false=>exact hK _ _ ⟨I,hr.put hd rfl⟩
 | true=>
  simp only [if_true]
  obtain⟨F,hF⟩:=ha.ok hr rfl
  unfold Oper.wp
  rw [run_enter h.1 ho]
  refine (h.2 w _ F hr.good hF).mono fun e w' hR=>?_
  obtain⟨v,G,rfl,h1,h3,h4⟩:=hR
  have hr':=(hr.later h4).also (G:=G) fun b hb=>⟨Vr.lt h1 b hb,fun i hi=>by have:=(hr.lt i b hi).1;have:=h3 b hb;omega⟩
  exact hK _ _ ⟨_,hr'.put hd (VS_also h1 fun b hb=>.inr hb)⟩
theorem Ao {t:Nat} {i:Nat} {p:Bool} {l:List A} {A0:A} (ho:o.op=.extract (.tmp t) i) (hg:Grd ops o σ q) (hd:o.dst.all (fun d=>Nat.blt d σ.n)=true) (hx:look σ.slots t=some (p,.tup l)) (hp:q=true→p=true) (hi:l[i]?=some A0):Op1 P ops o σ (σ.put o.dst (q,.a A0)):=
 .val hg hd fun I w0 a w hr hq=>by
  have:=hr.slots _ _ hx
  rw [hp hq] at this
  obtain⟨vs,h1,h2⟩:=this
  have key:∀ (l:List A) (vs:List Value) (i:Nat) (A0:A),VAs I w l vs→l[i]?=some A0→∃ v,vs[i]?=some v∧VA I w A0 v:=by
   intro l
   induction l with
   | nil=>intro vs i A0 _ hi;simp at hi
   | cons y l ih=>
    rintro vs i A0 ⟨c,cr,rfl,k1,k2⟩ hi
    match i,hi with
    | 0,hi=>simp at hi;subst hi;exact⟨c,rfl,k1⟩
    | i+1,hi=>obtain⟨v,k3,k4⟩:=ih cr i A0 k2 (by simpa using hi);exact⟨v,by simpa using k3,k4⟩
  obtain⟨v,h3,h4⟩:=key l vs i A0 h2 hi
  have e:a.eval (.tmp t)=.tuple vs.toArray:=h1
  exact⟨v,by simp [execOp,ho,e,Instr.extract,h3],h4⟩
theorem Bx {t:TypeId} {x:Operand} {A0:A} {ts:List T} (ho:o.op=.box t x) (hg:o.guard=none) (hd:o.dst.all (fun d=>Nat.blt d σ.n)=true) (hx:Get σ true x A0) (hts:cellsA A0=ts.map .t):Op1 P ops o σ (σ.put o.dst (true,.a (.one (.t (.ad ts))))):=
 .eff hg fun w0 a w ⟨I,hr⟩=>by
  have he:(cellsA A0).all E.cell1=true:=by rw [hts];simp [E.cell1]
  obtain⟨cs,h1,h2,h3⟩:=(hx.va hr rfl).cells he
  rw [hts] at h2
  have hx':Ext w (w.alloc (.cells cs.toArray t)):=(Ext.refl w).alloc _
  have hr':=(hr.later hx').also (G:=[w.heap.size]) fun b hb=>by
   simp only [List.mem_singleton] at hb
   subst hb
   exact⟨by simp,fun i hi=>by have:=(hr.lt i _ hi).1;omega⟩
  have key:∀ (ts:List T) (cs:List Value),VEs I w (ts.map .t) cs→∃ G,Cs false w ts cs G∧∀ b∈G,I.Z b:=by
   intro ts
   induction ts with
   | nil=>intro cs h;exact⟨[],by unfold Cs;exact⟨h,rfl⟩,by simp⟩
   | cons t ts ih=>
    rintro cs ⟨c,cr,rfl,⟨G1,k1,k2⟩,k3⟩
    obtain⟨G2,k4,k5⟩:=ih cr k3
    refine⟨G1++G2,by unfold Cs;exact⟨c,cr,G1,G2,rfl,k1,k4,rfl⟩,fun b hb=>?_⟩
    rcases List.mem_append.1 hb with hb|hb
    · exact k2 b hb
    exact k5 b hb
  obtain⟨G,g1,g2⟩:=key ts cs h2
  refine⟨.pointer (some ⟨w.heap.size,0,none⟩),w.alloc (.cells cs.toArray t),by simp [execOp,ho,Instr.box,newVar,newRow,h1],_,hr'.put hd ⟨w.heap.size::G,C_ad (Ms.of (g1.mono hx') fun j u hj=>?_) (by simp),fun b hb=>?_⟩⟩
  · have hgn:=heap_alloc_new w (.cells cs.toArray t)
    simp only [World.cell?,hgn]
    simpa using hj
  rcases List.mem_cons.1 hb with rfl|hb
  · exact .inr (by simp)
  exact .inl (g2 b hb)
inductive RVs (P:Program) (σ:St):List ResultVar→List A→Prop where
 | nil:RVs P σ [] []
 | tmp {t:Nat} {x:A} {l:List ResultVar} {xs:List A} (h:look σ.slots t=some (true,.a x)) (hr:RVs P σ l xs):RVs P σ (.tmp t::l) (x::xs)
 | cell {t:Nat} {ty:TypeId} {id:Nat} {cs:List E} {ag:Bool} {n:Nat} {l:List ResultVar} {xs:List A} (h:look σ.slots t=some (true,.a (.one (.pp id 0)))) (hs:look σ.res id=some (.box cs)) (ht:tyB P ty ag n=true) (hn:Nat.beq n cs.length=true) (h1:(ag||Nat.beq n 1)=true) (hr:RVs P σ l xs) :
  RVs P σ (.cell t ty::l) (mkA ag cs::xs)
def rvRun (tmps:Array Value):ResultVar→Sem Value
 | .tmp t=>pure (tmps.getD t undef)
 | .cell x t=>do loadVar t (←asAddr (tmps.getD x undef))
theorem RVs.run {I:Ip} {w0:Base} {w:World} {a:Act} (hr:RelI I w0 σ a w) {l:List ResultVar} {xs:List A} (h:RVs P σ l xs):∃ vs,(l.mapM (rvRun a.tmps)).run P w=.ok vs w∧VAs I w xs vs:=by
 induction h with
 | nil=>exact⟨[],rfl,rfl⟩
 | @tmp t x l xs h _ ih=>
  obtain⟨vs,h1,h2⟩:=ih
  refine⟨a.tmps.getD t undef::vs,?_,_,vs,rfl,hr.slots _ _ h,h2⟩
  rw [List.mapM_cons]
  simp only [rvRun,Sem.run_bind,Sem.run_pure,Result.andThen_ok,h1]
 | @cell t ty id cs ag n l xs h hs ht hn h1 _ ih=>
  obtain⟨vs,g1,g2⟩:=ih
  have hv:a.tmps.getD t undef=.pointer (some ⟨I.B id,0,none⟩):=hr.slots _ _ h
  obtain⟨hF,us,e,k1,k2⟩:=hr.res id _ hs
  have hn':=Nat.eq_of_beq_eq_true hn
  have hl:=VEs_len k2
  have h1':ag=false→n=1:=fun e=>by rw [e] at h1;exact Nat.eq_of_beq_eq_true (by simpa using h1)
  have hload:=run_load (w:=w) (b:=I.B id) (p:=0) ht (cs:=us) (by omega) h1' fun j u hj=>by simp [World.cell?,k1,hj]
  refine⟨(if ag=true then .agg us.toArray else us.headD undef)::vs,?_,_,vs,rfl,VA_mk k2 fun e=>by have:=h1' e;omega,g2⟩
  rw [List.mapM_cons]
  have hl2:(loadVar ty ⟨I.B id,0,none⟩).run P w=.ok (if ag=true then .agg us.toArray else us.headD undef) w:=by
   simpa [Instr.loadAt,Instr.sureAddr] using hload
  simp only [rvRun,Sem.run_bind,Sem.run_pure,Result.andThen_ok,hv,asAddr,hl2,g1]
def unflT:List A→List T→List V0
 | [],_=>[]
 | x::r,ts=>match x with
  | .one _=>.one (ts.headD (.v undef))::unflT r (ts.drop 1)
  | .agg l=>.agg (ts.take l.length)::unflT r (ts.drop l.length)
theorem VAs_cells {I:Ip} {w:World}:∀ {xs:List A} {vs:List Value},VAs I w xs vs→∃ cs,VEs I w (xs.flatMap cellsA) cs∧∀ (oo:Bool) (ts:List T) (G:List Nat),Cs oo w ts cs G→ts.length=(xs.flatMap cellsA).length→V0s oo w (unflT xs ts) vs G
 | [],vs,h=>⟨[],rfl,fun oo ts G hC hl=>by
  have:ts=[]:=List.eq_nil_of_length_eq_zero (by simpa using hl)
  subst this
  simp only [Cs] at hC
  exact⟨h,hC.2⟩⟩
 | x::xs,vs,⟨c,cr,h1,h2,h3⟩=>by
  obtain⟨cs,g1,g2⟩:=VAs_cells h3
  cases x with
  | one e=>
   refine⟨c::cs,⟨c,cs,rfl,h2,g1⟩,fun oo ts G hC hl=>?_⟩
   match ts,hC with
   | [],hC=>simp [Cs] at hC
   | t::ts,hC=>
    simp only [Cs] at hC
    obtain⟨c',cr',G1,G2,e1,k1,k2,k3⟩:=hC
    cases e1
    exact⟨c,cr,G1,G2,h1,k1,g2 oo ts G2 k2 (by simp [cellsA] at hl ⊢;omega),k3⟩
  | agg l=>
   obtain⟨ds,e1,h2⟩:=h2
   have hl2:=VEs_len h2
   refine⟨ds++cs,VEs_append h2 g1,fun oo ts G hC hl=>?_⟩
   have hlen:l.length≤ts.length:=by rw [hl];simp [cellsA]
   have hC':Cs oo w (ts.take l.length++ts.drop l.length) (ds++cs) G:=by rw [List.take_append_drop];exact hC
   obtain⟨c1,c2,F1,F2,e2,rfl,k1,k2,k3⟩:=hC'.split
   have hk:c1.length=ds.length:=by rw [k3,List.length_take];omega
   obtain⟨rfl,rfl⟩:=List.append_inj e2.symm hk
   exact⟨c,cr,F1,F2,h1,⟨c1,e1,k1⟩,g2 oo _ F2 k2 (by simp [cellsA] at hl ⊢;omega),rfl⟩
theorem run_results {fn:Func} {I:Ip} {w0:Base} {w:World} {a:Act} (hr:RelI I w0 σ a w) {l:List ResultVar} {xs:List A} (hl:fn.results=l.toArray) (h:RVs P σ l xs):∃ vs,(results fn a.tmps).run P w=.ok (match vs with|[v]=>v|_=>.tuple (List.toArray vs)) w∧VAs I w xs vs:=by
 obtain⟨vs,h1,h2⟩:=h.run hr
 refine⟨vs,?_,h2⟩
 have hres:results fn a.tmps=(do let vs ←fn.results.mapM (rvRun a.tmps);pure (if h:vs.size=1 then vs[0] else .tuple vs)):=by
  unfold results
  congr
 have e:(Array.mapM (rvRun a.tmps) l.toArray).run P w=.ok vs.toArray w:=by
  rw [Array.mapM_eq_mapM_toList,run_fmap]
  simp only [h1,Result.andThen_ok]
 rw [hres,hl,Sem.run_bind,e]
 simp only [Result.andThen_ok,Sem.run_pure]
 match vs with
 | []=>rfl
 | [v]=>rfl
 | _::_::_=>simp
theorem absorb_len:∀ {l:List E} {σ σ':St} {ts:List T},absorb σ l=some (σ',ts)→ts.length=l.length
 | [],σ,σ',ts,h=>by simp only [absorb,Option.some.injEq,Prod.mk.injEq] at h;rw [←h.2];rfl
 | e::r,σ,σ',ts,h=>by
  match e,h with
  | .t (.v x),h=>
   rw [absorb] at h
   split at h
   · rename_i h1;simp only [Option.some.injEq,Prod.mk.injEq] at h;rw [←h.2];simp [absorb_len h1]
   cases h
  | .rf id,h=>
   rw [absorb] at h
   split at h
   · split at h
     · rename_i h1;simp only [Option.some.injEq,Prod.mk.injEq] at h;rw [←h.2];simp [absorb_len h1]
     cases h
   cases h
  | .t (.sl _ _),h=>cases h
  | .t (.ad _),h=>cases h
  | .t (.fn _ _ _),h=>cases h
  | .vw _ _,h=>cases h
  | .pp _ _,h=>cases h
  | .pr _ _ _ _,h=>cases h
  | .sb _ _ _ _,h=>cases h
  | .tl _ _ _,h=>cases h
  | .pf _ _ _,h=>cases h
  | .no,h=>cases h
theorem Res.one {fn:Func} {r:ResultVar} {x:A} {σ':St} {ts:List T} {y:V0} (hl:fn.results=#[r]) (h:RVs P σ [r] [x]) (ha:absorb σ (cellsA x)=some (σ',ts)) (hy:unflT [x] ts=[y]):Res P fn true (.a y) σ:=by
 intro I w0 a w hr
 obtain⟨vs,h1,h2⟩:=run_results (fn:=fn) (l:=[r]) hr (by rw [hl]) h
 obtain⟨cs,g1,g2⟩:=VAs_cells h2
 simp only [List.flatMap_cons,List.flatMap_nil,List.append_nil] at g1 g2
 obtain⟨I',G,k1,k2,k3,k4,_⟩:=RelI.absorb ha hr g1
 have hV:=g2 true ts G k2 (absorb_len ha)
 rw [hy] at hV
 obtain⟨v,vr,G1,G2,rfl,m1,⟨rfl,rfl⟩,m2⟩:=hV
 rw [List.append_nil] at m2
 subst m2
 exact⟨v,_,h1,m1,fun b hb=>(k4 b hb).1,fun _=>⟨k3,fun b hb=>(k4 b hb).2.2.1⟩⟩
theorem Bg {fn:Func} {l:List ResultVar} {xs:List A} {σ':St} {ts:List T} {ys:List V0} (hl:fn.results=l.toArray) (h:RVs P σ l xs) (ha:absorb σ (xs.flatMap cellsA)=some (σ',ts)) (hy:unflT xs ts=ys) (h2:(2≤ys.length)=True):Res P fn true (.tup ys) σ:=by
 intro I w0 a w hr
 obtain⟨vs,h1,h2'⟩:=run_results (fn:=fn) hr hl h
 obtain⟨cs,g1,g2⟩:=VAs_cells h2'
 obtain⟨I',G,k1,k2,k3,k4,_⟩:=RelI.absorb ha hr g1
 have hV:=g2 true ts G k2 (absorb_len ha)
 rw [hy] at hV
 have hlen:∀ (ys:List V0) (vs:List Value) (G:List Nat),V0s true w ys vs G→vs.length=ys.length:=by
  intro ys
  induction ys with
  | nil=>rintro vs G ⟨rfl,_⟩;rfl
  | cons y ys ih=>rintro vs G ⟨v,vr,G1,G2,rfl,_,m,_⟩;simp [ih vr G2 m]
 have hl2:=hlen ys vs G hV
 have h3:2≤vs.length:=by rw [hl2,h2];trivial
 have e:(match vs with|[v]=>v|_=>Value.tuple (List.toArray vs))=.tuple vs.toArray:=by
  match vs,h3 with
  | _::_::_,_=>rfl
 rw [e] at h1
 exact⟨_,G,h1,⟨vs,rfl,hV⟩,fun b hb=>(k4 b hb).1,fun _=>⟨k3,fun b hb=>(k4 b hb).2.2.1⟩⟩
def swp (a b i:Nat):Nat:=bif Nat.beq i a then b else bif Nat.beq i b then a else i
def rnN:List (Nat×Nat)→Nat→Nat
 | [],i=>i
 | (a,b)::l,i=>swp a b (rnN l i)
theorem swp_inj {a b i j:Nat} (h:swp a b i=swp a b j):i=j:=by
 have e:∀ i,swp a b i=if i=a then b else if i=b then a else i:=by
  intro i
  unfold swp
  by_cases h1:i=a
  · subst h1;simp [Nat.beq_refl]
  have:Nat.beq i a=false:=by
   cases hb:Nat.beq i a with
   | false=>rfl
   | true=>exact absurd (Nat.eq_of_beq_eq_true hb) h1
  rw [this,if_neg h1]
  by_cases h2:i=b
  · subst h2;simp [Nat.beq_refl]
  have:Nat.beq i b=false:=by
   cases hb:Nat.beq i b with
   | false=>rfl
   | true=>exact absurd (Nat.eq_of_beq_eq_true hb) h2
  rw [this,if_neg h2];rfl
 rw [e,e] at h
 split at h<;>split at h<;>(try split at h)<;>(try split at h)<;>omega
theorem rnN_inj:∀ {l:List (Nat×Nat)} {i j:Nat},rnN l i=rnN l j→i=j
 | [],_,_,h=>h
 | _::l,_,_,h=>rnN_inj (l:=l) (swp_inj h)
def rnE (m:List (Nat×Nat)):E→E
 | .rf i=>.rf (rnN m i)
 | .vw i x=>.vw (rnN m i) x
 | .pp i o=>.pp (rnN m i) o
 | .pr i k a b=>.pr (rnN m i) k a b
 | .sb i k a b=>.sb (rnN m i) k a b
 | .tl i k j=>.tl (rnN m i) k j
 | .pf i k j=>.pf (rnN m i) k j
 | .t x=>.t x
 | .no=>.no
def rnA (m:List (Nat×Nat)):A→A
 | .one e=>.one (rnE m e)
 | .agg l=>.agg (l.map (rnE m))
def rnS (m:List (Nat×Nat)):S→S
 | .a x=>.a (rnA m x)
 | .tup l=>.tup (l.map (rnA m))
def rnR (m:List (Nat×Nat)):R→R
 | .row k rows=>.row k rows
 | .box cs=>.box (cs.map (rnE m))
 | .hdr j x=>.hdr (j.map (rnN m)) x
 | .blk j b=>.blk (j.map (rnN m)) b
 | .kept K=>.kept K
 | .opq=>.opq
 | .cur g=>.cur g
 | .mp b f=>.mp b f
def Ip.rn (I:Ip) (m:List (Nat×Nat)):Ip:=⟨I.Z,fun i=>I.F (rnN m i),fun i=>I.hd (rnN m i),fun i=>I.B (rnN m i)⟩
theorem VE.rn {I:Ip} {w:World} {m:List (Nat×Nat)} {e:E} {c:Value} (h:VE I w (rnE m e) c):VE (I.rn m) w e c:=by cases e<;>exact h
theorem VEs.rn {I:Ip} {w:World} {m:List (Nat×Nat)}:∀ {l:List E} {cs:List Value},VEs I w (l.map (rnE m)) cs→VEs (I.rn m) w l cs
 | [],_,h=>h
 | _::_,_,⟨c,cr,h1,h2,h3⟩=>⟨c,cr,h1,h2.rn,h3.rn⟩
theorem VA.rn {I:Ip} {w:World} {m:List (Nat×Nat)} {x:A} {v:Value} (h:VA I w (rnA m x) v):VA (I.rn m) w x v:=by
 cases x with
 | one e=>exact VE.rn h
 | agg l=>obtain⟨cs,h1,h2⟩:=h;exact⟨cs,h1,h2.rn⟩
theorem VAs.rn {I:Ip} {w:World} {m:List (Nat×Nat)}:∀ {l:List A} {cs:List Value},VAs I w (l.map (rnA m)) cs→VAs (I.rn m) w l cs
 | [],_,h=>h
 | _::_,_,⟨c,cr,h1,h2,h3⟩=>⟨c,cr,h1,h2.rn,h3.rn⟩
theorem VS.rn {I:Ip} {w:World} {m:List (Nat×Nat)} {p:Bool} {x:S} {v:Value} (h:VS I w (p,rnS m x) v):VS (I.rn m) w (p,x) v:=by
 cases p
 · exact h
 cases x with
 | a x=>exact VA.rn h
 | tup l=>obtain⟨vs,h1,h2⟩:=h;exact⟨vs,h1,h2.rn⟩
def SubS (σ:St) (m:List (Nat×Nat)):List (Nat×(Bool×S))→Prop
 | []=>True
 | (i,p,x)::l=>look σ.slots i=some (p,rnS m x)∧SubS σ m l
def SubR (σ:St) (m:List (Nat×Nat)):List (Nat×R)→Prop
 | []=>True
 | (i,x)::l=>look σ.res (rnN m i)=some (rnR m x)∧SubR σ m l
theorem Le.sub {σ':St} (m:List (Nat×Nat)) (hn:σ'.n=σ.n) (hs:SubS σ m σ'.slots) (hr:SubR σ m σ'.res):Le σ σ':=by
 rintro w0 a w ⟨I,h⟩
 have hslot:∀ (l:List (Nat×(Bool×S))),SubS σ m l→∀ i x,look l i=some x→look σ.slots i=some (x.1,rnS m x.2):=by
  intro l
  induction l with
  | nil=>intro _ i x hi;cases hi
  | cons y l ih=>
   obtain⟨j,p,z⟩:=y
   rintro⟨h1,h2⟩ i x hi
   rw [look_cons] at hi
   split at hi
   · rename_i e;subst e;cases hi;exact h1
   exact ih h2 i x hi
 have hres:∀ (l:List (Nat×R)),SubR σ m l→∀ i x,look l i=some x→look σ.res (rnN m i)=some (rnR m x):=by
  intro l
  induction l with
  | nil=>intro _ i x hi;cases hi
  | cons y l ih=>
   obtain⟨j,z⟩:=y
   rintro⟨h1,h2⟩ i x hi
   rw [look_cons] at hi
   split at hi
   · rename_i e;subst e;cases hi;exact h1
   exact ih h2 i x hi
 refine⟨I.rn m,h.ext,h.defers,h.size.trans hn.symm,fun i x hi=>?_,fun i r hi=>?_,h.old,fun i b hb=>h.lt _ b hb,fun i r hi=>h.own _ _ (hres _ hr i r hi),fun i j hne=>h.apart _ _ fun e=>hne (rnN_inj e)⟩
 · exact VS.rn (h.slots _ _ (hslot _ hs i x hi))
 have:=h.res _ _ (hres _ hr i r hi)
 cases r with
 | row k rows=>exact this
 | box cs=>obtain⟨h1,vs,e,h2,h3⟩:=this;exact⟨h1,vs,e,h2,h3.rn⟩
 | kept K=>exact this
 | opq=>trivial
 | cur g=>exact this
 | mp b f=>exact this
 | hdr j x=>exact⟨this.1,fun k hk=>this.2 _ (by rw [hk];rfl)⟩
 | blk j b=>exact⟨this.1,fun k hk=>this.2 _ (by rw [hk];rfl)⟩
end
end Go.Q
namespace Go.Q
open Go.RowKit
mutual
def LenT:T→Prop
 | .v _=>True
 | .sl _ rows=>rows.length≤9223372036854775807∧LenR rows
 | .ad cs=>LenL cs
 | .fn _ x y=>LenL x∧LenL y
def LenL:List T→Prop
 | []=>True
 | t::r=>LenT t∧LenL r
def LenR:List (List T)→Prop
 | []=>True
 | t::r=>LenL t∧LenR r
end
mutual
theorem C.lenT {o:Bool} {w:World}:∀ {t:T} {c:Value} {F:List Nat},C o w t c F→LenT t
 | .v _,_,_,_=>by simp only [LenT]
 | .sl k rows,c,F,h=>by
  simp only [C] at h
  obtain⟨a,len,cap,h1,h2,h3,h4,h5⟩:=h
  simp only [LenT]
  simp only [maxLen] at h4
  refine⟨by omega,?_⟩
  rcases h5 with ⟨h5,_⟩|⟨b,off,G,_,_,_,_,h9⟩
  · have:rows=[]:=List.eq_nil_of_length_eq_zero (by omega)
    subst this;simp only [LenR]
  exact Rws.lenT h9
 | .ad cs,c,F,h=>by
  simp only [C] at h
  obtain⟨b,off,G,h1,rfl,h2,h3⟩:=h
  simp only [LenT]
  exact Ms.lenT h3
 | .fn f first caps,c,F,h=>by
  simp only [C] at h
  obtain⟨xs,ys,G1,G2,h1,h2,h3,rfl⟩:=h
  simp only [LenT]
  exact⟨Cs.lenT h2,Cs.lenT h3⟩
theorem Cs.lenT {o:Bool} {w:World}:∀ {ts:List T} {cs:List Value} {F:List Nat},Cs o w ts cs F→LenL ts
 | [],_,_,_=>by simp only [LenL]
 | t::r,cs,F,h=>by
  simp only [Cs] at h
  obtain⟨c,cr,G1,G2,h1,h2,h3,rfl⟩:=h
  simp only [LenL]
  exact⟨C.lenT h2,Cs.lenT h3⟩
theorem Ms.lenT {o:Bool} {w:World} {b0:Nat}:∀ {ts:List T} {off:Nat} {F:List Nat},Ms o w b0 off ts F→LenL ts
 | [],_,_,_=>by simp only [LenL]
 | t::r,off,F,h=>by
  simp only [Ms] at h
  obtain⟨c,G1,G2,h1,h2,h3,rfl⟩:=h
  simp only [LenL]
  exact⟨C.lenT h2,Ms.lenT h3⟩
theorem Rws.lenT {o:Bool} {w:World} {b0 k:Nat}:∀ {rs:List (List T)} {off:Nat} {F:List Nat},Rws o w b0 k off rs F→LenR rs
 | [],_,_,_=>by simp only [LenR]
 | t::r,off,F,h=>by
  simp only [Rws] at h
  obtain⟨G1,G2,h1,h2,h3,rfl⟩:=h
  simp only [LenR]
  exact⟨Ms.lenT h2,Rws.lenT h3⟩
end
def LenV:List V0→Prop
 | []=>True
 | x::r=>(match x with|.one t=>LenT t|.agg l=>LenL l)∧LenV r
theorem V0s.lenV {o:Bool} {w:World}:∀ {l:List V0} {vs:List Value} {F:List Nat},V0s o w l vs F→LenV l
 | [],_,_,_=>trivial
 | x::r,_,_,⟨v,vr,G1,G2,_,h2,h3,_⟩=>by
  refine⟨?_,h3.lenV⟩
  cases x with
  | one t=>exact C.lenT h2
  | agg l=>obtain⟨cs,_,h2⟩:=h2;exact h2.lenT
theorem FnT.len {P:Program} {f:FuncId} {ins:List V0} {out:V} (hc:LenV ins→FnT P f ins out) (hn:Callee P f):FnT P f ins out:=by
 refine⟨hn,fun w vs F hG hv=>?_⟩
 exact (hc hv.lenV).2 w vs F hG hv
theorem FrT.len {P:Program} {f:FuncId} {ins:List V0} {out:V} (hc:LenV ins→FrT P f ins out) (hn:Callee P f):FrT P f ins out:=by
 refine⟨hn,fun w vs F hG hv=>?_⟩
 exact (hc hv.lenV).2 w vs F hG hv
@[simp] theorem LenV_nil:LenV []=True:=rfl
@[simp] theorem LenV_one {t:T} {r:List V0}:LenV (.one t::r)=(LenT t∧LenV r):=rfl
@[simp] theorem LenV_agg {l:List T} {r:List V0}:LenV (.agg l::r)=(LenL l∧LenV r):=rfl
@[simp] theorem LenT_v {x:Value}:LenT (.v x)=True:=by simp only [LenT]
@[simp] theorem LenT_sl {k:Nat} {rows:List (List T)}:LenT (.sl k rows)=(rows.length≤9223372036854775807∧LenR rows):=by simp only [LenT]
@[simp] theorem LenT_ad {cs:List T}:LenT (.ad cs)=LenL cs:=by simp only [LenT]
@[simp] theorem LenL_nil:LenL []=True:=by simp only [LenL]
@[simp] theorem LenL_cons {t:T} {r:List T}:LenL (t::r)=(LenT t∧LenL r):=by simp only [LenL]
section
variable {P:Program} {ops:Array Oper} {o:Oper} {σ:St} {q:Bool}
theorem FnT.intro' {f:FuncId} {fn:Func} {c:Code} {ins:List V0} {out:V} (hf:P.funcs[f]?=some fn) (hb:fn.body=some c) (hname:(fn.name == "runtime.NumGoroutine")=false) (hn:Nat.ble ins.length fn.ntmps=true)
 (h:LenV ins→∀ w0,AW P w0 c (RetQ P fn true out) (st0 fn.ntmps ins)):FnT P f ins out:=
 FnT.len (fun hl=>FnT.intro hf hb hname hn (h hl)) ⟨fn,hf,hname,by rw [hb];rfl⟩
theorem By {fn:Func} {t:Nat} {x y:Value} {oo:Bool} (hl:fn.results=#[.tmp t]) (h:look σ.slots t=some (true,.a (.one (.t (.v x))))) (he:x=y):Res P fn oo (.a (.one (.v y))) σ:=by
 subst he;intro I w0 a w hr
 obtain⟨vs,h1,h2⟩:=run_results (fn:=fn) (l:=[.tmp t]) hr (by rw [hl]) (.tmp h .nil)
 obtain⟨v,vr,rfl,⟨G,h3,_⟩,rfl⟩:=h2
 simp only [C] at h3
 obtain⟨rfl,rfl,h5⟩:=h3
 exact⟨_,[],h1,by unfold Vr V0r C;exact⟨rfl,rfl,h5⟩,by simp,fun _=>⟨List.nodup_nil,by simp⟩⟩
theorem Df {t e:TypeId} (id:Nat) {k:Nat} {ag:Bool} (ho:o.op=.buildSlice t 0 #[]) (hg:o.guard=none) (hd:o.dst.all (fun d=>Nat.blt d σ.n)=true) (hu:P.underlying t=some (.slice e)) (hk:tyB P e ag k=true) (hf:σ.has id=false) :
 Op1 P ops o σ ((σ.add id (.row k [])).put o.dst (true,.a (.one (.rf id)))):=
 .eff hg fun w0 a w ⟨I,hr⟩=>by
  have hx:Ext w (w.alloc (.cells #[] e)):=(Ext.refl w).alloc _
  have hr':=(hr.later hx).addF (id:=id) (G:=[]) (u:=.slice (some ⟨w.heap.size,0,none⟩) 0 0) (b:=0) (r:=.row k []) hf List.nodup_nil (by simp) (by
   show C true _ _ _ _
   simp only [Ip.set,if_true]
   unfold C
   exact⟨_,_,_,rfl,rfl,Nat.le_refl _,Nat.zero_le _,.inl ⟨rfl,rfl,fun _=>rfl⟩⟩)
  refine⟨.slice (some ⟨w.heap.size,0,none⟩) 0 0,w.alloc (.cells #[] e),?_,_,hr'.put hd ⟨by simp [Ip.set],_,_,_,rfl⟩⟩
  simp [execOp,ho,Instr.buildSlice,run_underlying hu,tyB_size hk,Instr.fill,newRow]
  have e0:Array.map (fun _=>(default:Value)) (Array.range 0)=#[]:=by simp [Array.range]
  rw [e0]
def SubS0 (σ:St):List (Nat×(Bool×S))→Prop
 | []=>True
 | (i,x)::l=>look σ.slots i=some x∧SubS0 σ l
def SubR0 (σ:St):List (Nat×R)→Prop
 | []=>True
 | (i,x)::l=>look σ.res i=some x∧SubR0 σ l
theorem look_SubS0:∀ {l:List (Nat×(Bool×S))},SubS0 σ l→∀ i x,look l i=some x→look σ.slots i=some x
 | [],_,i,x,hi=>by cases hi
 | (j,z)::l,⟨h1,h2⟩,i,x,hi=>by
  rw [look_cons] at hi
  split at hi
  · rename_i e;subst e;cases hi;exact h1
  exact look_SubS0 h2 i x hi
theorem look_SubR0:∀ {l:List (Nat×R)},SubR0 σ l→∀ i x,look l i=some x→look σ.res i=some x
 | [],_,i,x,hi=>by cases hi
 | (j,z)::l,⟨h1,h2⟩,i,x,hi=>by
  rw [look_cons] at hi
  split at hi
  · rename_i e;subst e;cases hi;exact h1
  exact look_SubR0 h2 i x hi
theorem A6 {σ':St} (hn:σ'.n=σ.n) (hs:SubS0 σ σ'.slots) (hr:SubR0 σ σ'.res):Le σ σ':=by
 rintro w0 a w ⟨I,h⟩
 exact⟨I,h.ext,h.defers,h.size.trans hn.symm,fun i x hi=>h.slots _ _ (look_SubS0 hs i x hi),fun i r hi=>h.res _ _ (look_SubR0 hr i r hi),h.old,h.lt,fun i r hi=>h.own _ _ (look_SubR0 hr i r hi),h.apart⟩
theorem Ay {σ':St} (hn:σ'.n=σ.n:=by exact rfl) (hs:SubS0 σ σ'.slots:=by (repeat refine⟨rfl,?_⟩);exact trivial) (hr:SubR0 σ σ'.res:=by (repeat refine⟨rfl,?_⟩);exact trivial):Le σ σ':=A6 hn hs hr
inductive SelL {α:Type} (l:List (Nat×α)):List Nat→List (Nat×α)→Prop
  | nil:SelL l [] []
  | cons {k:Nat} {x:α} {ks:List Nat} {r:List (Nat×α)} (h:look l k=some x) (t:SelL l ks r):SelL l (k::ks) ((k,x)::r)
theorem SelL.s {σ:St}:∀ {ks:List Nat} {r:List (Nat×(Bool×S))},SelL σ.slots ks r→SubS0 σ r
  | _,_,.nil=>trivial
  | _,_,.cons h t=>⟨h,t.s⟩
theorem SelL.r {σ:St}:∀ {ks:List Nat} {r:List (Nat×R)},SelL σ.res ks r→SubR0 σ r
  | _,_,.nil=>trivial
  | _,_,.cons h t=>⟨h,t.r⟩
theorem Av {σ:St} {sl:List (Nat×(Bool×S))} {rs:List (Nat×R)} (ks js:List Nat) (h:SelL σ.slots ks sl:=by (repeat (apply SelL.cons;exact rfl));exact .nil) (h':SelL σ.res js rs:=by (repeat (apply SelL.cons;exact rfl));exact .nil):Le σ ⟨σ.n,sl,rs⟩:=A6 rfl h.s h'.r
theorem cells_t1 (x:T):cellsA (.one (.t x))=[x].map .t:=rfl
variable {w0:Base} {Q:Exit→St→Prop} {n:Nat} {sl:List (Nat×(Bool×S))} {rs:List (Nat×R)} {l:List Oper}
theorem Ac {d:Nat} {x:Bool×S} (ho:Op1 P ops o ⟨n,sl,rs⟩ (St.put ⟨n,sl,rs⟩ o.dst x)) (hd:o.dst=some d) (h:AWl P w0 ops Q l ⟨n,(d,x)::sl,rs⟩):AWl P w0 ops Q (o::l) ⟨n,sl,rs⟩:=
 AWl.op ho (by rw [hd];exact h)
theorem Get.tm {i:Nat} {x:A} (h:look σ.slots i=some (true,.a x)):Get σ q (.tmp i) x:=.tmp h fun _=>rfl
theorem Ab {d i:Nat} {x:A} (h:AWl P w0 ops Q l ⟨n,(d,(true,.a x))::sl,rs⟩) (ho:o.op=.move (.tmp i):=by exact rfl) (hg:o.guard=none:=by exact rfl) (hd:o.dst.all (fun d=>Nat.blt d n)=true:=by exact rfl) (hs:look sl i=some (true,.a x):=by exact rfl) (hds:o.dst=some d:=by exact rfl):AWl P w0 ops Q (o::l) ⟨n,sl,rs⟩:=
 Ac (Bh ho (.no hg) hd (.tm hs)) hds h
theorem Ah {d i:Nat} {x:A} (h:AWl P w0 ops Q l ⟨n,(d,(true,.a x))::sl,rs⟩) (ho:o.op=.assign (.tmp i):=by exact rfl) (hg:o.guard=none:=by exact rfl) (hd:o.dst.all (fun d=>Nat.blt d n)=true:=by exact rfl) (hs:look sl i=some (true,.a x):=by exact rfl) (hds:o.dst=some d:=by exact rfl):AWl P w0 ops Q (o::l) ⟨n,sl,rs⟩:=
 Ac (R_assign ho (.no hg) hd (.tm hs)) hds h
theorem Aj {d:Nat} {v:Value} (h:AWl P w0 ops Q l ⟨n,(d,(true,.a (.one (.t (.v v)))))::sl,rs⟩) (ho:o.op=.assign (.const v):=by exact rfl) (hg:o.guard=none:=by exact rfl) (hd:o.dst.all (fun d=>Nat.blt d n)=true:=by exact rfl) (hv:v.oneCell'=true:=by exact rfl) (hds:o.dst=some d:=by exact rfl):AWl P w0 ops Q (o::l) ⟨n,sl,rs⟩:=
 Ac (R_assign ho (.no hg) hd (.const hv)) hds h
theorem Af {id:Nat} {y:Code} {ls:List Oper} (h:AWl P w0 ls.toArray (ThenQ (AW P w0 y Q) Q) ls σ):AW P w0 (.seq (.region id ls.toArray false) y) Q σ:=Ae (Ad h)
theorem Au {d id:Nat} {r:R} {x:Bool×S} (ho:Op1 P ops o ⟨n,sl,rs⟩ ((St.add ⟨n,sl,rs⟩ id r).put o.dst x)) (hd:o.dst=some d) (h:AWl P w0 ops Q l ⟨n,(d,x)::sl,(id,r)::rs⟩):AWl P w0 ops Q (o::l) ⟨n,sl,rs⟩:=
 AWl.op ho (by rw [hd];exact h)
def addsR:List (Nat×R)→List (Nat×R)→List (Nat×R)
 | [],rs=>rs
 | x::l,rs=>addsR l (x::rs)
theorem adds_eq:∀ (l:List (Nat×R)) (n:Nat) (sl:List (Nat×(Bool×S))) (rs:List (Nat×R)),St.adds ⟨n,sl,rs⟩ l=⟨n,sl,addsR l rs⟩
 | [],_,_,_=>rfl
 | (id,r)::l,n,sl,rs=>by rw [St.adds,St.add,adds_eq l];rfl
theorem Bq {d:Nat} {rl:List (Nat×R)} {x:Bool×S} (ho:Op1 P ops o ⟨n,sl,rs⟩ ((St.adds ⟨n,sl,rs⟩ rl).put o.dst x)) (hd:o.dst=some d) (h:AWl P w0 ops Q l ⟨n,(d,x)::sl,addsR rl rs⟩):AWl P w0 ops Q (o::l) ⟨n,sl,rs⟩:=
 AWl.op ho (by rw [hd,adds_eq];exact h)
def purS (id:Nat) (sl:List (Nat×(Bool×S))):List (Nat×(Bool×S)):=sl.map fun x=>(x.1,(x.2.1,x.2.2.pur id))
def chgR (id:Nat) (r:R) (rs:List (Nat×R)):List (Nat×R):=setR (rs.map fun x=>(x.1,x.2.pur id)) id r
theorem AWl.chg {id:Nat} {r:R} (ho:Op1 P ops o ⟨n,sl,rs⟩ (St.chg ⟨n,sl,rs⟩ id r)) (h:AWl P w0 ops Q l ⟨n,purS id sl,chgR id r rs⟩):AWl P w0 ops Q (o::l) ⟨n,sl,rs⟩:=AWl.op ho h
theorem Ce {d id:Nat} {r:R} {x:Bool×S} (ho:Op1 P ops o ⟨n,sl,rs⟩ ((St.chg ⟨n,sl,rs⟩ id r).put o.dst x)) (hd:o.dst=some d) (h:AWl P w0 ops Q l ⟨n,(d,x)::purS id sl,chgR id r rs⟩):AWl P w0 ops Q (o::l) ⟨n,sl,rs⟩:=
 AWl.op ho (by rw [hd];exact h)
theorem Bb {f:FuncId} {fn:Func} {c:Code} {ins:List V0} {out:V} (hf:P.funcs[f]?=some fn) (hb:fn.body=some c) (hname:(fn.name == "runtime.NumGoroutine")=false) (hnt:fn.ntmps=n) (hn:Nat.ble ins.length n=true)
 (h:LenV ins→∀ w0,AW P w0 c (RetQ P fn true out) ⟨n,inSlots 0 ins,[]⟩):FnT P f ins out:=by
 subst hnt;exact FnT.intro' hf hb hname hn h
theorem FrT.walk {f:FuncId} {fn:Func} {c:Code} {ins:List V0} {out:V} (hf:P.funcs[f]?=some fn) (hb:fn.body=some c) (hname:(fn.name == "runtime.NumGoroutine")=false) (hnt:fn.ntmps=n) (hn:Nat.ble ins.length n=true)
 (h:LenV ins→∀ w0,AW P w0 c (RetQ P fn false out) ⟨n,inSlots 0 ins,[]⟩):FrT P f ins out:=by
 subst hnt;exact FrT.len (fun hl=>FrT.intro hf hb hname hn (h hl)) ⟨fn,hf,hname,by rw [hb];rfl⟩
end
end Go.Q
namespace Go.Q
open Go.RowKit
section
variable {P:Program} {ops:Array Oper} {N:Nat}
def planC (ops:Array Oper) (N:Nat):Bool:=
 decide (N≤ops.size)&&(List.range N).all (fun i=>match ops[i]? with
  | some o=>(deps o).all (fun e=>decide (e<i))
  | none=>false)&&
 (decide (N=ops.size)||(Region.sinkB .any ops N&&Region.chainB .any ops N))&&
 Region.seqB .any ops (ops.size-N) N ((Array.range ops.size).map fun j=>decide (j<N))
theorem wpAny_inv {Q:Exit→Act→World→Prop} {J:Array Bool→Act→World→Prop} (hB:planC ops N=true)
 (hstep:∀ i o,i<N→ops[i]?=some o→∀ listed a w,HeadInv .any ops N listed→(∀ j∈deps o,listed.getD j false=true)→listed.getD i false=false→J listed a w→
  ∀ (K:Act→World→Prop) (Q':Exit→Act→World→Prop),(∀ a' w',J (listed.setIfInBounds i true) a' w'→K a' w')→if Region.wanted o (yielded ops a.tmps) then o.wp P a w K Q' else K (a.put o.dst undef) w)
 (hfin:∀ listed a w,(∀ j,j<N→listed.getD j false=true)→J listed a w→wpList P ops Q (ops.toList.drop N) a w) :
 ∀ (n:Nat) (listed:Array Bool) (a:Act) (w:World),unl N listed=n→HeadInv .any ops N listed→J listed a w→wpAny P .any ops Q (n+(ops.size-N)) listed a w:=by
 simp only [planC,Bool.and_eq_true,decide_eq_true_eq] at hB
 obtain⟨⟨⟨hN,hall⟩,htail⟩,hseq⟩:=hB
 have hop:∀ i,i<N→∃ o,ops[i]?=some o∧∀ e∈deps o,e<i:=by
  intro i hi
  have h:=List.all_eq_true.1 hall i (List.mem_range.2 hi)
  have hio:ops[i]?=some ops[i]:=Array.getElem?_eq_getElem (by omega)
  rw [hio] at h
  simp only [List.all_eq_true,decide_eq_true_eq] at h
  exact⟨_,hio,h⟩
 intro n
 induction n with
 | zero=>
  intro listed a w hn inv hJ
  have hl:∀ j,j<N→listed.getD j false=true:=by
   intro j hj
   have:=List.countP_eq_zero.1 hn j (List.mem_range.2 hj)
   simpa using this
  have hlisted:listed=(Array.range ops.size).map fun j=>decide (j<N):=by
   apply Array.ext
   · simp [inv.size]
   intro j h1 h2
   have hj:j<ops.size:=by rw [←inv.size];exact h1
   simp only [Array.getElem_map,Array.getElem_range]
   by_cases hjN:j<N
   · have:=hl j hjN
     simp [h1] at this
     simp [this,hjN]
   have:=inv.tail j (by omega) hj
   simp [h1] at this
   simp [this,hjN]
  have H:=hfin listed a w hl hJ
  have:=wpAny_of_seq (md:=.any) (Q':=Q) (ops.toList.drop N) N listed a w (fun j=>by simp [List.getElem?_drop]) (by rw [hlisted];simpa using hseq) H
  rw [Nat.zero_add]
  simpa using this
 | succ n ih=>
  intro listed a w hn inv hJ
  rw [show n+1+(ops.size-N)=(n+(ops.size-N))+1 by omega]
  have hleast:∃ i,i<N∧listed.getD i false=false∧∀ j,j<i→listed.getD j false=true:=by
   have hex:∃ i,i<N∧listed.getD i false=false:=by
    apply Classical.byContradiction;intro hno
    have:unl N listed=0:=List.countP_eq_zero.2 fun j hj=>by
     have hjN:=List.mem_range.1 hj
     cases h:listed.getD j false with
     | true=>simp
     | false=>exact absurd ⟨j,hjN,h⟩ hno
    omega
   obtain⟨i,hi,hu⟩:=hex
   induction i using Nat.strongRecOn with
   | _ i ihi=>
    by_cases hall':∀ j,j<i→listed.getD j false=true
    · exact⟨i,hi,hu,hall'⟩
    obtain⟨j,hj,hju⟩:∃ j,j<i∧listed.getD j false=false:=by
     apply Classical.byContradiction;intro hno
     exact hall' fun j hj=>by
      cases h:listed.getD j false with
      | true=>rfl
      | false=>exact absurd ⟨j,hj,h⟩ hno
    exact ihi j hj (by omega) hju
  have inL:∀ i,i<N→listed.getD i false=false→listed.getD i true=false:=fun i hi h=>getD_in (by rw [inv.size];omega) h
  obtain⟨i0,hi0,hu0,hl0⟩:=hleast
  have hr0:i0∈Region.ready .any ops listed:=by
   obtain⟨o,ho,hd⟩:=hop i0 hi0
   exact mem_ready.2 ⟨inL i0 hi0 hu0,o,ho,fun e he hb=>hl0 _ (hd _ (mem_deps.2 ⟨e,he,hb,rfl⟩))⟩
  refine⟨fun h0=>(by rw [h0] at hr0;cases hr0),fun i hi=>?_⟩
  have hiN:i<N:=by
   rcases Nat.lt_or_ge i N with h|h
   · exact h
   obtain⟨_,o,ho,_⟩:=mem_ready.1 hi
   have hisz:i<ops.size:=(Array.getElem?_eq_some_iff.1 ho).1
   simp only [Bool.or_eq_true,decide_eq_true_eq,Bool.and_eq_true] at htail
   rcases htail with htail|⟨hs,hc⟩
   · omega
   exact absurd hi (tail_waits hs hc (by omega) inv _ i0 rfl hi0 (inL i0 hi0 hu0) i h)
  obtain⟨o,ho,hd⟩:=hop i hiN
  obtain⟨hiun,o',ho',hafter⟩:=mem_ready.1 hi
  obtain rfl:o'=o:=Option.some.inj (ho'.symm.trans ho)
  have hiunf:listed.getD i false=false:=getD_both hiun
  have hdl:∀ j∈deps o',listed.getD j false=true:=fun j hj=>by
   obtain⟨e,he,hb,rfl⟩:=mem_deps.1 hj
   exact hafter e he hb
  have hun:unl N (listed.setIfInBounds i true)=n:=by
   have:=unl_set listed i hiunf (by rw [inv.size];omega) N
   rw [if_pos hiN] at this
   omega
  have H:=hstep i o' hiN ho listed a w inv hdl hiunf hJ _ Q fun a' w' hJ'=>ih _ a' w' hun (inv.set hi hiN) hJ'
  unfold wpOp
  simp only [ho]
  split
  · rename_i hw
    rw [if_pos hw] at H
    exact .inl H
  rename_i hw
  rw [if_neg hw] at H
  exact H
end
structure Sup (σ σ':St):Prop where
 n:σ'.n=σ.n
 slots:∀ i x,look σ.slots i=some x→look σ'.slots i=some x
 res:∀ i x,look σ.res i=some x→look σ'.res i=some x
section
variable {P:Program} {ops:Array Oper} {o:Oper} {σ σ':St} {q:Bool}
theorem readE0_sup (hs:Sup σ σ') {e:E} {t:T} (h:readE0 σ e=some t):readE0 σ' e=some t:=by
 cases e with
 | rf id=>
  rw [readE0] at h
  split at h
  · rename_i h0;rw [readE0,hs.res _ _ h0];exact h
  cases h
 | t x=>exact h
 | vw i x=>exact h
 | pp i x=>cases h
 | pr a b c d=>cases h
 | sb a b c d=>cases h
 | tl a b c=>cases h
 | pf a b c=>cases h
 | no=>cases h
theorem mapO_sup {f g:E→Option T} (hf:∀ e t,f e=some t→g e=some t):∀ {l:List E} {ts:List T},mapO f l=some ts→mapO g l=some ts
 | [],ts,h=>h
 | e::r,ts,h=>by
  rw [mapO] at h ⊢
  split at h
  · rename_i t h1
    split at h
    · rename_i ts' h2
      rw [hf e t h1]
      simp only [mapO_sup hf h2]
      exact h
    cases h
  cases h
theorem readE_sup (hs:Sup σ σ'):∀ (n:Nat) (e:E) (t:T),readE σ n e=some t→readE σ' n e=some t
 | 0,e,t,h=>readE0_sup hs h
 | n+1,e,t,h=>by
  rw [readE] at h ⊢
  dsimp only at h ⊢
  split at h
  · split at h
    · rename_i h0
      split at h
      · rename_i h1
        rw [hs.res _ _ h0]
        simp only [mapO_sup (readE_sup hs n) h1]
        exact h
      cases h
    cases h
  exact readE0_sup hs h
theorem readA_sup (hs:Sup σ σ') {x:A} {v:V0} (h:readA σ x=some v):readA σ' x=some v:=by
 cases x with
 | one e=>
  rw [readA] at h ⊢
  split at h
  · rename_i h1;rw [readE_sup hs 4 _ _ h1];exact h
  cases h
 | agg l=>
  rw [readA] at h ⊢
  split at h
  · rename_i h1;rw [mapO_sup (readE_sup hs 4) h1];exact h
  cases h
theorem Ag (hs:Sup σ σ') {d:Option Tmp} (h:d.all (fun d=>Nat.blt d σ.n)=true):d.all (fun d=>Nat.blt d σ'.n)=true:=by rw [hs.n];exact h
theorem Sup.tm {σ σ':St} {q:Bool} {i:Nat} {x:A} (hs:Sup σ σ') (h:look σ.slots i=some (true,.a x)):Get σ' q (.tmp i) x:=.tm (hs.slots _ _ h)
theorem Sup.ti {σ σ':St} {q:Bool} {i:Nat} {x:A} (hs:Sup σ σ') (h:look σ.slots i=some (q,.a x)):Get σ' q (.tmp i) x:=.tmp (hs.slots _ _ h) id
theorem Sup.y1 {σ σ':St} {ops:Array Oper} {o:Oper} {j d:Nat} {b:Bool} (hs:Sup σ σ') (hg:o.guard=some (j,true):=by exact rfl) (hd:(ops[j]?).bind (·.dst)=some d:=by exact rfl) (h:look σ.slots d=some (true,.a (.one (.t (.v (.bool b))))):=by exact rfl) (hn:Nat.blt d σ.n=true:=by exact rfl):Grd ops o σ' b:=.yes1 hg hd (hs.slots _ _ h) (by rw [hs.n];exact hn)
theorem Sup.n1 {σ σ':St} {ops:Array Oper} {o:Oper} {j d:Nat} {b:Bool} (hs:Sup σ σ') (hg:o.guard=some (j,false):=by exact rfl) (hd:(ops[j]?).bind (·.dst)=some d:=by exact rfl) (h:look σ.slots d=some (true,.a (.one (.t (.v (.bool b))))):=by exact rfl) (hn:Nat.blt d σ.n=true:=by exact rfl):Grd ops o σ' (!b):=.not1 hg hd (hs.slots _ _ h) (by rw [hs.n];exact hn)
def Loc (P:Program) (ops:Array Oper) (o:Oper) (σ:St) (y:Nat×(Bool×S)×List (Nat×R)):Prop:=
 ∀ σ',Sup σ σ'→(∀ z∈y.2.2,σ'.has z.1=false)→Op1 P ops o σ' ⟨σ'.n,(y.1,y.2.1)::σ'.slots,addsR y.2.2 σ'.res⟩
theorem B9 {d:Nat} {x:Bool×S} (hd:o.dst=some d) (h:∀ σ',Sup σ σ'→Op1 P ops o σ' (σ'.put o.dst x)):Loc P ops o σ (d,x,[]):=fun σ' hs _=>by
 have:=h σ' hs
 rw [hd] at this
 exact this
end
abbrev Out:=Nat×(Bool×S)×List (Nat×R)
def stL (L:Nat→Bool):Nat→List Out→St→St
 | _,[],σ=>σ
 | i,y::r,σ=>stL L (i+1) r (bif L i then ⟨σ.n,(y.1,y.2.1)::σ.slots,addsR y.2.2 σ.res⟩ else σ)
theorem stL_n (L:Nat→Bool):∀ (outs:List Out) (i:Nat) (σ:St),(stL L i outs σ).n=σ.n
 | [],_,_=>rfl
 | y::r,i,σ=>by
  rw [stL,stL_n L r]
  cases L i<;>rfl
theorem look_addsR:∀ (rl:List (Nat×R)) (rs:List (Nat×R)) (i:Nat),look (addsR rl rs) i=match look rl.reverse i with|some x=>some x|none=>look rs i
 | [],rs,i=>rfl
 | y::rl,rs,i=>by
  rw [addsR,look_addsR rl]
  have key:∀ (l m:List (Nat×R)),look (l++m) i=match look l i with|some x=>some x|none=>look m i:=by
   intro l m
   induction l with
   | nil=>rfl
   | cons z l ih=>
    obtain⟨j,z⟩:=z
    rw [List.cons_append,look_cons,look_cons]
    split
    · rfl
    exact ih
  rw [List.reverse_cons,key]
  cases look rl.reverse i with
  | some x=>rfl
  | none=>
   obtain⟨j,z⟩:=y
   simp only [look]
   cases Nat.beq j i<;>rfl
theorem stL_slot_base {L:Nat→Bool} {t:Nat}:∀ (outs:List Out) (i:Nat) (σ:St),(∀ (j:Nat) (y:Out),outs[j]?=some y→L (i+j)=true→y.1≠t)→look (stL L i outs σ).slots t=look σ.slots t
 | [],_,_,_=>rfl
 | y::r,i,σ,h=>by
  rw [stL,stL_slot_base r (i+1) _ fun j z hj hL=>h (j+1) z (by simpa using hj) (by rw [show i+(j+1)=i+1+j by omega];exact hL)]
  cases hL:L i with
  | false=>rfl
  | true=>
   simp only [cond_true,look_cons]
   rw [if_neg (h 0 y rfl hL)]
theorem stL_slot {L:Nat→Bool} {t:Nat} {x:Bool×S}:∀ (outs:List Out) (i:Nat) (σ:St) (j:Nat) (y:Out),outs[j]?=some y→L (i+j)=true→y.1=t→y.2.1=x→(∀ k z,outs[k]?=some z→z.1=t→k=j)→look (stL L i outs σ).slots t=some x
 | [],_,_,j,y,h,_,_,_,_=>by simp at h
 | z::r,i,σ,0,y,h,hL,h1,h2,hu=>by
  simp at h;subst h
  rw [stL,stL_slot_base r (i+1) _ fun k u hk _ e=>by have:=hu (k+1) u (by simpa using hk) e;omega]
  have hL':L i=true:=hL
  simp only [hL',cond_true,look_cons,h1,if_true,h2]
 | z::r,i,σ,j+1,y,h,hL,h1,h2,hu=>by
  rw [stL]
  exact stL_slot r (i+1) _ j y (by simpa using h) (by rw [show i+1+j=i+(j+1) by omega];exact hL) h1 h2 fun k u hk e=>by have:=hu (k+1) u (by simpa using hk) e;omega
theorem stL_res_base {L:Nat→Bool} {t:Nat}:∀ (outs:List Out) (i:Nat) (σ:St),(∀ (j:Nat) (y:Out),outs[j]?=some y→L (i+j)=true→∀ z∈y.2.2,z.1≠t)→look (stL L i outs σ).res t=look σ.res t
 | [],_,_,_=>rfl
 | y::r,i,σ,h=>by
  rw [stL,stL_res_base r (i+1) _ fun j z hj hL=>h (j+1) z (by simpa using hj) (by rw [show i+(j+1)=i+1+j by omega];exact hL)]
  cases hL:L i with
  | false=>rfl
  | true=>
   simp only [cond_true,look_addsR]
   have:look y.2.2.reverse t=none:=by
    cases hh:look y.2.2.reverse t with
    | none=>rfl
    | some x=>exact absurd rfl (h 0 y rfl hL (t,x) (by simpa using look_mem hh))
   rw [this]
theorem stL_res {L:Nat→Bool} {t:Nat} {x:R}:∀ (outs:List Out) (i:Nat) (σ:St) (j:Nat) (y:Out),outs[j]?=some y→L (i+j)=true→look y.2.2.reverse t=some x→(∀ k z,outs[k]?=some z→(∃ u∈z.2.2,u.1=t)→k=j)→look (stL L i outs σ).res t=some x
 | [],_,_,j,y,h,_,_,_=>by simp at h
 | z::r,i,σ,0,y,h,hL,h1,hu=>by
  simp at h;subst h
  rw [stL,stL_res_base r (i+1) _ fun k u hk _ v hv e=>by have:=hu (k+1) u (by simpa using hk) ⟨v,hv,e⟩;omega]
  have hL':L i=true:=hL
  simp only [hL',cond_true,look_addsR,h1]
 | z::r,i,σ,j+1,y,h,hL,h1,hu=>by
  rw [stL]
  exact stL_res r (i+1) _ j y (by simpa using h) (by rw [show i+1+j=i+(j+1) by omega];exact hL) h1 fun k u hk e=>by have:=hu (k+1) u (by simpa using hk) e;omega
def memN:List Nat→Nat→Bool
 | [],_=>false
 | i::l,j=>bif Nat.beq i j then true else memN l j
theorem memN_iff:∀ {l:List Nat} {j:Nat},memN l j=true↔j∈l
 | [],j=>by simp [memN]
 | i::l,j=>by
  rw [memN]
  by_cases e:i=j
  · subst e;simp [Nat.beq_refl]
  have:Nat.beq i j=false:=by
   cases hb:Nat.beq i j with
   | false=>rfl
   | true=>exact absurd (Nat.eq_of_beq_eq_true hb) e
  simp only [this,cond_false,memN_iff,List.mem_cons]
  exact⟨.inr,fun h=>h.resolve_left fun h=>e h.symm⟩
def delS (ds:List Nat):List (Nat×(Bool×S))→List (Nat×(Bool×S))
 | []=>[]
 | x::l=>bif memN ds x.1 then delS ds l else x::delS ds l
theorem look_delS (ds:List Nat):∀ (l:List (Nat×(Bool×S))) (t:Nat),look (delS ds l) t=if t∈ds then none else look l t
 | [],t=>by simp [delS,look]
 | (i,x)::l,t=>by
  rw [delS]
  cases hm:memN ds i with
  | true=>
   simp only [cond_true,look_delS ds l t,look_cons]
   by_cases e:i=t
   · subst e;rw [if_pos (memN_iff.1 hm),if_pos (memN_iff.1 hm)]
   rw [if_neg e]
  | false=>
   simp only [cond_false,look_cons,look_delS ds l t]
   by_cases e:i=t
   · subst e
     have:i∉ds:=fun h=>by rw [memN_iff.2 h] at hm;cases hm
     rw [if_pos rfl,if_neg this,if_pos rfl]
   rw [if_neg e,if_neg e]
def Out.has (y:Out) (id:Nat):Bool:=y.2.1.2.has id||y.2.2.any (fun z=>Nat.beq z.1 id||z.2.has id)
def Steps (P:Program) (ops:Array Oper) (B:Nat→List Nat) (outs:List Out) (σ:St):Nat→List Oper→List Out→Prop
 | i,o::l,y::r=>Loc P ops o (stL (memN (B i)) 0 outs σ) y∧Steps P ops B outs σ (i+1) l r
 | _,_,_=>True
theorem Steps.at {P:Program} {ops:Array Oper} {B:Nat→List Nat} {outs:List Out} {σ:St}:∀ (l:List Oper) (r:List Out) (k:Nat),Steps P ops B outs σ k l r→∀ i o y,l[i]?=some o→r[i]?=some y→Loc P ops o (stL (memN (B (k+i))) 0 outs σ) y
 | [],r,k,h,i,o,y,hl,hr=>by simp at hl
 | o'::l,[],k,h,i,o,y,hl,hr=>by simp at hr
 | o'::l,y'::r,k,h,0,o,y,hl,hr=>by simp at hl hr;subst hl;subst hr;exact h.1
 | o'::l,y'::r,k,h,i+1,o,y,hl,hr=>by
  have:=Steps.at l r (k+1) h.2 i o y (by simpa using hl) (by simpa using hr)
  rwa [show k+1+i=k+(i+1) by omega] at this
def ordB (l:List Oper) (B:Nat→List Nat) (N:Nat):Bool:=(List.range N).all fun i=>match l[i]? with
 | some o=>(B i).all fun j=>(deps o).contains j||(B i).any fun m=>decide (j<m)&&decide (m<N)&&(match l[m]? with|some om=>(deps om).contains j|none=>false)
 | none=>false
def outB (B:Nat→List Nat) (σ:St) (outs:List Out):Bool:=
 (List.range outs.length).all fun i=>match outs[i]? with
  | some y=>(List.range outs.length).all (fun k=>match outs[k]? with|some z=>decide (k=i)||!(Nat.beq z.1 y.1)|none=>true)&&
   y.2.2.all fun u=>!σ.has u.1&&(List.range outs.length).all fun k=>decide (k=i)||(match outs[k]? with|some z=>(!(z.has u.1)||memN (B k) i)&&z.2.2.all (fun v=>!(Nat.beq v.1 u.1))|none=>true)
  | none=>true
theorem has_stL {L:Nat→Bool} {id:Nat}:∀ (outs:List Out) (i:Nat) (σ:St),σ.has id=false→(∀ (j:Nat) (y:Out),outs[j]?=some y→L (i+j)=true→Out.has y id=false)→(stL L i outs σ).has id=false
 | [],_,_,h,_=>h
 | y::r,i,σ,h,h'=>by
  rw [stL]
  refine has_stL r (i+1) _ ?_ fun j z hj hL=>h' (j+1) z (by simpa using hj) (by rw [show i+(j+1)=i+1+j by omega];exact hL)
  cases hL:L i with
  | false=>exact h
  | true=>
   have h1:=h' 0 y rfl hL
   simp only [Out.has,Bool.or_eq_false_iff,List.any_eq_false] at h1
   simp only [St.has,Bool.or_eq_false_iff,List.any_eq_false] at h ⊢
   refine⟨fun z hz=>?_,fun z hz=>?_⟩
   · rcases List.mem_cons.1 hz with rfl|hz
     · simpa using h1.1
     exact h.1 z hz
   have:z∈y.2.2.reverse++σ.res:=by
    have key:∀ (a b:List (Nat×R)),z∈addsR a b→z∈a.reverse++b:=by
     intro a
     induction a with
     | nil=>intro b h;exact List.mem_append.2 (.inr h)
     | cons c a ih=>intro b h;have:=ih _ h;simpa using this
    exact key _ _ hz
   rcases List.mem_append.1 this with hz|hz
   · have:=h1.2 z (by simpa using hz)
     simpa using this
   exact h.2 z hz
theorem Rel.of_look {w0:Base} {w:World} {a:Act} {σ σ':St} (h:Rel w0 σ a w) (hn:σ'.n=σ.n) (hs:∀ i x,look σ'.slots i=some x→look σ.slots i=some x) (hr:∀ i x,look σ'.res i=some x→look σ.res i=some x):Rel w0 σ' a w:=by
 obtain⟨I,h⟩:=h
 exact⟨I,h.ext,h.defers,h.size.trans hn.symm,fun i x hi=>h.slots _ _ (hs i x hi),fun i r hi=>h.res _ _ (hr i r hi),h.old,h.lt,fun i r hi=>h.own _ _ (hr i r hi),h.apart⟩
theorem beq_false {i j:Nat} (h:i≠j):Nat.beq i j=false:=by
 cases hb:Nat.beq i j with
 | false=>rfl
 | true=>exact absurd (Nat.eq_of_beq_eq_true hb) h
theorem look_none_of {α:Type}:∀ {l:List (Nat×α)} {t:Nat},(∀ x∈l,x.1≠t)→look l t=none
 | [],_,_=>rfl
 | (i,x)::l,t,h=>by rw [look_cons,if_neg (h (i,x) (by simp))];exact look_none_of fun y hy=>h y (by simp [hy])
theorem ordB_in {l:List Oper} {N:Nat} {B:Nat→List Nat} (hB:planC l.toArray N=true) (hO:ordB l B N=true) {listed:Array Bool} (inv:HeadInv .any l.toArray N listed) {i:Nat} {o:Oper} (hi:i<N) (ho:l[i]?=some o) (hd:∀ j∈deps o,listed.getD j false=true):∀ j∈B i,listed.getD j false=true:=by
 have hlN:N≤l.length:=by
  simp only [planC,Bool.and_eq_true,decide_eq_true_eq] at hB
  simpa using hB.1.1.1
 have inB:∀ (listed:Array Bool),HeadInv .any l.toArray N listed→∀ i o,i<N→l[i]?=some o→(∀ j∈deps o,listed.getD j false=true)→∀ j∈B i,listed.getD j false=true:=by
  intro listed inv i o hi ho hd
  have hOi:=List.all_eq_true.1 hO i (List.mem_range.2 hi)
  rw [ho] at hOi
  have hOi':=List.all_eq_true.1 hOi
  have key:∀ d j,N-j≤d→j∈B i→listed.getD j false=true:=by
   intro d
   induction d with
   | zero=>
    intro j hj hm
    have:=hOi' j hm
    simp only [Bool.or_eq_true,List.contains_iff_mem,List.any_eq_true,Bool.and_eq_true,decide_eq_true_eq] at this
    rcases this with h|⟨m,hmB,⟨h1,h2⟩,h3⟩
    · exact hd j h
    omega
   | succ d ih=>
    intro j hj hm
    have:=hOi' j hm
    simp only [Bool.or_eq_true,List.contains_iff_mem,List.any_eq_true,Bool.and_eq_true,decide_eq_true_eq] at this
    rcases this with h|⟨m,hmB,⟨h1,h2⟩,h3⟩
    · exact hd j h
    have hml:=ih m (by omega) hmB
    cases hom:l[m]? with
    | none=>rw [hom] at h3;cases h3
    | some om=>
     rw [hom] at h3
     simp only [List.contains_iff_mem] at h3
     obtain⟨e,he,hb,rfl⟩:=mem_deps.1 h3
     exact inv.closed m om (by simpa using hom) hml e he hb
  exact fun j hm=>key (N-j) j (Nat.le_refl _) hm
 exact inB listed inv i o hi ho hd
theorem draw_step {o:Oper} {n:Nat} {sl:List (Nat×(Bool×S))} {rs:List (Nat×R)} {l:List Oper} {N:Nat} {B:Nat→List Nat} {outs:List Out} (hB:planC l.toArray N=true) (hO:ordB l B N=true) (hl:outs.length=N) (hU:outB B ⟨n,sl,rs⟩ outs=true)
 {listed:Array Bool} {i:Nat} {y:Out} (inv:HeadInv .any l.toArray N listed) (hi:i<N) (ho':l[i]?=some o) (hd:∀ j∈deps o,listed.getD j false=true) (hu:listed.getD i false=false) (hy:outs[i]?=some y) :
 Sup (stL (memN (B i)) 0 outs ⟨n,delS (outs.map (·.1)) sl,rs⟩) (stL (fun j=>listed.getD j false) 0 outs ⟨n,sl,rs⟩)∧(∀ u∈y.2.2,(stL (fun j=>listed.getD j false) 0 outs ⟨n,sl,rs⟩).has u.1=false)∧(∀ j∈B i,listed.getD j false=true)∧
 ∀ w0 a' w',Rel w0 ⟨(stL (fun j=>listed.getD j false) 0 outs ⟨n,sl,rs⟩).n,(y.1,y.2.1)::(stL (fun j=>listed.getD j false) 0 outs ⟨n,sl,rs⟩).slots,addsR y.2.2 (stL (fun j=>listed.getD j false) 0 outs ⟨n,sl,rs⟩).res⟩ a' w'→Rel w0 (stL (fun j=>(listed.setIfInBounds i true).getD j false) 0 outs ⟨n,sl,rs⟩) a' w':=by
 have hU':=List.all_eq_true.1 hU
 have dsl:∀ (i:Nat) (y:Out),outs[i]?=some y→∀ (k:Nat) (z:Out),outs[k]?=some z→z.1=y.1→k=i:=by
  intro i y hi k z hk e
  have:=hU' i (List.mem_range.2 (List.getElem?_eq_some_iff.1 hi).1)
  rw [hi] at this
  simp only [Bool.and_eq_true] at this
  have:=List.all_eq_true.1 this.1 k (List.mem_range.2 (List.getElem?_eq_some_iff.1 hk).1)
  rw [hk] at this
  simp only [Bool.or_eq_true,decide_eq_true_eq,Bool.not_eq_true'] at this
  rcases this with h|h
  · exact h
  rw [e,Nat.beq_refl] at h;cases h
 have ids:∀ (i:Nat) (y:Out),outs[i]?=some y→∀ u∈y.2.2,St.has ⟨n,sl,rs⟩ u.1=false∧∀ (k:Nat) (z:Out),outs[k]?=some z→k=i∨((Out.has z u.1=true→i∈B k)∧∀ v∈z.2.2,v.1≠u.1):=by
  intro i y hi u hu
  have:=hU' i (List.mem_range.2 (List.getElem?_eq_some_iff.1 hi).1)
  rw [hi] at this
  simp only [Bool.and_eq_true] at this
  have:=List.all_eq_true.1 this.2 u hu
  simp only [Bool.and_eq_true,Bool.not_eq_true'] at this
  refine⟨this.1,fun k z hk=>?_⟩
  have:=List.all_eq_true.1 this.2 k (List.mem_range.2 (List.getElem?_eq_some_iff.1 hk).1)
  rw [hk] at this
  simp only [Bool.or_eq_true,decide_eq_true_eq,Bool.and_eq_true,Bool.not_eq_true',List.all_eq_true] at this
  rcases this with h|⟨h1,h2⟩
  · exact .inl h
  refine .inr ⟨fun hz=>?_,fun v hv=>beq_ne (h2 v hv)⟩
  rcases h1 with h1|h1
  · rw [hz] at h1;cases h1
  exact memN_iff.1 h1
 have hlN:N≤l.length:=by
  have hB':=hB
  simp only [planC,Bool.and_eq_true,decide_eq_true_eq] at hB'
  simpa using hB'.1.1.1
 have inB:=fun (listed:Array Bool) (inv:HeadInv .any l.toArray N listed) (i:Nat) (o:Oper) (hi:i<N) (ho:l[i]?=some o) (hd:∀ j∈deps o,listed.getD j false=true)=>ordB_in hB hO inv hi ho hd
 have hBL:=inB listed inv i o hi ho' hd
 have hsup:Sup (stL (memN (B i)) 0 outs ⟨n,delS (outs.map (·.1)) sl,rs⟩) (stL (fun j=>listed.getD j false) 0 outs ⟨n,sl,rs⟩):=by
  refine⟨by rw [stL_n,stL_n],fun t x hx=>?_,fun t x hx=>?_⟩
  · by_cases hex:∃ j z,outs[j]?=some z∧memN (B i) j=true∧z.1=t
    · obtain⟨j,z,hz,hj,rfl⟩:=hex
      have e:=stL_slot (L:=memN (B i)) (t:=z.1) outs 0 ⟨n,delS (outs.map (·.1)) sl,rs⟩ j z hz (by rw [Nat.zero_add];exact hj) rfl rfl (fun k u hk e=>dsl j z hz k u hk e)
      rw [hx] at e
      cases e
      exact stL_slot outs 0 _ j z hz (by rw [Nat.zero_add];exact hBL j (memN_iff.1 hj)) rfl rfl fun k u hk e=>dsl j z hz k u hk e
    rw [stL_slot_base outs 0 _ fun j z hz hj e=>hex ⟨j,z,hz,by rw [Nat.zero_add] at hj;exact hj,e⟩,look_delS] at hx
    split at hx
    · cases hx
    rename_i hnm
    rw [stL_slot_base outs 0 _ fun j z hz _ e=>hnm (List.mem_map.2 ⟨z,List.mem_of_getElem? hz,e⟩)]
    exact hx
  by_cases hex:∃ j z,outs[j]?=some z∧memN (B i) j=true∧∃ u∈z.2.2,u.1=t
  · obtain⟨j,z,hz,hj,u,hu,rfl⟩:=hex
    have uniq:∀ (k:Nat) (z':Out),outs[k]?=some z'→(∃ v∈z'.2.2,v.1=u.1)→k=j:=fun k z' hk ⟨v,hv,e⟩=>by
     rcases (ids j z hz u hu).2 k z' hk with h|⟨_,h⟩
     · exact h
     exact absurd e (h v hv)
    cases hlk:look z.2.2.reverse u.1 with
    | none=>
     exfalso
     have:∀ (m:List (Nat×R)),u∈m→look m u.1≠none:=by
      intro m
      induction m with
      | nil=>intro h;cases h
      | cons c m ih=>
       intro h
       obtain⟨ci,cx⟩:=c
       rw [look_cons]
       split
       · simp
       rename_i e
       rcases List.mem_cons.1 h with rfl|h
       · exact absurd rfl e
       exact ih h
     exact this _ (by simpa using hu) hlk
    | some x'=>
     have e:=stL_res (L:=memN (B i)) outs 0 ⟨n,delS (outs.map (·.1)) sl,rs⟩ j z hz (by rw [Nat.zero_add];exact hj) hlk uniq
     rw [hx] at e
     cases e
     exact stL_res outs 0 _ j z hz (by rw [Nat.zero_add];exact hBL j (memN_iff.1 hj)) hlk uniq
  rw [stL_res_base outs 0 _ fun j z hz hj u hu e=>hex ⟨j,z,hz,by rw [Nat.zero_add] at hj;exact hj,u,hu,e⟩] at hx
  rw [stL_res_base outs 0 _ fun j z hz _ u hu e=>?_]
  · exact hx
  have:=(ids j z hz u hu).1
  exact (St.has_res this (e▸hx)).1 rfl
 have hfresh:∀ u∈y.2.2,(stL (fun j=>listed.getD j false) 0 outs ⟨n,sl,rs⟩).has u.1=false:=by
  intro u hu';refine has_stL outs 0 _ (ids i y hy u hu').1 fun j z hz hL=>?_
  rw [Nat.zero_add] at hL
  cases hh:Out.has z u.1 with
  | false=>rfl
  | true=>
   rcases (ids i y hy u hu').2 j z hz with rfl|⟨h1,_⟩
   · rw [hu] at hL;cases hL
   exfalso
   have hib:=h1 hh
   have hjN:j<N:=by rw [←hl];exact (List.getElem?_eq_some_iff.1 hz).1
   have hoj:l[j]?=some (l[j]'(by omega)):=List.getElem?_eq_getElem _
   have:=inB listed inv j _ hjN hoj (fun k hk=>by
    obtain⟨e,he,hb,rfl⟩:=mem_deps.1 hk
    exact inv.closed j _ (by simp) hL e he hb) i hib
   rw [hu] at this;cases this
 refine⟨hsup,hfresh,hBL,fun w0 a' w' hr'=>?_⟩
 have hget:∀ j,(listed.setIfInBounds i true).getD j false=if j=i then true else listed.getD j false:=by
  intro j
  by_cases e:j=i
  · subst e
    have:j<listed.size:=by rw [inv.size];simp;omega
    simp [this]
  rw [if_neg e];exact getD_set_ne false (fun h=>e h.symm)
 refine Rel.of_look hr' (by rw [stL_n,stL_n]) (fun t x hx=>?_) (fun t x hx=>?_)
 · show look ((y.1,y.2.1)::_) t=some x
   rw [look_cons]
   by_cases e:y.1=t
   · rw [if_pos e]
     have:=stL_slot (L:=fun j=>(listed.setIfInBounds i true).getD j false) outs 0 ⟨n,sl,rs⟩ i y hy (by rw [Nat.zero_add];rw [hget,if_pos rfl]) e rfl fun k z hk e'=>dsl i y hy k z hk (e'.trans e.symm)
     rw [this] at hx;exact hx
   rw [if_neg e]
   by_cases hex:∃ j z,outs[j]?=some z∧listed.getD j false=true∧z.1=t
   · obtain⟨j,z,hz,hj,rfl⟩:=hex
     have e1:=stL_slot (L:=fun j=>(listed.setIfInBounds i true).getD j false) outs 0 ⟨n,sl,rs⟩ j z hz (by rw [Nat.zero_add,hget];split;rfl;exact hj) rfl rfl fun k u hk e=>dsl j z hz k u hk e
     rw [e1] at hx
     cases hx
     exact stL_slot outs 0 _ j z hz (by rw [Nat.zero_add];exact hj) rfl rfl fun k u hk e=>dsl j z hz k u hk e
   rw [stL_slot_base outs 0 _ fun j z hz hj e'=>hex ⟨j,z,hz,by rw [Nat.zero_add] at hj;exact hj,e'⟩]
   rw [stL_slot_base outs 0 _ fun j z hz hj e'=>?_] at hx
   · exact hx
   rw [Nat.zero_add,hget] at hj
   split at hj
   · rename_i e2;subst e2;rw [hy] at hz;cases hz;exact e e'
   exact hex ⟨j,z,hz,hj,e'⟩
 show look (addsR y.2.2 _) t=some x
 rw [look_addsR]
 by_cases hyt:∃ u∈y.2.2,u.1=t
 · obtain⟨u,hu',rfl⟩:=hyt
   have uniq:∀ (k:Nat) (z':Out),outs[k]?=some z'→(∃ v∈z'.2.2,v.1=u.1)→k=i:=fun k z' hk ⟨v,hv,e⟩=>by
    rcases (ids i y hy u hu').2 k z' hk with h|⟨_,h⟩
    · exact h
    exact absurd e (h v hv)
   cases hlk:look y.2.2.reverse u.1 with
   | none=>
    simp only
    rw [stL_res_base outs 0 _ fun j z hz hj v hv e'=>?_] at hx ⊢
    · exact hx
    all_goals
     have:=uniq j z hz ⟨v,hv,e'⟩
     subst this
     rw [hy] at hz;cases hz
     have hne:∀ (m:List (Nat×R)),v∈m→look m v.1≠none:=by
      intro m
      induction m with
      | nil=>intro h;cases h
      | cons c m ih=>
       intro h
       obtain⟨ci,cx⟩:=c
       rw [look_cons]
       split
       · simp
       rename_i e
       rcases List.mem_cons.1 h with rfl|h
       · exact absurd rfl e
       exact ih h
     exact hne _ (by simpa using hv) (e'▸hlk)
   | some x'=>
    have:=stL_res (L:=fun j=>(listed.setIfInBounds i true).getD j false) outs 0 ⟨n,sl,rs⟩ i y hy (by rw [Nat.zero_add];rw [hget,if_pos rfl]) hlk uniq
    rw [this] at hx
    exact hx
 have hnone:look y.2.2.reverse t=none:=look_none_of fun v hv e=>hyt ⟨v,by simpa using hv,e⟩
 rw [hnone]
 simp only
 by_cases hex:∃ j z,outs[j]?=some z∧listed.getD j false=true∧∃ u∈z.2.2,u.1=t
 · obtain⟨j,z,hz,hj,u,hu',rfl⟩:=hex
   have uniq:∀ (k:Nat) (z':Out),outs[k]?=some z'→(∃ v∈z'.2.2,v.1=u.1)→k=j:=fun k z' hk ⟨v,hv,e⟩=>by
    rcases (ids j z hz u hu').2 k z' hk with h|⟨_,h⟩
    · exact h
    exact absurd e (h v hv)
   cases hlk:look z.2.2.reverse u.1 with
   | none=>
    exfalso
    have hne:∀ (m:List (Nat×R)),u∈m→look m u.1≠none:=by
     intro m
     induction m with
     | nil=>intro h;cases h
     | cons c m ih=>
      intro h
      obtain⟨ci,cx⟩:=c
      rw [look_cons]
      split
      · simp
      rename_i e
      rcases List.mem_cons.1 h with rfl|h
      · exact absurd rfl e
      exact ih h
    exact hne _ (by simpa using hu') hlk
   | some x'=>
    have e1:=stL_res (L:=fun j=>(listed.setIfInBounds i true).getD j false) outs 0 ⟨n,sl,rs⟩ j z hz (by rw [Nat.zero_add,hget];split;rfl;exact hj) hlk uniq
    rw [e1] at hx
    cases hx
    exact stL_res outs 0 _ j z hz (by rw [Nat.zero_add];exact hj) hlk uniq
 rw [stL_res_base outs 0 _ fun j z hz hj u hu' e'=>hex ⟨j,z,hz,by rw [Nat.zero_add] at hj;exact hj,u,hu',e'⟩]
 rw [stL_res_base outs 0 _ fun j z hz hj u hu' e'=>?_] at hx
 · exact hx
 rw [Nat.zero_add,hget] at hj
 split at hj
 · rename_i e2;subst e2;rw [hy] at hz;cases hz;exact hyt ⟨u,hu',e'⟩
 exact hex ⟨j,z,hz,hj,u,hu',e'⟩
theorem AW.draw {P:Program} {w0:Base} {Q:Exit→St→Prop} {n:Nat} {sl:List (Nat×(Bool×S))} {rs:List (Nat×R)} {id:Nat} {l:List Oper} (N:Nat) (B:Nat→List Nat) (outs:List Out) (hm:P.follows .mixedOrders=true) (hB:planC l.toArray N=true) (hO:ordB l B N=true) (hl:outs.length=N)
 (hsteps:Steps P l.toArray B outs ⟨n,delS (outs.map (·.1)) sl,rs⟩ 0 l outs) (hU:outB B ⟨n,sl,rs⟩ outs=true) (hfin:AWl P w0 l.toArray Q (l.drop N) (stL (fun _=>true) 0 outs ⟨n,sl,rs⟩)):AW P w0 (.region id l.toArray true) Q ⟨n,sl,rs⟩:=by
 intro a w hr;refine wp_region_any hm ?_
 have hlN:N≤l.length:=by
  have hB':=hB
  simp only [planC,Bool.and_eq_true,decide_eq_true_eq] at hB'
  simpa using hB'.1.1.1
 have H:=wpAny_inv (P:=P) (Q:=lift w0 Q) (J:=fun listed a w=>Rel w0 (stL (fun j=>listed.getD j false) 0 outs ⟨n,sl,rs⟩) a w) hB (fun i o hi ho listed a w inv hd hu hJ=>?_) (fun listed a w hall hJ=>?_)
  (unl N (Array.replicate l.toArray.size false)) (Array.replicate l.toArray.size false) a { w with drawn:=w.drawn+1 } rfl
  ⟨by simp,fun j oj _ hl=>(by rw [getD_replicate_false] at hl;cases hl),fun t _ ht=>getD_in (by simpa using ht) (getD_replicate_false _ _)⟩ ?_
 · have hu:unl N (Array.replicate l.toArray.size false)=N:=by
    unfold unl
    rw [List.countP_eq_length.2 (fun j _=>by rw [getD_replicate_false];rfl),List.length_range]
   rw [hu,show N+(l.toArray.size-N)=l.toArray.size by simp;omega] at H
   exact H
 · -- one step
   have ho':l[i]?=some o:=by simpa using ho
   obtain⟨y,hy⟩:∃ y,outs[i]?=some y:=⟨outs[i]'(by omega),List.getElem?_eq_getElem _⟩
   have hloc:=Steps.at l outs 0 hsteps i o y ho' hy
   rw [Nat.zero_add] at hloc
   obtain⟨s1,s2,_,s4⟩:=draw_step hB hO hl hU inv hi ho' hd hu hy
   intro K Q' hK;exact hloc _ s1 s2 w0 a w hJ K Q' fun a' w' hr'=>hK a' w' (s4 w0 a' w' hr')
 · -- the end
   have e:stL (fun j=>listed.getD j false) 0 outs ⟨n,sl,rs⟩=stL (fun _=>true) 0 outs ⟨n,sl,rs⟩:=by
    have key:∀ (os:List Out) (i:Nat) (σ:St),(∀ j,j<os.length→listed.getD (i+j) false=true)→stL (fun j=>listed.getD j false) i os σ=stL (fun _=>true) i os σ:=by
     intro os
     induction os with
     | nil=>intro i σ _;rfl
     | cons y os ih=>
      intro i σ h
      rw [stL,stL]
      have h0:=h 0 (by simp)
      rw [Nat.add_zero] at h0
      simp only [h0,cond_true]
      exact ih (i+1) _ fun j hj=>by rw [show i+1+j=i+(j+1) by omega];exact h (j+1) (by simp;omega)
    exact key outs 0 _ fun j hj=>by rw [Nat.zero_add];exact hall j (by omega)
   rw [e] at hJ
   exact hfin a w hJ
 have e:stL (fun j=>(Array.replicate l.toArray.size false).getD j false) 0 outs ⟨n,sl,rs⟩=⟨n,sl,rs⟩:=by
  have key:∀ (os:List Out) (i:Nat) (σ:St),stL (fun j=>(Array.replicate l.toArray.size false).getD j false) i os σ=σ:=by
   intro os
   induction os with
   | nil=>intro i σ;rfl
   | cons y os ih=>
    intro i σ
    rw [stL,getD_replicate_false]
    exact ih (i+1) σ
  exact key outs 0 _
 show Rel w0 (stL (fun j=>(Array.replicate l.toArray.size false).getD j false) 0 outs ⟨n,sl,rs⟩) a _
 rw [e]
 obtain⟨I,hI⟩:=hr
 exact⟨I,hI.later (Ext.refl w).drawn⟩
end Go.Q
