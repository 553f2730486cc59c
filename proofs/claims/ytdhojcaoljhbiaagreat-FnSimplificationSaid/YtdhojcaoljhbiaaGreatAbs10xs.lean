import Derived.Test.YtdhojcaoljhbiaaGreatAbs8xs
set_option linter.unusedVariables false
set_option linter.unusedSimpArgs false
namespace Go.Q
open Go.RowKit
section
variable {P:Program} {ops:Array Oper} {o:Oper} {σ:St} {q:Bool}
def cellsV0:V0→List T
 | .one t=>[t]
 | .agg l=>l
def unflE:List V0→List E→List A
 | [],_=>[]
 | x::r,es=>match x with
  | .one _=>.one (es.headD .no)::unflE r (es.drop 1)
  | .agg l=>.agg (es.take l.length)::unflE r (es.drop l.length)
theorem V0s.cells {o:Bool} {w:World}:∀ {xs:List V0} {vs:List Value} {G:List Nat},V0s o w xs vs G→∃ cs,Cs o w (xs.flatMap cellsV0) cs G∧∀ I es,VEs I w es cs→VAs I w (unflE xs es) vs
 | [],vs,G,⟨h1,h2⟩=>⟨[],by unfold Cs;exact⟨rfl,h2⟩,fun I es h=>by rw [unflE];exact h1⟩
 | x::xs,vs,G,⟨v,vr,G1,G2,h1,h2,h3,h4⟩=>by
  obtain⟨cs,g1,g2⟩:=V0s.cells h3
  cases x with
  | one t=>
   refine⟨v::cs,?_,fun I es h=>?_⟩
   · rw [List.flatMap_cons]
     show Cs o w (t::_) _ _
     unfold Cs
     exact⟨v,cs,G1,G2,rfl,h2,g1,h4⟩
   match es,h with
   | [],h=>simp [VEs] at h
   | e::es,h=>
    obtain⟨c,cr,e1,k1,k2⟩:=h
    cases e1
    exact⟨v,vr,h1,k1,g2 I es k2⟩
  | agg l=>
   obtain⟨ds,e1,h2⟩:=h2
   refine⟨ds++cs,by rw [List.flatMap_cons,h4];exact h2.append g1,fun I es h=>?_⟩
   have hl:=h2.len
   refine⟨v,vr,h1,⟨ds,e1,?_⟩,g2 I _ ?_⟩
   · have:=VEs_take l.length h
     rwa [List.take_left' hl] at this
   have:=VEs_drop l.length h
   rwa [List.drop_left' hl] at this
def outV (n:Nat):V→Option (S×List (Nat×R))
 | .a x=>match outV0 n x with|some (y,rs)=>some (.a y,rs)|none=>none
 | .tup l=>match outL n (l.flatMap cellsV0) with|some (es,rs)=>some (.tup (unflE l es),rs)|none=>none
theorem outV_ok {w0:Base} {w:World} {a:Act} {x:V} {n:Nat} {y:S} {rs:List (Nat×R)} {I:Ip} {v:Value} {G:List Nat} (h:outV n x=some (y,rs)) (hf:(rs.all fun x=>!σ.has x.1)=true) (hr:RelI I w0 σ a w) (hC:Vr true w x v G) (hn:G.Nodup) (hG:∀ b∈G,Free I w0 w b) :
 ∃ I',RelI I' w0 (σ.adds rs) a w∧VS I' w (true,y) v:=by
 cases x with
 | a x=>
  rw [outV] at h
  split at h
  · rename_i h1
    simp only [Option.some.injEq,Prod.mk.injEq] at h
    obtain⟨rfl,rfl⟩:=h
    obtain⟨I',g1,g2,_,_⟩:=outV0_ok h1 hf hr hC hn hG
    exact⟨I',g1,g2⟩
  cases h
 | tup l=>
  rw [outV] at h
  split at h
  · rename_i es rs' h1
    simp only [Option.some.injEq,Prod.mk.injEq] at h
    obtain⟨rfl,rfl⟩:=h
    obtain⟨vs,e1,h2⟩:=hC
    obtain⟨cs,g1,g2⟩:=h2.cells
    obtain⟨I',k1,k2,_,_⟩:=outL_ok h1 hf hr g1 hn hG
    exact⟨I',k1,vs,e1,g2 I' es k2⟩
  cases h
inductive Args (σ:St) (q:Bool):List Operand→List V0→Prop where
 | nil:Args σ q [] []
 | cons {x:Operand} {A0:A} {v:V0} {l:List Operand} {vs:List V0} (hx:Get σ q x A0) (hv:readA σ A0=some v) (h:Args σ q l vs):Args σ q (x::l) (v::vs)
theorem Args.ok {l:List Operand} {ins:List V0} (h:Args σ q l ins) {I:Ip} {w0:Base} {w:World} {a:Act} (hr:RelI I w0 σ a w) (hq:q=true):∃ F,V0s false w ins (l.map a.eval) F:=by
 induction h with
 | nil=>exact⟨[],rfl,rfl⟩
 | cons hx hv h ih=>
  obtain⟨F,ih⟩:=ih
  obtain⟨G,hg⟩:=readA_ok hr hv (hx.va hr hq)
  exact⟨G++F,_,_,G,F,rfl,hg,ih,rfl⟩
theorem V0r.lt {oo:Bool} {w:World} {x:V0} {v:Value} {F:List Nat} (h:V0r oo w x v F):∀ b∈F,b<w.heap.size:=by
 cases x with
 | one t=>exact C.lt h
 | agg l=>obtain⟨cs,_,h⟩:=h;exact h.lt
theorem V0s.lt {oo:Bool} {w:World}:∀ {l:List V0} {vs:List Value} {F:List Nat},V0s oo w l vs F→∀ b∈F,b<w.heap.size
 | [],_,_,⟨_,h⟩,b,hb=>by subst h;cases hb
 | _::_,_,_,⟨v,vr,G1,G2,_,h2,h3,h4⟩,b,hb=>by
  subst h4
  rcases List.mem_append.1 hb with hb|hb
  · exact h2.lt b hb
  exact V0s.lt h3 b hb
theorem Vr.lt {oo:Bool} {w:World} {x:V} {v:Value} {F:List Nat} (h:Vr oo w x v F):∀ b∈F,b<w.heap.size:=by
 cases x with
 | a x=>exact V0r.lt h
 | tup l=>obtain⟨vs,_,h⟩:=h;exact h.lt
theorem adds_n:∀ {σ:St} (rs:List (Nat×R)),(σ.adds rs).n=σ.n
 | σ,[]=>rfl
 | σ,(id,r)::l=>by rw [St.adds,adds_n l];rfl
theorem run_enter {f:FuncId} (hc:Callee P f) {l:List Operand} {tys:Array TypeId} {a:Act} {w:World} (ho:o.op=.call { callee:=.value (.func f),args:=l.toArray,argTypes:=tys }) :
 (execOp a.eval o).run P w=.ok (.enter f (l.map a.eval).toArray) w:=by
 obtain⟨fn,h1,h2,h3⟩:=hc
 have:a.eval (.func f)=.func (.func f) #[] #[]:=rfl
 have h2':¬ fn.name= "runtime.NumGoroutine":=by simpa using h2
 have h3':¬ fn.body=none:=by intro e;rw [e] at h3;cases h3
 simp [execOp,ho,resolve,this,Deferred.ofValue,invoke,callFunc,h1,h2',h3']
theorem Bq {f:FuncId} {l:List Operand} {tys:Array TypeId} {ins:List V0} {out:V} {y:S} {rs:List (Nat×R)} (n:Nat) (h:FnT P f ins out) (ho:o.op=.call { callee:=.value (.func f),args:=l.toArray,argTypes:=tys }) (hg:o.guard=none) (hd:o.dst.all (fun d=>Nat.blt d σ.n)=true)
 (ha:Args σ true l ins) (hout:outV n out=some (y,rs)) (hf:(rs.all fun x=>!σ.has x.1)=true):Op1 P ops o σ ((σ.adds rs).put o.dst (true,y)):=by
 rintro w0 a w ⟨I,hr⟩ K Q hK
 simp only [Region.wanted,hg,if_true]
 obtain⟨F,hF⟩:=ha.ok hr rfl
 unfold Oper.wp
 rw [run_enter h.1 ho]
 refine (h.2 w _ F hr.good hF).mono fun e w' hR=>?_
 obtain⟨v,G,rfl,h1,h2,h3,h4⟩:=hR
 obtain⟨I',g1,g2⟩:=outV_ok hout hf (hr.later h4) h1 h2 fun b hb=>⟨.inl (Nat.le_trans hr.ext.size (h3 b hb).1),(Vr.lt h1 b hb),(h3 b hb).2,fun hz=>by have:=hr.old b hz;have:=(h3 b hb).1;omega,fun i hi=>by have:=(hr.lt i b hi).1;have:=(h3 b hb).1;omega⟩
 refine hK _ _ ⟨I',g1.put ?_ g2⟩
 have:(σ.adds rs).n=σ.n:=adds_n rs
 rw [this];exact hd
def Ip.also (I:Ip) (G:List Nat):Ip:=⟨fun b=>I.Z b∨b∈G,I.F,I.hd,I.B⟩
theorem VE.also {I:Ip} {w:World} (G:List Nat) {e:E} {c:Value} (h:VE I w e c):VE (I.also G) w e c:=by
 cases e with
 | t x=>obtain⟨G,h1,h2⟩:=h;exact⟨G,h1,fun b hb=>.inl (h2 b hb)⟩
 | rf i=>exact h
 | tl i k j=>exact h
 | pf i k j=>exact h
 | vw i x=>exact h
 | pp i x=>exact h
 | pr i a b c=>exact h
 | sb i a b c=>exact h
 | no=>trivial
theorem VEs.also {I:Ip} {w:World} (G:List Nat):∀ {l:List E} {cs:List Value},VEs I w l cs→VEs (I.also G) w l cs
 | [],_,h=>h
 | _::_,_,⟨c,cr,h1,h2,h3⟩=>⟨c,cr,h1,h2.also G,h3.also G⟩
theorem VA.also {I:Ip} {w:World} (G:List Nat) {x:A} {v:Value} (h:VA I w x v):VA (I.also G) w x v:=by
 cases x with
 | one e=>exact VE.also G h
 | agg l=>obtain⟨cs,h1,h2⟩:=h;exact⟨cs,h1,h2.also G⟩
theorem VAs.also {I:Ip} {w:World} (G:List Nat):∀ {l:List A} {cs:List Value},VAs I w l cs→VAs (I.also G) w l cs
 | [],_,h=>h
 | _::_,_,⟨c,cr,h1,h2,h3⟩=>⟨c,cr,h1,h2.also G,h3.also G⟩
theorem VS.also {I:Ip} {w:World} (G:List Nat) {x:Bool×S} {v:Value} (h:VS I w x v):VS (I.also G) w x v:=by
 obtain⟨p,x⟩:=x
 cases p
 · exact h
 cases x with
 | a x=>exact VA.also G h
 | tup l=>obtain⟨vs,h1,h2⟩:=h;exact⟨vs,h1,h2.also G⟩
theorem RelI.also {I:Ip} {w0:Base} {w:World} {a:Act} (h:RelI I w0 σ a w) {G:List Nat} (hG:∀ b∈G,b<w.heap.size∧∀ i,b∉I.F i):RelI (I.also G) w0 σ a w:=
 ⟨h.ext,h.defers,h.size,fun i x hi=>(h.slots i x hi).also G,fun i r hi=>by
  have:=h.res i r hi
  cases r with
  | row k rows=>exact this
  | box cs=>obtain⟨h1,vs,e,h2,h3⟩:=this;exact⟨h1,vs,e,h2,h3.also G⟩
  | kept K=>exact⟨this.1,fun x hx=>⟨(this.2 x hx).1,.inl (this.2 x hx).2⟩⟩
  | opq=>trivial
  | cur g=>exact⟨this.1,this.2.1,this.2.2.congr rfl fun b _ hz=>⟨.inl hz,rfl⟩⟩
  | mp b f=>exact this
  | hdr j x=>exact this
  | blk j b=>exact this,
  fun b hb=>hb.elim (h.old b) fun hb=>(hG b hb).1,fun i b hb=>⟨(h.lt i b hb).1,fun hz=>hz.elim (h.lt i b hb).2 fun hm=>(hG b hm).2 i hb⟩,h.own,h.apart⟩
def inS:V→S
 | .a x=>.a (inA x)
 | .tup l=>.tup (l.map inA)
theorem VEs_also {I:Ip} {w:World}:∀ {l:List T} {cs:List Value} {F:List Nat},Cs false w l cs F→(∀ b∈F,I.Z b)→VEs I w (l.map .t) cs
 | [],cs,F,h,_=>by simp only [Cs] at h;exact h.1
 | t::r,cs,F,h,hF=>by
  simp only [Cs] at h
  obtain⟨c,cr,G1,G2,h1,h2,h3,rfl⟩:=h
  exact⟨c,cr,h1,⟨G1,h2,fun b hb=>hF b (by simp [hb])⟩,VEs_also h3 fun b hb=>hF b (by simp [hb])⟩
theorem VA_also {I:Ip} {w:World} {x:V0} {v:Value} {F:List Nat} (h:V0r false w x v F) (hF:∀ b∈F,I.Z b):VA I w (inA x) v:=by
 cases x with
 | one t=>exact⟨F,h,hF⟩
 | agg l=>obtain⟨cs,h1,h2⟩:=h;exact⟨cs,h1,VEs_also h2 hF⟩
theorem VAs_also {I:Ip} {w:World}:∀ {l:List V0} {vs:List Value} {F:List Nat},V0s false w l vs F→(∀ b∈F,I.Z b)→VAs I w (l.map inA) vs
 | [],vs,F,⟨h,_⟩,_=>h
 | x::l,vs,F,⟨v,vr,G1,G2,h1,h2,h3,h4⟩,hF=>by
  subst h4
  exact⟨v,vr,h1,VA_also h2 fun b hb=>hF b (by simp [hb]),VAs_also h3 fun b hb=>hF b (by simp [hb])⟩
theorem VS_also {I:Ip} {w:World} {x:V} {v:Value} {F:List Nat} (h:Vr false w x v F) (hF:∀ b∈F,I.Z b):VS I w (true,inS x) v:=by
 cases x with
 | a x=>exact VA_also h hF
 | tup l=>obtain⟨vs,h1,h2⟩:=h;exact⟨vs,h1,VAs_also h2 hF⟩
theorem Aw {f:FuncId} {l:List Operand} {tys:Array TypeId} {ins:List V0} {out:V} (h:FrT P f ins out) (ho:o.op=.call { callee:=.value (.func f),args:=l.toArray,argTypes:=tys }) (hg:Grd ops o σ q) (hd:o.dst.all (fun d=>Nat.blt d σ.n)=true)
 (ha:Args σ q l ins):Op1 P ops o σ (σ.put o.dst (q,inS out)):=by
 rintro w0 a w ⟨I,hr⟩ K Q hK
 rw [hg.wanted hr]
 cases q with
 | false=>exact hK _ _ ⟨I,hr.put hd rfl⟩
 | true=>
  simp only [if_true]
  obtain⟨F,hF⟩:=ha.ok hr rfl
  unfold Oper.wp
  rw [run_enter h.1 ho]
  refine (h.2 w _ F hr.good hF).mono fun e w' hR=>?_
  obtain⟨v,G,rfl,h1,h3,h4⟩:=hR
  have hr':=(hr.later h4).also (G:=G) fun b hb=>⟨Vr.lt h1 b hb,fun i hi=>by have:=(hr.lt i b hi).1;have:=h3 b hb;omega⟩
  exact hK _ _ ⟨_,hr'.put hd (VS_also h1 fun b hb=>.inr hb)⟩
theorem Bx {t:Nat} {i:Nat} {p:Bool} {l:List A} {A0:A} (ho:o.op=.extract (.tmp t) i) (hg:Grd ops o σ q) (hd:o.dst.all (fun d=>Nat.blt d σ.n)=true) (hx:look σ.slots t=some (p,.tup l)) (hp:q=true→p=true) (hi:l[i]?=some A0):Op1 P ops o σ (σ.put o.dst (q,.a A0)):=
 .val hg hd fun I w0 a w hr hq=>by
  have:=hr.slots _ _ hx
  rw [hp hq] at this
  obtain⟨vs,h1,h2⟩:=this
  have key:∀ (l:List A) (vs:List Value) (i:Nat) (A0:A),VAs I w l vs→l[i]?=some A0→∃ v,vs[i]?=some v∧VA I w A0 v:=by
   intro l
   induction l with
   | nil=>intro vs i A0 _ hi;simp at hi
   | cons y l ih=>
    rintro vs i A0 ⟨c,cr,rfl,k1,k2⟩ hi
    match i,hi with
    | 0,hi=>simp at hi;subst hi;exact⟨c,rfl,k1⟩
    | i+1,hi=>obtain⟨v,k3,k4⟩:=ih cr i A0 k2 (by simpa using hi);exact⟨v,by simpa using k3,k4⟩
  obtain⟨v,h3,h4⟩:=key l vs i A0 h2 hi
  have e:a.eval (.tmp t)=.tuple vs.toArray:=h1
  exact⟨v,by simp [execOp,ho,e,Instr.extract,h3],h4⟩
theorem Bo {t:TypeId} {x:Operand} {A0:A} {ts:List T} (ho:o.op=.box t x) (hg:o.guard=none) (hd:o.dst.all (fun d=>Nat.blt d σ.n)=true) (hx:Get σ true x A0) (hts:cellsA A0=ts.map .t):Op1 P ops o σ (σ.put o.dst (true,.a (.one (.t (.ad ts))))):=
 .eff hg fun w0 a w ⟨I,hr⟩=>by
  have he:(cellsA A0).all E.cell1=true:=by rw [hts];simp [E.cell1]
  obtain⟨cs,h1,h2,h3⟩:=(hx.va hr rfl).cells he
  rw [hts] at h2
  have hx':Ext w (w.alloc (.cells cs.toArray t)):=(Ext.refl w).alloc _
  have hr':=(hr.later hx').also (G:=[w.heap.size]) fun b hb=>by
   simp only [List.mem_singleton] at hb
   subst hb
   exact⟨by simp,fun i hi=>by have:=(hr.lt i _ hi).1;omega⟩
  have key:∀ (ts:List T) (cs:List Value),VEs I w (ts.map .t) cs→∃ G,Cs false w ts cs G∧∀ b∈G,I.Z b:=by
   intro ts
   induction ts with
   | nil=>intro cs h;exact⟨[],by unfold Cs;exact⟨h,rfl⟩,by simp⟩
   | cons t ts ih=>
    rintro cs ⟨c,cr,rfl,⟨G1,k1,k2⟩,k3⟩
    obtain⟨G2,k4,k5⟩:=ih cr k3
    refine⟨G1++G2,by unfold Cs;exact⟨c,cr,G1,G2,rfl,k1,k4,rfl⟩,fun b hb=>?_⟩
    rcases List.mem_append.1 hb with hb|hb
    · exact k2 b hb
    exact k5 b hb
  obtain⟨G,g1,g2⟩:=key ts cs h2
  refine⟨.pointer (some ⟨w.heap.size,0,none⟩),w.alloc (.cells cs.toArray t),by simp [execOp,ho,Instr.box,newVar,newRow,h1],_,hr'.put hd ⟨w.heap.size::G,C_ad (Ms.of (g1.mono hx') fun j u hj=>?_) (by simp),fun b hb=>?_⟩⟩
  · have hgn:=heap_alloc_new w (.cells cs.toArray t)
    simp only [World.cell?,hgn]
    simpa using hj
  rcases List.mem_cons.1 hb with rfl|hb
  · exact .inr (by simp)
  exact .inl (g2 b hb)
inductive RVs (P:Program) (σ:St):List ResultVar→List A→Prop where
 | nil:RVs P σ [] []
 | tmp {t:Nat} {x:A} {l:List ResultVar} {xs:List A} (h:look σ.slots t=some (true,.a x)) (hr:RVs P σ l xs):RVs P σ (.tmp t::l) (x::xs)
 | cell {t:Nat} {ty:TypeId} {id:Nat} {cs:List E} {ag:Bool} {n:Nat} {l:List ResultVar} {xs:List A} (h:look σ.slots t=some (true,.a (.one (.pp id 0)))) (hs:look σ.res id=some (.box cs)) (ht:tyB P ty ag n=true) (hn:Nat.beq n cs.length=true) (h1:(ag||Nat.beq n 1)=true) (hr:RVs P σ l xs) :
  RVs P σ (.cell t ty::l) (mkA ag cs::xs)
def rvRun (tmps:Array Value):ResultVar→Sem Value
 | .tmp t=>pure (tmps.getD t undef)
 | .cell x t=>do loadVar t (←asAddr (tmps.getD x undef))
theorem RVs.run {I:Ip} {w0:Base} {w:World} {a:Act} (hr:RelI I w0 σ a w) {l:List ResultVar} {xs:List A} (h:RVs P σ l xs):∃ vs,(l.mapM (rvRun a.tmps)).run P w=.ok vs w∧VAs I w xs vs:=by
 induction h with
 | nil=>exact⟨[],rfl,rfl⟩
 | @tmp t x l xs h _ ih=>
  obtain⟨vs,h1,h2⟩:=ih
  refine⟨a.tmps.getD t undef::vs,?_,_,vs,rfl,hr.slots _ _ h,h2⟩
  rw [List.mapM_cons]
  simp only [rvRun,Sem.run_bind,Sem.run_pure,Result.andThen_ok,h1]
 | @cell t ty id cs ag n l xs h hs ht hn h1 _ ih=>
  obtain⟨vs,g1,g2⟩:=ih
  have hv:a.tmps.getD t undef=.pointer (some ⟨I.B id,0,none⟩):=hr.slots _ _ h
  obtain⟨hF,us,e,k1,k2⟩:=hr.res id _ hs
  have hn':=Nat.eq_of_beq_eq_true hn
  have hl:=VEs_len k2
  have h1':ag=false→n=1:=fun e=>by rw [e] at h1;exact Nat.eq_of_beq_eq_true (by simpa using h1)
  have hload:=run_load (w:=w) (b:=I.B id) (p:=0) ht (cs:=us) (by omega) h1' fun j u hj=>by simp [World.cell?,k1,hj]
  refine⟨(if ag=true then .agg us.toArray else us.headD undef)::vs,?_,_,vs,rfl,VA_mk k2 fun e=>by have:=h1' e;omega,g2⟩
  rw [List.mapM_cons]
  have hl2:(loadVar ty ⟨I.B id,0,none⟩).run P w=.ok (if ag=true then .agg us.toArray else us.headD undef) w:=by
   simpa [Instr.loadAt,Instr.sureAddr] using hload
  simp only [rvRun,Sem.run_bind,Sem.run_pure,Result.andThen_ok,hv,asAddr,hl2,g1]
def unflT:List A→List T→List V0
 | [],_=>[]
 | x::r,ts=>match x with
  | .one _=>.one (ts.headD (.v undef))::unflT r (ts.drop 1)
  | .agg l=>.agg (ts.take l.length)::unflT r (ts.drop l.length)
theorem VAs_cells {I:Ip} {w:World}:∀ {xs:List A} {vs:List Value},VAs I w xs vs→∃ cs,VEs I w (xs.flatMap cellsA) cs∧∀ (oo:Bool) (ts:List T) (G:List Nat),Cs oo w ts cs G→ts.length=(xs.flatMap cellsA).length→V0s oo w (unflT xs ts) vs G
 | [],vs,h=>⟨[],rfl,fun oo ts G hC hl=>by
  have:ts=[]:=List.eq_nil_of_length_eq_zero (by simpa using hl)
  subst this
  simp only [Cs] at hC
  exact⟨h,hC.2⟩⟩
 | x::xs,vs,⟨c,cr,h1,h2,h3⟩=>by
  obtain⟨cs,g1,g2⟩:=VAs_cells h3
  cases x with
  | one e=>
   refine⟨c::cs,⟨c,cs,rfl,h2,g1⟩,fun oo ts G hC hl=>?_⟩
   match ts,hC with
   | [],hC=>simp [Cs] at hC
   | t::ts,hC=>
    simp only [Cs] at hC
    obtain⟨c',cr',G1,G2,e1,k1,k2,k3⟩:=hC
    cases e1
    exact⟨c,cr,G1,G2,h1,k1,g2 oo ts G2 k2 (by simp [cellsA] at hl ⊢;omega),k3⟩
  | agg l=>
   obtain⟨ds,e1,h2⟩:=h2
   have hl2:=VEs_len h2
   refine⟨ds++cs,VEs_append h2 g1,fun oo ts G hC hl=>?_⟩
   have hlen:l.length≤ts.length:=by rw [hl];simp [cellsA]
   have hC':Cs oo w (ts.take l.length++ts.drop l.length) (ds++cs) G:=by rw [List.take_append_drop];exact hC
   obtain⟨c1,c2,F1,F2,e2,rfl,k1,k2,k3⟩:=hC'.split
   have hk:c1.length=ds.length:=by rw [k3,List.length_take];omega
   obtain⟨rfl,rfl⟩:=List.append_inj e2.symm hk
   exact⟨c,cr,F1,F2,h1,⟨c1,e1,k1⟩,g2 oo _ F2 k2 (by simp [cellsA] at hl ⊢;omega),rfl⟩
theorem run_results {fn:Func} {I:Ip} {w0:Base} {w:World} {a:Act} (hr:RelI I w0 σ a w) {l:List ResultVar} {xs:List A} (hl:fn.results=l.toArray) (h:RVs P σ l xs):∃ vs,(results fn a.tmps).run P w=.ok (match vs with|[v]=>v|_=>.tuple (List.toArray vs)) w∧VAs I w xs vs:=by
 obtain⟨vs,h1,h2⟩:=h.run hr
 refine⟨vs,?_,h2⟩
 have hres:results fn a.tmps=(do let vs ←fn.results.mapM (rvRun a.tmps);pure (if h:vs.size=1 then vs[0] else .tuple vs)):=by
  unfold results
  congr
 have e:(Array.mapM (rvRun a.tmps) l.toArray).run P w=.ok vs.toArray w:=by
  rw [Array.mapM_eq_mapM_toList,run_fmap]
  simp only [h1,Result.andThen_ok]
 rw [hres,hl,Sem.run_bind,e]
 simp only [Result.andThen_ok,Sem.run_pure]
 match vs with
 | []=>rfl
 | [v]=>rfl
 | _::_::_=>simp
theorem absorb_len:∀ {l:List E} {σ σ':St} {ts:List T},absorb σ l=some (σ',ts)→ts.length=l.length
 | [],σ,σ',ts,h=>by simp only [absorb,Option.some.injEq,Prod.mk.injEq] at h;rw [←h.2];rfl
 | e::r,σ,σ',ts,h=>by
  match e,h with
  | .t (.v x),h=>
   rw [absorb] at h
   split at h
   · rename_i h1;simp only [Option.some.injEq,Prod.mk.injEq] at h;rw [←h.2];simp [absorb_len h1]
   cases h
  | .rf id,h=>
   rw [absorb] at h
   split at h
   · split at h
     · rename_i h1;simp only [Option.some.injEq,Prod.mk.injEq] at h;rw [←h.2];simp [absorb_len h1]
     cases h
   cases h
  | .t (.sl _ _),h=>cases h
  | .t (.ad _),h=>cases h
  | .t (.fn _ _ _),h=>cases h
  | .vw _ _,h=>cases h
  | .pp _ _,h=>cases h
  | .pr _ _ _ _,h=>cases h
  | .sb _ _ _ _,h=>cases h
  | .tl _ _ _,h=>cases h
  | .pf _ _ _,h=>cases h
  | .no,h=>cases h
theorem A4 {fn:Func} {r:ResultVar} {x:A} {σ':St} {ts:List T} {y:V0} (hl:fn.results=#[r]) (h:RVs P σ [r] [x]) (ha:absorb σ (cellsA x)=some (σ',ts)) (hy:unflT [x] ts=[y]):Res P fn true (.a y) σ:=by
 intro I w0 a w hr
 obtain⟨vs,h1,h2⟩:=run_results (fn:=fn) (l:=[r]) hr (by rw [hl]) h
 obtain⟨cs,g1,g2⟩:=VAs_cells h2
 simp only [List.flatMap_cons,List.flatMap_nil,List.append_nil] at g1 g2
 obtain⟨I',G,k1,k2,k3,k4,_⟩:=RelI.absorb ha hr g1
 have hV:=g2 true ts G k2 (absorb_len ha)
 rw [hy] at hV
 obtain⟨v,vr,G1,G2,rfl,m1,⟨rfl,rfl⟩,m2⟩:=hV
 rw [List.append_nil] at m2
 subst m2
 exact⟨v,_,h1,m1,fun b hb=>(k4 b hb).1,fun _=>⟨k3,fun b hb=>(k4 b hb).2.2.1⟩⟩
theorem Cf {fn:Func} {l:List ResultVar} {xs:List A} {σ':St} {ts:List T} {ys:List V0} (hl:fn.results=l.toArray) (h:RVs P σ l xs) (ha:absorb σ (xs.flatMap cellsA)=some (σ',ts)) (hy:unflT xs ts=ys) (h2:(2≤ys.length)=True):Res P fn true (.tup ys) σ:=by
 intro I w0 a w hr
 obtain⟨vs,h1,h2'⟩:=run_results (fn:=fn) hr hl h
 obtain⟨cs,g1,g2⟩:=VAs_cells h2'
 obtain⟨I',G,k1,k2,k3,k4,_⟩:=RelI.absorb ha hr g1
 have hV:=g2 true ts G k2 (absorb_len ha)
 rw [hy] at hV
 have hlen:∀ (ys:List V0) (vs:List Value) (G:List Nat),V0s true w ys vs G→vs.length=ys.length:=by
  intro ys
  induction ys with
  | nil=>rintro vs G ⟨rfl,_⟩;rfl
  | cons y ys ih=>rintro vs G ⟨v,vr,G1,G2,rfl,_,m,_⟩;simp [ih vr G2 m]
 have hl2:=hlen ys vs G hV
 have h3:2≤vs.length:=by rw [hl2,h2];trivial
 have e:(match vs with|[v]=>v|_=>Value.tuple (List.toArray vs))=.tuple vs.toArray:=by
  match vs,h3 with
  | _::_::_,_=>rfl
 rw [e] at h1
 exact⟨_,G,h1,⟨vs,rfl,hV⟩,fun b hb=>(k4 b hb).1,fun _=>⟨k3,fun b hb=>(k4 b hb).2.2.1⟩⟩
def swp (a b i:Nat):Nat:=bif Nat.beq i a then b else bif Nat.beq i b then a else i
def rnN:List (Nat×Nat)→Nat→Nat
 | [],i=>i
 | (a,b)::l,i=>swp a b (rnN l i)
theorem swp_inj {a b i j:Nat} (h:swp a b i=swp a b j):i=j:=by
 have e:∀ i,swp a b i=if i=a then b else if i=b then a else i:=by
  intro i
  unfold swp
  by_cases h1:i=a
  · subst h1;simp [Nat.beq_refl]
  have:Nat.beq i a=false:=by
   cases hb:Nat.beq i a with
   | false=>rfl
   | true=>exact absurd (Nat.eq_of_beq_eq_true hb) h1
  rw [this,if_neg h1]
  by_cases h2:i=b
  · subst h2;simp [Nat.beq_refl]
  have:Nat.beq i b=false:=by
   cases hb:Nat.beq i b with
   | false=>rfl
   | true=>exact absurd (Nat.eq_of_beq_eq_true hb) h2
  rw [this,if_neg h2];rfl
 rw [e,e] at h
 split at h<;>split at h<;>(try split at h)<;>(try split at h)<;>omega
theorem rnN_inj:∀ {l:List (Nat×Nat)} {i j:Nat},rnN l i=rnN l j→i=j
 | [],_,_,h=>h
 | _::l,_,_,h=>rnN_inj (l:=l) (swp_inj h)
def rnE (m:List (Nat×Nat)):E→E
 | .rf i=>.rf (rnN m i)
 | .vw i x=>.vw (rnN m i) x
 | .pp i o=>.pp (rnN m i) o
 | .pr i k a b=>.pr (rnN m i) k a b
 | .sb i k a b=>.sb (rnN m i) k a b
 | .tl i k j=>.tl (rnN m i) k j
 | .pf i k j=>.pf (rnN m i) k j
 | .t x=>.t x
 | .no=>.no
def rnA (m:List (Nat×Nat)):A→A
 | .one e=>.one (rnE m e)
 | .agg l=>.agg (l.map (rnE m))
def rnS (m:List (Nat×Nat)):S→S
 | .a x=>.a (rnA m x)
 | .tup l=>.tup (l.map (rnA m))
def rnR (m:List (Nat×Nat)):R→R
 | .row k rows=>.row k rows
 | .box cs=>.box (cs.map (rnE m))
 | .hdr j x=>.hdr (j.map (rnN m)) x
 | .blk j b=>.blk (j.map (rnN m)) b
 | .kept K=>.kept K
 | .opq=>.opq
 | .cur g=>.cur g
 | .mp b f=>.mp b f
def Ip.rn (I:Ip) (m:List (Nat×Nat)):Ip:=⟨I.Z,fun i=>I.F (rnN m i),fun i=>I.hd (rnN m i),fun i=>I.B (rnN m i)⟩
theorem VE.rn {I:Ip} {w:World} {m:List (Nat×Nat)} {e:E} {c:Value} (h:VE I w (rnE m e) c):VE (I.rn m) w e c:=by cases e<;>exact h
theorem VEs.rn {I:Ip} {w:World} {m:List (Nat×Nat)}:∀ {l:List E} {cs:List Value},VEs I w (l.map (rnE m)) cs→VEs (I.rn m) w l cs
 | [],_,h=>h
 | _::_,_,⟨c,cr,h1,h2,h3⟩=>⟨c,cr,h1,h2.rn,h3.rn⟩
theorem VA.rn {I:Ip} {w:World} {m:List (Nat×Nat)} {x:A} {v:Value} (h:VA I w (rnA m x) v):VA (I.rn m) w x v:=by
 cases x with
 | one e=>exact VE.rn h
 | agg l=>obtain⟨cs,h1,h2⟩:=h;exact⟨cs,h1,h2.rn⟩
theorem VAs.rn {I:Ip} {w:World} {m:List (Nat×Nat)}:∀ {l:List A} {cs:List Value},VAs I w (l.map (rnA m)) cs→VAs (I.rn m) w l cs
 | [],_,h=>h
 | _::_,_,⟨c,cr,h1,h2,h3⟩=>⟨c,cr,h1,h2.rn,h3.rn⟩
theorem VS.rn {I:Ip} {w:World} {m:List (Nat×Nat)} {p:Bool} {x:S} {v:Value} (h:VS I w (p,rnS m x) v):VS (I.rn m) w (p,x) v:=by
 cases p
 · exact h
 cases x with
 | a x=>exact VA.rn h
 | tup l=>obtain⟨vs,h1,h2⟩:=h;exact⟨vs,h1,h2.rn⟩
def SubS (σ:St) (m:List (Nat×Nat)):List (Nat×(Bool×S))→Prop
 | []=>True
 | (i,p,x)::l=>look σ.slots i=some (p,rnS m x)∧SubS σ m l
def SubR (σ:St) (m:List (Nat×Nat)):List (Nat×R)→Prop
 | []=>True
 | (i,x)::l=>look σ.res (rnN m i)=some (rnR m x)∧SubR σ m l
theorem Le.sub {σ':St} (m:List (Nat×Nat)) (hn:σ'.n=σ.n) (hs:SubS σ m σ'.slots) (hr:SubR σ m σ'.res):Le σ σ':=by
 rintro w0 a w ⟨I,h⟩
 have hslot:∀ (l:List (Nat×(Bool×S))),SubS σ m l→∀ i x,look l i=some x→look σ.slots i=some (x.1,rnS m x.2):=by
  intro l
  induction l with
  | nil=>intro _ i x hi;cases hi
  | cons y l ih=>
   obtain⟨j,p,z⟩:=y
   rintro⟨h1,h2⟩ i x hi
   rw [look_cons] at hi
   split at hi
   · rename_i e;subst e;cases hi;exact h1
   exact ih h2 i x hi
 have hres:∀ (l:List (Nat×R)),SubR σ m l→∀ i x,look l i=some x→look σ.res (rnN m i)=some (rnR m x):=by
  intro l
  induction l with
  | nil=>intro _ i x hi;cases hi
  | cons y l ih=>
   obtain⟨j,z⟩:=y
   rintro⟨h1,h2⟩ i x hi
   rw [look_cons] at hi
   split at hi
   · rename_i e;subst e;cases hi;exact h1
   exact ih h2 i x hi
 refine⟨I.rn m,h.ext,h.defers,h.size.trans hn.symm,fun i x hi=>?_,fun i r hi=>?_,h.old,fun i b hb=>h.lt _ b hb,fun i r hi=>h.own _ _ (hres _ hr i r hi),fun i j hne=>h.apart _ _ fun e=>hne (rnN_inj e)⟩
 · exact VS.rn (h.slots _ _ (hslot _ hs i x hi))
 have:=h.res _ _ (hres _ hr i r hi)
 cases r with
 | row k rows=>exact this
 | box cs=>obtain⟨h1,vs,e,h2,h3⟩:=this;exact⟨h1,vs,e,h2,h3.rn⟩
 | kept K=>exact this
 | opq=>trivial
 | cur g=>exact this
 | mp b f=>exact this
 | hdr j x=>exact⟨this.1,fun k hk=>this.2 _ (by rw [hk];rfl)⟩
 | blk j b=>exact⟨this.1,fun k hk=>this.2 _ (by rw [hk];rfl)⟩
end
end Go.Q
namespace Go.Q
open Go.RowKit
mutual
def LenT:T→Prop
 | .v _=>True
 | .sl _ rows=>rows.length≤9223372036854775807∧LenR rows
 | .ad cs=>LenL cs
 | .fn _ x y=>LenL x∧LenL y
def LenL:List T→Prop
 | []=>True
 | t::r=>LenT t∧LenL r
def LenR:List (List T)→Prop
 | []=>True
 | t::r=>LenL t∧LenR r
end
mutual
theorem C.lenT {o:Bool} {w:World}:∀ {t:T} {c:Value} {F:List Nat},C o w t c F→LenT t
 | .v _,_,_,_=>by simp only [LenT]
 | .sl k rows,c,F,h=>by
  simp only [C] at h
  obtain⟨a,len,cap,h1,h2,h3,h4,h5⟩:=h
  simp only [LenT]
  simp only [maxLen] at h4
  refine⟨by omega,?_⟩
  rcases h5 with ⟨h5,_⟩|⟨b,off,G,_,_,_,_,h9⟩
  · have:rows=[]:=List.eq_nil_of_length_eq_zero (by omega)
    subst this;simp only [LenR]
  exact Rws.lenT h9
 | .ad cs,c,F,h=>by
  simp only [C] at h
  obtain⟨b,off,G,h1,rfl,h2,h3⟩:=h
  simp only [LenT]
  exact Ms.lenT h3
 | .fn f first caps,c,F,h=>by
  simp only [C] at h
  obtain⟨xs,ys,G1,G2,h1,h2,h3,rfl⟩:=h
  simp only [LenT]
  exact⟨Cs.lenT h2,Cs.lenT h3⟩
theorem Cs.lenT {o:Bool} {w:World}:∀ {ts:List T} {cs:List Value} {F:List Nat},Cs o w ts cs F→LenL ts
 | [],_,_,_=>by simp only [LenL]
 | t::r,cs,F,h=>by
  simp only [Cs] at h
  obtain⟨c,cr,G1,G2,h1,h2,h3,rfl⟩:=h
  simp only [LenL]
  exact⟨C.lenT h2,Cs.lenT h3⟩
theorem Ms.lenT {o:Bool} {w:World} {b0:Nat}:∀ {ts:List T} {off:Nat} {F:List Nat},Ms o w b0 off ts F→LenL ts
 | [],_,_,_=>by simp only [LenL]
 | t::r,off,F,h=>by
  simp only [Ms] at h
  obtain⟨c,G1,G2,h1,h2,h3,rfl⟩:=h
  simp only [LenL]
  exact⟨C.lenT h2,Ms.lenT h3⟩
theorem Rws.lenT {o:Bool} {w:World} {b0 k:Nat}:∀ {rs:List (List T)} {off:Nat} {F:List Nat},Rws o w b0 k off rs F→LenR rs
 | [],_,_,_=>by simp only [LenR]
 | t::r,off,F,h=>by
  simp only [Rws] at h
  obtain⟨G1,G2,h1,h2,h3,rfl⟩:=h
  simp only [LenR]
  exact⟨Ms.lenT h2,Rws.lenT h3⟩
end
def LenV:List V0→Prop
 | []=>True
 | x::r=>(match x with|.one t=>LenT t|.agg l=>LenL l)∧LenV r
theorem V0s.lenV {o:Bool} {w:World}:∀ {l:List V0} {vs:List Value} {F:List Nat},V0s o w l vs F→LenV l
 | [],_,_,_=>trivial
 | x::r,_,_,⟨v,vr,G1,G2,_,h2,h3,_⟩=>by
  refine⟨?_,h3.lenV⟩
  cases x with
  | one t=>exact C.lenT h2
  | agg l=>obtain⟨cs,_,h2⟩:=h2;exact h2.lenT
theorem FnT.len {P:Program} {f:FuncId} {ins:List V0} {out:V} (hc:LenV ins→FnT P f ins out) (hn:Callee P f):FnT P f ins out:=by
 refine⟨hn,fun w vs F hG hv=>?_⟩
 exact (hc hv.lenV).2 w vs F hG hv
theorem FrT.len {P:Program} {f:FuncId} {ins:List V0} {out:V} (hc:LenV ins→FrT P f ins out) (hn:Callee P f):FrT P f ins out:=by
 refine⟨hn,fun w vs F hG hv=>?_⟩
 exact (hc hv.lenV).2 w vs F hG hv
@[simp] theorem LenV_nil:LenV []=True:=rfl
@[simp] theorem LenV_one {t:T} {r:List V0}:LenV (.one t::r)=(LenT t∧LenV r):=rfl
@[simp] theorem LenV_agg {l:List T} {r:List V0}:LenV (.agg l::r)=(LenL l∧LenV r):=rfl
@[simp] theorem LenT_v {x:Value}:LenT (.v x)=True:=by simp only [LenT]
@[simp] theorem LenT_sl {k:Nat} {rows:List (List T)}:LenT (.sl k rows)=(rows.length≤9223372036854775807∧LenR rows):=by simp only [LenT]
@[simp] theorem LenT_ad {cs:List T}:LenT (.ad cs)=LenL cs:=by simp only [LenT]
@[simp] theorem LenL_nil:LenL []=True:=by simp only [LenL]
@[simp] theorem LenL_cons {t:T} {r:List T}:LenL (t::r)=(LenT t∧LenL r):=by simp only [LenL]
section
variable {P:Program} {ops:Array Oper} {o:Oper} {σ:St} {q:Bool}
theorem FnT.intro' {f:FuncId} {fn:Func} {c:Code} {ins:List V0} {out:V} (hf:P.funcs[f]?=some fn) (hb:fn.body=some c) (hname:(fn.name == "runtime.NumGoroutine")=false) (hn:Nat.ble ins.length fn.ntmps=true)
 (h:LenV ins→∀ w0,AW P w0 c (RetQ P fn true out) (st0 fn.ntmps ins)):FnT P f ins out:=
 FnT.len (fun hl=>FnT.intro hf hb hname hn (h hl)) ⟨fn,hf,hname,by rw [hb];rfl⟩
theorem Bb {fn:Func} {t:Nat} {x y:Value} {oo:Bool} (hl:fn.results=#[.tmp t]) (h:look σ.slots t=some (true,.a (.one (.t (.v x))))) (he:x=y):Res P fn oo (.a (.one (.v y))) σ:=by
 subst he;intro I w0 a w hr
 obtain⟨vs,h1,h2⟩:=run_results (fn:=fn) (l:=[.tmp t]) hr (by rw [hl]) (.tmp h .nil)
 obtain⟨v,vr,rfl,⟨G,h3,_⟩,rfl⟩:=h2
 simp only [C] at h3
 obtain⟨rfl,rfl,h5⟩:=h3
 exact⟨_,[],h1,by unfold Vr V0r C;exact⟨rfl,rfl,h5⟩,by simp,fun _=>⟨List.nodup_nil,by simp⟩⟩
theorem Dj {t e:TypeId} (id:Nat) {k:Nat} {ag:Bool} (ho:o.op=.buildSlice t 0 #[]) (hg:o.guard=none) (hd:o.dst.all (fun d=>Nat.blt d σ.n)=true) (hu:P.underlying t=some (.slice e)) (hk:tyB P e ag k=true) (hf:σ.has id=false) :
 Op1 P ops o σ ((σ.add id (.row k [])).put o.dst (true,.a (.one (.rf id)))):=
 .eff hg fun w0 a w ⟨I,hr⟩=>by
  have hx:Ext w (w.alloc (.cells #[] e)):=(Ext.refl w).alloc _
  have hr':=(hr.later hx).addF (id:=id) (G:=[]) (u:=.slice (some ⟨w.heap.size,0,none⟩) 0 0) (b:=0) (r:=.row k []) hf List.nodup_nil (by simp) (by
   show C true _ _ _ _
   simp only [Ip.set,if_true]
   unfold C
   exact⟨_,_,_,rfl,rfl,Nat.le_refl _,Nat.zero_le _,.inl ⟨rfl,rfl,fun _=>rfl⟩⟩)
  refine⟨.slice (some ⟨w.heap.size,0,none⟩) 0 0,w.alloc (.cells #[] e),?_,_,hr'.put hd ⟨by simp [Ip.set],_,_,_,rfl⟩⟩
  simp [execOp,ho,Instr.buildSlice,run_underlying hu,tyB_size hk,Instr.fill,newRow]
  have e0:Array.map (fun _=>(default:Value)) (Array.range 0)=#[]:=by simp [Array.range]
  rw [e0]
def SubS0 (σ:St):List (Nat×(Bool×S))→Prop
 | []=>True
 | (i,x)::l=>look σ.slots i=some x∧SubS0 σ l
def SubR0 (σ:St):List (Nat×R)→Prop
 | []=>True
 | (i,x)::l=>look σ.res i=some x∧SubR0 σ l
theorem look_SubS0:∀ {l:List (Nat×(Bool×S))},SubS0 σ l→∀ i x,look l i=some x→look σ.slots i=some x
 | [],_,i,x,hi=>by cases hi
 | (j,z)::l,⟨h1,h2⟩,i,x,hi=>by
  rw [look_cons] at hi
  split at hi
  · rename_i e;subst e;cases hi;exact h1
  exact look_SubS0 h2 i x hi
theorem look_SubR0:∀ {l:List (Nat×R)},SubR0 σ l→∀ i x,look l i=some x→look σ.res i=some x
 | [],_,i,x,hi=>by cases hi
 | (j,z)::l,⟨h1,h2⟩,i,x,hi=>by
  rw [look_cons] at hi
  split at hi
  · rename_i e;subst e;cases hi;exact h1
  exact look_SubR0 h2 i x hi
theorem Az {σ':St} (hn:σ'.n=σ.n) (hs:SubS0 σ σ'.slots) (hr:SubR0 σ σ'.res):Le σ σ':=by
 rintro w0 a w ⟨I,h⟩
 exact⟨I,h.ext,h.defers,h.size.trans hn.symm,fun i x hi=>h.slots _ _ (look_SubS0 hs i x hi),fun i r hi=>h.res _ _ (look_SubR0 hr i r hi),h.old,h.lt,fun i r hi=>h.own _ _ (look_SubR0 hr i r hi),h.apart⟩
variable {w0:Base} {Q:Exit→St→Prop} {n:Nat} {sl:List (Nat×(Bool×S))} {rs:List (Nat×R)} {l:List Oper}
theorem Bi {σ':St} (hn:σ'.n=σ.n:=by exact rfl) (hs:SubS0 σ σ'.slots:=by (repeat refine⟨rfl,?_⟩);exact trivial) (hr:SubR0 σ σ'.res:=by (repeat refine⟨rfl,?_⟩);exact trivial):Le σ σ':=Az hn hs hr
inductive SelL {α:Type} (l:List (Nat×α)):List Nat→List (Nat×α)→Prop
  | nil:SelL l [] []
  | cons {k:Nat} {x:α} {ks:List Nat} {r:List (Nat×α)} (h:look l k=some x) (t:SelL l ks r):SelL l (k::ks) ((k,x)::r)
theorem SelL.s {σ:St}:∀ {ks:List Nat} {r:List (Nat×(Bool×S))},SelL σ.slots ks r→SubS0 σ r
  | _,_,.nil=>trivial
  | _,_,.cons h t=>⟨h,t.s⟩
theorem SelL.r {σ:St}:∀ {ks:List Nat} {r:List (Nat×R)},SelL σ.res ks r→SubR0 σ r
  | _,_,.nil=>trivial
  | _,_,.cons h t=>⟨h,t.r⟩
theorem Ap {σ:St} {sl:List (Nat×(Bool×S))} {rs:List (Nat×R)} (ks js:List Nat) (h:SelL σ.slots ks sl:=by (repeat (apply SelL.cons;exact rfl));exact .nil) (h':SelL σ.res js rs:=by (repeat (apply SelL.cons;exact rfl));exact .nil):Le σ ⟨σ.n,sl,rs⟩:=Az rfl h.s h'.r
theorem Ac {d:Nat} {x:Bool×S} (ho:Op1 P ops o ⟨n,sl,rs⟩ (St.put ⟨n,sl,rs⟩ o.dst x)) (hd:o.dst=some d) (h:AWl P w0 ops Q l ⟨n,(d,x)::sl,rs⟩):AWl P w0 ops Q (o::l) ⟨n,sl,rs⟩:=
 AWl.op ho (by rw [hd];exact h)
theorem Get.tm {i:Nat} {x:A} (h:look σ.slots i=some (true,.a x)):Get σ q (.tmp i) x:=.tmp h fun _=>rfl
theorem Ab {d i:Nat} {x:A} (h:AWl P w0 ops Q l ⟨n,(d,(true,.a x))::sl,rs⟩) (ho:o.op=.move (.tmp i):=by exact rfl) (hg:o.guard=none:=by exact rfl) (hd:o.dst.all (fun d=>Nat.blt d n)=true:=by exact rfl) (hs:look sl i=some (true,.a x):=by exact rfl) (hds:o.dst=some d:=by exact rfl):AWl P w0 ops Q (o::l) ⟨n,sl,rs⟩:=
 Ac (Bf ho (.no hg) hd (.tm hs)) hds h
theorem Ag {d i:Nat} {x:A} (h:AWl P w0 ops Q l ⟨n,(d,(true,.a x))::sl,rs⟩) (ho:o.op=.assign (.tmp i):=by exact rfl) (hg:o.guard=none:=by exact rfl) (hd:o.dst.all (fun d=>Nat.blt d n)=true:=by exact rfl) (hs:look sl i=some (true,.a x):=by exact rfl) (hds:o.dst=some d:=by exact rfl):AWl P w0 ops Q (o::l) ⟨n,sl,rs⟩:=
 Ac (C5 ho (.no hg) hd (.tm hs)) hds h
theorem AWl.ac {d:Nat} {v:Value} (h:AWl P w0 ops Q l ⟨n,(d,(true,.a (.one (.t (.v v)))))::sl,rs⟩) (ho:o.op=.assign (.const v):=by exact rfl) (hg:o.guard=none:=by exact rfl) (hd:o.dst.all (fun d=>Nat.blt d n)=true:=by exact rfl) (hv:v.oneCell'=true:=by exact rfl) (hds:o.dst=some d:=by exact rfl):AWl P w0 ops Q (o::l) ⟨n,sl,rs⟩:=
 Ac (C5 ho (.no hg) hd (.const hv)) hds h
theorem Af {id:Nat} {y:Code} {ls:List Oper} (h:AWl P w0 ls.toArray (ThenQ (AW P w0 y Q) Q) ls σ):AW P w0 (.seq (.region id ls.toArray false) y) Q σ:=Ae (Ad h)
theorem Aq {d id:Nat} {r:R} {x:Bool×S} (ho:Op1 P ops o ⟨n,sl,rs⟩ ((St.add ⟨n,sl,rs⟩ id r).put o.dst x)) (hd:o.dst=some d) (h:AWl P w0 ops Q l ⟨n,(d,x)::sl,(id,r)::rs⟩):AWl P w0 ops Q (o::l) ⟨n,sl,rs⟩:=
 AWl.op ho (by rw [hd];exact h)
def addsR:List (Nat×R)→List (Nat×R)→List (Nat×R)
 | [],rs=>rs
 | x::l,rs=>addsR l (x::rs)
theorem adds_eq:∀ (l:List (Nat×R)) (n:Nat) (sl:List (Nat×(Bool×S))) (rs:List (Nat×R)),St.adds ⟨n,sl,rs⟩ l=⟨n,sl,addsR l rs⟩
 | [],_,_,_=>rfl
 | (id,r)::l,n,sl,rs=>by rw [St.adds,St.add,adds_eq l];rfl
theorem Bc {d:Nat} {rl:List (Nat×R)} {x:Bool×S} (ho:Op1 P ops o ⟨n,sl,rs⟩ ((St.adds ⟨n,sl,rs⟩ rl).put o.dst x)) (hd:o.dst=some d) (h:AWl P w0 ops Q l ⟨n,(d,x)::sl,addsR rl rs⟩):AWl P w0 ops Q (o::l) ⟨n,sl,rs⟩:=
 AWl.op ho (by rw [hd,adds_eq];exact h)
def purS (id:Nat) (sl:List (Nat×(Bool×S))):List (Nat×(Bool×S)):=sl.map fun x=>(x.1,(x.2.1,x.2.2.pur id))
def chgR (id:Nat) (r:R) (rs:List (Nat×R)):List (Nat×R):=setR (rs.map fun x=>(x.1,x.2.pur id)) id r
theorem AWl.chg {id:Nat} {r:R} (ho:Op1 P ops o ⟨n,sl,rs⟩ (St.chg ⟨n,sl,rs⟩ id r)) (h:AWl P w0 ops Q l ⟨n,purS id sl,chgR id r rs⟩):AWl P w0 ops Q (o::l) ⟨n,sl,rs⟩:=AWl.op ho h
theorem Bg {d id:Nat} {r:R} {x:Bool×S} (ho:Op1 P ops o ⟨n,sl,rs⟩ ((St.chg ⟨n,sl,rs⟩ id r).put o.dst x)) (hd:o.dst=some d) (h:AWl P w0 ops Q l ⟨n,(d,x)::purS id sl,chgR id r rs⟩):AWl P w0 ops Q (o::l) ⟨n,sl,rs⟩:=
 AWl.op ho (by rw [hd];exact h)
theorem A6 {f:FuncId} {fn:Func} {c:Code} {ins:List V0} {out:V} (hf:P.funcs[f]?=some fn) (hb:fn.body=some c) (hname:(fn.name == "runtime.NumGoroutine")=false) (hnt:fn.ntmps=n) (hn:Nat.ble ins.length n=true)
 (h:LenV ins→∀ w0,AW P w0 c (RetQ P fn true out) ⟨n,inSlots 0 ins,[]⟩):FnT P f ins out:=by
 subst hnt;exact FnT.intro' hf hb hname hn h
theorem FrT.walk {f:FuncId} {fn:Func} {c:Code} {ins:List V0} {out:V} (hf:P.funcs[f]?=some fn) (hb:fn.body=some c) (hname:(fn.name == "runtime.NumGoroutine")=false) (hnt:fn.ntmps=n) (hn:Nat.ble ins.length n=true)
 (h:LenV ins→∀ w0,AW P w0 c (RetQ P fn false out) ⟨n,inSlots 0 ins,[]⟩):FrT P f ins out:=by
 subst hnt;exact FrT.len (fun hl=>FrT.intro hf hb hname hn (h hl)) ⟨fn,hf,hname,by rw [hb];rfl⟩
end
end Go.Q
