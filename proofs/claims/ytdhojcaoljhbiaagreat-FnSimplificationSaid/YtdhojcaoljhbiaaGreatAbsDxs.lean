import Derived.Test.YtdhojcaoljhbiaaGreatAbs1xs
import Derived.Laws.OwnMore
import Derived.Test.YtdhojcaoljhbiaaGreatAbs10xs
set_option linter.unusedVariables false
set_option linter.unusedSimpArgs false
namespace Go.Q
open Go.RowKit
open Rd (rd)

def Later (w:World):Type:={ w':World // Ext w w' }
instance {w:World}:Nonempty (Later w):=⟨⟨w,Ext.refl w⟩⟩
instance {w:World}:Inhabited (Later w):=⟨⟨w,Ext.refl w⟩⟩
theorem wp_region_later {P:Program} {id:Nat} {Q:Exit→Act→World→Prop} {a:Act} {w:World} {l:List Oper} (hm:P.follows .mixedOrders=true) (hB:Region.lexB .any l.toArray=true)
 (h:wpQuiet P l.toArray (fun w'=>∃ x:Later w,w'=x.1) (fun a'=>∀ w',(∃ x:Later w,w'=x.1)→Q .normal a' w') l a):(Code.region id l.toArray true).wp P Q a w:=
 wp_region_quiet (C:=fun w'=>∃ x:Later w,w'=x.1) hm hB ⟨⟨_,(Ext.refl w).drawn⟩,rfl⟩ (by simpa using h)
theorem Later.cell {w:World} {p:Addr} {v:Value} (hc:w.cell? p=some v):∀ x:Later w,x.1.cell? p=some v:=fun x=>x.2.cell hc
theorem Later.ext {w:World} (x:Later w):Ext w x.1:=x.2

structure MP where
 on:List Nat
 p:(Nat→Value)→Value→World→Prop
 mono:∀ {vs v w w'},p vs v w→Ext w w'→p vs v w'
 loc:∀ {vs vs' v w},(∀ j∈on,vs' j=vs j)→p vs v w→p vs' v w
def MP.is (u:Value):MP:=⟨[],fun _ v _=>v=u,fun h _=>h,fun _ h=>h⟩
def MP.any:MP:=⟨[],fun _ _ _=>True,fun h _=>h,fun _ h=>h⟩
def MP.vl {α:Type} [Rd α] (x:α):MP:=⟨[],fun _ v w=>∃ F,Vl w v x F,fun ⟨F,h⟩ he=>⟨F,h.mono he⟩,fun _ h=>h⟩
def MP.new3 {α β γ:Type} [Rd α] [Rd β] [Rd γ] (i j:Nat) (u:World) (x:α) (y:β) (z:γ):MP:=
 ⟨[i,j],fun vs v w=>∃ m n o,u.heap.size≤m∧m≤n∧Pc u.heap.size m w (vs i) x∧Pc m n w (vs j) y∧Pc n o w v z,fun ⟨m,n,o,l1,l2,h,k,l⟩ he=>⟨m,n,o,l1,l2,h.mono he,k.mono he,l.mono he⟩,
  fun hv ⟨m,n,o,l1,l2,h,k,l⟩=>⟨m,n,o,l1,l2,by rw [hv i (by simp)];exact h,by rw [hv j (by simp)];exact k,l⟩⟩
theorem Thaw.mono {w w':World} {b:Nat} (h:Thaw w b) (he:Ext w w'):Thaw w' b:=by
 obtain⟨c,e,h⟩:=h
 exact⟨c,e,(he.block (Array.getElem?_eq_some_iff.1 h).1).trans h⟩
theorem New.mono {α:Type} [Rd α] {w w' w'':World} {v:Value} {x:α} (h:New w w' v x) (he:Ext w' w''):New w w'' v x:=
 let ⟨F,h1,h2,h3⟩:=h;⟨F,h1.mono he,fun b hb=>⟨(h2 b hb).1,(h2 b hb).2.mono he⟩,h3⟩
theorem New.old {α:Type} [Rd α] {w0 w w':World} {v:Value} {x:α} (h:New w w' v x) (he:Ext w0 w):New w0 w' v x:=
 let ⟨F,h1,h2,h3⟩:=h;⟨F,h1,fun b hb=>⟨Nat.le_trans he.size (h2 b hb).1,(h2 b hb).2⟩,h3⟩
theorem New.vl {α:Type} [Rd α] {w w':World} {v:Value} {x:α} (h:New w w' v x):∃ F,Vl w' v x F:=let ⟨F,h1,_⟩:=h;⟨F,h1⟩
def MP.new {α:Type} [Rd α] (w0:World) (x:α):MP:=⟨[],fun _ v w=>New w0 w v x,fun h he=>h.mono he,fun _ h=>h⟩

def runs (P:Program) (o:Oper) (ρ:Operand→Value) (w:World) (K:Value→World→Prop):Prop:=
 match (execOp ρ o).run P w with
 | .ok (.value v) w'=>K v w'
 | .ok .skip w'=>K undef w'
 | .ok (.enter f args) w'=>Calls P f args w' fun e w''=>∃ v,e=.returned v∧K v w''
 | .ok (.row row args) w'=>Rows P row args w' K
 | _=>False
theorem wp_of_runs {P:Program} {o:Oper} {a:Act} {w:World} {K:Value→World→Prop} {K':Act→World→Prop} {Q:Exit→Act→World→Prop}
 (h:runs P o a.eval w K) (hk:∀ v w',K v w'→K' (a.put o.dst v) w'):o.wp P a w K' Q:=by
 unfold runs at h
 unfold Oper.wp
 generalize (execOp a.eval o).run P w=r at *
 cases r with
 | ok n w'=>
  cases n<;>simp only [Oper.upon] at h ⊢
  case value v=>exact hk _ _ h
  case skip=>exact hk _ _ h
  case enter f args=>exact h.mono fun e w'' ⟨v,he,hK⟩=>by subst he;exact hk _ _ hK
  case row row args=>exact Rows.mono h fun v w'' hK=>hk _ _ hK
 | halt x w'=>simp at h

theorem put_same {a a':Act} {d:Option Tmp} {v u:Value} (hs:a'.tmps.size=a.tmps.size) (h:a.put d v=a.put d u):a'.put d v=a'.put d u:=by
 cases d with
 | none=>rfl
 | some d=>
  by_cases hd:d<a.tmps.size
  · have h1:=congrArg (fun x:Act=>x.tmps.getD d undef) h
    simp [Act.put,hd] at h1
    rw [h1]
  have hd':a'.tmps.size≤d:=by rw [hs];exact Nat.le_of_not_lt hd
  have e:∀ x,a'.tmps.setIfInBounds d x=a'.tmps:=fun x=>Array.setIfInBounds_eq_of_size_le hd'
  simp only [Act.put,e]
theorem runs_of_list {P:Program} {ops:Array Oper} {o:Oper} {a:Act} {w:World} {Φ:Value→World→Prop} (hg:o.guard=none)
 (h:∀ K:Act→World→Prop,(∀ v w',Ext w w'→Φ v w'→K (a.put o.dst v) w')→wpList P ops (Exit.then K (fun _ _ _=>False)) [o] a w) :
 runs P o a.eval w (fun v w'=>∃ u,a.put o.dst v=a.put o.dst u∧Ext w w'∧Φ u w'):=by
 have H:=h (fun a' w'=>∃ u,a'=a.put o.dst u∧Ext w w'∧Φ u w') (fun v w' h1 h2=>⟨v,rfl,h1,h2⟩)
 unfold wpList at H
 simp only [Region.wanted,hg,if_true] at H
 rcases H with H|⟨_,_,_,hf⟩
 case inr=>exact hf.elim
 unfold Oper.wp at H
 unfold runs
 generalize (execOp a.eval o).run P w=r at *
 cases r with
 | ok n w'=>
  cases n<;>simp only [Oper.upon,wpList,Exit.then] at H ⊢
  case value v=>exact H
  case skip=>exact H
  case enter f args=>
   refine H.mono fun e w'' he=>?_
   cases e with
   | returned v=>exact⟨v,rfl,he⟩
   | panicked c=>exact he.elim
   | outgrown=>obtain⟨_,_,hf⟩:=he;exact hf.elim
  case defer d=>
   obtain⟨u,hu,_⟩:=H
   have:=congrArg Act.defers hu
   cases hd:o.dst<;>simp [hd,Act.put] at this
  case row row args=>exact H
 | halt x w'=>cases x<;>simp [Oper.upon,Exit.then] at H

def dstAt (ops:Array Oper) (i:Nat):Option Tmp:=(ops[i]?).bind (·.dst)
def fillD (ops:Array Oper) (vs:Nat→Value):List Nat→Act→Act
 | [],a=>a
 | i::r,a=>fillD ops vs r (a.put (dstAt ops i) (vs i))
def deps (o:Oper):List Nat:=(o.after.toList.filter (Region.binds .any ·)).map (·.on)

theorem fillD_size (ops:Array Oper) (vs:Nat→Value):∀ (L:List Nat) (a:Act),(fillD ops vs L a).tmps.size=a.tmps.size∧(fillD ops vs L a).defers=a.defers
 | [],a=>⟨rfl,rfl⟩
 | i::r,a=>by
  obtain⟨h1,h2⟩:=fillD_size ops vs r (a.put (dstAt ops i) (vs i))
  rw [fillD,h1,h2]
  cases dstAt ops i<;>simp [Act.put]
theorem put_getD (a:Act) (d:Option Tmp) (v:Value) (t:Nat):(a.put d v).tmps.getD t undef=if d=some t∧t<a.tmps.size then v else a.tmps.getD t undef:=by
 cases d with
 | none=>simp [Act.put]
 | some d=>
  simp only [Act.put,Option.some.injEq]
  by_cases h:d=t
  · subst h
    by_cases hl:d<a.tmps.size
    · simp [hl]
    simp [hl]
  simp [h,Array.getElem?_setIfInBounds_ne h]
theorem fillD_none (ops:Array Oper) (vs:Nat→Value) (t:Nat):∀ (L:List Nat) (a:Act),(∀ j∈L,dstAt ops j≠some t)→(fillD ops vs L a).tmps.getD t undef=a.tmps.getD t undef
 | [],a,_=>rfl
 | i::r,a,h=>by
  rw [fillD,fillD_none ops vs t r _ (fun j hj=>h j (List.mem_cons_of_mem _ hj)),put_getD,if_neg (fun hh=>h i (by simp) hh.1)]
theorem fillD_some (ops:Array Oper) (vs:Nat→Value) (t j:Nat):∀ (L:List Nat) (a:Act),j∈L→dstAt ops j=some t→(∀ j'∈L,dstAt ops j'=some t→j'=j)→t<a.tmps.size→
 (fillD ops vs L a).tmps.getD t undef=vs j
 | [],a,h,_,_,_=>by cases h
 | i::r,a,h,hd,hu,hl=>by
  rw [fillD]
  by_cases hr:j∈r
  · exact fillD_some ops vs t j r _ hr hd (fun j' hj'=>hu j' (List.mem_cons_of_mem _ hj')) (by cases dstAt ops i<;>simpa [Act.put] using hl)
  obtain rfl:j=i:=by rcases List.mem_cons.1 h with h|h;exact h;exact absurd h hr
  rw [fillD_none ops vs t r _ (fun j' hj' hh=>hr (hu j' (List.mem_cons_of_mem _ hj') hh▸hj')),put_getD,if_pos ⟨hd,hl⟩]

def planB (ops:Array Oper) (N:Nat):Bool:=
 Region.noSelect ops&&decide (N≤ops.size)&&
 (List.range N).all (fun i=>match ops[i]? with
  | some o=>o.guard.isNone&&(deps o).all (fun e=>decide (e<i))&&
   (o.looksAt ops).all (fun t=>(List.range ops.size).all fun j=>decide (dstAt ops j≠some t)||(deps o).contains j||(match ops[j]? with|some oj=>(deps oj).contains i|none=>false))&&
   (List.range N).all (fun j=>decide (j=i)||decide (o.dst=none)||decide (dstAt ops j≠o.dst))
  | none=>false)&&
 (decide (N=ops.size)||(Region.sinkB .any ops N&&Region.chainB .any ops N))&&
 Region.seqB .any ops (ops.size-N) N ((Array.range ops.size).map fun j=>decide (j<N))

theorem mem_deps {o:Oper} {j:Nat}:j∈deps o↔∃ e∈o.after,Region.binds .any e=true∧e.on=j:=by
 simp [deps,List.mem_filter,and_assoc]

def unl (N:Nat) (listed:Array Bool):Nat:=(List.range N).countP fun j=>!listed.getD j false
theorem unl_set (listed:Array Bool) (i:Nat) (hu:listed.getD i false=false) (hs:i<listed.size):∀ N,unl N listed=unl N (listed.setIfInBounds i true)+if i<N then 1 else 0
 | 0=>by simp [unl]
 | N+1=>by
  have ih:=unl_set listed i hu hs N
  unfold unl at *
  rw [List.range_succ,List.countP_append,List.countP_append]
  simp only [List.countP_cons,List.countP_nil,Nat.zero_add]
  by_cases hiN:i=N
  · subst hiN
    have h1:(listed.setIfInBounds i true).getD i false=true:=by simp [hs]
    rw [ih,h1,hu]
    simp
  rw [getD_set_ne false hiN,ih]
  have e:(i<N+1)=(i<N):=propext ⟨fun h=>by omega,fun h=>by omega⟩
  simp only [e]
  omega

section
variable {P:Program} {ops:Array Oper} {N:Nat}

structure PlanInv (ops:Array Oper) (N:Nat) (Φ:Nat→MP) (a0:Act) (w0:World) (listed:Array Bool) (a:Act) (w:World):Prop where
 head:HeadInv .any ops N listed
 size:a.tmps.size=a0.tmps.size
 defers:a.defers=a0.defers
 ext:Ext w0 w
 vals:∃ vs:Nat→Value,(∀ j,j<N→listed.getD j false=true→(Φ j).p vs (vs j) w∧∀ t,dstAt ops j=some t→t<a0.tmps.size→a.tmps.getD t undef=vs j)∧
  ∀ t,(∀ j,j<N→listed.getD j false=true→dstAt ops j≠some t)→a.tmps.getD t undef=a0.tmps.getD t undef

theorem getD_out {a:Act} {t:Nat} (h:¬ t<a.tmps.size):a.tmps.getD t undef=undef:=by simp [h]

theorem wpAny_plan {Q:Exit→Act→World→Prop} {Φ:Nat→MP} {a0:Act} {w0:World} (hB:planB ops N=true)
 (hon:∀ i o,i<N→ops[i]?=some o→∀ j∈(Φ i).on,j∈deps o)
 (hstep:∀ i o,i<N→ops[i]?=some o→∀ (vs:Nat→Value) (w:World),Ext w0 w→(∀ j∈deps o,(Φ j).p vs (vs j) w)→
  ∀ K:Act→World→Prop,(∀ v w',Ext w w'→(Φ i).p vs v w'→K ((fillD ops vs (deps o) a0).put o.dst v) w')→wpList P ops (Exit.then K (fun _ _ _=>False)) [o] (fillD ops vs (deps o) a0) w)
 (hfin:∀ (vs:Nat→Value) (w:World),Ext w0 w→(∀ i,i<N→(Φ i).p vs (vs i) w)→wpList P ops Q (ops.toList.drop N) (fillD ops vs (List.range N) a0) w) :
 ∀ (n:Nat) (listed:Array Bool) (a:Act) (w:World),unl N listed=n→PlanInv ops N Φ a0 w0 listed a w→wpAny P .any ops Q (n+(ops.size-N)) listed a w:=by
 simp only [planB,Bool.and_eq_true,decide_eq_true_eq] at hB
 obtain⟨⟨⟨⟨hsel,hN⟩,hall⟩,htail⟩,hseq⟩:=hB
 have hop:∀ i,i<N→∃ o,ops[i]?=some o∧o.guard=none∧(∀ e∈deps o,e<i)∧
  (∀ t∈o.looksAt ops,∀ j,j<ops.size→dstAt ops j=some t→j∈deps o∨∃ oj,ops[j]?=some oj∧i∈deps oj)∧(∀ j t,j<N→dstAt ops j=some t→o.dst=some t→j=i):=by
  intro i hi
  have h:=List.all_eq_true.1 hall i (List.mem_range.2 hi)
  have hio:ops[i]?=some ops[i]:=Array.getElem?_eq_getElem (by omega)
  rw [hio] at h
  simp only [Bool.and_eq_true,List.all_eq_true,decide_eq_true_eq,Bool.or_eq_true,List.mem_range,Option.isNone_iff_eq_none,List.contains_iff_mem] at h
  refine⟨_,hio,h.1.1.1,h.1.1.2,fun t ht j hj hd=>?_,fun j t hj hd ho=>?_⟩
  · rcases h.1.2 t ht j hj with (h1|h1)|h1
    · exact absurd hd h1
    · exact .inl h1
    refine .inr ⟨ops[j],Array.getElem?_eq_getElem hj,?_⟩
    rw [Array.getElem?_eq_getElem hj] at h1
    simpa using h1
  rcases h.2 j hj with (h1|h1)|h1
  · exact h1
  · rw [h1] at ho;cases ho
  rw [ho] at h1;exact absurd hd h1
 intro n
 induction n with
 | zero=>
  intro listed a w hn inv
  have hl:∀ j,j<N→listed.getD j false=true:=by
   intro j hj
   have:=List.countP_eq_zero.1 hn j (List.mem_range.2 hj)
   simpa using this
  have hlisted:listed=(Array.range ops.size).map fun j=>decide (j<N):=by
   apply Array.ext
   · simp [inv.head.size]
   intro j h1 h2
   have hj:j<ops.size:=by rw [←inv.head.size];exact h1
   simp only [Array.getElem_map,Array.getElem_range]
   by_cases hjN:j<N
   · have:=hl j hjN
     simp [h1] at this
     simp [this,hjN]
   have:=inv.head.tail j (by omega) hj
   simp [h1] at this
   simp [this,hjN]
  obtain⟨vs,hv1,hv2⟩:=inv.vals
  have ha:a=fillD ops vs (List.range N) a0:=by
   obtain⟨s1,s2⟩:=fillD_size ops vs (List.range N) a0
   obtain⟨tm,df⟩:=a
   have e1:tm=(fillD ops vs (List.range N) a0).tmps:=by
    apply Array.ext
    · rw [s1];exact inv.size
    intro t h1 h2
    have hsz:t<a0.tmps.size:=by have:=inv.size;simp only at this;omega
    have key:tm.getD t undef=(fillD ops vs (List.range N) a0).tmps.getD t undef:=by
     by_cases hex:∃ j,j<N∧dstAt ops j=some t
     · obtain⟨j,hj,hd⟩:=hex
       rw [fillD_some ops vs t j _ _ (List.mem_range.2 hj) hd (fun j' hj' hd'=>?_) hsz]
       · exact (hv1 j hj (hl j hj)).2 t hd hsz
       obtain⟨o,ho,_,_,_,hu⟩:=hop j hj
       exact hu j' t (List.mem_range.1 hj') hd' (by simpa [dstAt,ho] using hd)
     have hex':∀ j,j<N→dstAt ops j≠some t:=fun j hj hd=>hex ⟨j,hj,hd⟩
     rw [fillD_none ops vs t _ _ (fun j hj=>hex' j (List.mem_range.1 hj))]
     exact hv2 t fun j hj _=>hex' j hj
    simpa [h1,h2] using key
   have e2:df=(fillD ops vs (List.range N) a0).defers:=by rw [s2];exact inv.defers
   cases hh:fillD ops vs (List.range N) a0
   rw [hh] at e1 e2
   simp only at e1 e2
   rw [e1,e2]
  have H:=hfin vs w inv.ext fun i hi=>(hv1 i hi (hl i hi)).1
  rw [←ha] at H
  have:=wpAny_of_seq (md:=.any) (Q':=Q) (ops.toList.drop N) N listed a w (fun j=>by simp [List.getElem?_drop]) (by rw [hlisted];simpa using hseq) H
  rw [Nat.zero_add]
  simpa using this
 | succ n ih=>
  intro listed a w hn inv
  rw [show n+1+(ops.size-N)=(n+(ops.size-N))+1 by omega]
  have hleast:∃ i,i<N∧listed.getD i false=false∧∀ j,j<i→listed.getD j false=true:=by
   have hex:∃ i,i<N∧listed.getD i false=false:=by
    apply Classical.byContradiction;intro hno
    have:unl N listed=0:=List.countP_eq_zero.2 fun j hj=>by
     have hjN:=List.mem_range.1 hj
     cases h:listed.getD j false with
     | true=>simp
     | false=>exact absurd ⟨j,hjN,h⟩ hno
    omega
   obtain⟨i,hi,hu⟩:=hex
   induction i using Nat.strongRecOn with
   | _ i ihi=>
    by_cases hall':∀ j,j<i→listed.getD j false=true
    · exact⟨i,hi,hu,hall'⟩
    obtain⟨j,hj,hju⟩:∃ j,j<i∧listed.getD j false=false:=by
     apply Classical.byContradiction;intro hno
     exact hall' fun j hj=>by
      cases h:listed.getD j false with
      | true=>rfl
      | false=>exact absurd ⟨j,hj,h⟩ hno
    exact ihi j hj (by omega) hju
  have inL:∀ i,i<N→listed.getD i false=false→listed.getD i true=false:=fun i hi h=>getD_in (by rw [inv.head.size];omega) h
  obtain⟨i0,hi0,hu0,hl0⟩:=hleast
  have hr0:i0∈Region.ready .any ops listed:=by
   obtain⟨o,ho,_,hd,_⟩:=hop i0 hi0
   exact mem_ready.2 ⟨inL i0 hi0 hu0,o,ho,fun e he hb=>hl0 _ (hd _ (mem_deps.2 ⟨e,he,hb,rfl⟩))⟩
  refine⟨fun h0=>(by rw [h0] at hr0;cases hr0),fun i hi=>?_⟩
  have hiN:i<N:=by
   rcases Nat.lt_or_ge i N with h|h
   · exact h
   obtain⟨_,o,ho,_⟩:=mem_ready.1 hi
   have hisz:i<ops.size:=(Array.getElem?_eq_some_iff.1 ho).1
   simp only [Bool.or_eq_true,decide_eq_true_eq,Bool.and_eq_true] at htail
   rcases htail with htail|⟨hs,hc⟩
   · omega
   exact absurd hi (tail_waits hs hc (by omega) inv.head _ i0 rfl hi0 (inL i0 hi0 hu0) i h)
  obtain⟨o,ho,hg,hd,hlook,hu⟩:=hop i hiN
  obtain⟨hiun,o',ho',hafter⟩:=mem_ready.1 hi
  obtain rfl:o'=o:=Option.some.inj (ho'.symm.trans ho)
  have hiunf:listed.getD i false=false:=getD_both hiun
  obtain⟨vs,hv1,hv2⟩:=inv.vals
  have hdl:∀ j∈deps o',listed.getD j false=true:=fun j hj=>by
   obtain⟨e,he,hb,rfl⟩:=mem_deps.1 hj
   exact hafter e he hb
  have hdN:∀ j∈deps o',j<N:=fun j hj=>Nat.lt_trans (hd j hj) hiN
  have hR:=hstep i o' hiN ho vs w inv.ext (fun j hj=>(hv1 j (hdN j hj) (hdl j hj)).1)
  unfold wpOp
  simp only [ho]
  rw [if_pos (by unfold Region.wanted;rw [hg])]
  refine .inl ?_
  have hcongr:execOp a.eval o'=execOp (fillD ops vs (deps o') a0).eval o':=by
   refine execOp_congr o' (fun cs b=>Region.noSelect_spec hsel i o' cs b ho) fun x hx=>?_
   cases x with
   | tmp t=>
    show a.tmps.getD t undef=(fillD ops vs (deps o') a0).tmps.getD t undef
    have ht:t∈o'.looksAt ops:=List.mem_append_left _ (List.mem_filterMap.2 ⟨.tmp t,by simpa using hx,rfl⟩)
    by_cases hex:∃ j,j∈deps o'∧dstAt ops j=some t
    · obtain⟨j,hj,hdj⟩:=hex
      by_cases hts:t<a0.tmps.size
      · rw [fillD_some ops vs t j _ _ hj hdj (fun j' hj' hd'=>?_) hts]
        · exact (hv1 j (hdN j hj) (hdl j hj)).2 t hdj hts
        obtain⟨oj,hoj,_,_,_,huj⟩:=hop j (hdN j hj)
        exact huj j' t (hdN j' hj') hd' (by simpa [dstAt,hoj] using hdj)
      rw [getD_out (by rw [inv.size];exact hts),getD_out (by rw [(fillD_size ops vs (deps o') a0).1];exact hts)]
    have hex':∀ j∈deps o',dstAt ops j≠some t:=fun j hj h=>hex ⟨j,hj,h⟩
    rw [fillD_none ops vs t _ _ hex']
    refine hv2 t fun j hj hlj hdj=>?_
    rcases hlook t ht j (by omega) hdj with h|⟨oj,hoj,h⟩
    · exact hex' j h hdj
    obtain⟨e,he,hb,hon⟩:=mem_deps.1 h
    have:=inv.head.closed j oj hoj hlj e he hb
    rw [hon,hiunf] at this
    cases this
   | const v=>rfl
   | global g=>rfl
   | func f=>rfl
  have hruns:=runs_of_list (Φ:=(Φ i).p vs) hg hR
  unfold runs at hruns
  rw [←hcongr] at hruns
  refine wp_of_runs hruns fun v0 w' ⟨v,hv,hx,hΦ⟩=>?_
  rw [put_same (by rw [inv.size,(fillD_size ops vs (deps o') a0).1]) hv]
  refine ih _ _ _ ?_ ?_
  · have:=unl_set listed i hiunf (by rw [inv.head.size];omega) N
    rw [if_pos hiN] at this
    omega
  refine⟨inv.head.set hi hiN,?_,?_,inv.ext.trans hx,fun j=>if j=i then v else vs j,?_,?_⟩
  · cases hdst:o'.dst<;>simpa [Act.put] using inv.size
  · cases hdst:o'.dst<;>simpa [Act.put] using inv.defers
  · intro j hj hlj
    by_cases hji:j=i
    · subst hji
      simp only [if_true]
      refine⟨(Φ j).loc (fun k hk=>if_neg (fun e=>?_)) hΦ,fun t ht hts=>?_⟩
      · have:=hdl k (hon j o' hiN ho k hk)
        rw [e,hiunf] at this
        cases this
      rw [put_getD,if_pos ⟨by simpa [dstAt,ho] using ht,by rw [inv.size];exact hts⟩]
    rw [getD_set_ne false (Ne.symm hji)] at hlj
    simp only [hji,if_false]
    obtain⟨oj,hoj,_⟩:=hop j hj
    refine⟨(Φ j).loc (fun k hk=>if_neg (fun e=>?_)) ((Φ j).mono (hv1 j hj hlj).1 hx),fun t ht hts=>?_⟩
    · obtain⟨e',he',hb',hon'⟩:=mem_deps.1 (hon j oj hj hoj k hk)
      have:=inv.head.closed j oj hoj hlj e' he' hb'
      rw [hon',e,hiunf] at this
      cases this
    rw [put_getD,if_neg (fun hh=>hji (hu j t hj ht hh.1))]
    exact (hv1 j hj hlj).2 t ht hts
  intro t hnone
  have hi':=hnone i hiN (by simp [show i<listed.size by rw [inv.head.size];omega])
  rw [put_getD,if_neg (fun hh=>hi' (by simpa [dstAt,ho] using hh.1))]
  refine hv2 t fun j hj hlj=>hnone j hj (getD_set_true hlj)

def planSteps (P:Program) (ops:Array Oper) (Φ:Nat→MP) (a0:Act) (w0:World):Nat→List Oper→Prop
 | _,[]=>True
 | i,o::r=>(∀ (vs:Nat→Value) (w:World),Ext w0 w→(∀ j∈deps o,(Φ j).p vs (vs j) w)→
  ∀ K:Act→World→Prop,(∀ v w',Ext w w'→(Φ i).p vs v w'→K ((fillD ops vs (deps o) a0).put o.dst v) w')→wpList P ops (Exit.then K (fun _ _ _=>False)) [o] (fillD ops vs (deps o) a0) w)∧planSteps P ops Φ a0 w0 (i+1) r
theorem planSteps_at {Φ:Nat→MP} {a0:Act} {w0:World}:∀ (l:List Oper) (k:Nat),planSteps P ops Φ a0 w0 k l→∀ i o,l[i]?=some o→
 ∀ (vs:Nat→Value) (w:World),Ext w0 w→(∀ j∈deps o,(Φ j).p vs (vs j) w)→
  ∀ K:Act→World→Prop,(∀ v w',Ext w w'→(Φ (k+i)).p vs v w'→K ((fillD ops vs (deps o) a0).put o.dst v) w')→wpList P ops (Exit.then K (fun _ _ _=>False)) [o] (fillD ops vs (deps o) a0) w
 | [],_,_,i,o,h=>by simp at h
 | x::l,k,hp,0,o,h=>by
  simp at h;subst h;exact hp.1
 | x::l,k,hp,i+1,o,h=>by
  have:=planSteps_at l (k+1) hp.2 i o (by simpa using h)
  rw [show k+1+i=k+(i+1) by omega] at this
  exact this

def onB (l:List Oper) (Φs:List MP) (N:Nat):Bool:=(List.range N).all fun i=>match l[i]? with
 | some o=>(Φs.getD i MP.any).on.all fun j=>(deps o).contains j
 | none=>true
theorem wp_region_plan {id:Nat} {Q:Exit→Act→World→Prop} {a:Act} {w:World} {l:List Oper} (N:Nat) (Φs:List MP) (hm:P.follows .mixedOrders=true) (hB:planB l.toArray N=true) (hon:onB l Φs N=true)
 (hstep:planSteps P l.toArray (fun i=>Φs.getD i MP.any) a w 0 (l.take N))
 (hfin:∀ (vs:Nat→Value) (w':World),Ext w w'→(∀ i,i<N→(Φs.getD i MP.any).p vs (vs i) w')→wpList P l.toArray Q (l.drop N) (fillD l.toArray vs (List.range N) a) w') :
 (Code.region id l.toArray true).wp P Q a w:=by
 refine wp_region_any hm ?_
 have hN:N≤l.length:=by
  simp only [planB,Bool.and_eq_true,decide_eq_true_eq] at hB
  simpa using hB.1.1.1.2
 have H:=wpAny_plan (P:=P) (Q:=Q) (Φ:=fun i=>Φs.getD i MP.any) (a0:=a) (w0:=w) hB (fun i o hi ho j hj=>by
  have h:=List.all_eq_true.1 hon i (List.mem_range.2 hi)
  have ho':l[i]?=some o:=by simpa using ho
  rw [ho'] at h
  simpa using List.all_eq_true.1 h j hj) (fun i o hi ho=>by
  have:=planSteps_at (l.take N) 0 hstep i o (by rw [List.getElem?_take,if_pos hi];simpa using ho)
  rwa [Nat.zero_add] at this) (by simpa using hfin)
  (unl N (Array.replicate l.toArray.size false)) (Array.replicate l.toArray.size false) a { w with drawn:=w.drawn+1 } rfl
  ⟨⟨by simp,fun j oj _ hl=>(by rw [getD_replicate_false] at hl;cases hl),fun t _ ht=>getD_in (by simpa using ht) (getD_replicate_false _ _)⟩,rfl,rfl,(Ext.refl w).drawn,
   fun _=>undef,fun j _ hl=>(by rw [getD_replicate_false] at hl;cases hl),fun t _=>rfl⟩
 have hu:unl N (Array.replicate l.toArray.size false)=N:=by
  unfold unl
  rw [List.countP_eq_length.2 (fun j _=>by rw [getD_replicate_false];rfl),List.length_range]
 rw [hu,show N+(l.toArray.size-N)=l.toArray.size by simp;omega] at H
 exact H
end
end Go.Q
namespace Go.Q
open Go.RowKit
open Rd (rd)
theorem encs_get {α:Type} [Flat α]:∀ (l:List α) (j:Nat) (u:Value),(encs l)[j]?=some u→∃ i x r,l[i]?=some x∧(Flat.enc x)[r]?=some u∧j=i*Flat.k α+r
 | [],j,u,h=>by simp [encs] at h
 | y::l,j,u,h=>by
  have e:encs (y::l)=Flat.enc y++encs l:=by simp [encs]
  rw [e] at h
  by_cases hj:j<(Flat.enc y).length
  · rw [List.getElem?_append_left hj] at h
    exact⟨0,y,j,rfl,h,by omega⟩
  rw [List.getElem?_append_right (by omega)] at h
  obtain⟨i,x,r,h1,h2,h3⟩:=encs_get l _ u h
  refine⟨i+1,x,r,by simpa using h1,h2,?_⟩
  rw [Flat.len] at h3 hj
  rw [Nat.add_mul,Nat.one_mul]
  omega
theorem Sl.news {α:Type} [Flat α] {w:World} {ad:Addr} {m c:Nat} {l:List α} {F:List Nat} (h:Sl w (some ad) m c l F):∀ j u,(encs l)[j]?=some u→w.cell? (ad.add j)=some u:=by
 intro j u hu
 obtain⟨i,x,r,h1,h2,rfl⟩:=encs_get l j u hu
 have hi:i<m:=by rw [←h.hlen];exact (List.getElem?_eq_some_iff.1 h1).1
 obtain⟨b,off,y,ha,hy,hc⟩:=h.flat hi
 cases ha
 rw [h1] at hy
 cases hy
 have:=hc r u h2
 rw [Addr.add_lit]
 simpa [Nat.add_assoc] using this
section
variable {P:Program}
theorem run_append_copy {α:Type} [Flat α] {w:World} (t ty e:TypeId) (i:TypeInfo) (z:Value) {bytes:Nat} (ht:P.underlying t=some (.slice e)) (hi:P.info? e=some i) (hz:i.zero=some z)
 (hsize:i.size=Flat.k α) (hby:i.bytes=bytes) (hzs:z.cells.size=Flat.k α) {ad0 ax:Option Addr} {m c:Nat} {l:List α} {F:List Nat} (hl:Sl w ax m c l F) (hb:m*bytes≤140737488355328) :
 ∃ v w',(Builtin.append_ #[t,t] ty #[.slice ad0 0 0,.slice ax m c]).run P w=.ok v w'∧New w w' v l∧Ext w w':=by
 subst hby
 have h1:=hl.le
 by_cases hm:m=0
 · subst hm
   obtain rfl:l=[]:=List.eq_nil_of_length_eq_zero hl.hlen
   refine⟨.slice ad0 0 0,w,?_,⟨[],Sl.vl ⟨rfl,Nat.le_refl _,Nat.zero_le _,[],[],rfl,rfl,by simp,.inl ⟨rfl,rfl⟩⟩,by simp,List.nodup_nil⟩,Ext.refl w⟩
   cases ad0<;>cases ax<;>simp [Builtin.append_,run_underlying ht,sizeOf,typeInfo,hi,Builtin.lenOf,Builtin.firstCells,loadCells,loadCellsFrom,storeCells]
 obtain⟨b,off,x,rfl,-⟩:=hl.flat (i:=0) (by omega)
 have hnews:=hl.news
 have hlen:(encs l).length=m*i.size:=by rw [encs_length,hl.hlen,hsize]
 have h63:m≤9223372036854775807:=by unfold maxLen at h1;omega
 have key:∃ cap,(Builtin.append_ #[t,t] ty #[.slice ad0 0 0,.slice (some ⟨b,off,none⟩) m c]).run P w=.ok (.slice (some ⟨w.heap.size,0,none⟩) m (grownCap w m 0 e)) (w.drew.alloc (.cells ((encs l).toArray++Builtin.zeroCells z.cells (grownCap w m 0 e-m)) e))∧cap=0:=by
  refine⟨0,?_,rfl⟩
  cases ad0 with
  | none=>
   have hr:=run_append_nil (P:=P) w t ty e i z ht hi hz ⟨b,off,none⟩ m c (encs l) hlen hnews (by omega) (by omega) (by have hb:=hb;omega)
   simpa using hr
  | some g=>
   have hr:=run_append_grow (P:=P) w t ty e i z ht hi hz g 0 0 [] (by simp) (by simp) ⟨b,off,none⟩ m c (encs l) hlen hnews (by omega) (by omega) (growslice_fits (by omega) (by simpa using hb))
   simpa using hr
 obtain⟨_,hr,_⟩:=key
 refine⟨_,_,hr,?_,(Ext.refl w).drawn.alloc _⟩
 refine New.of_owns (e:=e) (n:=m) (xs:=encs l) ⟨by rw [encs_length,hl.hlen],.inr ⟨w.heap.size,_,_,rfl,Nat.le_refl _,heap_alloc_new w.drew _,grownCap_ge w m 0 e,grownCap_le_maxLen w m 0 e (by simp only [maxLen];omega),?_,?_⟩⟩ hl.hlen.symm rfl
 · simp only [Array.size_append,List.size_toArray,size_zeroCells,hzs,encs_length,hl.hlen,←Nat.add_mul]
   congr 1
   have:=grownCap_ge w m 0 e
   omega
 have e1:m*Flat.k α=(encs l).length:=by rw [encs_length,hl.hlen]
 simp only [Array.toList_append,e1]
 exact List.take_left
theorem wpList_append_copy {α:Type} [Flat α] {w:World} {ops:Array Oper} {rest:List Oper} {o:Oper} {a:Act} {Q:Exit→Act→World→Prop} (hgd:o.guard=none) (s x:Operand) (t:TypeId)
 (ho:o.op=.call { callee:=.builtin .append,args:=#[s,x],argTypes:=#[t,t] }) (e:TypeId) (i:TypeInfo) (z:Value) (bytes:Nat) (ht:P.underlying t=some (.slice e)) (hi:P.info? e=some i) (hz:i.zero=some z)
 (hsize:i.size=Flat.k α) (hby:i.bytes=bytes) (hzs:z.cells.size=Flat.k α) {ad0 ax:Option Addr} {m c:Nat} {l:List α} {F:List Nat} (hs:a.eval s=.slice ad0 0 0) (hx:a.eval x=.slice ax m c) (hl:Sl w ax m c l F) (hb:m*bytes≤140737488355328)
 (h:∀ v w',New w w' v l→Ext w w'→wpList P ops Q rest (a.put o.dst v) w'):wpList P ops Q (o::rest) a w:=by
 refine wpList_plain hgd fun K hK=>?_
 obtain⟨v,w',hr,h2,h3⟩:=run_append_copy (P:=P) (α:=α) t o.type e i z ht hi hz hsize hby hzs (ad0:=ad0) hl hb
 unfold Oper.wp execOp
 simp only [ho,resolve,invoke,builtin,Sem.run_bind,Sem.run_pure,Result.andThen_ok,List.map_toArray,List.map_cons,List.map_nil,hs,hx,hr]
 exact hK _ _ (h v w' h2 h3)
end
end Go.Q
namespace Go.Q
open Go.RowKit
section
variable {P:Program} {ops:Array Oper} {N:Nat}
def planC (ops:Array Oper) (N:Nat):Bool:=
 decide (N≤ops.size)&&(List.range N).all (fun i=>match ops[i]? with
  | some o=>(deps o).all (fun e=>decide (e<i))
  | none=>false)&&
 (decide (N=ops.size)||(Region.sinkB .any ops N&&Region.chainB .any ops N))&&
 Region.seqB .any ops (ops.size-N) N ((Array.range ops.size).map fun j=>decide (j<N))
theorem wpAny_inv {Q:Exit→Act→World→Prop} {J:Array Bool→Act→World→Prop} (hB:planC ops N=true)
 (hstep:∀ i o,i<N→ops[i]?=some o→∀ listed a w,HeadInv .any ops N listed→(∀ j∈deps o,listed.getD j false=true)→listed.getD i false=false→J listed a w→
  ∀ (K:Act→World→Prop) (Q':Exit→Act→World→Prop),(∀ a' w',J (listed.setIfInBounds i true) a' w'→K a' w')→if Region.wanted o (yielded ops a.tmps) then o.wp P a w K Q' else K (a.put o.dst undef) w)
 (hfin:∀ listed a w,(∀ j,j<N→listed.getD j false=true)→J listed a w→wpList P ops Q (ops.toList.drop N) a w) :
 ∀ (n:Nat) (listed:Array Bool) (a:Act) (w:World),unl N listed=n→HeadInv .any ops N listed→J listed a w→wpAny P .any ops Q (n+(ops.size-N)) listed a w:=by
 simp only [planC,Bool.and_eq_true,decide_eq_true_eq] at hB
 obtain⟨⟨⟨hN,hall⟩,htail⟩,hseq⟩:=hB
 have hop:∀ i,i<N→∃ o,ops[i]?=some o∧∀ e∈deps o,e<i:=by
  intro i hi
  have h:=List.all_eq_true.1 hall i (List.mem_range.2 hi)
  have hio:ops[i]?=some ops[i]:=Array.getElem?_eq_getElem (by omega)
  rw [hio] at h
  simp only [List.all_eq_true,decide_eq_true_eq] at h
  exact⟨_,hio,h⟩
 intro n
 induction n with
 | zero=>
  intro listed a w hn inv hJ
  have hl:∀ j,j<N→listed.getD j false=true:=by
   intro j hj
   have:=List.countP_eq_zero.1 hn j (List.mem_range.2 hj)
   simpa using this
  have hlisted:listed=(Array.range ops.size).map fun j=>decide (j<N):=by
   apply Array.ext
   · simp [inv.size]
   intro j h1 h2
   have hj:j<ops.size:=by rw [←inv.size];exact h1
   simp only [Array.getElem_map,Array.getElem_range]
   by_cases hjN:j<N
   · have:=hl j hjN
     simp [h1] at this
     simp [this,hjN]
   have:=inv.tail j (by omega) hj
   simp [h1] at this
   simp [this,hjN]
  have H:=hfin listed a w hl hJ
  have:=wpAny_of_seq (md:=.any) (Q':=Q) (ops.toList.drop N) N listed a w (fun j=>by simp [List.getElem?_drop]) (by rw [hlisted];simpa using hseq) H
  rw [Nat.zero_add]
  simpa using this
 | succ n ih=>
  intro listed a w hn inv hJ
  rw [show n+1+(ops.size-N)=(n+(ops.size-N))+1 by omega]
  have hleast:∃ i,i<N∧listed.getD i false=false∧∀ j,j<i→listed.getD j false=true:=by
   have hex:∃ i,i<N∧listed.getD i false=false:=by
    apply Classical.byContradiction;intro hno
    have:unl N listed=0:=List.countP_eq_zero.2 fun j hj=>by
     have hjN:=List.mem_range.1 hj
     cases h:listed.getD j false with
     | true=>simp
     | false=>exact absurd ⟨j,hjN,h⟩ hno
    omega
   obtain⟨i,hi,hu⟩:=hex
   induction i using Nat.strongRecOn with
   | _ i ihi=>
    by_cases hall':∀ j,j<i→listed.getD j false=true
    · exact⟨i,hi,hu,hall'⟩
    obtain⟨j,hj,hju⟩:∃ j,j<i∧listed.getD j false=false:=by
     apply Classical.byContradiction;intro hno
     exact hall' fun j hj=>by
      cases h:listed.getD j false with
      | true=>rfl
      | false=>exact absurd ⟨j,hj,h⟩ hno
    exact ihi j hj (by omega) hju
  have inL:∀ i,i<N→listed.getD i false=false→listed.getD i true=false:=fun i hi h=>getD_in (by rw [inv.size];omega) h
  obtain⟨i0,hi0,hu0,hl0⟩:=hleast
  have hr0:i0∈Region.ready .any ops listed:=by
   obtain⟨o,ho,hd⟩:=hop i0 hi0
   exact mem_ready.2 ⟨inL i0 hi0 hu0,o,ho,fun e he hb=>hl0 _ (hd _ (mem_deps.2 ⟨e,he,hb,rfl⟩))⟩
  refine⟨fun h0=>(by rw [h0] at hr0;cases hr0),fun i hi=>?_⟩
  have hiN:i<N:=by
   rcases Nat.lt_or_ge i N with h|h
   · exact h
   obtain⟨_,o,ho,_⟩:=mem_ready.1 hi
   have hisz:i<ops.size:=(Array.getElem?_eq_some_iff.1 ho).1
   simp only [Bool.or_eq_true,decide_eq_true_eq,Bool.and_eq_true] at htail
   rcases htail with htail|⟨hs,hc⟩
   · omega
   exact absurd hi (tail_waits hs hc (by omega) inv _ i0 rfl hi0 (inL i0 hi0 hu0) i h)
  obtain⟨o,ho,hd⟩:=hop i hiN
  obtain⟨hiun,o',ho',hafter⟩:=mem_ready.1 hi
  obtain rfl:o'=o:=Option.some.inj (ho'.symm.trans ho)
  have hiunf:listed.getD i false=false:=getD_both hiun
  have hdl:∀ j∈deps o',listed.getD j false=true:=fun j hj=>by
   obtain⟨e,he,hb,rfl⟩:=mem_deps.1 hj
   exact hafter e he hb
  have hun:unl N (listed.setIfInBounds i true)=n:=by
   have:=unl_set listed i hiunf (by rw [inv.size];omega) N
   rw [if_pos hiN] at this
   omega
  have H:=hstep i o' hiN ho listed a w inv hdl hiunf hJ _ Q fun a' w' hJ'=>ih _ a' w' hun (inv.set hi hiN) hJ'
  unfold wpOp
  simp only [ho]
  split
  · rename_i hw
    rw [if_pos hw] at H
    exact .inl H
  rename_i hw
  rw [if_neg hw] at H
  exact H
end
structure Sup (σ σ':St):Prop where
 n:σ'.n=σ.n
 slots:∀ i x,look σ.slots i=some x→look σ'.slots i=some x
 res:∀ i x,look σ.res i=some x→look σ'.res i=some x
section
variable {P:Program} {ops:Array Oper} {o:Oper} {σ σ':St} {q:Bool}
theorem readE0_sup (hs:Sup σ σ') {e:E} {t:T} (h:readE0 σ e=some t):readE0 σ' e=some t:=by
 cases e with
 | rf id=>
  rw [readE0] at h
  split at h
  · rename_i h0;rw [readE0,hs.res _ _ h0];exact h
  cases h
 | t x=>exact h
 | vw i x=>exact h
 | pp i x=>cases h
 | pr a b c d=>cases h
 | sb a b c d=>cases h
 | tl a b c=>cases h
 | pf a b c=>cases h
 | no=>cases h
theorem mapO_sup {f g:E→Option T} (hf:∀ e t,f e=some t→g e=some t):∀ {l:List E} {ts:List T},mapO f l=some ts→mapO g l=some ts
 | [],ts,h=>h
 | e::r,ts,h=>by
  rw [mapO] at h ⊢
  split at h
  · rename_i t h1
    split at h
    · rename_i ts' h2
      rw [hf e t h1]
      simp only [mapO_sup hf h2]
      exact h
    cases h
  cases h
theorem readE_sup (hs:Sup σ σ'):∀ (n:Nat) (e:E) (t:T),readE σ n e=some t→readE σ' n e=some t
 | 0,e,t,h=>readE0_sup hs h
 | n+1,e,t,h=>by
  rw [readE] at h ⊢
  dsimp only at h ⊢
  split at h
  · split at h
    · rename_i h0
      split at h
      · rename_i h1
        rw [hs.res _ _ h0]
        simp only [mapO_sup (readE_sup hs n) h1]
        exact h
      cases h
    cases h
  exact readE0_sup hs h
theorem readA_sup (hs:Sup σ σ') {x:A} {v:V0} (h:readA σ x=some v):readA σ' x=some v:=by
 cases x with
 | one e=>
  rw [readA] at h ⊢
  split at h
  · rename_i h1;rw [readE_sup hs 4 _ _ h1];exact h
  cases h
 | agg l=>
  rw [readA] at h ⊢
  split at h
  · rename_i h1;rw [mapO_sup (readE_sup hs 4) h1];exact h
  cases h
theorem Aj (hs:Sup σ σ') {d:Option Tmp} (h:d.all (fun d=>Nat.blt d σ.n)=true):d.all (fun d=>Nat.blt d σ'.n)=true:=by rw [hs.n];exact h
theorem Sup.tm {σ σ':St} {q:Bool} {i:Nat} {x:A} (hs:Sup σ σ') (h:look σ.slots i=some (true,.a x)):Get σ' q (.tmp i) x:=.tm (hs.slots _ _ h)
theorem Sup.ti {σ σ':St} {q:Bool} {i:Nat} {x:A} (hs:Sup σ σ') (h:look σ.slots i=some (q,.a x)):Get σ' q (.tmp i) x:=.tmp (hs.slots _ _ h) id
theorem Sup.y1 {σ σ':St} {ops:Array Oper} {o:Oper} {j d:Nat} {b:Bool} (hs:Sup σ σ') (hg:o.guard=some (j,true):=by exact rfl) (hd:(ops[j]?).bind (·.dst)=some d:=by exact rfl) (h:look σ.slots d=some (true,.a (.one (.t (.v (.bool b))))):=by exact rfl) (hn:Nat.blt d σ.n=true:=by exact rfl):Grd ops o σ' b:=.yes1 hg hd (hs.slots _ _ h) (by rw [hs.n];exact hn)
theorem Sup.n1 {σ σ':St} {ops:Array Oper} {o:Oper} {j d:Nat} {b:Bool} (hs:Sup σ σ') (hg:o.guard=some (j,false):=by exact rfl) (hd:(ops[j]?).bind (·.dst)=some d:=by exact rfl) (h:look σ.slots d=some (true,.a (.one (.t (.v (.bool b))))):=by exact rfl) (hn:Nat.blt d σ.n=true:=by exact rfl):Grd ops o σ' (!b):=.not1 hg hd (hs.slots _ _ h) (by rw [hs.n];exact hn)
def Loc (P:Program) (ops:Array Oper) (o:Oper) (σ:St) (y:Nat×(Bool×S)×List (Nat×R)):Prop:=
 ∀ σ',Sup σ σ'→(∀ z∈y.2.2,σ'.has z.1=false)→Op1 P ops o σ' ⟨σ'.n,(y.1,y.2.1)::σ'.slots,addsR y.2.2 σ'.res⟩
theorem Loc.of {d:Nat} {x:Bool×S} (hd:o.dst=some d) (h:∀ σ',Sup σ σ'→Op1 P ops o σ' (σ'.put o.dst x)):Loc P ops o σ (d,x,[]):=fun σ' hs _=>by
 have:=h σ' hs
 rw [hd] at this
 exact this
end
abbrev Out:=Nat×(Bool×S)×List (Nat×R)
def stL (L:Nat→Bool):Nat→List Out→St→St
 | _,[],σ=>σ
 | i,y::r,σ=>stL L (i+1) r (bif L i then ⟨σ.n,(y.1,y.2.1)::σ.slots,addsR y.2.2 σ.res⟩ else σ)
theorem stL_n (L:Nat→Bool):∀ (outs:List Out) (i:Nat) (σ:St),(stL L i outs σ).n=σ.n
 | [],_,_=>rfl
 | y::r,i,σ=>by
  rw [stL,stL_n L r]
  cases L i<;>rfl
theorem look_addsR:∀ (rl:List (Nat×R)) (rs:List (Nat×R)) (i:Nat),look (addsR rl rs) i=match look rl.reverse i with|some x=>some x|none=>look rs i
 | [],rs,i=>rfl
 | y::rl,rs,i=>by
  rw [addsR,look_addsR rl]
  have key:∀ (l m:List (Nat×R)),look (l++m) i=match look l i with|some x=>some x|none=>look m i:=by
   intro l m
   induction l with
   | nil=>rfl
   | cons z l ih=>
    obtain⟨j,z⟩:=z
    rw [List.cons_append,look_cons,look_cons]
    split
    · rfl
    exact ih
  rw [List.reverse_cons,key]
  cases look rl.reverse i with
  | some x=>rfl
  | none=>
   obtain⟨j,z⟩:=y
   simp only [look]
   cases Nat.beq j i<;>rfl
theorem stL_slot_base {L:Nat→Bool} {t:Nat}:∀ (outs:List Out) (i:Nat) (σ:St),(∀ (j:Nat) (y:Out),outs[j]?=some y→L (i+j)=true→y.1≠t)→look (stL L i outs σ).slots t=look σ.slots t
 | [],_,_,_=>rfl
 | y::r,i,σ,h=>by
  rw [stL,stL_slot_base r (i+1) _ fun j z hj hL=>h (j+1) z (by simpa using hj) (by rw [show i+(j+1)=i+1+j by omega];exact hL)]
  cases hL:L i with
  | false=>rfl
  | true=>
   simp only [cond_true,look_cons]
   rw [if_neg (h 0 y rfl hL)]
theorem stL_slot {L:Nat→Bool} {t:Nat} {x:Bool×S}:∀ (outs:List Out) (i:Nat) (σ:St) (j:Nat) (y:Out),outs[j]?=some y→L (i+j)=true→y.1=t→y.2.1=x→(∀ k z,outs[k]?=some z→z.1=t→k=j)→look (stL L i outs σ).slots t=some x
 | [],_,_,j,y,h,_,_,_,_=>by simp at h
 | z::r,i,σ,0,y,h,hL,h1,h2,hu=>by
  simp at h;subst h
  rw [stL,stL_slot_base r (i+1) _ fun k u hk _ e=>by have:=hu (k+1) u (by simpa using hk) e;omega]
  have hL':L i=true:=hL
  simp only [hL',cond_true,look_cons,h1,if_true,h2]
 | z::r,i,σ,j+1,y,h,hL,h1,h2,hu=>by
  rw [stL]
  exact stL_slot r (i+1) _ j y (by simpa using h) (by rw [show i+1+j=i+(j+1) by omega];exact hL) h1 h2 fun k u hk e=>by have:=hu (k+1) u (by simpa using hk) e;omega
theorem stL_res_base {L:Nat→Bool} {t:Nat}:∀ (outs:List Out) (i:Nat) (σ:St),(∀ (j:Nat) (y:Out),outs[j]?=some y→L (i+j)=true→∀ z∈y.2.2,z.1≠t)→look (stL L i outs σ).res t=look σ.res t
 | [],_,_,_=>rfl
 | y::r,i,σ,h=>by
  rw [stL,stL_res_base r (i+1) _ fun j z hj hL=>h (j+1) z (by simpa using hj) (by rw [show i+(j+1)=i+1+j by omega];exact hL)]
  cases hL:L i with
  | false=>rfl
  | true=>
   simp only [cond_true,look_addsR]
   have:look y.2.2.reverse t=none:=by
    cases hh:look y.2.2.reverse t with
    | none=>rfl
    | some x=>exact absurd rfl (h 0 y rfl hL (t,x) (by simpa using look_mem hh))
   rw [this]
theorem stL_res {L:Nat→Bool} {t:Nat} {x:R}:∀ (outs:List Out) (i:Nat) (σ:St) (j:Nat) (y:Out),outs[j]?=some y→L (i+j)=true→look y.2.2.reverse t=some x→(∀ k z,outs[k]?=some z→(∃ u∈z.2.2,u.1=t)→k=j)→look (stL L i outs σ).res t=some x
 | [],_,_,j,y,h,_,_,_=>by simp at h
 | z::r,i,σ,0,y,h,hL,h1,hu=>by
  simp at h;subst h
  rw [stL,stL_res_base r (i+1) _ fun k u hk _ v hv e=>by have:=hu (k+1) u (by simpa using hk) ⟨v,hv,e⟩;omega]
  have hL':L i=true:=hL
  simp only [hL',cond_true,look_addsR,h1]
 | z::r,i,σ,j+1,y,h,hL,h1,hu=>by
  rw [stL]
  exact stL_res r (i+1) _ j y (by simpa using h) (by rw [show i+1+j=i+(j+1) by omega];exact hL) h1 fun k u hk e=>by have:=hu (k+1) u (by simpa using hk) e;omega
def memN:List Nat→Nat→Bool
 | [],_=>false
 | i::l,j=>bif Nat.beq i j then true else memN l j
theorem memN_iff:∀ {l:List Nat} {j:Nat},memN l j=true↔j∈l
 | [],j=>by simp [memN]
 | i::l,j=>by
  rw [memN]
  by_cases e:i=j
  · subst e;simp [Nat.beq_refl]
  have:Nat.beq i j=false:=by
   cases hb:Nat.beq i j with
   | false=>rfl
   | true=>exact absurd (Nat.eq_of_beq_eq_true hb) e
  simp only [this,cond_false,memN_iff,List.mem_cons]
  exact⟨.inr,fun h=>h.resolve_left fun h=>e h.symm⟩
def delS (ds:List Nat):List (Nat×(Bool×S))→List (Nat×(Bool×S))
 | []=>[]
 | x::l=>bif memN ds x.1 then delS ds l else x::delS ds l
theorem look_delS (ds:List Nat):∀ (l:List (Nat×(Bool×S))) (t:Nat),look (delS ds l) t=if t∈ds then none else look l t
 | [],t=>by simp [delS,look]
 | (i,x)::l,t=>by
  rw [delS]
  cases hm:memN ds i with
  | true=>
   simp only [cond_true,look_delS ds l t,look_cons]
   by_cases e:i=t
   · subst e;rw [if_pos (memN_iff.1 hm),if_pos (memN_iff.1 hm)]
   rw [if_neg e]
  | false=>
   simp only [cond_false,look_cons,look_delS ds l t]
   by_cases e:i=t
   · subst e
     have:i∉ds:=fun h=>by rw [memN_iff.2 h] at hm;cases hm
     rw [if_pos rfl,if_neg this,if_pos rfl]
   rw [if_neg e,if_neg e]
def Out.has (y:Out) (id:Nat):Bool:=y.2.1.2.has id||y.2.2.any (fun z=>Nat.beq z.1 id||z.2.has id)
def Steps (P:Program) (ops:Array Oper) (B:Nat→List Nat) (outs:List Out) (σ:St):Nat→List Oper→List Out→Prop
 | i,o::l,y::r=>Loc P ops o (stL (memN (B i)) 0 outs σ) y∧Steps P ops B outs σ (i+1) l r
 | _,_,_=>True
theorem Steps.at {P:Program} {ops:Array Oper} {B:Nat→List Nat} {outs:List Out} {σ:St}:∀ (l:List Oper) (r:List Out) (k:Nat),Steps P ops B outs σ k l r→∀ i o y,l[i]?=some o→r[i]?=some y→Loc P ops o (stL (memN (B (k+i))) 0 outs σ) y
 | [],r,k,h,i,o,y,hl,hr=>by simp at hl
 | o'::l,[],k,h,i,o,y,hl,hr=>by simp at hr
 | o'::l,y'::r,k,h,0,o,y,hl,hr=>by simp at hl hr;subst hl;subst hr;exact h.1
 | o'::l,y'::r,k,h,i+1,o,y,hl,hr=>by
  have:=Steps.at l r (k+1) h.2 i o y (by simpa using hl) (by simpa using hr)
  rwa [show k+1+i=k+(i+1) by omega] at this
def ordB (l:List Oper) (B:Nat→List Nat) (N:Nat):Bool:=(List.range N).all fun i=>match l[i]? with
 | some o=>(B i).all fun j=>(deps o).contains j||(B i).any fun m=>decide (j<m)&&decide (m<N)&&(match l[m]? with|some om=>(deps om).contains j|none=>false)
 | none=>false
def outB (B:Nat→List Nat) (σ:St) (outs:List Out):Bool:=
 (List.range outs.length).all fun i=>match outs[i]? with
  | some y=>(List.range outs.length).all (fun k=>match outs[k]? with|some z=>decide (k=i)||!(Nat.beq z.1 y.1)|none=>true)&&
   y.2.2.all fun u=>!σ.has u.1&&(List.range outs.length).all fun k=>decide (k=i)||(match outs[k]? with|some z=>(!(z.has u.1)||memN (B k) i)&&z.2.2.all (fun v=>!(Nat.beq v.1 u.1))|none=>true)
  | none=>true
theorem has_stL {L:Nat→Bool} {id:Nat}:∀ (outs:List Out) (i:Nat) (σ:St),σ.has id=false→(∀ (j:Nat) (y:Out),outs[j]?=some y→L (i+j)=true→Out.has y id=false)→(stL L i outs σ).has id=false
 | [],_,_,h,_=>h
 | y::r,i,σ,h,h'=>by
  rw [stL]
  refine has_stL r (i+1) _ ?_ fun j z hj hL=>h' (j+1) z (by simpa using hj) (by rw [show i+(j+1)=i+1+j by omega];exact hL)
  cases hL:L i with
  | false=>exact h
  | true=>
   have h1:=h' 0 y rfl hL
   simp only [Out.has,Bool.or_eq_false_iff,List.any_eq_false] at h1
   simp only [St.has,Bool.or_eq_false_iff,List.any_eq_false] at h ⊢
   refine⟨fun z hz=>?_,fun z hz=>?_⟩
   · rcases List.mem_cons.1 hz with rfl|hz
     · simpa using h1.1
     exact h.1 z hz
   have:z∈y.2.2.reverse++σ.res:=by
    have key:∀ (a b:List (Nat×R)),z∈addsR a b→z∈a.reverse++b:=by
     intro a
     induction a with
     | nil=>intro b h;exact List.mem_append.2 (.inr h)
     | cons c a ih=>intro b h;have:=ih _ h;simpa using this
    exact key _ _ hz
   rcases List.mem_append.1 this with hz|hz
   · have:=h1.2 z (by simpa using hz)
     simpa using this
   exact h.2 z hz
theorem Rel.of_look {w0:Base} {w:World} {a:Act} {σ σ':St} (h:Rel w0 σ a w) (hn:σ'.n=σ.n) (hs:∀ i x,look σ'.slots i=some x→look σ.slots i=some x) (hr:∀ i x,look σ'.res i=some x→look σ.res i=some x):Rel w0 σ' a w:=by
 obtain⟨I,h⟩:=h
 exact⟨I,h.ext,h.defers,h.size.trans hn.symm,fun i x hi=>h.slots _ _ (hs i x hi),fun i r hi=>h.res _ _ (hr i r hi),h.old,h.lt,fun i r hi=>h.own _ _ (hr i r hi),h.apart⟩
theorem beq_false {i j:Nat} (h:i≠j):Nat.beq i j=false:=by
 cases hb:Nat.beq i j with
 | false=>rfl
 | true=>exact absurd (Nat.eq_of_beq_eq_true hb) h
theorem look_none_of {α:Type}:∀ {l:List (Nat×α)} {t:Nat},(∀ x∈l,x.1≠t)→look l t=none
 | [],_,_=>rfl
 | (i,x)::l,t,h=>by rw [look_cons,if_neg (h (i,x) (by simp))];exact look_none_of fun y hy=>h y (by simp [hy])
theorem ordB_in {l:List Oper} {N:Nat} {B:Nat→List Nat} (hB:planC l.toArray N=true) (hO:ordB l B N=true) {listed:Array Bool} (inv:HeadInv .any l.toArray N listed) {i:Nat} {o:Oper} (hi:i<N) (ho:l[i]?=some o) (hd:∀ j∈deps o,listed.getD j false=true):∀ j∈B i,listed.getD j false=true:=by
 have hlN:N≤l.length:=by
  simp only [planC,Bool.and_eq_true,decide_eq_true_eq] at hB
  simpa using hB.1.1.1
 have inB:∀ (listed:Array Bool),HeadInv .any l.toArray N listed→∀ i o,i<N→l[i]?=some o→(∀ j∈deps o,listed.getD j false=true)→∀ j∈B i,listed.getD j false=true:=by
  intro listed inv i o hi ho hd
  have hOi:=List.all_eq_true.1 hO i (List.mem_range.2 hi)
  rw [ho] at hOi
  have hOi':=List.all_eq_true.1 hOi
  have key:∀ d j,N-j≤d→j∈B i→listed.getD j false=true:=by
   intro d
   induction d with
   | zero=>
    intro j hj hm
    have:=hOi' j hm
    simp only [Bool.or_eq_true,List.contains_iff_mem,List.any_eq_true,Bool.and_eq_true,decide_eq_true_eq] at this
    rcases this with h|⟨m,hmB,⟨h1,h2⟩,h3⟩
    · exact hd j h
    omega
   | succ d ih=>
    intro j hj hm
    have:=hOi' j hm
    simp only [Bool.or_eq_true,List.contains_iff_mem,List.any_eq_true,Bool.and_eq_true,decide_eq_true_eq] at this
    rcases this with h|⟨m,hmB,⟨h1,h2⟩,h3⟩
    · exact hd j h
    have hml:=ih m (by omega) hmB
    cases hom:l[m]? with
    | none=>rw [hom] at h3;cases h3
    | some om=>
     rw [hom] at h3
     simp only [List.contains_iff_mem] at h3
     obtain⟨e,he,hb,rfl⟩:=mem_deps.1 h3
     exact inv.closed m om (by simpa using hom) hml e he hb
  exact fun j hm=>key (N-j) j (Nat.le_refl _) hm
 exact inB listed inv i o hi ho hd
theorem draw_step {o:Oper} {n:Nat} {sl:List (Nat×(Bool×S))} {rs:List (Nat×R)} {l:List Oper} {N:Nat} {B:Nat→List Nat} {outs:List Out} (hB:planC l.toArray N=true) (hO:ordB l B N=true) (hl:outs.length=N) (hU:outB B ⟨n,sl,rs⟩ outs=true)
 {listed:Array Bool} {i:Nat} {y:Out} (inv:HeadInv .any l.toArray N listed) (hi:i<N) (ho':l[i]?=some o) (hd:∀ j∈deps o,listed.getD j false=true) (hu:listed.getD i false=false) (hy:outs[i]?=some y) :
 Sup (stL (memN (B i)) 0 outs ⟨n,delS (outs.map (·.1)) sl,rs⟩) (stL (fun j=>listed.getD j false) 0 outs ⟨n,sl,rs⟩)∧(∀ u∈y.2.2,(stL (fun j=>listed.getD j false) 0 outs ⟨n,sl,rs⟩).has u.1=false)∧(∀ j∈B i,listed.getD j false=true)∧
 ∀ w0 a' w',Rel w0 ⟨(stL (fun j=>listed.getD j false) 0 outs ⟨n,sl,rs⟩).n,(y.1,y.2.1)::(stL (fun j=>listed.getD j false) 0 outs ⟨n,sl,rs⟩).slots,addsR y.2.2 (stL (fun j=>listed.getD j false) 0 outs ⟨n,sl,rs⟩).res⟩ a' w'→Rel w0 (stL (fun j=>(listed.setIfInBounds i true).getD j false) 0 outs ⟨n,sl,rs⟩) a' w':=by
 have hU':=List.all_eq_true.1 hU
 have dsl:∀ (i:Nat) (y:Out),outs[i]?=some y→∀ (k:Nat) (z:Out),outs[k]?=some z→z.1=y.1→k=i:=by
  intro i y hi k z hk e
  have:=hU' i (List.mem_range.2 (List.getElem?_eq_some_iff.1 hi).1)
  rw [hi] at this
  simp only [Bool.and_eq_true] at this
  have:=List.all_eq_true.1 this.1 k (List.mem_range.2 (List.getElem?_eq_some_iff.1 hk).1)
  rw [hk] at this
  simp only [Bool.or_eq_true,decide_eq_true_eq,Bool.not_eq_true'] at this
  rcases this with h|h
  · exact h
  rw [e,Nat.beq_refl] at h;cases h
 have ids:∀ (i:Nat) (y:Out),outs[i]?=some y→∀ u∈y.2.2,St.has ⟨n,sl,rs⟩ u.1=false∧∀ (k:Nat) (z:Out),outs[k]?=some z→k=i∨((Out.has z u.1=true→i∈B k)∧∀ v∈z.2.2,v.1≠u.1):=by
  intro i y hi u hu
  have:=hU' i (List.mem_range.2 (List.getElem?_eq_some_iff.1 hi).1)
  rw [hi] at this
  simp only [Bool.and_eq_true] at this
  have:=List.all_eq_true.1 this.2 u hu
  simp only [Bool.and_eq_true,Bool.not_eq_true'] at this
  refine⟨this.1,fun k z hk=>?_⟩
  have:=List.all_eq_true.1 this.2 k (List.mem_range.2 (List.getElem?_eq_some_iff.1 hk).1)
  rw [hk] at this
  simp only [Bool.or_eq_true,decide_eq_true_eq,Bool.and_eq_true,Bool.not_eq_true',List.all_eq_true] at this
  rcases this with h|⟨h1,h2⟩
  · exact .inl h
  refine .inr ⟨fun hz=>?_,fun v hv=>beq_ne (h2 v hv)⟩
  rcases h1 with h1|h1
  · rw [hz] at h1;cases h1
  exact memN_iff.1 h1
 have hlN:N≤l.length:=by
  have hB':=hB
  simp only [planC,Bool.and_eq_true,decide_eq_true_eq] at hB'
  simpa using hB'.1.1.1
 have inB:=fun (listed:Array Bool) (inv:HeadInv .any l.toArray N listed) (i:Nat) (o:Oper) (hi:i<N) (ho:l[i]?=some o) (hd:∀ j∈deps o,listed.getD j false=true)=>ordB_in hB hO inv hi ho hd
 have hBL:=inB listed inv i o hi ho' hd
 have hsup:Sup (stL (memN (B i)) 0 outs ⟨n,delS (outs.map (·.1)) sl,rs⟩) (stL (fun j=>listed.getD j false) 0 outs ⟨n,sl,rs⟩):=by
  refine⟨by rw [stL_n,stL_n],fun t x hx=>?_,fun t x hx=>?_⟩
  · by_cases hex:∃ j z,outs[j]?=some z∧memN (B i) j=true∧z.1=t
    · obtain⟨j,z,hz,hj,rfl⟩:=hex
      have e:=stL_slot (L:=memN (B i)) (t:=z.1) outs 0 ⟨n,delS (outs.map (·.1)) sl,rs⟩ j z hz (by rw [Nat.zero_add];exact hj) rfl rfl (fun k u hk e=>dsl j z hz k u hk e)
      rw [hx] at e
      cases e
      exact stL_slot outs 0 _ j z hz (by rw [Nat.zero_add];exact hBL j (memN_iff.1 hj)) rfl rfl fun k u hk e=>dsl j z hz k u hk e
    rw [stL_slot_base outs 0 _ fun j z hz hj e=>hex ⟨j,z,hz,by rw [Nat.zero_add] at hj;exact hj,e⟩,look_delS] at hx
    split at hx
    · cases hx
    rename_i hnm
    rw [stL_slot_base outs 0 _ fun j z hz _ e=>hnm (List.mem_map.2 ⟨z,List.mem_of_getElem? hz,e⟩)]
    exact hx
  by_cases hex:∃ j z,outs[j]?=some z∧memN (B i) j=true∧∃ u∈z.2.2,u.1=t
  · obtain⟨j,z,hz,hj,u,hu,rfl⟩:=hex
    have uniq:∀ (k:Nat) (z':Out),outs[k]?=some z'→(∃ v∈z'.2.2,v.1=u.1)→k=j:=fun k z' hk ⟨v,hv,e⟩=>by
     rcases (ids j z hz u hu).2 k z' hk with h|⟨_,h⟩
     · exact h
     exact absurd e (h v hv)
    cases hlk:look z.2.2.reverse u.1 with
    | none=>
     exfalso
     have:∀ (m:List (Nat×R)),u∈m→look m u.1≠none:=by
      intro m
      induction m with
      | nil=>intro h;cases h
      | cons c m ih=>
       intro h
       obtain⟨ci,cx⟩:=c
       rw [look_cons]
       split
       · simp
       rename_i e
       rcases List.mem_cons.1 h with rfl|h
       · exact absurd rfl e
       exact ih h
     exact this _ (by simpa using hu) hlk
    | some x'=>
     have e:=stL_res (L:=memN (B i)) outs 0 ⟨n,delS (outs.map (·.1)) sl,rs⟩ j z hz (by rw [Nat.zero_add];exact hj) hlk uniq
     rw [hx] at e
     cases e
     exact stL_res outs 0 _ j z hz (by rw [Nat.zero_add];exact hBL j (memN_iff.1 hj)) hlk uniq
  rw [stL_res_base outs 0 _ fun j z hz hj u hu e=>hex ⟨j,z,hz,by rw [Nat.zero_add] at hj;exact hj,u,hu,e⟩] at hx
  rw [stL_res_base outs 0 _ fun j z hz _ u hu e=>?_]
  · exact hx
  have:=(ids j z hz u hu).1
  exact (St.has_res this (e▸hx)).1 rfl
 have hfresh:∀ u∈y.2.2,(stL (fun j=>listed.getD j false) 0 outs ⟨n,sl,rs⟩).has u.1=false:=by
  intro u hu';refine has_stL outs 0 _ (ids i y hy u hu').1 fun j z hz hL=>?_
  rw [Nat.zero_add] at hL
  cases hh:Out.has z u.1 with
  | false=>rfl
  | true=>
   rcases (ids i y hy u hu').2 j z hz with rfl|⟨h1,_⟩
   · rw [hu] at hL;cases hL
   exfalso
   have hib:=h1 hh
   have hjN:j<N:=by rw [←hl];exact (List.getElem?_eq_some_iff.1 hz).1
   have hoj:l[j]?=some (l[j]'(by omega)):=List.getElem?_eq_getElem _
   have:=inB listed inv j _ hjN hoj (fun k hk=>by
    obtain⟨e,he,hb,rfl⟩:=mem_deps.1 hk
    exact inv.closed j _ (by simp) hL e he hb) i hib
   rw [hu] at this;cases this
 refine⟨hsup,hfresh,hBL,fun w0 a' w' hr'=>?_⟩
 have hget:∀ j,(listed.setIfInBounds i true).getD j false=if j=i then true else listed.getD j false:=by
  intro j
  by_cases e:j=i
  · subst e
    have:j<listed.size:=by rw [inv.size];simp;omega
    simp [this]
  rw [if_neg e];exact getD_set_ne false (fun h=>e h.symm)
 refine Rel.of_look hr' (by rw [stL_n,stL_n]) (fun t x hx=>?_) (fun t x hx=>?_)
 · show look ((y.1,y.2.1)::_) t=some x
   rw [look_cons]
   by_cases e:y.1=t
   · rw [if_pos e]
     have:=stL_slot (L:=fun j=>(listed.setIfInBounds i true).getD j false) outs 0 ⟨n,sl,rs⟩ i y hy (by rw [Nat.zero_add];rw [hget,if_pos rfl]) e rfl fun k z hk e'=>dsl i y hy k z hk (e'.trans e.symm)
     rw [this] at hx;exact hx
   rw [if_neg e]
   by_cases hex:∃ j z,outs[j]?=some z∧listed.getD j false=true∧z.1=t
   · obtain⟨j,z,hz,hj,rfl⟩:=hex
     have e1:=stL_slot (L:=fun j=>(listed.setIfInBounds i true).getD j false) outs 0 ⟨n,sl,rs⟩ j z hz (by rw [Nat.zero_add,hget];split;rfl;exact hj) rfl rfl fun k u hk e=>dsl j z hz k u hk e
     rw [e1] at hx
     cases hx
     exact stL_slot outs 0 _ j z hz (by rw [Nat.zero_add];exact hj) rfl rfl fun k u hk e=>dsl j z hz k u hk e
   rw [stL_slot_base outs 0 _ fun j z hz hj e'=>hex ⟨j,z,hz,by rw [Nat.zero_add] at hj;exact hj,e'⟩]
   rw [stL_slot_base outs 0 _ fun j z hz hj e'=>?_] at hx
   · exact hx
   rw [Nat.zero_add,hget] at hj
   split at hj
   · rename_i e2;subst e2;rw [hy] at hz;cases hz;exact e e'
   exact hex ⟨j,z,hz,hj,e'⟩
 show look (addsR y.2.2 _) t=some x
 rw [look_addsR]
 by_cases hyt:∃ u∈y.2.2,u.1=t
 · obtain⟨u,hu',rfl⟩:=hyt
   have uniq:∀ (k:Nat) (z':Out),outs[k]?=some z'→(∃ v∈z'.2.2,v.1=u.1)→k=i:=fun k z' hk ⟨v,hv,e⟩=>by
    rcases (ids i y hy u hu').2 k z' hk with h|⟨_,h⟩
    · exact h
    exact absurd e (h v hv)
   cases hlk:look y.2.2.reverse u.1 with
   | none=>
    simp only
    rw [stL_res_base outs 0 _ fun j z hz hj v hv e'=>?_] at hx ⊢
    · exact hx
    all_goals
     have:=uniq j z hz ⟨v,hv,e'⟩
     subst this
     rw [hy] at hz;cases hz
     have hne:∀ (m:List (Nat×R)),v∈m→look m v.1≠none:=by
      intro m
      induction m with
      | nil=>intro h;cases h
      | cons c m ih=>
       intro h
       obtain⟨ci,cx⟩:=c
       rw [look_cons]
       split
       · simp
       rename_i e
       rcases List.mem_cons.1 h with rfl|h
       · exact absurd rfl e
       exact ih h
     exact hne _ (by simpa using hv) (e'▸hlk)
   | some x'=>
    have:=stL_res (L:=fun j=>(listed.setIfInBounds i true).getD j false) outs 0 ⟨n,sl,rs⟩ i y hy (by rw [Nat.zero_add];rw [hget,if_pos rfl]) hlk uniq
    rw [this] at hx
    exact hx
 have hnone:look y.2.2.reverse t=none:=look_none_of fun v hv e=>hyt ⟨v,by simpa using hv,e⟩
 rw [hnone]
 simp only
 by_cases hex:∃ j z,outs[j]?=some z∧listed.getD j false=true∧∃ u∈z.2.2,u.1=t
 · obtain⟨j,z,hz,hj,u,hu',rfl⟩:=hex
   have uniq:∀ (k:Nat) (z':Out),outs[k]?=some z'→(∃ v∈z'.2.2,v.1=u.1)→k=j:=fun k z' hk ⟨v,hv,e⟩=>by
    rcases (ids j z hz u hu').2 k z' hk with h|⟨_,h⟩
    · exact h
    exact absurd e (h v hv)
   cases hlk:look z.2.2.reverse u.1 with
   | none=>
    exfalso
    have hne:∀ (m:List (Nat×R)),u∈m→look m u.1≠none:=by
     intro m
     induction m with
     | nil=>intro h;cases h
     | cons c m ih=>
      intro h
      obtain⟨ci,cx⟩:=c
      rw [look_cons]
      split
      · simp
      rename_i e
      rcases List.mem_cons.1 h with rfl|h
      · exact absurd rfl e
      exact ih h
    exact hne _ (by simpa using hu') hlk
   | some x'=>
    have e1:=stL_res (L:=fun j=>(listed.setIfInBounds i true).getD j false) outs 0 ⟨n,sl,rs⟩ j z hz (by rw [Nat.zero_add,hget];split;rfl;exact hj) hlk uniq
    rw [e1] at hx
    cases hx
    exact stL_res outs 0 _ j z hz (by rw [Nat.zero_add];exact hj) hlk uniq
 rw [stL_res_base outs 0 _ fun j z hz hj u hu' e'=>hex ⟨j,z,hz,by rw [Nat.zero_add] at hj;exact hj,u,hu',e'⟩]
 rw [stL_res_base outs 0 _ fun j z hz hj u hu' e'=>?_] at hx
 · exact hx
 rw [Nat.zero_add,hget] at hj
 split at hj
 · rename_i e2;subst e2;rw [hy] at hz;cases hz;exact hyt ⟨u,hu',e'⟩
 exact hex ⟨j,z,hz,hj,u,hu',e'⟩
theorem AW.draw {P:Program} {w0:Base} {Q:Exit→St→Prop} {n:Nat} {sl:List (Nat×(Bool×S))} {rs:List (Nat×R)} {id:Nat} {l:List Oper} (N:Nat) (B:Nat→List Nat) (outs:List Out) (hm:P.follows .mixedOrders=true) (hB:planC l.toArray N=true) (hO:ordB l B N=true) (hl:outs.length=N)
 (hsteps:Steps P l.toArray B outs ⟨n,delS (outs.map (·.1)) sl,rs⟩ 0 l outs) (hU:outB B ⟨n,sl,rs⟩ outs=true) (hfin:AWl P w0 l.toArray Q (l.drop N) (stL (fun _=>true) 0 outs ⟨n,sl,rs⟩)):AW P w0 (.region id l.toArray true) Q ⟨n,sl,rs⟩:=by
 intro a w hr;refine wp_region_any hm ?_
 have hlN:N≤l.length:=by
  have hB':=hB
  simp only [planC,Bool.and_eq_true,decide_eq_true_eq] at hB'
  simpa using hB'.1.1.1
 have H:=wpAny_inv (P:=P) (Q:=lift w0 Q) (J:=fun listed a w=>Rel w0 (stL (fun j=>listed.getD j false) 0 outs ⟨n,sl,rs⟩) a w) hB (fun i o hi ho listed a w inv hd hu hJ=>?_) (fun listed a w hall hJ=>?_)
  (unl N (Array.replicate l.toArray.size false)) (Array.replicate l.toArray.size false) a { w with drawn:=w.drawn+1 } rfl
  ⟨by simp,fun j oj _ hl=>(by rw [getD_replicate_false] at hl;cases hl),fun t _ ht=>getD_in (by simpa using ht) (getD_replicate_false _ _)⟩ ?_
 · have hu:unl N (Array.replicate l.toArray.size false)=N:=by
    unfold unl
    rw [List.countP_eq_length.2 (fun j _=>by rw [getD_replicate_false];rfl),List.length_range]
   rw [hu,show N+(l.toArray.size-N)=l.toArray.size by simp;omega] at H
   exact H
 · -- one step
   have ho':l[i]?=some o:=by simpa using ho
   obtain⟨y,hy⟩:∃ y,outs[i]?=some y:=⟨outs[i]'(by omega),List.getElem?_eq_getElem _⟩
   have hloc:=Steps.at l outs 0 hsteps i o y ho' hy
   rw [Nat.zero_add] at hloc
   obtain⟨s1,s2,_,s4⟩:=draw_step hB hO hl hU inv hi ho' hd hu hy
   intro K Q' hK;exact hloc _ s1 s2 w0 a w hJ K Q' fun a' w' hr'=>hK a' w' (s4 w0 a' w' hr')
 · -- the end
   have e:stL (fun j=>listed.getD j false) 0 outs ⟨n,sl,rs⟩=stL (fun _=>true) 0 outs ⟨n,sl,rs⟩:=by
    have key:∀ (os:List Out) (i:Nat) (σ:St),(∀ j,j<os.length→listed.getD (i+j) false=true)→stL (fun j=>listed.getD j false) i os σ=stL (fun _=>true) i os σ:=by
     intro os
     induction os with
     | nil=>intro i σ _;rfl
     | cons y os ih=>
      intro i σ h
      rw [stL,stL]
      have h0:=h 0 (by simp)
      rw [Nat.add_zero] at h0
      simp only [h0,cond_true]
      exact ih (i+1) _ fun j hj=>by rw [show i+1+j=i+(j+1) by omega];exact h (j+1) (by simp;omega)
    exact key outs 0 _ fun j hj=>by rw [Nat.zero_add];exact hall j (by omega)
   rw [e] at hJ
   exact hfin a w hJ
 have e:stL (fun j=>(Array.replicate l.toArray.size false).getD j false) 0 outs ⟨n,sl,rs⟩=⟨n,sl,rs⟩:=by
  have key:∀ (os:List Out) (i:Nat) (σ:St),stL (fun j=>(Array.replicate l.toArray.size false).getD j false) i os σ=σ:=by
   intro os
   induction os with
   | nil=>intro i σ;rfl
   | cons y os ih=>
    intro i σ
    rw [stL,getD_replicate_false]
    exact ih (i+1) σ
  exact key outs 0 _
 show Rel w0 (stL (fun j=>(Array.replicate l.toArray.size false).getD j false) 0 outs ⟨n,sl,rs⟩) a _
 rw [e]
 obtain⟨I,hI⟩:=hr
 exact⟨I,hI.later (Ext.refl w).drawn⟩
end Go.Q
