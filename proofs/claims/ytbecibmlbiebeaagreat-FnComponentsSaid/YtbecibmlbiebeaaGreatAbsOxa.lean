import Derived.Test.YtbecibmlbiebeaaGreatAbsJxa
import Derived.Test.YtbecibmlbiebeaaGreatB19xa
import Derived.Test.YtbecibmlbiebeaaGreatB14xa
import Derived.Test.YtbecibmlbiebeaaGreatB31xa
import Derived.Laws.Cover3
set_option linter.unusedVariables false
set_option linter.unusedSimpArgs false
namespace Go.Q
open Go.RowKit
section
variable {P:Program} {ops:Array Oper} {o:Oper} {σ:St} {q:Bool}
structure Eff where
 d:Nat
 x:Bool×S
 o:Option (Nat×R)
 ch:Bool
 ad:List (Nat×R)
def Eff.run (y:Eff) (σ:St):St:=match y.o with
 | some (id,r)=>bif y.ch then ⟨σ.n,(y.d,y.x)::(σ.pur id).slots,(id,r)::(σ.pur id).res⟩ else ⟨σ.n,(y.d,y.x)::σ.slots,(id,r)::σ.res⟩
 | none=>⟨σ.n,(y.d,y.x)::σ.slots,addsR y.ad σ.res⟩
def Eff.has (y:Eff) (id:Nat):Bool:=y.x.2.has id||match y.o with|some (j,r)=>Nat.beq j id||r.has id|none=>y.ad.any fun z=>Nat.beq z.1 id||z.2.has id
def LocK (P:Program) (ops:Array Oper) (o:Oper) (σ:St) (y:Eff):Prop:=∀ σ',Sup σ σ'→(∀ id r,y.o=some (id,r)→y.ch=false→σ'.has id=false)→(y.o=none→∀ z∈y.ad,σ'.has z.1=false)→Op1 P ops o σ' (y.run σ')
theorem Op1.look {σ' σ2:St} (h:Op1 P ops o σ σ') (hn:σ2.n=σ'.n) (hs:∀ i x,look σ2.slots i=some x→look σ'.slots i=some x) (hr:∀ i x,look σ2.res i=some x→look σ'.res i=some x):Op1 P ops o σ σ2:=fun w0 a w hr0 K Q hK=>
 h w0 a w hr0 K Q fun a' w' h'=>hK a' w' (Rel.of_look h' hn hs hr)
theorem LocK.of {d:Nat} {x:Bool×S} (hd:o.dst=some d) (h:∀ σ',Sup σ σ'→Op1 P ops o σ' (σ'.put o.dst x)):LocK P ops o σ ⟨d,x,none,false,[]⟩:=fun σ' hs _ _=>by
 have:=h σ' hs
 rw [hd] at this
 exact this
theorem LocK.of1 {d id:Nat} {r:R} {x:Bool×S} (hd:o.dst=some d) (h:∀ σ',Sup σ σ'→σ'.has id=false→Op1 P ops o σ' ((σ'.add id r).put o.dst x)):LocK P ops o σ ⟨d,x,some (id,r),false,[]⟩:=fun σ' hs hf _=>by
 have:=h σ' hs (hf id r rfl rfl)
 rw [hd] at this
 exact this
theorem LocK.ofs {d:Nat} {rl:List (Nat×R)} {x:Bool×S} (hd:o.dst=some d) (h:∀ σ',Sup σ σ'→(∀ z∈rl,σ'.has z.1=false)→Op1 P ops o σ' ((σ'.adds rl).put o.dst x)):LocK P ops o σ ⟨d,x,none,false,rl⟩:=fun σ' hs _ hf=>by
 have:=h σ' hs (hf rfl)
 rw [hd,adds_eq] at this
 exact this
inductive Vd (B:Nat→List Nat) (N:Nat):List Nat→Prop where
 | nil:Vd B N []
 | cons {i:Nat} {π:List Nat} (h:Vd B N π) (hB:∀ j∈B i,j∈π) (hi:i∉π) (hN:i<N):Vd B N (i::π)
theorem Vd.closed {B:Nat→List Nat} {N:Nat} {π:List Nat} (h:Vd B N π):∀ b∈π,∀ j∈B b,j∈π:=by
 induction h with
 | nil=>intro b hb;cases hb
 | cons h hB hi hN ih=>
  intro b hb j hj
  rcases List.mem_cons.1 hb with rfl|hb
  · exact List.mem_cons_of_mem _ (hB j hj)
  · exact List.mem_cons_of_mem _ (ih b hb j hj)
def chs:Nat→List Eff→List (Nat×Nat)
 | _,[]=>[]
 | k,y::r=>match y.o with
  | some (id,_)=>bif y.ch then (k,id)::chs (k+1) r else chs (k+1) r
  | none=>chs (k+1) r
section
variable {ys:List Eff} {B:Nat→List Nat} {N:Nat}
end
def chOk (B:Nat→List Nat) (C:List (Nat×Nat)) (b:Option Nat) (i:Nat) (h:Nat→Bool):Bool:=C.all fun c=>!(h c.2)||(Nat.beq c.1 i||memN (B c.1) i)||(match b with|some b=>Nat.beq c.1 b||memN (B b) c.1|none=>false)
def knw (B:Nat→List Nat) (C:List (Nat×Nat)) (M:Nat→Bool) (i:Nat):Nat→List Eff→St→St
 | k,y::r,σ=>let σ':=knw B C M i (k-1) r σ
  bif M (k-1) then ⟨σ'.n,bif chOk B C (some (k-1)) i (fun j=>y.x.2.has j) then (y.d,y.x)::σ'.slots else σ'.slots,match y.o with|some (id,r)=>bif chOk B C (some (k-1)) i (fun j=>Nat.beq id j||r.has j) then (id,r)::σ'.res else σ'.res|none=>addsR (y.ad.filter fun z=>chOk B C (some (k-1)) i fun j=>Nat.beq z.1 j||z.2.has j) σ'.res⟩ else σ'
 | _,[],σ=>⟨σ.n,σ.slots.filter fun x=>chOk B C none i fun j=>x.2.2.has j,σ.res.filter fun x=>chOk B C none i fun j=>Nat.beq x.1 j||x.2.has j⟩
section
variable {B:Nat→List Nat} {C:List (Nat×Nat)} {M:Nat→Bool} {N:Nat}
def effB (B:Nat→List Nat) (N:Nat) (σ:St) (ys:List Eff):Bool:=
 ys.all (fun y=>(look σ.slots y.d).isNone)&&disN (ys.map (·.d))&&disN (σ.slots.map (·.1))&&disN (σ.res.map (·.1))&&((List.range N).all fun j=>!(memN (B j) N))&&
 (List.range ys.length).all fun i=>match ys[i]? with
  | some ⟨_,_,some (id,_),false,_⟩=>!σ.has id&&(List.range ys.length).all fun b=>Nat.beq b i||(match ys[b]? with|some z=>!(z.has id)||memN (B b) i|none=>true)
  | some ⟨_,_,none,_,ad⟩=>disN (ad.map (·.1))&&ad.all fun v=>!σ.has v.1&&(List.range ys.length).all fun b=>Nat.beq b i||(match ys[b]? with|some z=>!(z.has v.1)||memN (B b) i|none=>true)
  | _=>true
end
def StepsK (P:Program) (ops:Array Oper) (B:Nat→List Nat) (C:List (Nat×Nat)) (ys:List Eff) (σ:St):Nat→List Oper→List Eff→Prop
 | i,o::l,y::r=>LocK P ops o (knw B C (memN (B i)) i i (ys.take i).reverse σ) y∧StepsK P ops B C ys σ (i+1) l r
 | _,_,_=>True
theorem StepsK.at {ops:Array Oper} {B:Nat→List Nat} {C:List (Nat×Nat)} {ys:List Eff} {σ:St}:∀ (l:List Oper) (r:List Eff) (k:Nat),StepsK P ops B C ys σ k l r→∀ i o y,l[i]?=some o→r[i]?=some y→LocK P ops o (knw B C (memN (B (k+i))) (k+i) (k+i) (ys.take (k+i)).reverse σ) y
 | [],r,k,h,i,o,y,hl,hr=>by simp at hl
 | o'::l,[],k,h,i,o,y,hl,hr=>by simp at hr
 | o'::l,y'::r,k,h,0,o,y,hl,hr=>by simp at hl hr;subst hl;subst hr;exact h.1
 | o'::l,y'::r,k,h,i+1,o,y,hl,hr=>by
  have:=StepsK.at l r (k+1) h.2 i o y (by simpa using hl) (by simpa using hr)
  rwa [show k+1+i=k+(i+1) by omega] at this
structure DrawK (P:Program) (w0:Base) (Q:Exit→St→Prop) (N:Nat) (B:Nat→List Nat) (C:List (Nat×Nat)) (l:List Oper) (n:Nat) (sl:List (Nat×(Bool×S))) (rs:List (Nat×R)) (acc:List Eff) (k:Nat) (rest:List Oper):Prop where
 pf:acc.length=k→rest=l.drop k→∃ more:List Eff,(acc.reverse++more).length=N∧
  StepsK P l.toArray B C (acc.reverse++more) ⟨n,sl,rs⟩ k rest more∧effB B N ⟨n,sl,rs⟩ (acc.reverse++more)=true∧chs 0 (acc.reverse++more)=C∧
  AWl P w0 l.toArray Q (l.drop N) (knw B C (fun _=>true) N N (acc.reverse++more).reverse ⟨n,sl,rs⟩)
variable {w0:Base} {Q:Exit→St→Prop} {N:Nat} {B:Nat→List Nat} {C:List (Nat×Nat)} {l:List Oper} {n:Nat} {sl:List (Nat×(Bool×S))} {rs:List (Nat×R)} {acc:List Eff} {k:Nat} {rest:List Oper}
theorem DrawK.step {y:Eff} (hl:LocK P l.toArray o (knw B C (memN (B k)) k k acc ⟨n,sl,rs⟩) y) (h:DrawK P w0 Q N B C l n sl rs (y::acc) (k+1) rest):DrawK P w0 Q N B C l n sl rs acc k (o::rest):=⟨fun ha hr=>by
 have hd:rest=l.drop (k+1):=by
  have:=congrArg (List.drop 1) hr
  simpa using this
 obtain⟨more,h1,h2,h3,h4,h5⟩:=h.pf (by simp [ha]) hd
 have e:(y::acc).reverse++more=acc.reverse++(y::more):=by simp
 rw [e] at h1 h2 h3 h4 h5
 refine⟨y::more,h1,⟨?_,h2⟩,h3,h4,h5⟩
 have:((acc.reverse++(y::more)).take k).reverse=acc:=by
  rw [List.take_append_of_le_length (by simp [ha]),List.take_of_length_le (by simp [ha]),List.reverse_reverse]
 rw [this]
 exact hl⟩
theorem DrawK.fin (hk:Nat.beq k N=true) (hU:effB B N ⟨n,sl,rs⟩ acc.reverse=true) (hC:chs 0 acc.reverse=C) (h:AWl P w0 l.toArray Q rest (knw B C (fun _=>true) N k acc ⟨n,sl,rs⟩)):DrawK P w0 Q N B C l n sl rs acc k rest:=⟨fun ha hr=>by
 have hk':=Nat.eq_of_beq_eq_true hk
 subst hk'
 refine⟨[],by simp [ha],by unfold StepsK;split<;>first|trivial|(rename_i h;cases h),by rw [List.append_nil];exact hU,by rw [List.append_nil];exact hC,?_⟩
 rw [List.append_nil,List.reverse_reverse,←hr]
 exact h⟩
end
end Go.Q
namespace Go.Q
open Go.RowKit
section
variable {P:Program}
theorem Op1.le {ops:Array Oper} {o:Oper} {σ σ' σ2:St} (h:Op1 P ops o σ σ2) (hs:Sup σ' σ2):Op1 P ops o σ σ':=fun w0 a w hr K Q' hK=>h w0 a w hr K Q' fun a' w' hr'=>hK a' w' (Rel.of_look hr' hs.n.symm (fun t x h=>hs.slots t x h) (fun t x h=>hs.res t x h))
def FinS (P:Program) (w0:Base) (Q:Exit→St→Prop) (M e:Nat) (B:Nat→List Nat) (l:List Oper) (n:Nat) (sl:List (Nat×(Bool×S))) (rs:List (Nat×R)) (outs:List Out):Prop:=
 delS (outs.map (·.1)) sl=sl∧outB B ⟨n,sl,rs⟩ outs=true∧∃ σA σ1 σF,(∀ o,l[M]?=some o→Op1 P l.toArray o (stL (fun _=>true) 0 outs ⟨n,sl,rs⟩) σA)∧(∀ o,l[M]?=some o→Op1 P l.toArray o (stL (fun j=>!(Nat.beq j e)) 0 outs ⟨n,sl,rs⟩) σ1)∧
 (∀ o,l[e]?=some o→Op1 P l.toArray o σ1 σF)∧Sup σF σA∧AWl P w0 l.toArray Q (l.drop (M+1)) σF
theorem FinS.mk {w0:Base} {Q:Exit→St→Prop} {M e:Nat} {B:Nat→List Nat} {l:List Oper} {n:Nat} {sl:List (Nat×(Bool×S))} {rs:List (Nat×R)} {outs:List Out} {oM oE:Oper} {σA σ1 σE:St} (σF:St) (hd:delS (outs.map (·.1)) sl=sl) (hU:outB B ⟨n,sl,rs⟩ outs=true) (hM:l[M]?=some oM) (hE:l[e]?=some oE)
 (hA:Op1 P l.toArray oM (stL (fun _=>true) 0 outs ⟨n,sl,rs⟩) σA) (h1:Op1 P l.toArray oM (stL (fun j=>!(Nat.beq j e)) 0 outs ⟨n,sl,rs⟩) σ1) (hEE:Op1 P l.toArray oE σ1 σE) (hF:Sup σF σA) (hF2:Sup σF σE) (hfin:AWl P w0 l.toArray Q (l.drop (M+1)) σF):FinS P w0 Q M e B l n sl rs outs:=
 ⟨hd,hU,σA,σ1,σF,fun o h=>by rw [hM] at h;cases h;exact hA,fun o h=>by rw [hM] at h;cases h;exact h1,fun o h=>by rw [hE] at h;cases h;exact hEE.le hF2,hF,hfin⟩
end
end Go.Q
namespace Go.Q
open Go.RowKit
section
variable {P:Program}
def EndQ (σt:St):Exit→St→Prop
 | .normal,σ=>Le σ σt
 | _,_=>False
theorem EndQ.run {ops:Array Oper} {o:Oper} {σ σt:St} (h:∀ w0,AWl P w0 ops (EndQ σt) [o] σ) {w0:Base} {a:Act} {w:World} (hr:Rel w0 σ a w) (K:Act→World→Prop) (Q:Exit→Act→World→Prop) (hK:∀ a' w',Rel w0 σt a' w'→K a' w') :
 if Region.wanted o (yielded ops a.tmps) then o.wp P a w K Q else K (a.put o.dst undef) w:=by
 have h1:=h w0 a w hr
 unfold wpList at h1
 have hN:∀ a' w',wpList P ops (lift w0 (EndQ σt)) [] a' w'→K a' w':=fun a' w' h=>by
  obtain⟨σ',h2,h3⟩:=h
  exact hK a' w' (h2 w0 a' w' h3)
 have hF:∀ e a' w',e≠Exit.normal→lift w0 (EndQ σt) e a' w'→False:=fun e a' w' he h=>by
  obtain⟨σ',h2,h3⟩:=h
  cases e<;>first|exact he rfl|exact h2
 have hL:LetsOut (lift w0 (EndQ σt))→False:=fun ⟨a',w',h⟩=>hF _ a' w' (by simp) h
 split
 · rename_i hw
   rw [if_pos hw] at h1
   rcases h1 with h1|⟨_,h1⟩
   · unfold Oper.wp at *
     generalize (execOp a.eval o).run P w=r at *
     cases r with
     | ok n w'=>
      cases n<;>simp only [Oper.upon] at h1 ⊢<;>
       first
        | exact hN _ _ h1
        | exact Calls.mono h1 (fun e w'' he=>by cases e<;>first|exact hN _ _ he|exact (hL he).elim|exact (hF _ _ _ (by simp) he).elim)
        | exact Rows.mono h1 (fun _ _ he=>hN _ _ he)
     | halt x w'=>cases x<;>simp only [Oper.upon] at h1 ⊢<;>first|exact h1.elim|exact (hF _ _ _ (by simp) h1).elim
   · exact (hL h1).elim
 · rename_i hw
   rw [if_neg hw] at h1
   exact hN _ _ h1
def dagB (l:List Oper) (N:Nat) (ms:List (List Nat)) (es:List (Nat×Nat×Nat)) (k:Nat):Bool:=
 (List.range ms.length).all (fun a=>match ms[a]? with
  | none=>false
  | some m=>((List.range N).all (fun i=>memN m i||(match l[i]? with
   | none=>false
   | some o=>!((deps o).all (memN m))||es.any (fun e=>Nat.beq e.1 a&&Nat.beq e.2.1 i&&(match ms[e.2.2]? with
    | none=>false
    | some m'=>(List.range N).all fun j=>memN m' j == (Nat.beq j i||memN m j))))))&&
   (Nat.beq a k||(List.range N).any (fun i=>!(memN m i))))&&
 (match ms with|[]::_=>true|_=>false)
theorem AW.dag {w0:Base} {Q:Exit→St→Prop} {σ:St} {id:Nat} {l:List Oper} (N k:Nat) (ms:List (List Nat)) (es:List (Nat×Nat×Nat)) (st:Nat→St) (hm:P.follows .mixedOrders=true) (hB:planC l.toArray N=true) (hP:dagB l N ms es k=true)
 (hes:∀ e∈es,∀ o,l[e.2.1]?=some o→∀ w0,AWl P w0 l.toArray (EndQ (st e.2.2)) [o] (st e.1)) (hσ:Le σ (st 0)) (hfin:AWl P w0 l.toArray Q (l.drop N) (st k)):AW P w0 (.region id l.toArray true) Q σ:=by
 intro a w hr;refine wp_region_any hm ?_
 simp only [dagB,Bool.and_eq_true] at hP
 obtain⟨hP,hms⟩:=hP
 have hms0:ms[0]?=some []:=by
  match ms,hms with
  | []::_,_=>rfl
 have hlN:N≤l.length:=by
  have hB':=hB
  simp only [planC,Bool.and_eq_true,decide_eq_true_eq] at hB'
  simpa using hB'.1.1.1
 have hdep:∀ i o,i<N→l[i]?=some o→∀ j∈deps o,j<N:=fun i o hi ho j hj=>by
  have hB':=hB
  simp only [planC,Bool.and_eq_true,decide_eq_true_eq] at hB'
  have:=List.all_eq_true.1 hB'.1.1.2 i (List.mem_range.2 hi)
  have ho':l.toArray[i]?=some o:=by simpa using ho
  rw [ho'] at this
  have:=List.all_eq_true.1 this j hj
  simp only [decide_eq_true_eq] at this
  omega
 have hat:∀ (b:Nat) (m:List Nat),ms[b]?=some m→((∀ i,i<N→memN m i=false→∀ o,l[i]?=some o→(∀ j∈deps o,memN m j=true)→∃ e∈es,e.1=b∧e.2.1=i∧∃ m',ms[e.2.2]?=some m'∧∀ j,j<N→memN m' j=(Nat.beq j i||memN m j))∧((∀ i,i<N→memN m i=true)→b=k)):=by
  intro b m hb
  have:=List.all_eq_true.1 hP b (List.mem_range.2 (List.getElem?_eq_some_iff.1 hb).1)
  rw [hb] at this
  simp only [Bool.and_eq_true] at this
  refine⟨fun i hi hu o ho hd=>?_,fun hall=>?_⟩
  · have:=List.all_eq_true.1 this.1 i (List.mem_range.2 hi)
    rw [hu,Bool.false_or,ho] at this
    simp only [Bool.or_eq_true,Bool.not_eq_true'] at this
    rcases this with h|h
    · rw [List.all_eq_true.2 hd] at h;cases h
    · obtain⟨e,he,h⟩:=List.any_eq_true.1 h
      simp only [Bool.and_eq_true] at h
      obtain⟨⟨h1,h2⟩,h3⟩:=h
      refine⟨e,he,Nat.eq_of_beq_eq_true h1,Nat.eq_of_beq_eq_true h2,?_⟩
      split at h3
      · cases h3
      · rename_i m' hm'
        exact⟨m',hm',fun j hj=>by simpa using List.all_eq_true.1 h3 j (List.mem_range.2 hj)⟩
  · have h2:=this.2
    simp only [Bool.or_eq_true] at h2
    rcases h2 with h|h
    · exact Nat.eq_of_beq_eq_true h
    · obtain⟨i,hi,h⟩:=List.any_eq_true.1 h
      rw [hall i (List.mem_range.1 hi)] at h;cases h
 have H:=wpAny_inv (P:=P) (Q:=lift w0 Q) (J:=fun listed a w=>∃ b m,ms[b]?=some m∧(∀ j,j<N→memN m j=listed.getD j false)∧Rel w0 (st b) a w) hB (fun i o hi ho listed a w inv hd hu hJ=>?_) (fun listed a w hall hJ=>?_)
  (unl N (Array.replicate l.toArray.size false)) (Array.replicate l.toArray.size false) a { w with drawn:=w.drawn+1 } rfl
  ⟨by simp,fun j oj _ hl=>(by rw [getD_replicate_false] at hl;cases hl),fun t _ ht=>getD_in (by simpa using ht) (getD_replicate_false _ _)⟩ ?_
 · have hu:unl N (Array.replicate l.toArray.size false)=N:=by
    unfold unl
    rw [List.countP_eq_length.2 (fun j _=>by rw [getD_replicate_false];rfl),List.length_range]
   rw [hu,show N+(l.toArray.size-N)=l.toArray.size by simp;omega] at H
   exact H
 · obtain⟨b,m,hb,hmj,hr⟩:=hJ
   have ho0:l[i]?=some o:=by simpa using ho
   obtain⟨e,he,rfl,rfl,m',hm',hj'⟩:=(hat b m hb).1 i hi (by rw [hmj i hi];exact hu) o ho0 fun j hj=>by rw [hmj j (hdep i o hi ho0 j hj)];exact hd j hj
   intro K Q' hK;refine EndQ.run (hes e he o ho0) hr K Q' fun a' w' hr'=>hK a' w' ⟨e.2.2,m',hm',fun j hj=>?_,hr'⟩
   rw [hj' j hj,hmj j hj]
   by_cases ej:j=e.2.1
   · subst ej
     have:e.2.1<listed.size:=by rw [inv.size];simp;omega
     simp [this,Nat.beq_refl]
   · rw [beq_false ej,Bool.false_or,getD_set_ne false (fun h=>ej h.symm)]
 · obtain⟨b,m,hb,hmj,hr⟩:=hJ
   have:=(hat b m hb).2 fun i hi=>by rw [hmj i hi];exact hall i hi
   subst this;exact hfin a w hr
 · refine⟨0,[],hms0,fun j _=>by rw [getD_replicate_false];rfl,?_⟩
   obtain⟨I,hI⟩:=hσ w0 a w hr
   exact⟨I,hI.later (Ext.refl w).drawn⟩
structure Dag (P:Program) (l:List Oper) (acc:List (Nat×St)) (es:List (Nat×Nat×Nat)) (Fin:(Nat→St)→Prop):Prop where
 pf:∃ st:Nat→St,(∀ k σ,look acc k=some σ→st k=σ)∧(∀ e∈es,∀ o,l[e.2.1]?=some o→∀ w0,AWl P w0 l.toArray (EndQ (st e.2.2)) [o] (st e.1))∧Fin st
variable {l:List Oper} {acc:List (Nat×St)} {es:List (Nat×Nat×Nat)} {Fin:(Nat→St)→Prop}
theorem Bb {a i b:Nat} {σ σ':St} {o:Oper} (ha:look acc a=some σ) (ho:l[i]?=some o) (hb:look acc b=none) (hE:∀ w0,AWl P w0 l.toArray (EndQ σ') [o] σ) (h:Dag P l ((b,σ')::acc) es Fin):Dag P l acc ((a,i,b)::es) Fin:=by
 obtain⟨st,h1,h2,h3⟩:=h.pf
 have hne:b≠a:=fun e=>by subst e;rw [hb] at ha;cases ha
 have h1':∀ k σ,look acc k=some σ→st k=σ:=fun k σ hk=>h1 k σ (by
  rw [look_cons,if_neg (fun e=>?_)]
  · exact hk
  · subst e;rw [hb] at hk;cases hk)
 refine⟨st,h1',fun e he o' ho' w0=>?_,h3⟩
 rcases List.mem_cons.1 he with rfl|he
 · simp only at ho' ⊢
   rw [ho] at ho';cases ho'
   rw [h1' a σ ha,h1 b σ' (by rw [look_cons,if_pos rfl])]
   exact hE w0
 · exact h2 e he o' ho' w0
theorem Bc {a i b:Nat} {σ σ':St} {o:Oper} (ha:look acc a=some σ) (ho:l[i]?=some o) (hb:look acc b=some σ') (hE:∀ w0,AWl P w0 l.toArray (EndQ σ') [o] σ) (h:Dag P l acc es Fin):Dag P l acc ((a,i,b)::es) Fin:=by
 obtain⟨st,h1,h2,h3⟩:=h.pf
 refine⟨st,h1,fun e he o' ho' w0=>?_,h3⟩
 rcases List.mem_cons.1 he with rfl|he
 · simp only at ho' ⊢
   rw [ho] at ho';cases ho'
   rw [h1 a σ ha,h1 b σ' hb]
   exact hE w0
 · exact h2 e he o' ho' w0
theorem Dag.fin {w0:Base} {Q:Exit→St→Prop} {N k:Nat} {σ:St} (hk:look acc k=some σ) (h:AWl P w0 l.toArray Q (l.drop N) σ):Dag P l acc [] (fun st=>AWl P w0 l.toArray Q (l.drop N) (st k)):=
 ⟨fun i=>(look acc i).getD ⟨0,[],[]⟩,fun i σ' hi=>by simp [hi],fun e he=>(by cases he),by simpa [hk] using h⟩
theorem AW.dagn {w0:Base} {Q:Exit→St→Prop} {σ:St} {id:Nat} (N k:Nat) (ms:List (List Nat)) (es:List (Nat×Nat×Nat)) (hm:P.follows .mixedOrders=true) (hB:planC l.toArray N=true) (hP:dagB l N ms es k=true)
 (h:Dag P l [(0,σ)] es (fun st=>AWl P w0 l.toArray Q (l.drop N) (st k))):AW P w0 (.region id l.toArray true) Q σ:=by
 obtain⟨st,h1,h2,h3⟩:=h.pf
 exact AW.dag N k ms es st hm hB hP h2 (by rw [h1 0 σ U];exact Le.refl _) h3
end
end Go.Q
set_option maxHeartbeats 1000000
set_option maxRecDepth 100000
namespace Go.Q
open Go.D
end Go.Q
namespace Go.Proofs.YtbecibmlbiebeaaGreat
open Go.RowKit Go.Q Go.D
theorem implcopyInts (l:List Int) (hz:l.length≤1073741824):FnT Tryz.prog 216 [.one (.sl 1 (l.map cInt))] (.a (.one (.sl 1 (l.map cInt)))):=by
 refine Ba Tryz.func216 U (by kernel_rfl) Tryz.ntmps216 U fun hlen w0=>?_
 try simp at hlen
 refine Ah (Av ?_);refine Bw (i:=2) 20001 1 U U ?_;refine Aa (Ah (Bh (Cp 3 U U U Tryz.underlying40 ty3 U) U ?_));refine Ac ?_;refine Bk (Bt U U U (.tm U) U (.tm U) (by exact .t) (by exact isV_map (fun _=>rfl) _) Tryz.underlying40 in3 U (by (simp [chunk];omega)) (by (unfold maxLen;simp [chunk];omega))) U ?_;refine Bq (σ':=⟨_,[(0,_),(2,_),(5,_)],[(20001,_),(3,_)]⟩) Ai ?_;refine Ak ?_;refine Aa (A3 (Res.one U (.tmp U .nil) U ?_))
 rfl
end Go.Proofs.YtbecibmlbiebeaaGreat
set_option maxHeartbeats 1000000
set_option maxRecDepth 100000
namespace Go.Q
open Go.D
structure SO {α:Type} (lt:α→α→Bool):Prop where
 irr:∀ x,lt x x=false
 tra:∀ x y z,lt x y=true→lt y z=true→lt x z=true
 tri:∀ x y,lt x y=true∨x=y∨lt y x=true
def putG {α:Type} [DecidableEq α] (lt:α→α→Bool):List α→α→List α
 | [],p=>[p]
 | x::l,p=>if lt x p then x::putG lt l p else if x=p then x::l else p::x::l
def StrictS {α:Type} (lt:α→α→Bool) (l:List α):Prop:=l.Pairwise fun a b=>lt a b=true
section
variable {α:Type} {lt:α→α→Bool}
theorem strict_ext (ho:SO lt):∀ {l r:List α},StrictS lt l→StrictS lt r→(∀ x,x∈l↔x∈r)→l=r
 | [],[],_,_,_=>rfl
 | [],y::r,_,_,h=>by have:=(h y).2 (by simp);cases this
 | x::l,[],_,_,h=>by have:=(h x).1 (by simp);cases this
 | x::l,y::r,hl,hr,h=>by
  have hl':=List.pairwise_cons.1 hl
  have hr':=List.pairwise_cons.1 hr
  have e:x=y:=by
   rcases List.mem_cons.1 ((h x).1 (by simp)) with h1|h1
   · exact h1
   · rcases List.mem_cons.1 ((h y).2 (by simp)) with h2|h2
     · exact h2.symm
     · have h3:=hr'.1 x h1
       have h4:=hl'.1 y h2
       have:=ho.tra _ _ _ h3 h4
       rw [ho.irr] at this;cases this
  subst e
  congr 1
  refine strict_ext ho hl'.2 hr'.2 fun z=>⟨fun hz=>?_,fun hz=>?_⟩
  · rcases List.mem_cons.1 ((h z).1 (by simp [hz])) with h1|h1
    · subst h1;have:=hl'.1 z hz;rw [ho.irr] at this;cases this
    · exact h1
  · rcases List.mem_cons.1 ((h z).2 (by simp [hz])) with h1|h1
    · subst h1;have:=hr'.1 z hz;rw [ho.irr] at this;cases this
    · exact h1
def leG (lt:α→α→Bool) (a b:α):Bool:=!lt b a
def sortG (lt:α→α→Bool) (l:List α):List α:=l.mergeSort (leG lt)
theorem leG_trans (ho:SO lt) (a b c:α) (h1:leG lt a b=true) (h2:leG lt b c=true):leG lt a c=true:=by
 unfold leG at *
 simp only [Bool.not_eq_true'] at *
 cases h:lt c a with
 | false=>rfl
 | true=>
  rcases ho.tri a b with h3|h3|h3
  · have:=ho.tra _ _ _ h h3;rw [h2] at this;cases this
  · subst h3;rw [h2] at h;cases h
  · rw [h1] at h3;cases h3
theorem leG_total (ho:SO lt) (a b:α):(leG lt a b||leG lt b a)=true:=by
 unfold leG
 cases h:lt b a with
 | false=>rfl
 | true=>
  cases h2:lt a b with
  | false=>rfl
  | true=>have:=ho.tra _ _ _ h h2;rw [ho.irr] at this;cases this
theorem sortG_sorted (ho:SO lt) (l:List α):(sortG lt l).Pairwise fun a b=>lt b a=false:=by
 have:=List.pairwise_mergeSort (leG_trans ho) (leG_total ho) l
 exact this.imp fun h=>by simpa [leG] using h
theorem mem_sortG {x:α} {l:List α}:x∈sortG lt l↔x∈l:=(List.mergeSort_perm l _).mem_iff
theorem sortG_len (l:List α):(sortG lt l).length=l.length:=(List.mergeSort_perm l _).length_eq
end
section
variable {α:Type} [DecidableEq α] {lt:α→α→Bool}
theorem mem_putG {x p:α}:∀ {l:List α},x∈putG lt l p↔x∈l∨x=p
 | []=>by simp [putG]
 | y::l=>by
  rw [putG]
  split
  · simp [mem_putG (l:=l),or_assoc]
  · split
    · rename_i h;subst h;simp;intro h;exact .inl h
    · simp;constructor
      · rintro (h|h|h)<;>simp [h]
      · rintro ((h|h)|h)<;>simp [h]
theorem putG_strict (ho:SO lt) {p:α}:∀ {l:List α},StrictS lt l→StrictS lt (putG lt l p)
 | [],_=>by simp [putG,StrictS]
 | y::l,h=>by
  have h':=List.pairwise_cons.1 h
  rw [putG]
  split
  · rename_i hy
    refine List.pairwise_cons.2 ⟨fun x hx=>?_,putG_strict ho h'.2⟩
    rcases mem_putG.1 hx with hx|rfl
    · exact h'.1 x hx
    · exact hy
  · rename_i hy
    split
    · exact h
    · rename_i hne
      have hlt:lt p y=true:=by
       rcases ho.tri y p with h1|h1|h1
       · exact absurd h1 hy
       · exact absurd h1 hne
       · exact h1
      refine List.pairwise_cons.2 ⟨fun x hx=>?_,h⟩
      rcases List.mem_cons.1 hx with rfl|hx
      · exact hlt
      · exact ho.tra _ _ _ hlt (h'.1 x hx)
def setG (lt:α→α→Bool) (l:List α):List α:=l.foldl (putG lt) []
theorem foldl_strict (ho:SO lt):∀ {l acc:List α},StrictS lt acc→StrictS lt (l.foldl (putG lt) acc)
 | [],_,h=>h
 | x::l,acc,h=>foldl_strict ho (l:=l) (putG_strict ho h)
theorem mem_foldl {x:α}:∀ {l acc:List α},x∈l.foldl (putG lt) acc↔x∈acc∨x∈l
 | [],acc=>by simp
 | y::l,acc=>by
  rw [List.foldl_cons,mem_foldl,mem_putG,List.mem_cons,or_assoc]
theorem setG_strict (ho:SO lt) (l:List α):StrictS lt (setG lt l):=foldl_strict ho List.Pairwise.nil
theorem mem_setG {x:α} {l:List α}:x∈setG lt l↔x∈l:=by unfold setG;rw [mem_foldl];simp
def compactL:List α→List α
 | []=>[]
 | [x]=>[x]
 | x::y::l=>if x=y then compactL (y::l) else x::compactL (y::l)
theorem mem_compactL {x:α}:∀ {l:List α},x∈compactL l↔x∈l
 | []=>Iff.rfl
 | [y]=>Iff.rfl
 | y::z::l=>by
  rw [compactL]
  split
  · rename_i h;subst h;rw [mem_compactL];simp
  · rw [List.mem_cons,mem_compactL,List.mem_cons (l:=z::l)]
theorem compactL_strict (ho:SO lt):∀ {l:List α},l.Pairwise (fun a b=>lt b a=false)→StrictS lt (compactL l)
 | [],_=>List.Pairwise.nil
 | [y],_=>by simp [compactL,StrictS]
 | y::z::l,h=>by
  have h':=List.pairwise_cons.1 h
  rw [compactL]
  split
  · exact compactL_strict ho h'.2
  · rename_i hne
    refine List.pairwise_cons.2 ⟨fun x hx=>?_,compactL_strict ho h'.2⟩
    have hyz:lt y z=true:=by
     rcases ho.tri y z with h1|h1|h1
     · exact h1
     · exact absurd h1 hne
     · rw [h'.1 z (by simp)] at h1;cases h1
    rcases List.mem_cons.1 (mem_compactL.1 hx) with rfl|hx
    · exact hyz
    · have h2:=(List.pairwise_cons.1 h'.2).1 x hx
      rcases ho.tri z x with h3|h3|h3
      · exact ho.tra _ _ _ hyz h3
      · subst h3;exact hyz
      · rw [h2] at h3;cases h3
theorem compact_sort (ho:SO lt) (l:List α):compactL (sortG lt l)=setG lt l:=
 strict_ext ho (compactL_strict ho (sortG_sorted ho l)) (setG_strict ho l) fun x=>by rw [mem_compactL,mem_sortG,mem_setG]
theorem putG_len (p:α):∀ l:List α,(putG lt l p).length≤l.length+1
 | []=>by simp [putG]
 | x::l=>by
  rw [putG]
  have:=putG_len p l
  split
  · simp;omega
  · split<;>simp
theorem setG_len (l:List α):(setG lt l).length≤l.length:=by
 have key:∀ (l acc:List α),(l.foldl (putG lt) acc).length≤acc.length+l.length:=by
  intro l
  induction l with
  | nil=>intro acc;simp
  | cons x l ih=>intro acc;rw [List.foldl_cons];have:=ih (putG lt acc x);have:=putG_len (lt:=lt) x acc;simp;omega
 have:=key l []
 simpa [setG] using this
end
instance:Inhabited TPair:=⟨⟨0,0⟩⟩
end Go.Q
namespace Go.Q
open Go.D
end Go.Q
namespace Go.Proofs.YtbecibmlbiebeaaGreat
open Go.RowKit Go.Q Go.D
end Go.Proofs.YtbecibmlbiebeaaGreat
set_option maxHeartbeats 1000000
set_option maxRecDepth 100000
namespace Go.Q
open Go.D
theorem nodup_le {α:Type} [DecidableEq α]:∀ {l r:List α},l.Nodup→(∀ x∈l,x∈r)→l.length≤r.length
 | [],_,_,_=>Nat.zero_le _
 | a::l,r,h,hs=>by
  have h2:=List.nodup_cons.1 h
  have ha:=hs a (by simp)
  have:=nodup_le (l:=l) (r:=r.erase a) h2.2 fun x hx=>(List.mem_erase_of_ne (fun e=>h2.1 (by rw [←e];exact hx))).2 (hs x (by simp [hx]))
  rw [List.length_erase_of_mem ha] at this
  have hp:=List.length_pos_of_mem ha
  simp only [List.length_cons];omega
theorem compactL_snoc {α:Type} [DecidableEq α] (y x:α):∀ l:List α,compactL (l++[y,x])=compactL (l++[y])++if y=x then [] else [x]
 | []=>by simp only [List.nil_append,compactL];split<;>simp [compactL, *]
 | [z]=>by
  simp only [List.cons_append,List.nil_append,compactL]
  by_cases h1:z=y<;>by_cases h2:y=x<;>simp [h1,h2,compactL]
 | z::w::l=>by
  have ih:=compactL_snoc y x (w::l)
  simp only [List.cons_append] at ih ⊢
  rw [compactL,compactL]
  split
  · exact ih
  · rw [ih,List.cons_append]
theorem compactL_take {α:Type} [DecidableEq α] {l:List α} {m:Nat} {x y:α} (hx:l[m+1]?=some x) (hy:l[m]?=some y):compactL (l.take (m+2))=compactL (l.take (m+1))++if y=x then [] else [x]:=by
 rw [take_at hx,take_at hy,List.append_assoc]
 exact compactL_snoc y x _
theorem compactL_id {α:Type} [DecidableEq α] {l:List α}:∀ {k:Nat},k≤l.length→(∀ j x y,j+1<k→l[j+1]?=some x→l[j]?=some y→y≠x)→compactL (l.take k)=l.take k
 | 0,_,_=>by simp [compactL]
 | 1,hk,_=>by
  match l,hk with
  | x::l,_=>simp [compactL]
 | k+2,hk,h=>by
  have hx:l[k+1]?=some (l[k+1]'(by omega)):=List.getElem?_eq_getElem _
  have hy:l[k]?=some (l[k]'(by omega)):=List.getElem?_eq_getElem _
  rw [compactL_take hx hy,compactL_id (k:=k+1) (by omega) (fun j x y hj=>h j x y (by omega)),if_neg (h k _ _ (by omega) hx hy),←take_at hx]
theorem compactL_take' {α:Type} [DecidableEq α] {l:List α} {m:Nat} {x y:α} (hm:1≤m) (hx:l[m]?=some x) (hy:l[m-1]?=some y):compactL (l.take (m+1))=compactL (l.take m)++if y=x then [] else [x]:=by
 obtain⟨m',rfl⟩:∃ m',m=m'+1:=⟨m-1,by omega⟩
 exact compactL_take hx hy
theorem drop_more {α:Type} {l r:List α} {m m':Nat} (h:r.drop m=l.drop m) (hm:m≤m'):r.drop m'=l.drop m':=by
 have:m'=m+(m'-m):=by omega
 rw [this,←List.drop_drop,←List.drop_drop,h]
theorem compactL_all {α:Type} [DecidableEq α] {l:List α} {k:Nat} (hk:l.length≤k) (h:∀ j x y,j+1<k→l[j+1]?=some x→l[j]?=some y→y≠x):compactL l=l:=by
 have:=compactL_id (l:=l) (k:=l.length) (Nat.le_refl _) fun j x y hj=>h j x y (by omega)
 rwa [List.take_of_length_le (Nat.le_refl _)] at this
theorem cut_rows {α:Type} {c:α→List T} {R l:List α} {k:Nat} {z:List (List T)} (h:R.take k=l) (hk:k≤R.length):((R.map c).take k++z).take k=l.map c:=by
 rw [List.take_append_of_le_length (by simp;omega),List.take_take,Nat.min_self,←List.map_take,h]
theorem drop_get {α:Type} {l r:List α} {m i:Nat} (h:r.drop m=l.drop m) (hi:m≤i):r[i]?=l[i]?:=by
 have e1:r[i]?=(r.drop m)[i-m]?:=by rw [List.getElem?_drop];congr 1;omega
 have e2:l[i]?=(l.drop m)[i-m]?:=by rw [List.getElem?_drop];congr 1;omega
 rw [e1,e2,h]
theorem set_take {α:Type} {r:List α} {k:Nat} {x:α} (h:k<r.length):(r.set k x).take (k+1)=r.take k++[x]:=by
 rw [take_at (l:=r.set k x) (i:=k) (x:=x) (by rw [List.getElem?_set_self h]),List.take_set_of_le (Nat.le_refl _)]
theorem set_drop {α:Type} {r:List α} {k m:Nat} {x:α} (h:k<m):(r.set k x).drop m=r.drop m:=by
 rw [List.drop_set,if_pos h]
end Go.Q
namespace Go.Proofs.YtbecibmlbiebeaaGreat
open Go.RowKit Go.Q Go.D
end Go.Proofs.YtbecibmlbiebeaaGreat
set_option maxHeartbeats 1000000
set_option maxRecDepth 100000
namespace Go.Q
open Go.D
theorem countP_lt {α:Type} {p q:α→Bool} {a:α}:∀ {l:List α},(∀ x∈l,p x=true→q x=true)→a∈l→p a=false→q a=true→l.countP p<l.countP q
 | [],_,h,_,_=>by cases h
 | x::l,hpq,h,hp,hq=>by
  rw [List.countP_cons,List.countP_cons]
  have hm:l.countP p≤l.countP q:=List.countP_mono_left fun y hy=>hpq y (by simp [hy])
  rcases List.mem_cons.1 h with rfl|h
  · rw [hp,hq];simp;omega
  · have:=countP_lt (l:=l) (fun y hy=>hpq y (by simp [hy])) h hp hq
    have hx:=hpq x (by simp)
    cases hpx:p x with
    | false=>simp;omega
    | true=>rw [hx hpx];simp;omega
end Go.Q
namespace Go.Q
open Go.RowKit
section
variable {P:Program} {ops:Array Oper} {o:Oper} {σ:St} {q:Bool}
theorem Cs_td {b:Bool} {w:World}:∀ {ts:List T} {cs:List Value} (n:Nat),Cs b w ts cs []→Cs b w (ts.take n) (cs.take n) []∧Cs b w (ts.drop n) (cs.drop n) []
 | ts,cs,0,h=>by simpa [Cs] using h
 | [],cs,n+1,h=>by
  simp only [Cs] at h
  obtain⟨rfl,_⟩:=h
  simp [Cs]
 | t::ts,cs,n+1,h=>by
  simp only [Cs] at h
  obtain⟨c,cr,G1,G2,rfl,h2,h3,h4⟩:=h
  obtain⟨rfl,rfl⟩:=List.append_eq_nil_iff.1 h4.symm
  obtain⟨g1,g2⟩:=Cs_td n h3
  rw [List.take_succ_cons,List.take_succ_cons,List.drop_succ_cons,List.drop_succ_cons]
  refine⟨?_,g2⟩
  simp only [Cs]
  exact⟨c,_,[],[],rfl,h2,g1,rfl⟩
theorem flatten_take_k {α:Type} {k:Nat}:∀ {rows:List (List α)} (m:Nat),(∀ r∈rows,r.length=k)→(rows.take m).flatten=rows.flatten.take (m*k)∧(rows.drop m).flatten=rows.flatten.drop (m*k)
 | rows,0,_=>by simp
 | [],m+1,_=>by simp
 | r::rows,m+1,h=>by
  have hr:=h r (by simp)
  obtain⟨g1,g2⟩:=flatten_take_k m fun r' hr'=>h r' (List.mem_cons_of_mem r hr')
  rw [List.take_succ_cons,List.drop_succ_cons,List.flatten_cons,List.flatten_cons,g1,g2,Nat.succ_mul]
  constructor
  · rw [List.take_append,hr,List.take_of_length_le (l:=r) (by omega)];congr 2;omega
  · rw [List.drop_append,hr,@List.drop_eq_nil_of_le _ r _ (by omega),List.nil_append];congr 1;omega
theorem isV_rep {r:List T} (n:Nat) (h:r.all T.isV=true):(List.replicate n r).flatten.all T.isV=true:=by
 rw [List.all_eq_true]
 intro x hx
 rw [List.mem_flatten] at hx
 obtain⟨l,hl,hx⟩:=hx
 rw [(List.mem_replicate.1 hl).2] at hx
 exact List.all_eq_true.1 h x hx
theorem R_copy {id k j c:Nat} {t t' e:TypeId} {x y:Operand} {A2:A} {ag:Bool} {rows rows2:List (List T)} (ho:o.op=.call { callee:=.builtin .copy,args:=#[x,y],argTypes:=#[t,t'] }) (hg:o.guard=none) (hd:o.dst.all (fun d=>Nat.blt d σ.n)=true)
 (hx:Get σ true x (.one (.tl id k j))) (hs:look σ.res id=some (.row k rows)) (hy:Get σ true y A2) (hq:Sq σ A2 k rows2) (hv1:rows.flatten.all T.isV=true) (hv2:rows2.flatten.all T.isV=true) (hu:P.underlying t=some (.slice e)) (hk:tyB P e ag k=true) (hc:c=min rows2.length (rows.length-j)) :
 Op1 P ops o σ ((σ.upd id (.row k (rows.take j++rows2.take c++rows.drop (j+c)))).put o.dst (true,.a (.one (.t (.v (.int .i64 c)))))):=
 .eff hg fun w0 a w ⟨I,hr⟩=>by
  obtain⟨a0,a',N,M,h1,h2,h3,h4,h5⟩:VE I w (.tl id k j) (a.eval x):=hx.va hr rfl
  have hC:C true w (.sl k rows) (I.hd id) (I.F id):=hr.res id _ hs
  have hC0:=hC
  have own:=hr.own id _ hs
  rw [h1] at hC
  obtain⟨e1,e2,e3⟩:=hC.hdr
  obtain⟨F2,hC2⟩:=hq.val hr (hy.va hr rfl)
  generalize hev:a.eval y=yv at hC2
  have hC2':=hC2
  simp only [C] at hC2'
  obtain⟨a2,m,cc,rfl,g2,g3,g4,g5⟩:=hC2'
  rw [g2,e1] at hc
  by_cases hc0:c=0
  · have hrun:(Builtin.copy_ #[t,t'] o.type #[a.eval x,.slice a2 m cc]).run P w=.ok (.int .i64 (0:Nat)) w:=by
     have hmin:Nat.min m (N-j)=0:=by rw [←hc0,hc]
     have hf:∀ w:World,(Builtin.firstCells k 0 (.slice a2 m cc)).run P w=.ok #[] w:=by
      intro w;cases a2<;>simp [Builtin.firstCells,loadCells,loadCellsFrom]
     rw [h2]
     cases a'<;>simp [Builtin.copy_,run_underlying hu,tyB_size hk,Builtin.lenOf,hmin,hf,storeCells,goInt]
    have er:rows.take j++rows2.take c++rows.drop (j+c)=rows:=by rw [hc0];simp
    rw [er,hc0]
    have hR:=hr.upd (G:=I.F id) (r:=.row k rows) hs (Chg.refl _ _) ⟨own.1,fun b hb=>⟨(own.2 b hb).1,(hr.lt id b hb).1,(own.2 b hb).2,.inl hb⟩⟩ (by show C true _ _ _ _;simpa [Ip.set] using hC0)
    exact⟨.int .i64 (0:Nat),w,by simp [execOp,ho,resolve,invoke,builtin,hev,hrun],_,hR.put hd (VS_v _)⟩
  · have hjN:j<N:=by omega
    obtain⟨g',rfl,rfl⟩:=h5 (by omega)
    rcases hC.blk with ⟨q1,_⟩|⟨g,G,cur,e',q1,q2,q3,q4,q5⟩
    · omega
    cases q1
    rcases g5 with ⟨g5,_⟩|⟨b2,off2,G2,rfl,rfl,g6,_,g8⟩
    · omega
    obtain⟨r1,news,r2,r3,r4⟩:=g8.flat
    obtain⟨r2',_⟩:=Cs_flat (o':=true) (w':=w) hv2 r2
    rw [g2] at r3
    obtain⟨s1,xs,s2,s3,s4⟩:=q5.flat
    simp only [Nat.zero_add] at s4
    have hG:G=[]:=(Cs_flat (o':=true) (w':=w) hv1 s2).2
    subst hG
    rw [e1] at s3
    have hcm:c≤m:=by omega
    have hcN:j+c≤N:=by omega
    have hjk:j*k+c*k=(j+c)*k:=by rw [←Nat.add_mul]
    have hle1:c*k≤m*k:=Nat.mul_le_mul_right _ hcm
    have hle2:(j+c)*k≤N*k:=Nat.mul_le_mul_right _ hcN
    have hNM:N*k≤M*k:=Nat.mul_le_mul_right _ e2
    have hnl:(news.take (c*k)).length=c*k:=by rw [List.length_take,r3];omega
    have hnews:∀ p u,(news.take (c*k))[p]?=some u→w.cell? ((⟨b2,off2,none⟩:Addr).add p)=some u:=fun p u hp=>by
     rw [List.getElem?_take] at hp
     split at hp
     · rw [Addr.add_lit];exact r4 p u hp
     · cases hp
    have hone:∀ u∈news.take (c*k),u.oneCell'=true:=fun u hu=>r2.cell1' u (List.mem_of_mem_take hu)
    have hf:=run_firstCells_some (P:=P) w k c ⟨b2,off2,none⟩ m cc (news.take (c*k)) hnl hnews
    have hst:=run_storeCells_at P g' (j*k) e' (news.take (c*k)) 0 cur w q3 (by rw [hnl,q4];omega) hone
    simp only [Nat.add_zero] at hst
    have hrun:(Builtin.copy_ #[t,t'] o.type #[a.eval x,.slice (some ⟨b2,off2,none⟩) m cc]).run P w=.ok (.int .i64 c) (w.setRow g' (cur.toList.take (j*k)++news.take (c*k)++cur.toList.drop (j*k+(news.take (c*k)).length)).toArray):=by
     have hmin:Nat.min m (N-j)=c:=by rw [hc]
     rw [h2]
     simp [Builtin.copy_,run_underlying hu,tyB_size hk,Builtin.lenOf,hmin,hf,hst,goInt]
    rw [hnl,hjk] at hrun
    generalize harr:(cur.toList.take (j*k)++news.take (c*k)++cur.toList.drop ((j+c)*k)).toArray=arr at hrun
    have hgn:(w.setRow g' arr).heap[g']?=some (.cells arr e' (0,0)):=setRow_heap w g' cur _ e' _ q3
    have hcl:cur.toList.length=M*k:=by rw [←q4];rfl
    have hsz:arr.size=M*k:=by
     rw [←harr]
     simp only [List.size_toArray,List.length_append,hnl,List.length_take,List.length_drop,hcl] at *
     omega
    have hch:Chg w (w.setRow g' arr) (I.F id):=⟨rfl,rfl,rfl,by simp [World.setRow],fun b _ hb=>setRow_other w g' b _ (fun e=>hb (by rw [q2,e];simp))⟩
    rw [q2] at own
    have hxs:cur.toList.take (N*k)=xs:=by
     apply List.ext_getElem?;intro p
     by_cases hp:p<xs.length
     · have:=s4 p _ (List.getElem?_eq_getElem hp)
       simp only [World.cell?,q3] at this
       rw [List.getElem?_take,if_pos (by omega),List.getElem?_eq_getElem hp]
       simpa using this
     · rw [List.getElem?_eq_none (by simp;omega),List.getElem?_eq_none (by omega)]
    have hcur:cur.toList=xs++cur.toList.drop (N*k):=by rw [←hxs,List.take_append_drop]
    have ht:cur.toList.take (j*k)=xs.take (j*k):=by
     rw [hcur,List.take_append,show j*k-xs.length=0 by rw [s3];omega];simp
    have hdr:cur.toList.drop ((j+c)*k)=xs.drop ((j+c)*k)++cur.toList.drop (N*k):=by
     conv=>lhs;rw [hcur]
     rw [List.drop_append,show (j+c)*k-xs.length=0 by rw [s3];omega,List.drop_zero]
    have harr2:arr.toList=(xs.take (j*k)++news.take (c*k)++xs.drop ((j+c)*k))++cur.toList.drop (N*k):=by
     rw [←harr,ht,hdr];simp
    have hrows:∀ r∈rows,r.length=k:=s1
    have hnl2:(rows.take j++rows2.take c++rows.drop (j+c)).length=N:=by simp;omega
    have hR:=hr.upd (G:=[g']) (r:=.row k (rows.take j++rows2.take c++rows.drop (j+c))) hs hch ⟨by simp,fun b hb=>by
     obtain⟨o1,o2⟩:=own.2 b hb
     refine⟨o1,Nat.lt_of_lt_of_le (hr.lt id b (by rw [q2];exact hb)).1 hch.size,?_,.inl (by rw [q2];exact hb)⟩
     rw [List.mem_singleton] at hb
     subst hb
     exact⟨.inl _,_,hgn⟩⟩ (by
     show C true _ _ _ _
     simp only [Ip.set,if_true]
     rw [h1]
     unfold C
     refine⟨_,_,_,rfl,hnl2,e2,e3,.inr ⟨g',0,[],rfl,rfl,(Array.getElem?_eq_some_iff.1 hgn).1,fun _=>⟨rfl,arr,e',hgn,hsz⟩,Rws.of (xs:=xs.take (j*k)++news.take (c*k)++xs.drop ((j+c)*k)) (fun row hm=>?_) ?_ fun p u hp=>?_⟩⟩
     · rcases List.mem_append.1 hm with hm|hm
       · rcases List.mem_append.1 hm with hm|hm
         · exact s1 row (List.mem_of_mem_take hm)
         · exact r1 row (List.mem_of_mem_take hm)
       · exact s1 row (List.mem_of_mem_drop hm)
     · rw [List.flatten_append,List.flatten_append,(flatten_take_k j hrows).1,(flatten_take_k (j+c) hrows).2,(flatten_take_k c r1).1]
       have c1:=(Cs_flat (o':=true) (w':=w.setRow g' arr) hv1 s2).1
       have c2:=(Cs_flat (o':=true) (w':=w.setRow g' arr) hv2 r2').1
       exact Cs.append (F:=[]) (Cs.append (F:=[]) (Cs_td _ c1).1 (Cs_td _ c2).1) (Cs_td _ c1).2
     · simp only [World.cell?,hgn,Nat.zero_add]
       have hlt:=(List.getElem?_eq_some_iff.1 hp).1
       simp only [Option.isSome_none,Bool.false_eq_true,if_false]
       rw [←Array.getElem?_toList,harr2,List.getElem?_append_left hlt];exact hp)
    exact⟨.int .i64 c,_,by simp [execOp,ho,resolve,invoke,builtin,hev,hrun],_,hR.put hd (VS_v _)⟩
theorem R_conv {t t':TypeId} {x:Operand} {k0 k:IntKind} {n m:Int} (ho:o.op=.convert t t' x) (hg:Grd ops o σ q) (hd:o.dst.all (fun d=>Nat.blt d σ.n)=true) (hx:Get σ q x (.one (.t (.v (.int k0 n))))) (hu0:(P.underlying t).isSome=true) (hu:P.underlying t'=some (.int k)) (hm:q=true→k.wrap n=m) :
 Op1 P ops o σ (σ.put o.dst (q,.a (.one (.t (.v (.int k m)))))):=
 .val hg hd fun I w0 a w hr hq=>by
  have hv:=hx.int hr hq
  obtain⟨u0,hu0⟩:=Option.isSome_iff_exists.1 hu0
  exact⟨_,by simp [execOp,ho,hv,Go.convert,run_underlying hu0,run_underlying hu,Conv.intToInt,hm hq],VS_v _⟩
theorem guard_sl {op:BinOp} {t:TypeId} {x y:Operand} {a b:Option Addr} {n m n' m':Nat} (w:World):(eqGuard op t x y (.slice a n m) (.slice b n' m')).run P w=.ok () w:=by
 unfold eqGuard;split<;>rfl
theorem run_eql_sl (w:World) {t e:TypeId} (hu:P.underlying t=some (.slice e)) (a:Option Addr) (n m:Nat):(binOp .eql t (.slice a n m) (.slice none 0 0)).run P w=.ok (.bool a.isNone) w∧(binOp .neq t (.slice a n m) (.slice none 0 0)).run P w=.ok (.bool (!a.isNone)) w:=by
 constructor<;>simp only [binOp]<;>simp [run_equal_slice_nil w t e a n m hu]
theorem C_some {b:Bool} {w:World} {k:Nat} {rows:List (List T)} {v:Value} {F:List Nat} (h:C b w (.sl k rows) v F) (hr:0<rows.length):∃ a n m,v=.slice (some a) n m:=by
 simp only [C] at h
 obtain⟨a,len,cap,h1,h2,h3,h4,h5⟩:=h
 rcases h5 with ⟨h5,_⟩|⟨b',off,G,h6,_⟩
 · omega
 · exact⟨_,_,_,by rw [h1,h6]⟩
theorem R_eqsl_nil {t t' e:TypeId} {x y:Operand} (ho:o.op=.binOp .eql t x y t') (hg:Grd ops o σ q) (hd:o.dst.all (fun d=>Nat.blt d σ.n)=true) (hx:Get σ q x (.one (.t (.v (.slice none 0 0))))) (hy:Get σ q y (.one (.t (.v (.slice none 0 0))))) (hu:P.underlying t=some (.slice e)) :
 Op1 P ops o σ (σ.put o.dst (q,.a (.one (.t (.v (.bool true)))))):=
 .val hg hd fun I w0 a w hr hq=>⟨.bool true,by simp [execOp,ho,hx.int hr hq,hy.int hr hq,guard_sl,(run_eql_sl w hu none 0 0).1],VS_v _⟩
theorem R_eqsl_t {k:Nat} {t t' e:TypeId} {x y:Operand} {rows:List (List T)} (ho:o.op=.binOp .eql t x y t') (hg:Grd ops o σ q) (hd:o.dst.all (fun d=>Nat.blt d σ.n)=true) (hx:Get σ q x (.one (.t (.sl k rows)))) (hy:Get σ q y (.one (.t (.v (.slice none 0 0))))) (hu:P.underlying t=some (.slice e)) (hr:0<rows.length) :
 Op1 P ops o σ (σ.put o.dst (q,.a (.one (.t (.v (.bool false)))))):=
 .val hg hd fun I w0 a w hr' hq=>by
  obtain⟨F,hC,_⟩:VA I w (.one (.t (.sl k rows))) (a.eval x):=hx.va hr' hq
  obtain⟨b,n,m,h1⟩:=C_some hC hr
  exact⟨.bool false,by simp [execOp,ho,h1,hy.int hr' hq,guard_sl,(run_eql_sl w hu (some b) n m).1],VS_v _⟩
end
end Go.Q
