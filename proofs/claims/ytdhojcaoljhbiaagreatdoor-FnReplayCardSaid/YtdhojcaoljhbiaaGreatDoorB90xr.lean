import Derived.Test.YtdhojcaoljhbiaaGreatDoorAbsKxr
import Derived.Test.YtdhojcaoljhbiaaGreatDoorStdxr
import Derived.Test.YtdhojcaoljhbiaaGreatDoorAbsWxr
import Derived.Test.YtdhojcaoljhbiaaGreatDoorAbs2xr
import Derived.Maps.AppendAt
import Derived.Laws.Cover3
import Derived.Lib.Join
import Derived.Lib.ItoaNum
import Derived.Shelf.Abstract
import Derived.Shelf.Strings.OnBuilder
import Derived.Shelf.Strconv.Itoa3
import Derived.Ground.NamesProg
import Derived.Lib.SplitLaws
import Derived.Lib.Atoi
import Derived.Shelf.Strings.SplitShaped
import Derived.Shelf.Strings.Shaped
import Derived.Shelf.Strings.Prefix
import Derived.Shelf.Small.Strs
import Derived.Shelf.Strconv.Atoi
import Derived.Shelf.Strconv.AtoiErr
set_option linter.unusedVariables false
set_option linter.unusedSimpArgs false
set_option maxRecDepth 100000
namespace Go.Q
open Go.RowKit
section
variable {P:Program}
theorem stL_congr {L L':Nat→Bool}:∀ (os:List Out) (i:Nat) (σ:St),(∀ j,j<os.length→L (i+j)=L' (i+j))→stL L i os σ=stL L' i os σ
 | [],_,_,_=>rfl
 | y::os,i,σ,h=>by
  rw [stL,stL]
  have h0:=h 0 (by simp)
  rw [Nat.add_zero] at h0
  rw [h0]
  exact stL_congr os (i+1) _ fun j hj=>by rw [show i+1+j=i+(j+1) by omega];exact h (j+1) (by simp;omega)
theorem Op1.le {ops:Array Oper} {o:Oper} {σ σ' σ2:St} (h:Op1 P ops o σ σ2) (hs:Sup σ' σ2):Op1 P ops o σ σ':=fun w0 a w hr K Q' hK=>h w0 a w hr K Q' fun a' w' hr'=>hK a' w' (Rel.of_look hr' hs.n.symm (fun t x h=>hs.slots t x h) (fun t x h=>hs.res t x h))
def FinS (P:Program) (w0:Base) (Q:Exit→St→Prop) (M e:Nat) (B:Nat→List Nat) (l:List Oper) (n:Nat) (sl:List (Nat×(Bool×S))) (rs:List (Nat×R)) (outs:List Out):Prop:=
 delS (outs.map (·.1)) sl=sl∧outB B ⟨n,sl,rs⟩ outs=true∧∃ σA σ1 σF,(∀ o,l[M]?=some o→Op1 P l.toArray o (stL (fun _=>true) 0 outs ⟨n,sl,rs⟩) σA)∧(∀ o,l[M]?=some o→Op1 P l.toArray o (stL (fun j=>!(Nat.beq j e)) 0 outs ⟨n,sl,rs⟩) σ1)∧
 (∀ o,l[e]?=some o→Op1 P l.toArray o σ1 σF)∧Sup σF σA∧AWl P w0 l.toArray Q (l.drop (M+1)) σF
theorem FinS.mk {w0:Base} {Q:Exit→St→Prop} {M e:Nat} {B:Nat→List Nat} {l:List Oper} {n:Nat} {sl:List (Nat×(Bool×S))} {rs:List (Nat×R)} {outs:List Out} {oM oE:Oper} {σA σ1 σE:St} (σF:St) (hd:delS (outs.map (·.1)) sl=sl) (hU:outB B ⟨n,sl,rs⟩ outs=true) (hM:l[M]?=some oM) (hE:l[e]?=some oE)
 (hA:Op1 P l.toArray oM (stL (fun _=>true) 0 outs ⟨n,sl,rs⟩) σA) (h1:Op1 P l.toArray oM (stL (fun j=>!(Nat.beq j e)) 0 outs ⟨n,sl,rs⟩) σ1) (hEE:Op1 P l.toArray oE σ1 σE) (hF:Sup σF σA) (hF2:Sup σF σE) (hfin:AWl P w0 l.toArray Q (l.drop (M+1)) σF):FinS P w0 Q M e B l n sl rs outs:=
 ⟨hd,hU,σA,σ1,σF,fun o h=>by rw [hM] at h;cases h;exact hA,fun o h=>by rw [hM] at h;cases h;exact h1,fun o h=>by rw [hE] at h;cases h;exact hEE.le hF2,hF,hfin⟩
theorem LocK.ofs1 {ops:Array Oper} {o:Oper} {σ:St} {d id:Nat} {r:R} {x:Bool×S} (hd:o.dst=some d) (h:∀ σ',Sup σ σ'→(∀ z∈[(id,r)],σ'.has z.1=false)→Op1 P ops o σ' ((σ'.adds [(id,r)]).put o.dst x)):LocK P ops o σ ⟨d,x,some (id,r),false,[]⟩:=
 LocK.of1 hd fun σ' hs hf=>h σ' hs fun z hz=>by rw [List.mem_singleton] at hz;subst hz;exact hf
end
end Go.Q
namespace Go.Q
open Go.RowKit
section
variable {P:Program}
def EndQ (σt:St):Exit→St→Prop
 | .normal,σ=>Le σ σt
 | _,_=>False
theorem EndQ.run {ops:Array Oper} {o:Oper} {σ σt:St} (h:∀ w0,AWl P w0 ops (EndQ σt) [o] σ) {w0:Base} {a:Act} {w:World} (hr:Rel w0 σ a w) (K:Act→World→Prop) (Q:Exit→Act→World→Prop) (hK:∀ a' w',Rel w0 σt a' w'→K a' w') :
 if Region.wanted o (yielded ops a.tmps) then o.wp P a w K Q else K (a.put o.dst undef) w:=by
 have h1:=h w0 a w hr
 unfold wpList at h1
 have hN:∀ a' w',wpList P ops (lift w0 (EndQ σt)) [] a' w'→K a' w':=fun a' w' h=>by
  obtain⟨σ',h2,h3⟩:=h
  exact hK a' w' (h2 w0 a' w' h3)
 have hF:∀ e a' w',e≠Exit.normal→lift w0 (EndQ σt) e a' w'→False:=fun e a' w' he h=>by
  obtain⟨σ',h2,h3⟩:=h
  cases e<;>first|exact he rfl|exact h2
 have hL:LetsOut (lift w0 (EndQ σt))→False:=fun ⟨a',w',h⟩=>hF _ a' w' (by simp) h
 split
 · rename_i hw
   rw [if_pos hw] at h1
   rcases h1 with h1|⟨_,h1⟩
   · unfold Oper.wp at *
     generalize (execOp a.eval o).run P w=r at *
     cases r with
     | ok n w'=>
      cases n<;>simp only [Oper.upon] at h1 ⊢<;>
       first
        | exact hN _ _ h1
        | exact Calls.mono h1 (fun e w'' he=>by cases e<;>first|exact hN _ _ he|exact (hL he).elim|exact (hF _ _ _ (by simp) he).elim)
        | exact Rows.mono h1 (fun _ _ he=>hN _ _ he)
     | halt x w'=>cases x<;>simp only [Oper.upon] at h1 ⊢<;>first|exact h1.elim|exact (hF _ _ _ (by simp) h1).elim
   exact (hL h1).elim
 rename_i hw
 rw [if_neg hw] at h1
 exact hN _ _ h1
theorem Ak {P:Program} {w0:Base} {ops:Array Oper} {σ s:St} {sl:List (Nat×(Bool×S))} {rs:List (Nat×R)} (ks js:List Nat) (h:SelL σ.slots ks sl:=by (repeat (apply SelL.cons;exact rfl));exact .nil) (h':SelL σ.res js rs:=by (repeat (apply SelL.cons;exact rfl));exact .nil) (e:s=⟨σ.n,sl,rs⟩:=by exact rfl):AWl P w0 ops (EndQ s) [] σ:=Aa (by subst e;exact Av ks js h h')
def dagB (l:List Oper) (N:Nat) (ms:List (List Nat)) (es:List (Nat×Nat×Nat)) (k:Nat):Bool:=
 (List.range ms.length).all (fun a=>match ms[a]? with
  | none=>false
  | some m=>((List.range N).all (fun i=>memN m i||(match l[i]? with
   | none=>false
   | some o=>!((deps o).all (memN m))||es.any (fun e=>Nat.beq e.1 a&&Nat.beq e.2.1 i&&(match ms[e.2.2]? with
    | none=>false
    | some m'=>(List.range N).all fun j=>memN m' j == (Nat.beq j i||memN m j))))))&&
   (Nat.beq a k||(List.range N).any (fun i=>!(memN m i))))&&
 (match ms with|[]::_=>true|_=>false)
theorem AW.dag {w0:Base} {Q:Exit→St→Prop} {σ:St} {id:Nat} {l:List Oper} (N k:Nat) (ms:List (List Nat)) (es:List (Nat×Nat×Nat)) (st:Nat→St) (hm:P.follows .mixedOrders=true) (hB:planC l.toArray N=true) (hP:dagB l N ms es k=true)
 (hes:∀ e∈es,∀ o,l[e.2.1]?=some o→∀ w0,AWl P w0 l.toArray (EndQ (st e.2.2)) [o] (st e.1)) (hσ:Le σ (st 0)) (hfin:AWl P w0 l.toArray Q (l.drop N) (st k)):AW P w0 (.region id l.toArray true) Q σ:=by
 intro a w hr;refine wp_region_any hm ?_
 simp only [dagB,Bool.and_eq_true] at hP
 obtain⟨hP,hms⟩:=hP
 have hms0:ms[0]?=some []:=by
  match ms,hms with
  | []::_,_=>rfl
 have hlN:N≤l.length:=by
  have hB':=hB
  simp only [planC,Bool.and_eq_true,decide_eq_true_eq] at hB'
  simpa using hB'.1.1.1
 have hdep:∀ i o,i<N→l[i]?=some o→∀ j∈deps o,j<N:=fun i o hi ho j hj=>by
  have hB':=hB
  simp only [planC,Bool.and_eq_true,decide_eq_true_eq] at hB'
  have:=List.all_eq_true.1 hB'.1.1.2 i (List.mem_range.2 hi)
  have ho':l.toArray[i]?=some o:=by simpa using ho
  rw [ho'] at this
  have:=List.all_eq_true.1 this j hj
  simp only [decide_eq_true_eq] at this
  omega
 have hat:∀ (b:Nat) (m:List Nat),ms[b]?=some m→((∀ i,i<N→memN m i=false→∀ o,l[i]?=some o→(∀ j∈deps o,memN m j=true)→∃ e∈es,e.1=b∧e.2.1=i∧∃ m',ms[e.2.2]?=some m'∧∀ j,j<N→memN m' j=(Nat.beq j i||memN m j))∧((∀ i,i<N→memN m i=true)→b=k)):=by
  intro b m hb
  have:=List.all_eq_true.1 hP b (List.mem_range.2 (List.getElem?_eq_some_iff.1 hb).1)
  rw [hb] at this
  simp only [Bool.and_eq_true] at this
  refine⟨fun i hi hu o ho hd=>?_,fun hall=>?_⟩
  · have:=List.all_eq_true.1 this.1 i (List.mem_range.2 hi)
    rw [hu,Bool.false_or,ho] at this
    simp only [Bool.or_eq_true,Bool.not_eq_true'] at this
    rcases this with h|h
    · rw [List.all_eq_true.2 hd] at h;cases h
    obtain⟨e,he,h⟩:=List.any_eq_true.1 h
    simp only [Bool.and_eq_true] at h
    obtain⟨⟨h1,h2⟩,h3⟩:=h
    refine⟨e,he,Nat.eq_of_beq_eq_true h1,Nat.eq_of_beq_eq_true h2,?_⟩
    split at h3
    · cases h3
    rename_i m' hm'
    exact⟨m',hm',fun j hj=>by simpa using List.all_eq_true.1 h3 j (List.mem_range.2 hj)⟩
  have h2:=this.2
  simp only [Bool.or_eq_true] at h2
  rcases h2 with h|h
  · exact Nat.eq_of_beq_eq_true h
  obtain⟨i,hi,h⟩:=List.any_eq_true.1 h
  rw [hall i (List.mem_range.1 hi)] at h;cases h
 have H:=wpAny_inv (P:=P) (Q:=lift w0 Q) (J:=fun listed a w=>∃ b m,ms[b]?=some m∧(∀ j,j<N→memN m j=listed.getD j false)∧Rel w0 (st b) a w) hB (fun i o hi ho listed a w inv hd hu hJ=>?_) (fun listed a w hall hJ=>?_)
  (unl N (Array.replicate l.toArray.size false)) (Array.replicate l.toArray.size false) a { w with drawn:=w.drawn+1 } rfl
  ⟨by simp,fun j oj _ hl=>(by rw [getD_replicate_false] at hl;cases hl),fun t _ ht=>getD_in (by simpa using ht) (getD_replicate_false _ _)⟩ ?_
 · have hu:unl N (Array.replicate l.toArray.size false)=N:=by
    unfold unl
    rw [List.countP_eq_length.2 (fun j _=>by rw [getD_replicate_false];rfl),List.length_range]
   rw [hu,show N+(l.toArray.size-N)=l.toArray.size by simp;omega] at H
   exact H
 · obtain⟨b,m,hb,hmj,hr⟩:=hJ
   have ho0:l[i]?=some o:=by simpa using ho
   obtain⟨e,he,rfl,rfl,m',hm',hj'⟩:=(hat b m hb).1 i hi (by rw [hmj i hi];exact hu) o ho0 fun j hj=>by rw [hmj j (hdep i o hi ho0 j hj)];exact hd j hj
   intro K Q' hK;refine EndQ.run (hes e he o ho0) hr K Q' fun a' w' hr'=>hK a' w' ⟨e.2.2,m',hm',fun j hj=>?_,hr'⟩
   rw [hj' j hj,hmj j hj]
   by_cases ej:j=e.2.1
   · subst ej
     have:e.2.1<listed.size:=by rw [inv.size];simp;omega
     simp [this,Nat.beq_refl]
   rw [beq_false ej,Bool.false_or,getD_set_ne false (fun h=>ej h.symm)]
 · obtain⟨b,m,hb,hmj,hr⟩:=hJ
   have:=(hat b m hb).2 fun i hi=>by rw [hmj i hi];exact hall i hi
   subst this;exact hfin a w hr
 refine⟨0,[],hms0,fun j _=>by rw [getD_replicate_false];rfl,?_⟩
 obtain⟨I,hI⟩:=hσ w0 a w hr
 exact⟨I,hI.later (Ext.refl w).drawn⟩
structure Dag (P:Program) (l:List Oper) (acc:List (Nat×St)) (es:List (Nat×Nat×Nat)) (Fin:(Nat→St)→Prop):Prop where
 pf:∃ st:Nat→St,(∀ k σ,look acc k=some σ→st k=σ)∧(∀ e∈es,∀ o,l[e.2.1]?=some o→∀ w0,AWl P w0 l.toArray (EndQ (st e.2.2)) [o] (st e.1))∧Fin st
variable {l:List Oper} {acc:List (Nat×St)} {es:List (Nat×Nat×Nat)} {Fin:(Nat→St)→Prop}
theorem Aq {a i b:Nat} {σ σ':St} {o:Oper} (ha:look acc a=some σ) (ho:l[i]?=some o) (hb:look acc b=none) (hE:∀ w0,AWl P w0 l.toArray (EndQ σ') [o] σ) (h:Dag P l ((b,σ')::acc) es Fin):Dag P l acc ((a,i,b)::es) Fin:=by
 obtain⟨st,h1,h2,h3⟩:=h.pf
 have hne:b≠a:=fun e=>by subst e;rw [hb] at ha;cases ha
 have h1':∀ k σ,look acc k=some σ→st k=σ:=fun k σ hk=>h1 k σ (by
  rw [look_cons,if_neg (fun e=>?_)]
  · exact hk
  subst e;rw [hb] at hk;cases hk)
 refine⟨st,h1',fun e he o' ho' w0=>?_,h3⟩
 rcases List.mem_cons.1 he with rfl|he
 · simp only at ho' ⊢
   rw [ho] at ho';cases ho'
   rw [h1' a σ ha,h1 b σ' (by rw [look_cons,if_pos rfl])]
   exact hE w0
 exact h2 e he o' ho' w0
theorem Ax {a i b:Nat} {σ σ':St} {o:Oper} (ha:look acc a=some σ) (ho:l[i]?=some o) (hb:look acc b=some σ') (hE:∀ w0,AWl P w0 l.toArray (EndQ σ') [o] σ) (h:Dag P l acc es Fin):Dag P l acc ((a,i,b)::es) Fin:=by
 obtain⟨st,h1,h2,h3⟩:=h.pf
 refine⟨st,h1,fun e he o' ho' w0=>?_,h3⟩
 rcases List.mem_cons.1 he with rfl|he
 · simp only at ho' ⊢
   rw [ho] at ho';cases ho'
   rw [h1 a σ ha,h1 b σ' hb]
   exact hE w0
 exact h2 e he o' ho' w0
theorem Dag.fin {w0:Base} {Q:Exit→St→Prop} {N k:Nat} {σ:St} (hk:look acc k=some σ) (h:AWl P w0 l.toArray Q (l.drop N) σ):Dag P l acc [] (fun st=>AWl P w0 l.toArray Q (l.drop N) (st k)):=
 ⟨fun i=>(look acc i).getD ⟨0,[],[]⟩,fun i σ' hi=>by simp [hi],fun e he=>(by cases he),by simpa [hk] using h⟩
theorem AW.dagn {w0:Base} {Q:Exit→St→Prop} {σ:St} {id:Nat} (N k:Nat) (ms:List (List Nat)) (es:List (Nat×Nat×Nat)) (hm:P.follows .mixedOrders=true) (hB:planC l.toArray N=true) (hP:dagB l N ms es k=true)
 (h:Dag P l [(0,σ)] es (fun st=>AWl P w0 l.toArray Q (l.drop N) (st k))):AW P w0 (.region id l.toArray true) Q σ:=by
 obtain⟨st,h1,h2,h3⟩:=h.pf
 exact AW.dag N k ms es st hm hB hP h2 (by rw [h1 0 σ U];exact Le.refl _) h3
end
end Go.Q
namespace Go.Q
open Go.D
end Go.Q
namespace Go.Proofs.YtdhojcaoljhbiaaGreatDoor
open Go.RowKit Go.Q Go.D
theorem implwithin (n a b:Int):FnT Tryz.prog 67 [.one (.v (.int .i64 n)),.one (.v (.int .i64 a)),.one (.v (.int .i64 b))] (.a (.one (.v (.bool (inB n a b))))):=by
 refine Bb Tryz.func67 U (by kernel_rfl) Tryz.ntmps67 U fun hlen w0=>?_
 try simp [cToken] at hlen
 refine Af (Aj ?_);refine Aa (Af (Ab ?_));refine Ab ?_;refine Ac (R_ge U (.no U) U (.tm U) (.tm U)) U ?_;refine Ab ?_;refine Da ?_;refine Da ?_;refine Ac (R_le U (by exact .yes1 U U U U) U (.tmp U (by exact id)) (.tmp U (by exact id))) U ?_;refine C1 ?_;refine Ah ?_;refine Aa (Ap (By U U ?_))
 rfl
theorem specl1In (n a b:Int):FnT Tryz.prog 44 [.one (.v (.int .i64 n)),.one (.v (.int .i64 a)),.one (.v (.int .i64 b))] (.a (.one (.v (.bool (inB n a b))))):=by
 refine Bb Tryz.func44 U (by kernel_rfl) Tryz.ntmps44 U fun hlen w0=>?_
 try simp [cToken] at hlen
 refine Af (Aj ?_);refine Aa (Af (Ab ?_));refine Ab ?_;refine Ac (R_ge U (.no U) U (.tm U) (.tm U)) U ?_;refine Ab ?_;refine Da ?_;refine Da ?_;refine Ac (R_le U (by exact .yes1 U U U U) U (.tmp U (by exact id)) (.tmp U (by exact id))) U ?_;refine C1 ?_;refine Ah ?_;refine Aa (Ap (By U U ?_))
 rfl
theorem specl2Letter (n:Int):FnT Tryz.prog 188 [.one (.v (.int .i64 n))] (.a (.one (.v (.bool (inB n 0 8))))):=by
 refine Bb Tryz.func188 U (by kernel_rfl) Tryz.ntmps188 U fun hlen w0=>?_
 try simp [cToken] at hlen
 refine Af (Aj ?_);refine Aa (Af (Ab ?_));refine Br (specl1In _ _ _) ?_;refine Ah ?_;refine Aa (Ap (By U U ?_))
 rfl
end Go.Proofs.YtdhojcaoljhbiaaGreatDoor
set_option maxHeartbeats 1000000
set_option maxRecDepth 100000
namespace Go.Q
open Go.D
def zerT (t:TToken):Bool:=decide (t.Letter=0)&&decide (t.Low=0)&&decide (t.High=0)
def arity (t:TToken):Int:=
 if t.Kind=1∨t.Kind=2 then (if zerT t then 0 else -1)
 else if t.Kind=3 then (if inB t.Letter 0 8&&decide (t.Low=0)&&decide (t.High=0) then 0 else -1)
 else if t.Kind=4∨t.Kind=5 then (if zerT t then 2 else -1)
 else if t.Kind=6 then (if zerT t then 1 else -1)
 else if t.Kind=7 then (if decide (t.Letter=0)&&inB t.High 1 3&&inB t.Low 0 t.High then 1 else -1)
 else -1
def tokOk (t:TToken):Bool:=decide (0≤arity t)
def depthGo:Int→List TToken→Bool
 | d,[]=>decide (d=1)
 | d,t::r=>if arity t<0∨d<arity t then false else depthGo (d-arity t+1) r
def isExpr (l:List TToken):Bool:=depthGo 0 l
end Go.Q
namespace Go.Proofs.YtdhojcaoljhbiaaGreatDoor
open Go.RowKit Go.Q Go.D
end Go.Proofs.YtdhojcaoljhbiaaGreatDoor
set_option maxHeartbeats 1000000
set_option maxRecDepth 100000
namespace Go.Q
open Go.RowKit Go.D
instance:Flat TToken:=⟨4,true,fun x=>[.int .i64 x.Kind,.int .i64 x.Letter,.int .i64 x.Low,.int .i64 x.High],fun _=>rfl⟩
structure Ptr where
 b:Nat
instance:Flat Ptr:=⟨1,false,fun p=>[.pointer (some ⟨p.b,0,none⟩)],fun _=>rfl⟩
inductive Tr where
 | leaf (t:TToken)
 | un (t:TToken) (x:Tr)
 | bin (t:TToken) (x y:Tr)
def tokC (t:TToken):List Value:=[.int .i64 t.Kind,.int .i64 t.Letter,.int .i64 t.Low,.int .i64 t.High]
def TNode (tn:TypeId) (w:World) (S:Nat→Prop) (t:TToken) (ks:List Ptr) (b:Nat):Prop:=
 S b∧∃ a len c F,Box w b (tokC t++[.slice a len c]) tn∧Sl w a len c ks F∧∀ n∈F,S n
def TreeIn (tn:TypeId) (w:World) (S:Nat→Prop):Tr→Nat→Prop
 | .leaf t,b=>TNode tn w S t [] b
 | .un t x,b=>∃ p,TNode tn w S t [⟨p⟩] b∧TreeIn tn w S x p
 | .bin t x y,b=>∃ p q,TNode tn w S t [⟨p⟩,⟨q⟩] b∧TreeIn tn w S x p∧TreeIn tn w S y q
theorem TNode.congr {tn:TypeId} {w w':World} {S S':Nat→Prop} {t:TToken} {ks:List Ptr} {b:Nat} (h:TNode tn w S t ks b) (hc:∀ n,S n→n<w.heap.size→w'.heap[n]?=w.heap[n]?∧S' n):TNode tn w' S' t ks b:=by
 obtain⟨h0,a,len,c,F,h1,h2,h3⟩:=h
 exact⟨(hc b h0 h1.lt).2,a,len,c,F,(hc b h0 h1.lt).1.trans h1,h2.congr fun n hn=>(hc n (h3 n hn) (h2.lt n hn)).1,fun n hn=>(hc n (h3 n hn) (h2.lt n hn)).2⟩
theorem TreeIn.congr {tn:TypeId} {w w':World} {S S':Nat→Prop} (hc:∀ n,S n→n<w.heap.size→w'.heap[n]?=w.heap[n]?∧S' n):∀ {T:Tr} {b:Nat},TreeIn tn w S T b→TreeIn tn w' S' T b
 | .leaf _,_,h=>TNode.congr h hc
 | .un _ _,_,⟨p,h1,h2⟩=>⟨p,h1.congr hc,TreeIn.congr hc h2⟩
 | .bin _ _ _,_,⟨p,q,h1,h2,h3⟩=>⟨p,q,h1.congr hc,TreeIn.congr hc h2,TreeIn.congr hc h3⟩
theorem TreeIn.mono {tn:TypeId} {w w':World} {S:Nat→Prop} {T:Tr} {b:Nat} (h:TreeIn tn w S T b) (he:Ext w w'):TreeIn tn w' S T b:=h.congr fun _ hn hl=>⟨he.block hl,hn⟩
def nk (k:Int):Nat:=if k=4∨k=5 then 2 else if k=6∨k=7 then 1 else 0
def stepTr (ts:List Tr) (t:TToken):Option (List Tr):=
 if tokOk t=false∨ts.length<nk t.Kind then none
 else match nk t.Kind,ts.drop (ts.length-nk t.Kind) with
  | 0,_=>some (ts++[.leaf t])
  | 1,[x]=>some (ts.take (ts.length-1)++[.un t x])
  | 2,[x,y]=>some (ts.take (ts.length-2)++[.bin t x y])
  | _,_=>none
def runTr:List Tr→List TToken→Option (List Tr)
 | ts,[]=>some ts
 | ts,t::r=>match stepTr ts t with|some ts'=>runTr ts' r|none=>none
def treeM (l:List TToken):Option Tr:=match runTr [] l with|some [x]=>some x|_=>none
def TreePost (tn:TypeId) (w:World) (l:List TToken) (e:Ending) (w':World):Prop:=
 Ext w w'∧match treeM l with
  | none=>e=.returned (.pointer none)
  | some T=>∃ b,e=.returned (.pointer (some ⟨b,0,none⟩))∧TreeIn tn w' (fun n=>w.heap.size≤n) T b
theorem TreePost.none {tn:TypeId} {w w':World} {l:List TToken} (h:Ext w w') (ht:treeM l=none):TreePost tn w l (.returned (.pointer none)) w':=⟨h,by rw [ht]⟩
def MP.empty:MP:=⟨[],fun _ v _=>∃ ad c,v=.slice (some ad) 0 c∧c≤maxLen,fun h _=>h,fun _ h=>h⟩
inductive Stack (tn:TypeId) (w:World) (S:Nat→Prop):List Ptr→List Tr→Prop where
 | nil:Stack tn w S [] []
 | snoc {ps:List Ptr} {ts:List Tr} {p:Ptr} {x:Tr}:Stack tn w S ps ts→TreeIn tn w S x p.b→Stack tn w S (ps++[p]) (ts++[x])
theorem Stack.congr {tn:TypeId} {w w':World} {S S':Nat→Prop} (hc:∀ n,S n→n<w.heap.size→w'.heap[n]?=w.heap[n]?∧S' n) {ps:List Ptr} {ts:List Tr} (h:Stack tn w S ps ts):Stack tn w' S' ps ts:=by
 induction h with
 | nil=>exact .nil
 | snoc _ h ih=>exact .snoc ih (h.congr hc)
theorem Stack.len {tn:TypeId} {w:World} {S:Nat→Prop} {ps:List Ptr} {ts:List Tr} (h:Stack tn w S ps ts):ps.length=ts.length:=by
 induction h with
 | nil=>rfl
 | snoc _ _ ih=>simp [ih]
theorem Ext.own {w0 w w':World} (h:Ext w0 w) {g:Nat} (hg:w.grownBy w' (some g)) (hb:w0.heap.size≤g):Ext w0 w':=
 h.trans' hg.os hg.tape hg.output hg.size fun b hlt=>hg.block b (Nat.lt_of_lt_of_le hlt h.size) (by simp;omega)
theorem Stack.un {tn:TypeId} {w:World} {S:Nat→Prop} {ps:List Ptr} {ts:List Tr} (h:Stack tn w S ps ts) (hn:0<ts.length) :
 ∃ ps' ts' p x,ps=ps'++[p]∧ts=ts'++[x]∧Stack tn w S ps' ts'∧TreeIn tn w S x p.b:=by
 cases h with
 | nil=>simp at hn
 | snoc h1 h2=>exact⟨_,_,_,_,rfl,rfl,h1,h2⟩
end Go.Q
namespace Go.Proofs.YtdhojcaoljhbiaaGreatDoor
open Go.RowKit Go.Q Go.D
end Go.Proofs.YtdhojcaoljhbiaaGreatDoor
namespace Go.Q
open Go.RowKit Go.D
def treeCells:Tr→List T
 | .leaf t=>cToken t++[.sl 1 []]
 | .un t x=>cToken t++[.sl 1 [[.ad (treeCells x)]]]
 | .bin t x y=>cToken t++[.sl 1 [[.ad (treeCells x)],[.ad (treeCells y)]]]
def treeV (l:List TToken):T:=match treeM l with|some x=>.ad (treeCells x)|none=>.v (.pointer none)
end Go.Q
namespace Go.Proofs.YtdhojcaoljhbiaaGreatDoor
open Go.RowKit Go.Q Go.D
end Go.Proofs.YtdhojcaoljhbiaaGreatDoor
namespace Go.Q
open Go.RowKit
section
variable {P:Program} {ops:Array Oper} {o:Oper} {σ:St} {q:Bool}
theorem Cs_td {b:Bool} {w:World}:∀ {ts:List T} {cs:List Value} (n:Nat),Cs b w ts cs []→Cs b w (ts.take n) (cs.take n) []∧Cs b w (ts.drop n) (cs.drop n) []
 | ts,cs,0,h=>by simpa [Cs] using h
 | [],cs,n+1,h=>by
  simp only [Cs] at h
  obtain⟨rfl,_⟩:=h
  simp [Cs]
 | t::ts,cs,n+1,h=>by
  simp only [Cs] at h
  obtain⟨c,cr,G1,G2,rfl,h2,h3,h4⟩:=h
  obtain⟨rfl,rfl⟩:=List.append_eq_nil_iff.1 h4.symm
  obtain⟨g1,g2⟩:=Cs_td n h3
  rw [List.take_succ_cons,List.take_succ_cons,List.drop_succ_cons,List.drop_succ_cons]
  refine⟨?_,g2⟩
  simp only [Cs]
  exact⟨c,_,[],[],rfl,h2,g1,rfl⟩
theorem flatten_take_k {α:Type} {k:Nat}:∀ {rows:List (List α)} (m:Nat),(∀ r∈rows,r.length=k)→(rows.take m).flatten=rows.flatten.take (m*k)∧(rows.drop m).flatten=rows.flatten.drop (m*k)
 | rows,0,_=>by simp
 | [],m+1,_=>by simp
 | r::rows,m+1,h=>by
  have hr:=h r (by simp)
  obtain⟨g1,g2⟩:=flatten_take_k m fun r' hr'=>h r' (List.mem_cons_of_mem r hr')
  rw [List.take_succ_cons,List.drop_succ_cons,List.flatten_cons,List.flatten_cons,g1,g2,Nat.succ_mul]
  constructor
  · rw [List.take_append,hr,List.take_of_length_le (l:=r) (by omega)];congr 2;omega
  rw [List.drop_append,hr,@List.drop_eq_nil_of_le _ r _ (by omega),List.nil_append];congr 1;omega
theorem De {t t':TypeId} {x:Operand} {k0 k:IntKind} {n m:Int} (ho:o.op=.convert t t' x) (hg:Grd ops o σ q) (hd:o.dst.all (fun d=>Nat.blt d σ.n)=true) (hx:Get σ q x (.one (.t (.v (.int k0 n))))) (hu0:(P.underlying t).isSome=true) (hu:P.underlying t'=some (.int k)) (hm:q=true→k.wrap n=m) :
 Op1 P ops o σ (σ.put o.dst (q,.a (.one (.t (.v (.int k m)))))):=
 .val hg hd fun I w0 a w hr hq=>by
  have hv:=hx.int hr hq
  obtain⟨u0,hu0⟩:=Option.isSome_iff_exists.1 hu0
  exact⟨_,by simp [execOp,ho,hv,Go.convert,run_underlying hu0,run_underlying hu,Conv.intToInt,hm hq],VS_v _⟩
end
end Go.Q
set_option maxHeartbeats 1000000
set_option maxRecDepth 100000
namespace Go.Q
open Go.D
def bs (l:List UInt8):ByteArray:=⟨l.toArray⟩
theorem bs_append (l m:List UInt8):bs l++bs m=bs (l++m):=by
 apply ByteArray.ext
 rw [ByteArray.data_append]
 simp [bs]
theorem bs_nil_append (O:ByteArray):bs []++O=O:=by
 apply ByteArray.ext
 rw [ByteArray.data_append]
 simp [bs]
theorem bs_size (l:List UInt8):(bs l).size=l.length:=by simp [bs,ByteArray.size]
theorem bs_list (l:List UInt8):(bs l).data.toList=l:=by simp [bs]
theorem bs_inj {l m:List UInt8} (h:bs l=bs m):l=m:=by rw [←bs_list l,←bs_list m,h]
def numS (n:Int):List UInt8:=Lib.decDigits n.toNat
theorem dig_small {n:Nat} (h:n<10):Lib.decDigits n=[UInt8.ofNat (48+n)]:=by rw [Lib.decDigits,dif_pos h]
theorem dig_more {n:Nat} (h:10≤n):Lib.decDigits n=Lib.decDigits (n / 10)++[UInt8.ofNat (48+n%10)]:=by rw [Lib.decDigits,dif_neg (by omega)]
theorem dig_len {n:Nat} (h:n<100):1≤(Lib.decDigits n).length∧(Lib.decDigits n).length≤2:=by
 by_cases h1:n<10
 · rw [dig_small h1];simp
 rw [dig_more (by omega),dig_small (by omega)];simp
theorem numS_len {n:Int} (h:n<100):1≤(numS n).length∧(numS n).length≤2:=dig_len (by omega)
def restD (n:Nat):List UInt8:=if n=0 then [] else Lib.decDigits n
theorem restD_step {n:Nat} (h:n≠0):restD n=restD (n / 10)++[UInt8.ofNat (48+n%10)]:=by
 unfold restD
 rw [if_neg h]
 by_cases h1:n<10
 · rw [dig_small h1,if_pos (by omega),Nat.mod_eq_of_lt h1];rfl
 rw [dig_more (by omega),if_neg (by omega)]
def joinL (sep:List UInt8) (xs:List (List UInt8)):List UInt8:=Lib.join xs sep
theorem joinL_nil (sep:List UInt8):joinL sep []=[]:=rfl
theorem joinL_snoc (sep:List UInt8) (xs:List (List UInt8)) (x:List UInt8):joinL sep (xs++[x])=if xs=[] then x else joinL sep xs++sep++x:=by
 unfold joinL
 cases xs with
 | nil=>rw [if_pos rfl];exact Lib.join_one x sep
 | cons y r=>
  rw [if_neg (by simp),List.cons_append,Lib.join_cons,Lib.join_cons]
  simp [Lib.joinTail,List.append_assoc]
theorem joinL_at {sep:List UInt8} {α:Type} (f:α→List UInt8) {l:List α} {k:Nat} {x:α} (h:l[k]?=some x):joinL sep ((l.take (k+1)).map f)=if k=0 then f x else joinL sep ((l.take k).map f)++sep++f x:=by
 rw [take_at h,List.map_append,List.map_singleton,joinL_snoc]
 have hk:=(List.getElem?_eq_some_iff.1 h).1
 by_cases e:k=0
 · subst e;rw [if_pos rfl,if_pos (by simp)]
 rw [if_neg e,if_neg (fun hh=>e (by have:=congrArg List.length hh;rw [List.length_map,List.length_take,List.length_nil] at this;omega))]
theorem joinL_len {sep:List UInt8} {b:Nat} {α:Type} {f:α→List UInt8}:∀ {l:List α},(∀ x∈l,(f x).length≤b)→(joinL sep (l.map f)).length≤l.length*(b+sep.length)
 | [],_=>by simp [joinL_nil]
 | x::l,h=>by
  have h1:=h x (by simp)
  have h2:∀ (r:List α),(∀ x∈r,(f x).length≤b)→(Lib.joinTail sep (r.map f)).length≤r.length*(b+sep.length):=by
   intro r
   induction r with
   | nil=>intro _;simp [Lib.joinTail]
   | cons y r ih=>
    intro hr
    have h3:=hr y (by simp)
    have h4:=ih fun z hz=>hr z (by simp [hz])
    simp only [Lib.joinTail,List.map_cons,List.flatten_cons,List.length_append,List.length_cons] at h4 ⊢
    rw [Nat.succ_mul];omega
  have h5:=h2 l fun z hz=>h z (by simp [hz])
  unfold joinL
  rw [List.map_cons,Lib.join_cons,List.length_append,List.length_cons,Nat.succ_mul]
  omega
def cStr (s:List UInt8):List T:=[.v (.string (bs s))]
end Go.Q
set_option maxHeartbeats 1000000
set_option maxRecDepth 100000
namespace Go.Proofs.YtdhojcaoljhbiaaGreatDoor
open Go.RowKit Go.Q Go.D Go.Shelf
def Tryz.lays171_ren:Go.Shelf.Ren:=⟨fun|171=>105|243=>142|246=>189|283=>235|284=>236|285=>237|286=>238|129=>163|317=>256|318=>257|319=>258|320=>259|337=>268|338=>269|n=>n,fun|3=>3|9=>9|2=>2|4=>4|171=>253|0=>0|53=>197|37=>22|5=>5|173=>255|212=>275|51=>195|20=>20|213=>276|46=>158|232=>295|233=>296|n=>n,fun|17=>3|18=>6|19=>7|n=>n⟩
theorem Tryz.lays171:Go.Proofs.Lays.n171 Tryz.prog Tryz.lays171_ren:={
 mixed:=by kernel_rfl
 f129:=Tryz.func163.trans (congrArg some (by kernel_rfl))
 f171:=Tryz.func105.trans (congrArg some (by kernel_rfl))
 f243:=Tryz.func142.trans (congrArg some (by kernel_rfl))
 f246:=Tryz.func189.trans (congrArg some (by kernel_rfl))
 f283:=Tryz.func235.trans (congrArg some (by kernel_rfl))
 f284:=Tryz.func236.trans (congrArg some (by kernel_rfl))
 f285:=Tryz.func237.trans (congrArg some (by kernel_rfl))
 f286:=Tryz.func238.trans (congrArg some (by kernel_rfl))
 f317:=Tryz.func256.trans (congrArg some (by kernel_rfl))
 f318:=Tryz.func257.trans (congrArg some (by kernel_rfl))
 f319:=Tryz.func258.trans (congrArg some (by kernel_rfl))
 f320:=Tryz.func259.trans (congrArg some (by kernel_rfl))
 f337:=Tryz.func268.trans (congrArg some (by kernel_rfl))
 f338:=Tryz.func269.trans (congrArg some (by kernel_rfl))
 t0:=Tryz.underlying0
 a0:=Tryz.isAgg0
 z0:=Tryz.sizeOf0
 v0:=Tryz.zeroValue0
 t2:=Tryz.underlying2
 a2:=Tryz.isAgg2
 z2:=Tryz.sizeOf2
 v2:=Tryz.zeroValue2
 t3:=Tryz.underlying3
 a3:=Tryz.isAgg3
 z3:=Tryz.sizeOf3
 v3:=Tryz.zeroValue3
 t4:=Tryz.underlying4
 a4:=Tryz.isAgg4
 z4:=Tryz.sizeOf4
 v4:=Tryz.zeroValue4
 t5:=Tryz.underlying5
 a5:=Tryz.isAgg5
 z5:=Tryz.sizeOf5
 v5:=Tryz.zeroValue5
 t9:=Tryz.underlying9
 a9:=Tryz.isAgg9
 z9:=Tryz.sizeOf9
 v9:=Tryz.zeroValue9
 t20:=Tryz.underlying20
 a20:=Tryz.isAgg20
 z20:=Tryz.sizeOf20
 v20:=Tryz.zeroValue20
 t37:=Tryz.underlying22
 a37:=Tryz.isAgg22
 z37:=Tryz.sizeOf22
 v37:=Tryz.zeroValue22
 t46:=Tryz.underlying158
 a46:=Tryz.isAgg158
 z46:=Tryz.sizeOf158
 v46:=Tryz.zeroValue158
 t51:=Tryz.underlying195
 a51:=Tryz.isAgg195
 z51:=Tryz.sizeOf195
 v51:=Tryz.zeroValue195
 t53:=Tryz.underlying197
 a53:=Tryz.isAgg197
 z53:=Tryz.sizeOf197
 v53:=Tryz.zeroValue197
 t171:=Tryz.underlying253
 a171:=Tryz.isAgg253
 z171:=Tryz.sizeOf253
 v171:=Tryz.zeroValue253
 t173:=Tryz.underlying255
 a173:=Tryz.isAgg255
 z173:=Tryz.sizeOf255
 v173:=Tryz.zeroValue255
 t212:=Tryz.underlying275
 a212:=Tryz.isAgg275
 z212:=Tryz.sizeOf275
 v212:=Tryz.zeroValue275
 t213:=Tryz.underlying276
 a213:=Tryz.isAgg276
 z213:=Tryz.sizeOf276
 t232:=Tryz.underlying295
 a232:=Tryz.isAgg295
 z232:=Tryz.sizeOf295
 v232:=Tryz.zeroValue295
 t233:=Tryz.underlying296
 a233:=Tryz.isAgg296
 z233:=Tryz.sizeOf296
 v233:=Tryz.zeroValue296
 g17:=by kernel_rfl
 g18:=by kernel_rfl
 g19:=by kernel_rfl }
theorem strconvItoa (n:Int) (h0:0≤n) (h1:n<100):FnT Tryz.prog 105 [.one (.v (.int .i64 n))] (.a (.one (.v (.string (bs (numS n)))))):=by
 refine⟨⟨_,Tryz.func105,by kernel_rfl,by kernel_rfl⟩,fun w vs F hG hv=>?_⟩
 obtain⟨v1,vr,G1,G2,rfl,g1,⟨rfl,rfl⟩,rfl⟩:=hv
 simp only [V0r,C] at g1
 obtain⟨rfl,rfl,_⟩:=g1
 have hcon:=Any.strconv_Itoa_small Tryz.lays171 n.toNat (by omega) w
 change Calls Tryz.prog 105 _ _ _ at hcon
 rw [Int.toNat_of_nonneg h0] at hcon
 refine hcon.mono ?_
 rintro e w' ⟨rfl,rfl⟩
 refine⟨_,[],rfl,?_,List.nodup_nil,by simp,Ext.refl _⟩
 simp [Vr,V0r,C]
 exact⟨rfl,rfl⟩
def Tryz.lays156_ren:Go.Shelf.Ren:=⟨fun|156=>62|165=>107|166=>108|169=>109|240=>144|241=>145|276=>191|277=>192|n=>n,fun|31=>102|9=>9|3=>3|4=>4|0=>0|20=>20|72=>147|76=>151|70=>145|37=>22|75=>150|127=>182|164=>214|5=>5|80=>153|n=>n,fun|n=>n⟩
theorem Tryz.lays156:Go.Proofs.Lays.n156 Tryz.prog Tryz.lays156_ren:={
 mixed:=by kernel_rfl
 f156:=Tryz.func62.trans (congrArg some (by kernel_rfl))
 f165:=Tryz.func107.trans (congrArg some (by kernel_rfl))
 f166:=Tryz.func108.trans (congrArg some (by kernel_rfl))
 f169:=Tryz.func109.trans (congrArg some (by kernel_rfl))
 f240:=Tryz.func144.trans (congrArg some (by kernel_rfl))
 f241:=Tryz.func145.trans (congrArg some (by kernel_rfl))
 f276:=Tryz.func191.trans (congrArg some (by kernel_rfl))
 f277:=Tryz.func192.trans (congrArg some (by kernel_rfl))
 t0:=Tryz.underlying0
 a0:=Tryz.isAgg0
 z0:=Tryz.sizeOf0
 v0:=Tryz.zeroValue0
 t3:=Tryz.underlying3
 a3:=Tryz.isAgg3
 z3:=Tryz.sizeOf3
 v3:=Tryz.zeroValue3
 t4:=Tryz.underlying4
 a4:=Tryz.isAgg4
 z4:=Tryz.sizeOf4
 v4:=Tryz.zeroValue4
 t9:=Tryz.underlying9
 a9:=Tryz.isAgg9
 z9:=Tryz.sizeOf9
 v9:=Tryz.zeroValue9
 t20:=Tryz.underlying20
 a20:=Tryz.isAgg20
 z20:=Tryz.sizeOf20
 v20:=Tryz.zeroValue20
 t31:=Tryz.underlying102
 a31:=Tryz.isAgg102
 z31:=Tryz.sizeOf102
 v31:=Tryz.zeroValue102
 t37:=Tryz.underlying22
 a37:=Tryz.isAgg22
 z37:=Tryz.sizeOf22
 v37:=Tryz.zeroValue22
 t70:=Tryz.underlying145
 a70:=Tryz.isAgg145
 z70:=Tryz.sizeOf145
 v70:=Tryz.zeroValue145
 t72:=Tryz.underlying147
 a72:=Tryz.isAgg147
 z72:=Tryz.sizeOf147
 v72:=Tryz.zeroValue147
 t75:=Tryz.underlying150
 a75:=Tryz.isAgg150
 z75:=Tryz.sizeOf150
 v75:=Tryz.zeroValue150
 t76:=Tryz.underlying151
 a76:=Tryz.isAgg151
 z76:=Tryz.sizeOf151
 v76:=Tryz.zeroValue151
 t127:=Tryz.underlying182
 a127:=Tryz.isAgg182
 z127:=Tryz.sizeOf182
 v127:=Tryz.zeroValue182
 t164:=Tryz.underlying214
 a164:=Tryz.isAgg214
 z164:=Tryz.sizeOf214
 v164:=Tryz.zeroValue214 }
theorem joinExtra:Builder.Extra Tryz.prog Tryz.lays156_ren where
 sizeBuilder:=by kernel_rfl
 liesBuilder:=by kernel_rfl
 t5:=Tryz.lays171.t5
 a5:=Tryz.lays171.a5
 z5:=Tryz.lays171.z5
 v5:=Tryz.lays171.v5
 infoByte:=by kernel_rfl
 cellsByte:=by kernel_rfl
 sizeByte:=by kernel_rfl
 neB5:=by decide
theorem stringsJoin (xs:List (List UInt8)) (sep:List UInt8) (hz:(joinL sep xs).length≤140737488355328) (hn:xs.length≤1099511627776):FnT Tryz.prog 62 [.one (.sl 1 (xs.map cStr)),.one (.v (.string (bs sep)))] (.a (.one (.v (.string (bs (joinL sep xs)))))):=by
 refine⟨⟨_,Tryz.func62,by kernel_rfl,by kernel_rfl⟩,fun w vs F hG hv=>?_⟩
 obtain⟨v1,vr,G1,G2,rfl,g1,⟨v2,vr2,G3,G4,rfl,g2,⟨rfl,rfl⟩,rfl⟩,rfl⟩:=hv
 simp only [V0r,C] at g1 g2
 obtain⟨rfl,rfl,_⟩:=g2
 obtain⟨a,len,cap,rfl,e1,e2,e3,e4⟩:=g1
 have hmap:(xs.map bs).map (·.data.toList)=xs:=by
  rw [List.map_map]
  conv=>rhs;rw [←List.map_id xs]
  exact List.map_congr_left fun x _=>bs_list x
 rcases e4 with ⟨rfl,_,_⟩|⟨b,off,G,rfl,_,hb,_,hR⟩
 · have hx:xs=[]:=by cases xs with|nil=>rfl|cons _ _=>simp at e1
   subst hx
   have hcon:=Any.strings_Join_none Tryz.lays156 joinExtra a cap (bs sep) w
   change Calls Tryz.prog 62 _ _ _ at hcon
   refine hcon.mono ?_
   rintro e w' ⟨rfl,rfl⟩
   refine⟨_,[],rfl,?_,List.nodup_nil,by simp,Ext.refl _⟩
   simp [Vr,V0r,C]
   exact⟨rfl,rfl⟩
 have hlen:xs.length=len:=by simpa using e1
 subst hlen
 have hcells:∀ (j:Nat) x,(xs.map bs)[j]?=some x→w.cell? ⟨b,off+j,none⟩=some (.string x):=fun j x hj=>by
  have hj2:(xs.map cStr)[j]?=some [.v (.string x)]:=by
   rw [List.getElem?_map] at hj ⊢
   cases hx:xs[j]? with
   | none=>rw [hx] at hj;cases hj
   | some y=>rw [hx] at hj;cases hj;rfl
  obtain⟨G',hM,_⟩:=hR.get hj2
  simp only [Ms,C] at hM
  obtain⟨c,_,_,hc,⟨rfl,_⟩,_⟩:=hM
  rw [Nat.mul_one] at hc
  exact hc
 have hcon:=Any.strings_Join Tryz.lays156 joinExtra b off cap (xs.map bs) (bs sep) w hcells hb (by rw [List.length_map];omega) (by rw [List.length_map];exact e2) (by rw [hmap,bs_list];exact hz)
 rw [hmap,bs_list,List.length_map] at hcon
 change Calls Tryz.prog 62 _ _ _ at hcon
 refine hcon.mono ?_
 rintro e w' ⟨rfl,hB⟩
 refine⟨_,[],rfl,?_,List.nodup_nil,by simp,(Ext.refl w).trans' hB.os hB.tape hB.output hB.size hB.block⟩
 simp [Vr,V0r,C]
 exact⟨rfl,rfl⟩
end Go.Proofs.YtdhojcaoljhbiaaGreatDoor
namespace Go.Q
open Go.RowKit
section
variable {P:Program} {ops:Array Oper} {o:Oper} {σ:St} {q:Bool}
theorem R_slice_pf {id k m:Nat} {t e:TypeId} {x:Operand} {hi:Option Operand} {ag:Bool} {rows:List (List T)} (ho:o.op=.slice t x none hi none) (hg:Grd ops o σ q) (hd:o.dst.all (fun d=>Nat.blt d σ.n)=true) (hx:Get σ q x (.one (.rf id)))
 (hs:look σ.res id=some (.row k rows)) (hh:Bnd σ q hi rows.length m) (hu:P.underlying t=some (.slice e)) (hk:tyB P e ag k=true) (hb:q=true→m≤rows.length):Op1 P ops o σ (σ.put o.dst (q,.a (.one (.pf id k m)))):=
 .val hg hd fun I w0 a w hr hq=>by
  obtain⟨h1,a0,N,M,h2⟩:VE I w (.rf id) (a.eval x):=hx.va hr hq
  have hC:C true w (.sl k rows) (I.hd id) (I.F id):=hr.res id _ hs
  rw [←h1,h2] at hC
  obtain⟨e1,e2,e3⟩:=hC.hdr
  have hb:=hb hq
  have hrun:(Instr.sliceAt t (.slice a0 N M) none (hi.map a.eval) none).run P w=.ok (.slice (if M=0 then a0 else a0.map (·.add (0*k))) (m-0) (M-0)) w:=by
   have b1:m≤M:=by omega
   rcases hh.val hr hq with ⟨h6,rfl⟩|h6<;>rw [h6]<;>simp [Instr.sliceAt,Instr.slice,run_underlying hu,Instr.sliceBounds,Instr.sliceBound,asIntOf,tyB_size hk,b1,e1,e2]
  have hadr:(if M=0 then a0 else a0.map (·.add (0*k)))=a0:=by
   split
   · rfl
   cases a0 with
   | none=>rfl
   | some ga=>obtain⟨g,off,sp⟩:=ga;simp [Addr.add]
  rw [hadr,Nat.sub_zero,Nat.sub_zero] at hrun
  exact⟨.slice a0 m M,by simp [execOp,ho,h2,hrun],a0,N,M,by rw [←h1,h2],rfl,by omega⟩
theorem R_slice3 {id k n m r:Nat} {t e:TypeId} {x lo hi mx:Operand} {ag:Bool} {rows:List (List T)} (ho:o.op=.slice t x (some lo) (some hi) (some mx)) (hg:Grd ops o σ q) (hd:o.dst.all (fun d=>Nat.blt d σ.n)=true) (hx:Get σ q x (.one (.rf id)))
 (hs:look σ.res id=some (.row k rows)) (hl:Get σ q lo (.one (.t (.v (.int .i64 (n:Nat)))))) (hh:Get σ q hi (.one (.t (.v (.int .i64 (m:Nat)))))) (hm:Get σ q mx (.one (.t (.v (.int .i64 (r:Nat)))))) (hu:P.underlying t=some (.slice e)) (hk:tyB P e ag k=true) (hb:q=true→n≤m∧m≤r∧r≤rows.length):Op1 P ops o σ (σ.put o.dst (q,.a (.one .no))):=
 .val hg hd fun I w0 a w hr hq=>by
  obtain⟨h1,a0,N,M,h2⟩:VE I w (.rf id) (a.eval x):=hx.va hr hq
  have hC:C true w (.sl k rows) (I.hd id) (I.F id):=hr.res id _ hs
  rw [←h1,h2] at hC
  obtain⟨e1,e2,e3⟩:=hC.hdr
  obtain⟨b1,b2,b3⟩:=hb hq
  have c1:m≤M:=by omega
  have c2:r≤M:=by omega
  refine⟨_,by simp [execOp,ho,h2,hl.int hr hq,hh.int hr hq,hm.int hr hq,Instr.sliceAt,Instr.slice,run_underlying hu,Instr.sliceBounds,Instr.sliceBound,asIntOf,tyB_size hk,b1,b2,c1,c2];rfl,trivial⟩
theorem R_slice_pftl {id k m:Nat} {t e:TypeId} {x:Operand} {lo hi:Option Operand} {ag:Bool} {rows:List (List T)} {m' n':Nat} (ho:o.op=.slice t x lo hi none) (hg:Grd ops o σ q) (hd:o.dst.all (fun d=>Nat.blt d σ.n)=true) (hx:Get σ q x (.one (.pf id k m)))
 (hs:look σ.res id=some (.row k rows)) (hl:Bnd σ q lo 0 m') (hh:Bnd σ q hi m n') (hu:P.underlying t=some (.slice e)) (hk:tyB P e ag k=true) (hb:q=true→m'=m∧n'=rows.length):Op1 P ops o σ (σ.put o.dst (q,.a (.one (.tl id k m)))):=
 .val hg hd fun I w0 a w hr hq=>by
  obtain⟨a0,N,M,h1,h2,h3⟩:VE I w (.pf id k m) (a.eval x):=hx.va hr hq
  have hC:C true w (.sl k rows) (I.hd id) (I.F id):=hr.res id _ hs
  rw [h1] at hC
  obtain⟨e1,e2,e3⟩:=hC.hdr
  obtain⟨rfl,rfl⟩:=hb hq
  rw [e1] at hh
  have hrun:(Instr.sliceAt t (.slice a0 m' M) (lo.map a.eval) (hi.map a.eval) none).run P w=.ok (.slice (if M=m' then a0 else a0.map (·.add (m'*k))) (N-m') (M-m')) w:=by
   have b1:m'≤M:=by omega
   rcases hl.val hr hq with ⟨h6,h7⟩|h6<;>rcases hh.val hr hq with ⟨h8,h9⟩|h8<;>rw [h6,h8]<;>(try subst h7)<;>(try subst h9)<;>simp [Instr.sliceAt,Instr.slice,run_underlying hu,Instr.sliceBounds,Instr.sliceBound,asIntOf,tyB_size hk,b1,e2,h3]
  refine⟨.slice (if M=m' then a0 else a0.map (·.add (m'*k))) (N-m') (M-m'),by simp [execOp,ho,h2,hrun],a0,(if M=m' then a0 else a0.map (·.add (m'*k))),N,M,h1,rfl,h3,e2,fun hlt=>?_⟩
  rcases hC.blk with ⟨h5,_⟩|⟨g,G,cur,e,rfl,_⟩
  · omega
  refine⟨g,rfl,?_⟩
  rw [if_neg (by omega)]
  simp [Addr.add_lit]
theorem R_len_pf {id k m:Nat} {x:Operand} {t e:TypeId} (ho:o.op=.call { callee:=.builtin .len,args:=#[x],argTypes:=#[t] }) (hg:Grd ops o σ q) (hd:o.dst.all (fun d=>Nat.blt d σ.n)=true)
 (hx:Get σ q x (.one (.pf id k m))) (hu:P.underlying t=some (.slice e)):Op1 P ops o σ (σ.put o.dst (q,.a (.one (.t (.v (.int .i64 m)))))):=
 .val hg hd fun I w0 a w hr hq=>by
  obtain⟨a0,N,M,h1,h2,h3⟩:VE I w (.pf id k m) (a.eval x):=hx.va hr hq
  refine⟨_,?_,VS_v _⟩
  simp [execOp,ho,resolve,invoke,builtin,h2,Builtin.len_,goInt,run_underlying hu]
theorem R_append_pf {id k i bytes:Nat} {t e:TypeId} {x y:Operand} {A2:A} {rows rows2:List (List T)} {z:Value} (ho:o.op=.call { callee:=.builtin .append,args:=#[x,y],argTypes:=#[t,t] }) (hg:o.guard=none) (hd:o.dst.all (fun d=>Nat.blt d σ.n)=true)
 (hx:Get σ true x (.one (.pf id k i))) (hs:look σ.res id=some (.row k rows)) (hy:Get σ true y A2) (hq:Sq σ A2 k rows2) (hv1:rows.flatten.all T.isV=true) (hv2:rows2.flatten.all T.isV=true) (hu:P.underlying t=some (.slice e)) (hi:(P.info? e).map (fun i=>(i.zero,i.size,i.bytes))=some (some z,k,bytes)) (hc:i+rows2.length≤rows.length) :
 Op1 P ops o σ ((σ.upd id (.row k (rows.take i++rows2++rows.drop (i+rows2.length)))).put o.dst (true,.a (.one (.pf id k (i+rows2.length))))):=
 .eff hg fun w0 a w ⟨I,hr⟩=>by
  obtain⟨a0,N,M,h1,h2,h3⟩:VE I w (.pf id k i) (a.eval x):=hx.va hr rfl
  have hC:C true w (.sl k rows) (I.hd id) (I.F id):=hr.res id _ hs
  have hC0:=hC
  have own:=hr.own id _ hs
  rw [h1] at hC
  obtain⟨e1,e2,e3⟩:=hC.hdr
  obtain⟨F2,hC2⟩:=hq.val hr (hy.va hr rfl)
  generalize hev:a.eval y=yv at hC2
  have hC2':=hC2
  simp only [C] at hC2'
  obtain⟨a2,m,cc,rfl,g2,g3,g4,g5⟩:=hC2'
  subst g2
  obtain⟨inf,hi1,hi2,hi3,hi4⟩:=info_parts hi
  subst hi3
  by_cases hc0:rows2=[]
  · subst hc0
    have hrun:(Builtin.append_ #[t,t] o.type #[a.eval x,.slice a2 ([]:List (List T)).length cc]).run P w=.ok (a.eval x) w:=by
     have hf:∀ w:World,(Builtin.firstCells inf.size 0 (.slice a2 0 cc)).run P w=.ok #[] w:=by
      intro w;cases a2<;>simp [Builtin.firstCells,loadCells,loadCellsFrom]
     have h34:i≤M:=by omega
     rw [h2]
     cases a0<;>simp [Builtin.append_,run_underlying hu,sizeOf,typeInfo,hi1,Builtin.lenOf,h34,hf,storeCells]
    have er:rows.take i++[]++rows.drop (i+([]:List (List T)).length)=rows:=by simp
    rw [er]
    have hR:=hr.upd (G:=I.F id) (r:=.row inf.size rows) hs (Chg.refl _ _) ⟨own.1,fun b hb=>⟨(own.2 b hb).1,(hr.lt id b hb).1,(own.2 b hb).2,.inl hb⟩⟩ (by show C true _ _ _ _;simpa [Ip.set] using hC0)
    have hhd:∀ j,(I.set id (I.F id) (I.hd id) (I.B id)).hd j=I.hd j:=fun j=>by simp only [Ip.set];split;(rename_i e;rw [e]);rfl
    exact⟨a.eval x,w,by have hrun0:=hrun;simp only [List.length_nil] at hrun0;simp [execOp,ho,resolve,invoke,builtin,hev,hrun0],_,hR.put hd ⟨a0,N,M,by rw [hhd,h1],by rw [h2];simp,by simpa using h3⟩⟩
  have hpos:0<rows2.length:=List.length_pos_iff.2 hc0
  rcases hC.blk with ⟨q1,_,q3⟩|⟨g,G,cur,e',q1,q2,q3,q4,q5⟩
  · subst q3;simp at hc;exact absurd hc.2 hc0
  subst q1
  rcases g5 with ⟨g5,_⟩|⟨b2,off2,G2,rfl,rfl,g6,_,g8⟩
  · omega
  obtain⟨r1,news,r2,r3,r4⟩:=g8.flat
  obtain⟨r2',_⟩:=Cs_flat (o':=true) (w':=w) hv2 r2
  have hone:=r2.cell1'
  have hnews:∀ p u,news[p]?=some u→w.cell? ((⟨b2,off2,none⟩:Addr).add p)=some u:=fun p u hp=>by rw [Addr.add_lit];exact r4 p u hp
  obtain⟨s1,xs,s2,s3,s4⟩:=q5.flat
  simp only [Nat.zero_add] at s4
  have hG:G=[]:=(Cs_flat (o':=true) (w':=w) hv1 s2).2
  subst hG
  rw [e1] at s3 hc
  have hjk:i*inf.size+rows2.length*inf.size=(i+rows2.length)*inf.size:=by rw [←Nat.add_mul]
  have hle2:(i+rows2.length)*inf.size≤N*inf.size:=Nat.mul_le_mul_right _ hc
  have hNM:N*inf.size≤M*inf.size:=Nat.mul_le_mul_right _ e2
  have hrun:=run_append_at (P:=P) w t o.type e e' inf hu hi1 g 0 i M cur q3 ⟨b2,off2,none⟩ rows2.length cc news r3 hnews hone (by omega) (by rw [r3,q4];omega)
  rw [Nat.zero_add,r3,hjk,←h2] at hrun
  generalize harr:(cur.toList.take (i*inf.size)++news++cur.toList.drop ((i+rows2.length)*inf.size)).toArray=arr at hrun
  have hgn:(w.setRow g arr).heap[g]?=some (.cells arr e' (0,0)):=setRow_heap w g cur _ e' _ q3
  have hcl:cur.toList.length=M*inf.size:=by rw [←q4];rfl
  have hsz:arr.size=M*inf.size:=by
   rw [←harr]
   simp only [List.size_toArray,List.length_append,r3,List.length_take,List.length_drop,hcl] at *
   omega
  have hch:Chg w (w.setRow g arr) (I.F id):=⟨rfl,rfl,rfl,by simp [World.setRow],fun b _ hb=>setRow_other w g b _ (fun e=>hb (by rw [q2,e];simp))⟩
  rw [q2] at own
  have hxs:cur.toList.take (N*inf.size)=xs:=by
   apply List.ext_getElem?;intro p
   by_cases hp:p<xs.length
   · have:=s4 p _ (List.getElem?_eq_getElem hp)
     simp only [World.cell?,q3] at this
     rw [List.getElem?_take,if_pos (by omega),List.getElem?_eq_getElem hp]
     simpa using this
   rw [List.getElem?_eq_none (by simp;omega),List.getElem?_eq_none (by omega)]
  have hcur:cur.toList=xs++cur.toList.drop (N*inf.size):=by rw [←hxs,List.take_append_drop]
  have ht:cur.toList.take (i*inf.size)=xs.take (i*inf.size):=by
   rw [hcur,List.take_append,show i*inf.size-xs.length=0 by rw [s3];omega];simp
  have hdr:cur.toList.drop ((i+rows2.length)*inf.size)=xs.drop ((i+rows2.length)*inf.size)++cur.toList.drop (N*inf.size):=by
   conv=>lhs;rw [hcur]
   rw [List.drop_append,show (i+rows2.length)*inf.size-xs.length=0 by rw [s3];omega,List.drop_zero]
  have harr2:arr.toList=(xs.take (i*inf.size)++news++xs.drop ((i+rows2.length)*inf.size))++cur.toList.drop (N*inf.size):=by
   rw [←harr,ht,hdr];simp
  have hrows:∀ r∈rows,r.length=inf.size:=s1
  have hnl2:(rows.take i++rows2++rows.drop (i+rows2.length)).length=N:=by simp;omega
  have hR:=hr.upd (G:=[g]) (r:=.row inf.size (rows.take i++rows2++rows.drop (i+rows2.length))) hs hch ⟨by simp,fun b hb=>by
   obtain⟨o1,o2⟩:=own.2 b hb
   refine⟨o1,Nat.lt_of_lt_of_le (hr.lt id b (by rw [q2];exact hb)).1 hch.size,?_,.inl (by rw [q2];exact hb)⟩
   rw [List.mem_singleton] at hb
   subst hb
   exact⟨.inl _,_,hgn⟩⟩ (by
   show C true _ _ _ _
   simp only [Ip.set,if_true]
   rw [h1]
   unfold C
   refine⟨_,_,_,rfl,hnl2,e2,e3,.inr ⟨g,0,[],rfl,rfl,(Array.getElem?_eq_some_iff.1 hgn).1,fun _=>⟨rfl,arr,e',hgn,hsz⟩,Rws.of (xs:=xs.take (i*inf.size)++news++xs.drop ((i+rows2.length)*inf.size)) (fun row hm=>?_) ?_ fun p u hp=>?_⟩⟩
   · rcases List.mem_append.1 hm with hm|hm
     · rcases List.mem_append.1 hm with hm|hm
       · exact s1 row (List.mem_of_mem_take hm)
       exact r1 row hm
     exact s1 row (List.mem_of_mem_drop hm)
   · rw [List.flatten_append,List.flatten_append,(flatten_take_k i hrows).1,(flatten_take_k (i+rows2.length) hrows).2]
     have c1:=(Cs_flat (o':=true) (w':=w.setRow g arr) hv1 s2).1
     have c2:=(Cs_flat (o':=true) (w':=w.setRow g arr) hv2 r2').1
     exact Cs.append (F:=[]) (Cs.append (F:=[]) (Cs_td _ c1).1 c2) (Cs_td _ c1).2
   simp only [World.cell?,hgn,Nat.zero_add]
   have hlt:=(List.getElem?_eq_some_iff.1 hp).1
   simp only [Option.isSome_none,Bool.false_eq_true,if_false]
   rw [←Array.getElem?_toList,harr2,List.getElem?_append_left hlt];exact hp)
  have hhd:∀ j,(I.set id [g] (I.hd id) (I.B id)).hd j=I.hd j:=fun j=>by simp only [Ip.set];split;(rename_i e;rw [e]);rfl
  exact⟨.slice (some ⟨g,0,none⟩) (i+rows2.length) M,_,by simp [execOp,ho,resolve,invoke,builtin,hev,hrun],_,hR.put hd ⟨_,N,M,by rw [hhd,h1],rfl,hc⟩⟩
theorem Le.closePf {n:Nat} {sl:List (Nat×(Bool×S))} {rs:List (Nat×R)} {d id k m:Nat} {rows:List (List T)} (hd:look sl d=some (true,.a (.one (.pf id k m)))) (hs:look rs id=some (.row k rows)):Le ⟨n,sl,rs⟩ ⟨n,(d,(true,.a (.one (.rf id))))::purS id sl,chgR id (.row k (rows.take m)) rs⟩:=fun w0 a w ⟨I,hr⟩=>by
 obtain⟨a0,N,M,h1,h2,h3⟩:VE I w (.pf id k m) (a.tmps.getD d undef):=hr.slots d _ hd
 have hC:C true w (.sl k rows) (I.hd id) (I.F id):=hr.res id _ hs
 have own:=hr.own id _ hs
 rw [h1] at hC
 obtain⟨e1,e2,e3⟩:=hC.hdr
 have fin:∀ (I':Ip),RelI I' w0 (St.chg ⟨n,sl,rs⟩ id (.row k (rows.take m))) a w→I'.hd id=.slice a0 m M→Rel w0 ⟨n,(d,(true,.a (.one (.rf id))))::purS id sl,chgR id (.row k (rows.take m)) rs⟩ a w:=by
  intro I' hR hI'
  refine⟨I',hR.ext,hR.defers,hR.size,fun j x hj=>?_,hR.res,hR.old,hR.lt,hR.own,hR.apart⟩
  rw [look_cons] at hj
  by_cases e:d=j
  · subst e
    rw [if_pos rfl] at hj
    cases hj
    exact⟨by rw [h2,hI'],a0,m,M,h2⟩
  rw [if_neg e] at hj
  exact hR.slots j x hj
 rcases hC.blk with ⟨g3,g4,g5⟩|⟨g,G,cur,e',rfl,g4,g5,g6,g7⟩
 · subst g5
   have hN0:N=0:=by simpa using e1.symm
   have hm0:m=0:=by omega
   subst hm0
   have hR:=hr.chg hs (Chg.refl _ _) (G:=[]) (u:=.slice a0 0 M) (r:=.row k (([]:List (List T)).take 0)) ⟨List.nodup_nil,by simp⟩ (by
    show C true _ _ _ _
    simp only [Ip.set,if_true]
    unfold C
    exact⟨_,_,_,rfl,by simp,by omega,e3,.inl ⟨rfl,rfl,fun _=>g3⟩⟩)
   exact fin _ hR (by simp [Ip.set])
 rw [g4] at own
 have hnd:=List.nodup_cons.1 own.1
 obtain⟨G',k1,k2⟩:=g7.takeN hnd.2 m
 have hR:=hr.chg hs (Chg.refl _ _) (G:=g::G') (u:=.slice (some ⟨g,0,none⟩) m M) (r:=.row k (rows.take m)) ⟨List.nodup_cons.2 ⟨fun hm=>hnd.1 (k2.subset hm),hnd.2.sublist k2⟩,fun b hb=>by
  have hin:b∈g::G:=by
   rcases List.mem_cons.1 hb with rfl|hb
   · simp
   simp [k2.subset hb]
  obtain⟨o1,o2⟩:=own.2 b hin
  exact⟨o1,(hr.lt id b (by rw [g4];exact hin)).1,o2,.inl (by rw [g4];exact hin)⟩⟩ (by
  show C true _ _ _ _
  simp only [Ip.set,if_true]
  unfold C
  exact⟨_,_,_,rfl,by simp;omega,by omega,e3,.inr ⟨g,0,G',rfl,rfl,(Array.getElem?_eq_some_iff.1 g5).1,fun _=>⟨rfl,cur,e',g5,g6⟩,k1⟩⟩)
 exact fin _ hR (by simp [Ip.set])
end
end Go.Q
set_option maxHeartbeats 1000000
set_option maxRecDepth 100000
namespace Go.Q
open Go.D
def itoS (n:Int):List UInt8:=Lib.itoa n
theorem itoS_num {n:Int} (h:0≤n):itoS n=numS n:=by unfold itoS numS Lib.itoa;rw [if_neg (by omega)]
theorem dig_le:∀ (k u:Nat),1≤k→(u<10^k↔(Lib.decDigits u).length≤k)
 | 0,_,h=>by omega
 | k+1,u,_=>by
  by_cases h:u<10
  · rw [dig_small h]
    have:10^(k+1)=10^k*10:=by rw [Nat.pow_succ]
    have h1:1≤10^k:=Nat.one_le_pow _ _ (by decide)
    simp;omega
  rw [dig_more (by omega),List.length_append,List.length_singleton,Nat.pow_succ]
  by_cases hk:k=0
  · subst hk
    rw [Nat.pow_zero]
    have h1:1≤(Lib.decDigits (u / 10)).length:=by
     by_cases h2:u / 10<10
     · rw [dig_small h2];simp
     rw [dig_more (by omega)];simp
    omega
  have:=dig_le k (u / 10) (by omega)
  omega
theorem dig_ne (u:Nat):Lib.decDigits u≠[]:=by
 by_cases h:u<10
 · rw [dig_small h];simp
 rw [dig_more (by omega)];simp
def isDg (b:UInt8):Bool:=decide (48≤b.toNat)&&decide (b.toNat≤57)
def accN (l:List UInt8):Nat:=l.foldl (fun n b=>if isDg b=true then n*10+(b.toNat-48) else n) 0
def cntD (l:List UInt8):Nat:=l.countP isDg
theorem accN_snoc (l:List UInt8) (b:UInt8):accN (l++[b])=if isDg b=true then accN l*10+(b.toNat-48) else accN l:=by unfold accN;rw [List.foldl_append];rfl
theorem cntD_snoc (l:List UInt8) (b:UInt8):cntD (l++[b])=if isDg b=true then cntD l+1 else cntD l:=by
 unfold cntD
 rw [List.countP_append,List.countP_singleton]
 split<;>rfl
theorem dg_of {d:Nat} (h:d<10):isDg (UInt8.ofNat (48+d))=true∧(UInt8.ofNat (48+d)).toNat-48=d:=by
 have e:(UInt8.ofNat (48+d)).toNat=48+d:=by rw [UInt8.toNat_ofNat'];omega
 unfold isDg
 rw [e]
 constructor
 · simp;omega
 omega
theorem dig_all:∀ (k u:Nat),u<k→(Lib.decDigits u).all isDg=true
 | 0,_,h=>by omega
 | k+1,u,h=>by
  by_cases h1:u<10
  · rw [dig_small h1];simpa using (dg_of h1).1
  rw [dig_more (by omega),List.all_append,dig_all k (u / 10) (by omega)]
  simpa using (dg_of (Nat.mod_lt u (by decide))).1
theorem accN_dig:∀ (k u:Nat),u<k→accN (Lib.decDigits u)=u
 | 0,_,h=>by omega
 | k+1,u,h=>by
  by_cases h1:u<10
  · rw [dig_small h1]
    have:=accN_snoc [] (UInt8.ofNat (48+u))
    rw [List.nil_append,if_pos (dg_of h1).1,(dg_of h1).2] at this
    rw [this];simp [accN]
  have hm:=dg_of (Nat.mod_lt u (show 0<10 by decide))
  rw [dig_more (by omega),accN_snoc,accN_dig k (u / 10) (by omega),if_pos hm.1,hm.2]
  omega
theorem cntD_dig (u:Nat):cntD (Lib.decDigits u)=(Lib.decDigits u).length:=by
 unfold cntD
 rw [List.countP_eq_length]
 exact List.all_eq_true.1 (dig_all (u+1) u (by omega))
theorem dig_head {u:Nat}:(Lib.decDigits u).head?≠some 45:=by
 intro h
 have:=List.all_eq_true.1 (dig_all (u+1) u (by omega)) 45 (List.mem_of_mem_head? h)
 exact absurd this (by decide)
def sgnN (l:List UInt8):Int:=if l.head?=some 45 then -(accN l:Int) else accN l
theorem sgn_itoS (n:Int):sgnN (itoS n)=n∧cntD (itoS n)=(Lib.decDigits n.natAbs).length:=by
 unfold sgnN itoS Lib.itoa
 by_cases h:n<0
 · rw [if_pos h]
   have e1:accN (45::Lib.decDigits n.natAbs)=accN (Lib.decDigits n.natAbs):=by
    unfold accN
    rw [List.foldl_cons,if_neg (by decide)]
   have e2:cntD (45::Lib.decDigits n.natAbs)=cntD (Lib.decDigits n.natAbs):=by
    unfold cntD
    rw [List.countP_cons_of_neg (by decide)]
   rw [List.head?_cons,if_pos rfl,e1,e2,accN_dig (n.natAbs+1) _ (by omega),cntD_dig]
   exact⟨by omega,rfl⟩
 rw [if_neg h,if_neg dig_head,accN_dig (n.toNat+1) _ (by omega),cntD_dig]
 exact⟨by omega,by rw [show n.natAbs=n.toNat by omega]⟩
def parseI (l:List UInt8):Int×Bool:=if cntD l≤9∧l.length≤10∧itoS (sgnN l)=l then (sgnN l,true) else (0,false)
theorem parseI_of {l:List UInt8} {n:Int} (h:itoS n=l):parseI l=if -999999999≤n∧n≤999999999 then (n,true) else (0,false):=by
 obtain⟨h1,h2⟩:=sgn_itoS n
 rw [h] at h1 h2
 have h3:=dig_le 9 n.natAbs (by decide)
 unfold parseI
 rw [h1,h2]
 by_cases hb:-999999999≤n∧n≤999999999
 · have h4:(Lib.decDigits n.natAbs).length≤9:=h3.1 (by omega)
   have h5:l.length≤10:=by
    rw [←h]
    unfold itoS Lib.itoa
    split
    · rw [List.length_cons];omega
    rw [show n.toNat=n.natAbs by omega];omega
   rw [if_pos ⟨h4,h5,h⟩,if_pos hb]
 rw [if_neg (fun hh=>hb (by have:=h3.2 hh.1;omega)),if_neg hb]
theorem parseI_no {l:List UInt8} (h:∀ n,itoS n≠l):parseI l=(0,false):=by
 unfold parseI
 rw [if_neg (fun hh=>h _ hh.2.2)]
def splitL (c:UInt8):List UInt8→List (List UInt8)
 | []=>[[]]
 | b::l=>if b=c then []::splitL c l else (b::(splitL c l).headD [])::(splitL c l).tail
theorem splitL_ne (c:UInt8) (l:List UInt8):splitL c l≠[]:=by
 cases l with
 | nil=>simp [splitL]
 | cons b l=>unfold splitL;split<;>simp
theorem splitL_no {c:UInt8}:∀ {l:List UInt8},c∉l→splitL c l=[l]
 | [],_=>rfl
 | b::l,h=>by
  unfold splitL
  rw [if_neg (fun e=>h (by simp [e])),splitL_no fun hm=>h (by simp [hm])]
  rfl
theorem splitL_hit {c:UInt8} {r:List UInt8}:∀ {l:List UInt8},c∉l→splitL c (l++c::r)=l::splitL c r
 | [],_=>by rw [List.nil_append,splitL,if_pos rfl]
 | b::l,h=>by
  rw [List.cons_append,splitL,if_neg (fun e=>h (by simp [e])),splitL_hit fun hm=>h (by simp [hm])]
  rfl
theorem splitL_len (c:UInt8):∀ l:List UInt8,(splitL c l).length=l.count c+1
 | []=>rfl
 | b::l=>by
  unfold splitL
  have ih:=splitL_len c l
  split
  · rename_i h;subst h;rw [List.length_cons,ih,List.count_cons_self]
  rename_i h
  rw [List.length_cons,List.length_tail,ih,List.count_cons_of_ne (by simpa using h)];omega
theorem splitL_mem {c:UInt8}:∀ {l x:List UInt8},x∈splitL c l→c∉x∧x.length≤l.length
 | [],x,h=>by
  simp [splitL] at h
  subst h;simp
 | b::l,x,h=>by
  unfold splitL at h
  split at h
  · rcases List.mem_cons.1 h with rfl|h
    · simp
    have:=splitL_mem h
    exact⟨this.1,by simp;omega⟩
  rename_i hb
  obtain⟨y,r,hx⟩:∃ x r,splitL c l=x::r:=by
   cases h':splitL c l with
   | nil=>exact absurd h' (splitL_ne c l)
   | cons x r=>exact⟨x,r,rfl⟩
  rw [hx] at h
  rcases List.mem_cons.1 h with rfl|h
  · have:=splitL_mem (c:=c) (l:=l) (x:=y) (by rw [hx];simp)
    refine⟨fun hm=>?_,by simp;exact this.2⟩
    rcases List.mem_cons.1 hm with e|hm
    · exact hb e.symm
    exact this.1 hm
  have:=splitL_mem (c:=c) (l:=l) (x:=x) (by rw [hx];simp;exact .inr (by simpa using h))
  exact⟨this.1,by simp;omega⟩
theorem cut_step {c b:UInt8} {l:List UInt8} {O:List (List UInt8)} {F i:Nat} (hb:l[i]?=some b) (hi:F≤i∧i≤l.length∧c∉(l.take i).drop F∧O.length≤i) (hbe:b=c) (he:splitL c l=O++splitL c (l.drop F)) :
 splitL c l=(O++[(l.take i).drop F])++splitL c (l.drop (i+1)):=by
 subst hbe
 have hl:=(List.getElem?_eq_some_iff.1 hb).1
 have e:l.drop F=(l.take i).drop F++b::l.drop (i+1):=by
  conv=>lhs;rw [←List.take_append_drop i l]
  rw [List.drop_append,List.length_take,show F-min i l.length=0 by omega,List.drop_zero,List.drop_eq_getElem_cons hl,(List.getElem?_eq_some_iff.1 hb).2]
 rw [he,e,splitL_hit hi.2.2.1]
 simp
theorem cut_keep {c b:UInt8} {l:List UInt8} {O:List (List UInt8)} {F i:Nat} (hb:l[i]?=some b) (hi:F≤i∧i≤l.length∧c∉(l.take i).drop F∧O.length≤i) (hbe:b≠c):c∉(l.take (i+1)).drop F:=by
 have hl:=(List.getElem?_eq_some_iff.1 hb).1
 rw [List.take_add_one,hb,List.drop_append,List.length_take]
 intro h
 rcases List.mem_append.1 h with h|h
 · exact hi.2.2.1 h
 rw [show F-min i l.length=0 by omega] at h
 simp at h
 exact hbe h.symm
theorem split_eq (c:UInt8):∀ (k:Nat) (s:ByteArray),s.data.toList.count c=k→Lib.splitB (bs [c]) 0 k s=(splitL c s.data.toList).map bs:=by
 intro k
 induction k with
 | zero=>
  intro s h
  rw [Lib.splitB_zero,splitL_no (List.count_eq_zero.1 h)]
  simp [bs]
 | succ k ih=>
  intro s h
  have hmem:c∈s.data.toList:=List.count_pos_iff.1 (by omega)
  rcases Lib.indexB_cases s (bs [c]) with h1|⟨i,h1,h2⟩
  · exfalso
    have h3:Lib.index s.data.toList [c]=-1:=by
     have e:Lib.indexB s (bs [c])=Lib.index s.data.toList (bs [c]).data.toList:=rfl
     rw [bs_list] at e;rw [←e];exact h1
    rw [Lib.index_one] at h3
    obtain⟨j,hj⟩:=List.getElem?_of_mem hmem
    exact Lib.indexByte_none h3 j hj
  have h3:Lib.index s.data.toList [c]=i:=by
   have e:Lib.indexB s (bs [c])=Lib.index s.data.toList (bs [c]).data.toList:=rfl
   rw [bs_list] at e;rw [←e];exact h1
  rw [Lib.index_one] at h3
  obtain⟨h4,h5⟩:=Lib.indexByte_some h3
  have hi:=(List.getElem?_eq_some_iff.1 h4).1
  have hsp:s.data.toList=s.data.toList.take i++c::s.data.toList.drop (i+1):=by
   conv=>lhs;rw [←List.take_append_drop i s.data.toList]
   rw [List.drop_eq_getElem_cons hi,(List.getElem?_eq_some_iff.1 h4).2]
  have hno:c∉s.data.toList.take i:=fun hm=>by
   obtain⟨j,hj⟩:=List.getElem?_of_mem hm
   have hj2:=(List.getElem?_eq_some_iff.1 hj).1
   rw [List.length_take] at hj2
   rw [List.getElem?_take_of_lt (by omega)] at hj
   exact h5 j (by omega) hj
  rw [Lib.splitB_hit _ _ _ _ _ h1,Nat.add_zero,bs_size,List.length_singleton]
  have e1:s.extract 0 i=bs (s.data.toList.take i):=by
   apply ByteArray.ext
   rw [ByteArray.data_extract]
   apply Array.ext'
   simp [bs]
  have e2:(s.extract (i+1) s.size).data.toList=s.data.toList.drop (i+1):=by
   rw [ByteArray.data_extract,Array.toList_extract,List.extract_eq_take_drop]
   rw [List.take_of_length_le (by rw [List.length_drop,Array.length_toList];exact Nat.le_refl _)]
  have hc:(s.data.toList.drop (i+1)).count c=k:=by
   rw [hsp,List.count_append,List.count_cons_self,List.count_eq_zero.2 hno] at h
   omega
  rw [ih _ (by rw [e2];exact hc),e2,e1]
  conv=>rhs;rw [hsp,splitL_hit hno]
  rfl
def chkS (l:List UInt8):Int:=l.foldl (fun n b=>(n*257+(b.toNat:Int)+1)%9973) 1
theorem chkS_snoc (l:List UInt8) (b:UInt8):chkS (l++[b])=(chkS l*257+(b.toNat:Int)+1)%9973:=by unfold chkS;rw [List.foldl_append];rfl
theorem chkS_le (l:List UInt8):0≤chkS l∧chkS l<9973:=by
 rcases List.eq_nil_or_concat l with rfl|⟨r,b,rfl⟩
 · decide
 rw [List.concat_eq_append,chkS_snoc];omega
theorem bs_get (l:List UInt8) (n:Nat):(bs l)[n]?=l[n]?:=by
 show (bs l).data[n]?=l[n]?
 simp [bs]
theorem bs_extract (l:List UInt8) (n m:Nat):(bs l).extract n m=bs ((l.take m).drop n):=by
 apply ByteArray.ext
 rw [ByteArray.data_extract]
 apply Array.ext'
 rw [Array.toList_extract,List.extract_eq_take_drop,bs_list]
 simp only [bs]
 rw [List.drop_take]
theorem bs_of (s:ByteArray):bs s.data.toList=s:=by
 apply ByteArray.ext
 simp [bs]
end Go.Q
set_option maxHeartbeats 1000000
set_option maxRecDepth 100000
namespace Go.Q
open Go.RowKit
theorem V0s_vs {o:Bool} {w:World}:∀ (xs:List Value),xs.all Value.oneCell'=true→V0s o w (xs.map fun x=>.one (.v x)) xs []
 | [],_=>⟨rfl,rfl⟩
 | x::xs,h=>by
  rw [List.all_cons,Bool.and_eq_true] at h
  exact⟨x,xs,[],[],rfl,by unfold V0r C;exact⟨rfl,rfl,h.1⟩,V0s_vs xs h.2,rfl⟩
end Go.Q
namespace Go.Proofs.YtdhojcaoljhbiaaGreatDoor
open Go.RowKit Go.Q Go.D Go.Shelf
def Tryz.laysM171_ren:Go.Shelf.Ren:=⟨fun|171=>105|243=>142|246=>189|283=>235|284=>236|285=>237|286=>238|129=>163|317=>256|318=>257|319=>258|320=>259|337=>268|338=>269|n=>n,fun|3=>3|9=>9|2=>2|4=>4|171=>253|0=>0|53=>197|37=>22|5=>5|173=>255|212=>275|51=>195|20=>20|213=>276|46=>158|232=>295|233=>296|n=>n,fun|17=>3|18=>6|19=>7|n=>n⟩
theorem Tryz.laysM171:Go.Proofs.LaysM.n171 Tryz.prog Tryz.laysM171_ren:={
 mixed:=by kernel_rfl
 f129:=Tryz.func163.trans (congrArg some (by kernel_rfl))
 f171:=Tryz.func105.trans (congrArg some (by kernel_rfl))
 f243:=Tryz.func142.trans (congrArg some (by kernel_rfl))
 f246:=Tryz.func189.trans (congrArg some (by kernel_rfl))
 f283:=Tryz.func235.trans (congrArg some (by kernel_rfl))
 f284:=Tryz.func236.trans (congrArg some (by kernel_rfl))
 f285:=Tryz.func237.trans (congrArg some (by kernel_rfl))
 f286:=Tryz.func238.trans (congrArg some (by kernel_rfl))
 f317:=Tryz.func256.trans (congrArg some (by kernel_rfl))
 f318:=Tryz.func257.trans (congrArg some (by kernel_rfl))
 f319:=Tryz.func258.trans (congrArg some (by kernel_rfl))
 f320:=Tryz.func259.trans (congrArg some (by kernel_rfl))
 f337:=Tryz.func268.trans (congrArg some (by kernel_rfl))
 f338:=Tryz.func269.trans (congrArg some (by kernel_rfl))
 t0:=Tryz.underlying0
 a0:=Tryz.isAgg0
 z0:=Tryz.sizeOf0
 v0:=Tryz.zeroValue0
 t2:=Tryz.underlying2
 a2:=Tryz.isAgg2
 z2:=Tryz.sizeOf2
 v2:=Tryz.zeroValue2
 t3:=Tryz.underlying3
 a3:=Tryz.isAgg3
 z3:=Tryz.sizeOf3
 v3:=Tryz.zeroValue3
 t4:=Tryz.underlying4
 a4:=Tryz.isAgg4
 z4:=Tryz.sizeOf4
 v4:=Tryz.zeroValue4
 t5:=Tryz.underlying5
 a5:=Tryz.isAgg5
 z5:=Tryz.sizeOf5
 v5:=Tryz.zeroValue5
 t9:=Tryz.underlying9
 a9:=Tryz.isAgg9
 z9:=Tryz.sizeOf9
 v9:=Tryz.zeroValue9
 t20:=Tryz.underlying20
 a20:=Tryz.isAgg20
 z20:=Tryz.sizeOf20
 v20:=Tryz.zeroValue20
 t37:=Tryz.underlying22
 a37:=Tryz.isAgg22
 z37:=Tryz.sizeOf22
 v37:=Tryz.zeroValue22
 t46:=Tryz.underlying158
 a46:=Tryz.isAgg158
 z46:=Tryz.sizeOf158
 v46:=Tryz.zeroValue158
 t51:=Tryz.underlying195
 a51:=Tryz.isAgg195
 z51:=Tryz.sizeOf195
 v51:=Tryz.zeroValue195
 t53:=Tryz.underlying197
 a53:=Tryz.isAgg197
 z53:=Tryz.sizeOf197
 v53:=Tryz.zeroValue197
 t171:=Tryz.underlying253
 a171:=Tryz.isAgg253
 z171:=Tryz.sizeOf253
 v171:=Tryz.zeroValue253
 t173:=Tryz.underlying255
 a173:=Tryz.isAgg255
 z173:=Tryz.sizeOf255
 v173:=Tryz.zeroValue255
 t212:=Tryz.underlying275
 a212:=Tryz.isAgg275
 z212:=Tryz.sizeOf275
 v212:=Tryz.zeroValue275
 t213:=Tryz.underlying276
 a213:=Tryz.isAgg276
 z213:=Tryz.sizeOf276
 t232:=Tryz.underlying295
 a232:=Tryz.isAgg295
 z232:=Tryz.sizeOf295
 v232:=Tryz.zeroValue295
 t233:=Tryz.underlying296
 a233:=Tryz.isAgg296
 z233:=Tryz.sizeOf296
 v233:=Tryz.zeroValue296
 g17:=by kernel_rfl
 g18:=by kernel_rfl
 g19:=by kernel_rfl
 i0:=by kernel_rfl
 i2:=by kernel_rfl
 i3:=by kernel_rfl
 i4:=by kernel_rfl
 i5:=by kernel_rfl
 i9:=by kernel_rfl
 i20:=by kernel_rfl
 i37:=by kernel_rfl
 i46:=by kernel_rfl
 i51:=by kernel_rfl
 i53:=by kernel_rfl
 i171:=by kernel_rfl
 i173:=by kernel_rfl
 i212:=by kernel_rfl
 i232:=by kernel_rfl
 i233:=by kernel_rfl
 m17:=by kernel_rfl
 m18:=by kernel_rfl
 m19:=by kernel_rfl }
theorem strconvItoaA (n:Int) (h0:-9223372036854775808≤n) (h1:n≤9223372036854775807):FnT Tryz.prog 105 [.one (.v (.int .i64 n))] (.a (.one (.v (.string (bs (itoS n)))))):=by
 refine⟨⟨_,Tryz.func105,by kernel_rfl,by kernel_rfl⟩,fun w vs F hG hv=>?_⟩
 obtain⟨v1,vr,G1,G2,rfl,g1,⟨rfl,rfl⟩,rfl⟩:=hv
 simp only [V0r,C] at g1
 obtain⟨rfl,rfl,_⟩:=g1
 have htab:Lib.TabIs Tryz.prog w "internal/strconv.uint64pow10" .u64 Lib.pow10Tab:=by
  obtain⟨w0,⟨_,h2,_⟩,h3⟩:=hG.ex
  have hg:Tryz.prog.globalNamed "internal/strconv.uint64pow10"=some ((Tryz.prog.globalNamed "internal/strconv.uint64pow10").getD 0):=by kernel_rfl
  have hl:(Tryz.prog.globalNamed "internal/strconv.uint64pow10").getD 0<Tryz.prog.low:=Nat.lt_trans (of_decide_eq_true (by kernel_rfl)) low_lt
  unfold Lib.TabIs World.var? at h2 ⊢
  rw [hg] at h2 ⊢
  simp only [Option.bind_some] at h2 ⊢
  rw [h3 _ hl];exact h2
 have hcon:=Any.strconv_Itoa Tryz.laysM171 n h0 h1 w htab
 change Calls Tryz.prog 105 _ _ _ at hcon
 refine hcon.mono ?_
 rintro e w' ⟨rfl,k,os,rfl⟩
 refine⟨_,[],rfl,?_,List.nodup_nil,by simp,⟨rfl,rfl,rfl,(by show w.heap.size≤(w.heap++os).size;rw [Array.size_append];omega),fun j hj=>(by show (w.heap++os)[j]?=w.heap[j]?;exact Array.getElem?_append_left hj)⟩⟩
 simp [Vr,V0r,C]
 exact⟨rfl,rfl⟩
def Tryz.laysM146_ren:Go.Shelf.Ren:=⟨fun|146=>63|221=>110|268=>146|138=>147|143=>148|195=>193|197=>194|218=>195|219=>149|260=>239|217=>169|225=>196|224=>197|267=>198|266=>217|314=>240|n=>n,fun|9=>9|31=>102|3=>3|4=>4|0=>0|105=>217|21=>21|5=>5|46=>158|119=>277|139=>280|138=>279|146=>257|51=>195|n=>n,fun|1=>0|3=>4|4=>5|n=>n⟩
theorem Tryz.laysM146:Go.Proofs.LaysM.n146 Tryz.prog Tryz.laysM146_ren:={
 mixed:=by kernel_rfl
 f138:=Tryz.func147.trans (congrArg some (by kernel_rfl))
 f143:=Tryz.func148.trans (congrArg some (by kernel_rfl))
 f146:=Tryz.func63.trans (congrArg some (by kernel_rfl))
 f195:=Tryz.func193.trans (congrArg some (by kernel_rfl))
 f197:=Tryz.func194.trans (congrArg some (by kernel_rfl))
 f217:=Tryz.func169.trans (congrArg some (by kernel_rfl))
 f218:=Tryz.func195.trans (congrArg some (by kernel_rfl))
 f219:=Tryz.func149.trans (congrArg some (by kernel_rfl))
 f221:=Tryz.func110.trans (congrArg some (by kernel_rfl))
 f224:=Tryz.func197.trans (congrArg some (by kernel_rfl))
 f225:=Tryz.func196.trans (congrArg some (by kernel_rfl))
 f260:=Tryz.func239.trans (congrArg some (by kernel_rfl))
 f266:=Tryz.func217.trans (congrArg some (by kernel_rfl))
 f267:=Tryz.func198.trans (congrArg some (by kernel_rfl))
 f268:=Tryz.func146.trans (congrArg some (by kernel_rfl))
 f314:=Tryz.func240.trans (congrArg some (by kernel_rfl))
 t0:=Tryz.underlying0
 a0:=Tryz.isAgg0
 z0:=Tryz.sizeOf0
 v0:=Tryz.zeroValue0
 t3:=Tryz.underlying3
 a3:=Tryz.isAgg3
 z3:=Tryz.sizeOf3
 v3:=Tryz.zeroValue3
 t4:=Tryz.underlying4
 a4:=Tryz.isAgg4
 z4:=Tryz.sizeOf4
 v4:=Tryz.zeroValue4
 t5:=Tryz.underlying5
 a5:=Tryz.isAgg5
 z5:=Tryz.sizeOf5
 v5:=Tryz.zeroValue5
 t9:=Tryz.underlying9
 a9:=Tryz.isAgg9
 z9:=Tryz.sizeOf9
 v9:=Tryz.zeroValue9
 t21:=Tryz.underlying21
 a21:=Tryz.isAgg21
 z21:=Tryz.sizeOf21
 v21:=Tryz.zeroValue21
 t31:=Tryz.underlying102
 a31:=Tryz.isAgg102
 z31:=Tryz.sizeOf102
 v31:=Tryz.zeroValue102
 t46:=Tryz.underlying158
 a46:=Tryz.isAgg158
 z46:=Tryz.sizeOf158
 v46:=Tryz.zeroValue158
 t51:=Tryz.underlying195
 a51:=Tryz.isAgg195
 z51:=Tryz.sizeOf195
 v51:=Tryz.zeroValue195
 t105:=Tryz.underlying217
 a105:=Tryz.isAgg217
 z105:=Tryz.sizeOf217
 v105:=Tryz.zeroValue217
 t119:=Tryz.underlying277
 a119:=Tryz.isAgg277
 z119:=Tryz.sizeOf277
 t138:=Tryz.underlying279
 a138:=Tryz.isAgg279
 z138:=Tryz.sizeOf279
 v138:=Tryz.zeroValue279
 t139:=Tryz.underlying280
 a139:=Tryz.isAgg280
 z139:=Tryz.sizeOf280
 v139:=Tryz.zeroValue280
 t146:=Tryz.underlying257
 a146:=Tryz.isAgg257
 z146:=Tryz.sizeOf257
 v146:=Tryz.zeroValue257
 g1:=by kernel_rfl
 g3:=by kernel_rfl
 g4:=by kernel_rfl
 i0:=by kernel_rfl
 i3:=by kernel_rfl
 i4:=by kernel_rfl
 i5:=by kernel_rfl
 i9:=by kernel_rfl
 i21:=by kernel_rfl
 i31:=by kernel_rfl
 i46:=by kernel_rfl
 i51:=by kernel_rfl
 i105:=by kernel_rfl
 i138:=by kernel_rfl
 i139:=by kernel_rfl
 i146:=by kernel_rfl
 m1:=by kernel_rfl
 s1_3:=fun w h=>Go.Proofs.cell_of_shapedOpen_int (zero:=#[.int .i64 0]) (t:=3) h (of_decide_eq_true (by kernel_rfl)) (by kernel_rfl) rfl (by kernel_rfl) (by kernel_rfl) Tryz.underlying3
 m3:=by kernel_rfl
 m4:=by kernel_rfl }
theorem stringsSplit (s:ByteArray) (c:UInt8) (hs:s.size<4294967281):FnT Tryz.prog 63 [.one (.v (.string s)),.one (.v (.string (bs [c])))] (.a (.one (.sl 1 ((splitL c s.data.toList).map cStr)))):=by
 refine⟨⟨_,Tryz.func63,by kernel_rfl,by kernel_rfl⟩,fun w vs F hG hv=>?_⟩
 obtain⟨v1,vr,G1,G2,rfl,g1,⟨v2,vr2,G3,G4,rfl,g2,⟨rfl,rfl⟩,rfl⟩,rfl⟩:=hv
 simp only [V0r,C] at g1 g2
 obtain⟨rfl,rfl,_⟩:=g1
 obtain⟨rfl,rfl,_⟩:=g2
 have hgl:Tryz.laysM146_ren.g 1<Tryz.prog.low:=Nat.lt_trans (of_decide_eq_true (by kernel_rfl)) low_lt
 obtain⟨m,hm⟩:∃ m,w.cell? ⟨Tryz.laysM146_ren.g 1,0,none⟩=some (.int .i64 m):=by
  obtain⟨w0,⟨h2,_⟩,h3⟩:=hG.ex
  obtain⟨m,hm⟩:=Tryz.laysM146.s1_3 w0 h2
  exact⟨m,(World.cell?_of_block (a:=⟨Tryz.laysM146_ren.g 1,0,none⟩) (h3 _ hgl)).trans hm⟩
 have hcon:=Any.strings_Split { Tryz.laysM146 with } Tryz.laysM146.i9 s (bs [c]) m w hs hm (by rw [bs_size];simp)
 change Calls Tryz.prog 63 _ _ _ at hcon
 have hcnt:Lib.countB s (bs [c])=s.data.toList.count c:=by
  have e:Lib.countB s (bs [c])=Lib.count s.data.toList (bs [c]).data.toList:=rfl
  rw [e,bs_list,Lib.count_one]
 rw [hcnt,split_eq c _ s rfl] at hcon
 have hlen:=splitL_len c s.data.toList
 have hle:s.data.toList.count c≤s.size:=by
  have:=List.count_le_length (a:=c) (l:=s.data.toList)
  rw [Array.length_toList] at this;exact this
 refine hcon.mono ?_
 rintro e w' ⟨rfl,rfl⟩
 have hb:(w.alloc (.cells (((splitL c s.data.toList).map bs).map Value.string).toArray (Tryz.laysM146_ren.t 9))).heap[w.heap.size]?=some (.cells (((splitL c s.data.toList).map bs).map Value.string).toArray (Tryz.laysM146_ren.t 9)):=by
  show (w.heap.push _)[w.heap.size]?=_
  rw [Array.getElem?_push,if_pos rfl]
 have key:∀ (xs pre:List (List UInt8)) (all:List Value) (W:World) (e:TypeId),W.heap[w.heap.size]?=some (.cells all.toArray e)→all=(pre++xs).map (fun x=>Value.string (bs x))→Rws true W w.heap.size 1 pre.length (xs.map cStr) []:=by
  intro xs
  induction xs with
  | nil=>intro pre all W e h1 h2;simp only [List.map_nil,Rws]
  | cons x xs ih=>
   intro pre all W e h1 h2
   have:=ih (pre++[x]) all W e h1 (by rw [h2];simp)
   rw [List.length_append,List.length_singleton] at this
   rw [List.map_cons]
   unfold Rws
   refine⟨[],[],rfl,?_,this,rfl⟩
   unfold cStr Ms
   refine⟨_,[],[],?_,by unfold C;exact⟨rfl,rfl,rfl⟩,by unfold Ms;rfl,rfl⟩
   simp [World.cell?,h1,h2]
 refine⟨_,[w.heap.size],rfl,?_,by simp,fun b hb'=>?_,Below.alloc (Below.refl _ _) (Nat.le_refl _) _⟩
 · show C true _ (.sl 1 _) _ _
   unfold C
   refine⟨_,_,_,rfl,by rw [List.length_map,hlen],Nat.le_refl _,by (show _≤maxLen);(unfold maxLen);omega,.inr ⟨_,0,[],rfl,rfl,?_,fun _=>⟨rfl,_,_,hb,by simp [hlen]⟩,?_⟩⟩
   · show w.heap.size<(w.heap.push _).size
     simp
   exact key _ [] _ _ _ hb (by simp)
 rw [List.mem_singleton] at hb'
 subst hb'
 refine⟨Nat.le_refl _,?_⟩
 exact⟨.inl _,_,hb⟩
def Tryz.laysM145_ren:Go.Shelf.Ren:=⟨fun|145=>64|220=>111|219=>149|217=>169|225=>196|224=>197|267=>198|266=>217|314=>240|n=>n,fun|9=>9|4=>4|59=>107|3=>3|5=>5|46=>158|146=>257|51=>195|n=>n,fun|1=>0|n=>n⟩
theorem Tryz.laysM145:Go.Proofs.LaysM.n145 Tryz.prog Tryz.laysM145_ren:={
 mixed:=by kernel_rfl
 f145:=Tryz.func64.trans (congrArg some (by kernel_rfl))
 f217:=Tryz.func169.trans (congrArg some (by kernel_rfl))
 f219:=Tryz.func149.trans (congrArg some (by kernel_rfl))
 f220:=Tryz.func111.trans (congrArg some (by kernel_rfl))
 f224:=Tryz.func197.trans (congrArg some (by kernel_rfl))
 f225:=Tryz.func196.trans (congrArg some (by kernel_rfl))
 f266:=Tryz.func217.trans (congrArg some (by kernel_rfl))
 f267:=Tryz.func198.trans (congrArg some (by kernel_rfl))
 f314:=Tryz.func240.trans (congrArg some (by kernel_rfl))
 t3:=Tryz.underlying3
 a3:=Tryz.isAgg3
 z3:=Tryz.sizeOf3
 v3:=Tryz.zeroValue3
 t4:=Tryz.underlying4
 a4:=Tryz.isAgg4
 z4:=Tryz.sizeOf4
 v4:=Tryz.zeroValue4
 t5:=Tryz.underlying5
 a5:=Tryz.isAgg5
 z5:=Tryz.sizeOf5
 v5:=Tryz.zeroValue5
 t9:=Tryz.underlying9
 a9:=Tryz.isAgg9
 z9:=Tryz.sizeOf9
 v9:=Tryz.zeroValue9
 t46:=Tryz.underlying158
 a46:=Tryz.isAgg158
 z46:=Tryz.sizeOf158
 v46:=Tryz.zeroValue158
 t51:=Tryz.underlying195
 a51:=Tryz.isAgg195
 z51:=Tryz.sizeOf195
 v51:=Tryz.zeroValue195
 t59:=Tryz.underlying107
 a59:=Tryz.isAgg107
 z59:=Tryz.sizeOf107
 v59:=Tryz.zeroValue107
 t146:=Tryz.underlying257
 a146:=Tryz.isAgg257
 z146:=Tryz.sizeOf257
 v146:=Tryz.zeroValue257
 g1:=by kernel_rfl
 i3:=by kernel_rfl
 i4:=by kernel_rfl
 i5:=by kernel_rfl
 i9:=by kernel_rfl
 i46:=by kernel_rfl
 i51:=by kernel_rfl
 i59:=by kernel_rfl
 i146:=by kernel_rfl
 m1:=by kernel_rfl
 s1_3:=fun w h=>Go.Proofs.cell_of_shapedOpen_int (zero:=#[.int .i64 0]) (t:=3) h (of_decide_eq_true (by kernel_rfl)) (by kernel_rfl) rfl (by kernel_rfl) (by kernel_rfl) Tryz.underlying3 }
theorem stringsCut (s:ByteArray) (sep:List UInt8) (hs:s.size<4294967281):FnT Tryz.prog 64 [.one (.v (.string s)),.one (.v (.string (bs sep)))] (.tup [.one (.v (.string (bs (Lib.cut s.data.toList sep).1))),.one (.v (.string (bs (Lib.cut s.data.toList sep).2.1))),.one (.v (.bool (Lib.cut s.data.toList sep).2.2))]):=by
 refine⟨⟨_,Tryz.func64,by kernel_rfl,by kernel_rfl⟩,fun w vs F hG hv=>?_⟩
 obtain⟨v1,vr,G1,G2,rfl,g1,⟨v2,vr2,G3,G4,rfl,g2,⟨rfl,rfl⟩,rfl⟩,rfl⟩:=hv
 simp only [V0r,C] at g1 g2
 obtain⟨rfl,rfl,_⟩:=g1
 obtain⟨rfl,rfl,_⟩:=g2
 have hgl:Tryz.laysM145_ren.g 1<Tryz.prog.low:=Nat.lt_trans (of_decide_eq_true (by kernel_rfl)) low_lt
 obtain⟨m,hm⟩:∃ m,w.cell? ⟨Tryz.laysM145_ren.g 1,0,none⟩=some (.int .i64 m):=by
  obtain⟨w0,⟨h2,_⟩,h3⟩:=hG.ex
  obtain⟨m,hm⟩:=Tryz.laysM145.s1_3 w0 h2
  exact⟨m,(World.cell?_of_block (a:=⟨Tryz.laysM145_ren.g 1,0,none⟩) (h3 _ hgl)).trans hm⟩
 have hcon:=Any.strings_Cut { Tryz.laysM145 with } s (bs sep) m w hs hm
 change Calls Tryz.prog 64 _ _ _ at hcon
 rw [bs_list] at hcon
 refine hcon.mono ?_
 rintro e w' ⟨rfl,n,rfl⟩
 refine⟨_,[],rfl,?_,List.nodup_nil,by simp,⟨rfl,rfl,rfl,Nat.le_refl _,fun _ _=>rfl⟩⟩
 exact⟨_,rfl,V0s_vs [.string (bs (Lib.cut s.data.toList sep).1),.string (bs (Lib.cut s.data.toList sep).2.1),.bool (Lib.cut s.data.toList sep).2.2] rfl⟩
def Tryz.lays137_ren:Go.Shelf.Ren:=⟨fun|137=>124|217=>169|266=>217|n=>n,fun|9=>9|5=>5|3=>3|n=>n,fun|n=>n⟩
theorem Tryz.lays137:Go.Proofs.Lays.n137 Tryz.prog Tryz.lays137_ren:={
 mixed:=by kernel_rfl
 f137:=Tryz.func124.trans (congrArg some (by kernel_rfl))
 f217:=Tryz.func169.trans (congrArg some (by kernel_rfl))
 f266:=Tryz.func217.trans (congrArg some (by kernel_rfl))
 t3:=Tryz.underlying3
 a3:=Tryz.isAgg3
 z3:=Tryz.sizeOf3
 v3:=Tryz.zeroValue3
 t5:=Tryz.underlying5
 a5:=Tryz.isAgg5
 z5:=Tryz.sizeOf5
 v5:=Tryz.zeroValue5
 t9:=Tryz.underlying9
 a9:=Tryz.isAgg9
 z9:=Tryz.sizeOf9
 v9:=Tryz.zeroValue9 }
theorem stringsIndexByte (s:ByteArray) (c:UInt8):FnT Tryz.prog 124 [.one (.v (.string s)),.one (.v (.int .u8 c.toNat))] (.a (.one (.v (.int .i64 (Lib.indexByte s.data.toList c))))):=by
 refine⟨⟨_,Tryz.func124,by kernel_rfl,by kernel_rfl⟩,fun w vs F hG hv=>?_⟩
 obtain⟨v1,vr,G1,G2,rfl,g1,⟨v2,vr2,G3,G4,rfl,g2,⟨rfl,rfl⟩,rfl⟩,rfl⟩:=hv
 simp only [V0r,C] at g1 g2
 obtain⟨rfl,rfl,_⟩:=g1
 obtain⟨rfl,rfl,_⟩:=g2
 have hcon:=Any.strings_IndexByte Tryz.lays137 s (c.toNat:Int) w
 rw [show ((c.toNat:Nat):Int).toNat.toUInt8=c by simp] at hcon
 change Calls Tryz.prog 124 _ _ _ at hcon
 refine hcon.mono ?_
 rintro e w' ⟨rfl,rfl⟩
 refine⟨_,[],rfl,?_,List.nodup_nil,by simp,Ext.refl _⟩
 simp [Vr,V0r,C]
 rfl
end Go.Proofs.YtdhojcaoljhbiaaGreatDoor
set_option maxHeartbeats 1000000
set_option maxRecDepth 100000
namespace Go.Q
open Go.D
theorem decFrom_snoc:∀ (l:List UInt8) (acc:Nat) (b:UInt8) (n d:Nat),Lib.decFrom acc l=some n→Lib.digitVal b=some d→Lib.decFrom acc (l++[b])=some (n*10+d)
 | [],acc,b,n,d,h,hd=>by
  simp only [Lib.decFrom,Option.some.injEq] at h
  subst h
  rw [List.nil_append]
  unfold Lib.decFrom
  rw [hd];rfl
 | x::l,acc,b,n,d,h,hd=>by
  rw [List.cons_append]
  unfold Lib.decFrom at h ⊢
  cases hx:Lib.digitVal x with
  | none=>rw [hx] at h;cases h
  | some v=>
   rw [hx] at h
   exact decFrom_snoc l _ b n d h hd
theorem digitVal_of {d:Nat} (h:d<10):Lib.digitVal (UInt8.ofNat (48+d))=some d:=by
 have e:(UInt8.ofNat (48+d)).toNat=48+d:=by rw [UInt8.toNat_ofNat'];omega
 unfold Lib.digitVal
 rw [e,if_pos (by omega)]
 congr 1;omega
theorem decFrom_dig:∀ (k u:Nat),u<k→Lib.decFrom 0 (Lib.decDigits u)=some u
 | 0,_,h=>by omega
 | k+1,u,h=>by
  by_cases h1:u<10
  · rw [dig_small h1]
    have:=decFrom_snoc [] 0 _ 0 u rfl (digitVal_of h1)
    rw [List.nil_append] at this
    rw [this];congr 1;omega
  rw [dig_more (by omega),decFrom_snoc _ 0 _ _ _ (decFrom_dig k (u / 10) (by omega)) (digitVal_of (Nat.mod_lt u (by decide)))]
  congr 1;omega
theorem decNat_dig (u:Nat):Lib.decNat (Lib.decDigits u)=some u:=by
 unfold Lib.decNat
 rw [if_neg (by simpa using dig_ne u)]
 exact decFrom_dig (u+1) u (by omega)
theorem dig_first {u:Nat} {b:UInt8} {r:List UInt8} (h:Lib.decDigits u=b::r):b≠45∧b≠43:=by
 have h1:=List.all_eq_true.1 (dig_all (u+1) u (by omega)) b (by rw [h];simp)
 constructor
 · rintro rfl;exact absurd h1 (by decide)
 rintro rfl;exact absurd h1 (by decide)
theorem atoi_itoS (n:Int):Lib.atoi (itoS n)=some n:=by
 unfold itoS Lib.itoa
 by_cases h:n<0
 · rw [if_pos h]
   have e:Lib.atoi (45::Lib.decDigits n.natAbs)=(Lib.decNat (Lib.decDigits n.natAbs)).map fun (m:Nat)=> -(m:Int):=rfl
   rw [e,decNat_dig]
   simp only [Option.map_some,Option.some.injEq];omega
 rw [if_neg h]
 have hd:=decNat_dig n.toNat
 cases hl:Lib.decDigits n.toNat with
 | nil=>exact absurd hl (dig_ne _)
 | cons b r=>
  rw [hl] at hd
  have hb:=dig_first hl
  show (if (b == 45)=true then _ else if (b == 43)=true then _ else (Lib.decNat (b::r)).map fun (m:Nat)=>(m:Int))=some n
  rw [if_neg (by simpa using hb.1),if_neg (by simpa using hb.2),hd]
  simp only [Option.map_some,Option.some.injEq];omega
theorem parseI_atoi (l:List UInt8):parseI l=match Lib.atoi l with
 | some n=>if l.length≤10∧itoS n=l∧ -999999999≤n∧n≤999999999 then (n,true) else (0,false)
 | none=>(0,false):=by
 cases h:Lib.atoi l with
 | none=>
  exact parseI_no fun n e=>by rw [←e,atoi_itoS] at h;cases h
 | some n=>
  simp only
  by_cases e:itoS n=l
  · rw [parseI_of e]
    have hl:(-999999999≤n∧n≤999999999)→l.length≤10:=fun hb=>by
     have h1:=(dig_le 9 n.natAbs (by decide)).1 (by omega)
     rw [←e]
     unfold itoS Lib.itoa
     split
     · rw [List.length_cons];omega
     rw [show n.toNat=n.natAbs by omega];omega
    by_cases hb:-999999999≤n∧n≤999999999
    · rw [if_pos hb,if_pos ⟨hl hb,e,hb⟩]
    rw [if_neg hb,if_neg fun hh=>hb hh.2.2]
  rw [if_neg fun hh=>e hh.2.1]
  exact parseI_no fun m em=>by
   have:=atoi_itoS m
   rw [em,h] at this
   cases this
   exact e em
end Go.Q
set_option maxHeartbeats 1000000
set_option maxRecDepth 100000
namespace Go.Proofs.YtdhojcaoljhbiaaGreatDoor
open Go.RowKit Go.Q Go.D Go.Shelf
def Tryz.lays172_ren:Go.Shelf.Ren:=⟨fun|172=>112|244=>150|245=>151|247=>199|279=>200|280=>201|281=>202|282=>203|287=>241|316=>242|171=>105|205=>243|321=>260|322=>261|243=>142|246=>189|283=>235|284=>236|285=>237|286=>238|129=>163|317=>256|318=>257|319=>258|320=>259|337=>268|338=>269|n=>n,fun|9=>9|3=>3|75=>150|76=>151|4=>4|5=>5|167=>220|37=>22|0=>0|85=>221|2=>2|168=>223|53=>197|175=>259|46=>158|210=>263|127=>182|145=>285|143=>283|21=>21|171=>253|173=>255|212=>275|51=>195|20=>20|213=>276|232=>295|233=>296|80=>153|n=>n,fun|15=>1|16=>2|17=>3|18=>6|19=>7|n=>n⟩
theorem Tryz.lays172:Go.Proofs.Lays.n172 Tryz.prog Tryz.lays172_ren:={
 mixed:=by kernel_rfl
 f129:=Tryz.func163.trans (congrArg some (by kernel_rfl))
 f171:=Tryz.func105.trans (congrArg some (by kernel_rfl))
 f172:=Tryz.func112.trans (congrArg some (by kernel_rfl))
 f205:=Tryz.func243.trans (congrArg some (by kernel_rfl))
 f243:=Tryz.func142.trans (congrArg some (by kernel_rfl))
 f244:=Tryz.func150.trans (congrArg some (by kernel_rfl))
 f245:=Tryz.func151.trans (congrArg some (by kernel_rfl))
 f246:=Tryz.func189.trans (congrArg some (by kernel_rfl))
 f247:=Tryz.func199.trans (congrArg some (by kernel_rfl))
 f279:=Tryz.func200.trans (congrArg some (by kernel_rfl))
 f280:=Tryz.func201.trans (congrArg some (by kernel_rfl))
 f281:=Tryz.func202.trans (congrArg some (by kernel_rfl))
 f282:=Tryz.func203.trans (congrArg some (by kernel_rfl))
 f283:=Tryz.func235.trans (congrArg some (by kernel_rfl))
 f284:=Tryz.func236.trans (congrArg some (by kernel_rfl))
 f285:=Tryz.func237.trans (congrArg some (by kernel_rfl))
 f286:=Tryz.func238.trans (congrArg some (by kernel_rfl))
 f287:=Tryz.func241.trans (congrArg some (by kernel_rfl))
 f316:=Tryz.func242.trans (congrArg some (by kernel_rfl))
 f317:=Tryz.func256.trans (congrArg some (by kernel_rfl))
 f318:=Tryz.func257.trans (congrArg some (by kernel_rfl))
 f319:=Tryz.func258.trans (congrArg some (by kernel_rfl))
 f320:=Tryz.func259.trans (congrArg some (by kernel_rfl))
 f321:=Tryz.func260.trans (congrArg some (by kernel_rfl))
 f322:=Tryz.func261.trans (congrArg some (by kernel_rfl))
 f337:=Tryz.func268.trans (congrArg some (by kernel_rfl))
 f338:=Tryz.func269.trans (congrArg some (by kernel_rfl))
 t0:=Tryz.underlying0
 a0:=Tryz.isAgg0
 z0:=Tryz.sizeOf0
 v0:=Tryz.zeroValue0
 t2:=Tryz.underlying2
 a2:=Tryz.isAgg2
 z2:=Tryz.sizeOf2
 v2:=Tryz.zeroValue2
 t3:=Tryz.underlying3
 a3:=Tryz.isAgg3
 z3:=Tryz.sizeOf3
 v3:=Tryz.zeroValue3
 t4:=Tryz.underlying4
 a4:=Tryz.isAgg4
 z4:=Tryz.sizeOf4
 v4:=Tryz.zeroValue4
 t5:=Tryz.underlying5
 a5:=Tryz.isAgg5
 z5:=Tryz.sizeOf5
 v5:=Tryz.zeroValue5
 t9:=Tryz.underlying9
 a9:=Tryz.isAgg9
 z9:=Tryz.sizeOf9
 v9:=Tryz.zeroValue9
 t20:=Tryz.underlying20
 a20:=Tryz.isAgg20
 z20:=Tryz.sizeOf20
 v20:=Tryz.zeroValue20
 t21:=Tryz.underlying21
 a21:=Tryz.isAgg21
 z21:=Tryz.sizeOf21
 v21:=Tryz.zeroValue21
 t37:=Tryz.underlying22
 a37:=Tryz.isAgg22
 z37:=Tryz.sizeOf22
 v37:=Tryz.zeroValue22
 t46:=Tryz.underlying158
 a46:=Tryz.isAgg158
 z46:=Tryz.sizeOf158
 v46:=Tryz.zeroValue158
 t51:=Tryz.underlying195
 a51:=Tryz.isAgg195
 z51:=Tryz.sizeOf195
 v51:=Tryz.zeroValue195
 t53:=Tryz.underlying197
 a53:=Tryz.isAgg197
 z53:=Tryz.sizeOf197
 v53:=Tryz.zeroValue197
 t75:=Tryz.underlying150
 a75:=Tryz.isAgg150
 z75:=Tryz.sizeOf150
 v75:=Tryz.zeroValue150
 t76:=Tryz.underlying151
 a76:=Tryz.isAgg151
 z76:=Tryz.sizeOf151
 v76:=Tryz.zeroValue151
 t85:=Tryz.underlying221
 a85:=Tryz.isAgg221
 z85:=Tryz.sizeOf221
 v85:=Tryz.zeroValue221
 t127:=Tryz.underlying182
 a127:=Tryz.isAgg182
 z127:=Tryz.sizeOf182
 v127:=Tryz.zeroValue182
 t143:=Tryz.underlying283
 a143:=Tryz.isAgg283
 z143:=Tryz.sizeOf283
 v143:=Tryz.zeroValue283
 t145:=Tryz.underlying285
 a145:=Tryz.isAgg285
 z145:=Tryz.sizeOf285
 v145:=Tryz.zeroValue285
 t167:=Tryz.underlying220
 a167:=Tryz.isAgg220
 z167:=Tryz.sizeOf220
 v167:=Tryz.zeroValue220
 t168:=Tryz.underlying223
 a168:=Tryz.isAgg223
 z168:=Tryz.sizeOf223
 v168:=Tryz.zeroValue223
 t171:=Tryz.underlying253
 a171:=Tryz.isAgg253
 z171:=Tryz.sizeOf253
 v171:=Tryz.zeroValue253
 t173:=Tryz.underlying255
 a173:=Tryz.isAgg255
 z173:=Tryz.sizeOf255
 v173:=Tryz.zeroValue255
 t175:=Tryz.underlying259
 a175:=Tryz.isAgg259
 z175:=Tryz.sizeOf259
 v175:=Tryz.zeroValue259
 t210:=Tryz.underlying263
 a210:=Tryz.isAgg263
 z210:=Tryz.sizeOf263
 v210:=Tryz.zeroValue263
 t212:=Tryz.underlying275
 a212:=Tryz.isAgg275
 z212:=Tryz.sizeOf275
 v212:=Tryz.zeroValue275
 t213:=Tryz.underlying276
 a213:=Tryz.isAgg276
 z213:=Tryz.sizeOf276
 t232:=Tryz.underlying295
 a232:=Tryz.isAgg295
 z232:=Tryz.sizeOf295
 v232:=Tryz.zeroValue295
 t233:=Tryz.underlying296
 a233:=Tryz.isAgg296
 z233:=Tryz.sizeOf296
 v233:=Tryz.zeroValue296
 g15:=by kernel_rfl
 g16:=by kernel_rfl
 g17:=by kernel_rfl
 g18:=by kernel_rfl
 g19:=by kernel_rfl }
theorem strconvAtoi (l:List UInt8) (n:Int) (hl:l.length≤18) (h:Lib.atoi l=some n):FnT Tryz.prog 112 [.one (.v (.string (bs l)))] (.tup [.one (.v (.int .i64 n)),.one (.v .nilIface)]):=by
 refine⟨⟨_,Tryz.func112,by kernel_rfl,by kernel_rfl⟩,fun w vs F hG hv=>?_⟩
 obtain⟨v1,vr,G1,G2,rfl,g1,⟨rfl,rfl⟩,rfl⟩:=hv
 simp only [V0r,C] at g1
 obtain⟨rfl,rfl,_⟩:=g1
 have hcon:=Any.strconv_Atoi Tryz.lays172 (bs l) n (by rw [bs_size];exact hl) (by rw [bs_list];exact h) w
 change Calls Tryz.prog 112 _ _ _ at hcon
 refine hcon.mono ?_
 rintro e w' ⟨rfl,t,rfl⟩
 exact⟨_,[],rfl,⟨_,rfl,V0s_vs [.int .i64 n,.nilIface] rfl⟩,List.nodup_nil,by simp,Lib.bytesWorld_below _ _ _⟩
def Tryz.laysC172_ren:Go.Shelf.Ren:=⟨fun|172=>112|244=>150|245=>151|247=>199|279=>200|280=>201|281=>202|282=>203|287=>241|316=>242|171=>105|205=>243|321=>260|322=>261|243=>142|246=>189|283=>235|284=>236|285=>237|286=>238|129=>163|317=>256|318=>257|319=>258|320=>259|337=>268|338=>269|n=>n,fun|9=>9|3=>3|75=>150|76=>151|4=>4|5=>5|167=>220|37=>22|0=>0|85=>221|2=>2|168=>223|53=>197|175=>259|46=>158|210=>263|127=>182|145=>285|143=>283|21=>21|171=>253|173=>255|212=>275|51=>195|20=>20|213=>276|232=>295|233=>296|80=>153|n=>n,fun|15=>1|16=>2|17=>3|18=>6|19=>7|n=>n⟩
theorem Tryz.laysC172:Go.Proofs.LaysC.n172 Tryz.prog Tryz.laysC172_ren:={
 mixed:=by kernel_rfl
 f129:=Tryz.func163.trans (congrArg some (by kernel_rfl))
 f171:=Tryz.func105.trans (congrArg some (by kernel_rfl))
 f172:=Tryz.func112.trans (congrArg some (by kernel_rfl))
 f205:=Tryz.func243.trans (congrArg some (by kernel_rfl))
 f243:=Tryz.func142.trans (congrArg some (by kernel_rfl))
 f244:=Tryz.func150.trans (congrArg some (by kernel_rfl))
 f245:=Tryz.func151.trans (congrArg some (by kernel_rfl))
 f246:=Tryz.func189.trans (congrArg some (by kernel_rfl))
 f247:=Tryz.func199.trans (congrArg some (by kernel_rfl))
 f279:=Tryz.func200.trans (congrArg some (by kernel_rfl))
 f280:=Tryz.func201.trans (congrArg some (by kernel_rfl))
 f281:=Tryz.func202.trans (congrArg some (by kernel_rfl))
 f282:=Tryz.func203.trans (congrArg some (by kernel_rfl))
 f283:=Tryz.func235.trans (congrArg some (by kernel_rfl))
 f284:=Tryz.func236.trans (congrArg some (by kernel_rfl))
 f285:=Tryz.func237.trans (congrArg some (by kernel_rfl))
 f286:=Tryz.func238.trans (congrArg some (by kernel_rfl))
 f287:=Tryz.func241.trans (congrArg some (by kernel_rfl))
 f316:=Tryz.func242.trans (congrArg some (by kernel_rfl))
 f317:=Tryz.func256.trans (congrArg some (by kernel_rfl))
 f318:=Tryz.func257.trans (congrArg some (by kernel_rfl))
 f319:=Tryz.func258.trans (congrArg some (by kernel_rfl))
 f320:=Tryz.func259.trans (congrArg some (by kernel_rfl))
 f321:=Tryz.func260.trans (congrArg some (by kernel_rfl))
 f322:=Tryz.func261.trans (congrArg some (by kernel_rfl))
 f337:=Tryz.func268.trans (congrArg some (by kernel_rfl))
 f338:=Tryz.func269.trans (congrArg some (by kernel_rfl))
 t0:=Tryz.underlying0
 a0:=Tryz.isAgg0
 z0:=Tryz.sizeOf0
 v0:=Tryz.zeroValue0
 t2:=Tryz.underlying2
 a2:=Tryz.isAgg2
 z2:=Tryz.sizeOf2
 v2:=Tryz.zeroValue2
 t3:=Tryz.underlying3
 a3:=Tryz.isAgg3
 z3:=Tryz.sizeOf3
 v3:=Tryz.zeroValue3
 t4:=Tryz.underlying4
 a4:=Tryz.isAgg4
 z4:=Tryz.sizeOf4
 v4:=Tryz.zeroValue4
 t5:=Tryz.underlying5
 a5:=Tryz.isAgg5
 z5:=Tryz.sizeOf5
 v5:=Tryz.zeroValue5
 t9:=Tryz.underlying9
 a9:=Tryz.isAgg9
 z9:=Tryz.sizeOf9
 v9:=Tryz.zeroValue9
 t20:=Tryz.underlying20
 a20:=Tryz.isAgg20
 z20:=Tryz.sizeOf20
 v20:=Tryz.zeroValue20
 t21:=Tryz.underlying21
 a21:=Tryz.isAgg21
 z21:=Tryz.sizeOf21
 v21:=Tryz.zeroValue21
 t37:=Tryz.underlying22
 a37:=Tryz.isAgg22
 z37:=Tryz.sizeOf22
 v37:=Tryz.zeroValue22
 t46:=Tryz.underlying158
 a46:=Tryz.isAgg158
 z46:=Tryz.sizeOf158
 v46:=Tryz.zeroValue158
 t51:=Tryz.underlying195
 a51:=Tryz.isAgg195
 z51:=Tryz.sizeOf195
 v51:=Tryz.zeroValue195
 t53:=Tryz.underlying197
 a53:=Tryz.isAgg197
 z53:=Tryz.sizeOf197
 v53:=Tryz.zeroValue197
 t75:=Tryz.underlying150
 a75:=Tryz.isAgg150
 z75:=Tryz.sizeOf150
 v75:=Tryz.zeroValue150
 t76:=Tryz.underlying151
 a76:=Tryz.isAgg151
 z76:=Tryz.sizeOf151
 v76:=Tryz.zeroValue151
 t85:=Tryz.underlying221
 a85:=Tryz.isAgg221
 z85:=Tryz.sizeOf221
 v85:=Tryz.zeroValue221
 t127:=Tryz.underlying182
 a127:=Tryz.isAgg182
 z127:=Tryz.sizeOf182
 v127:=Tryz.zeroValue182
 t143:=Tryz.underlying283
 a143:=Tryz.isAgg283
 z143:=Tryz.sizeOf283
 v143:=Tryz.zeroValue283
 t145:=Tryz.underlying285
 a145:=Tryz.isAgg285
 z145:=Tryz.sizeOf285
 v145:=Tryz.zeroValue285
 t167:=Tryz.underlying220
 a167:=Tryz.isAgg220
 z167:=Tryz.sizeOf220
 v167:=Tryz.zeroValue220
 t168:=Tryz.underlying223
 a168:=Tryz.isAgg223
 z168:=Tryz.sizeOf223
 v168:=Tryz.zeroValue223
 t171:=Tryz.underlying253
 a171:=Tryz.isAgg253
 z171:=Tryz.sizeOf253
 v171:=Tryz.zeroValue253
 t173:=Tryz.underlying255
 a173:=Tryz.isAgg255
 z173:=Tryz.sizeOf255
 v173:=Tryz.zeroValue255
 t175:=Tryz.underlying259
 a175:=Tryz.isAgg259
 z175:=Tryz.sizeOf259
 v175:=Tryz.zeroValue259
 t210:=Tryz.underlying263
 a210:=Tryz.isAgg263
 z210:=Tryz.sizeOf263
 v210:=Tryz.zeroValue263
 t212:=Tryz.underlying275
 a212:=Tryz.isAgg275
 z212:=Tryz.sizeOf275
 v212:=Tryz.zeroValue275
 t213:=Tryz.underlying276
 a213:=Tryz.isAgg276
 z213:=Tryz.sizeOf276
 t232:=Tryz.underlying295
 a232:=Tryz.isAgg295
 z232:=Tryz.sizeOf295
 v232:=Tryz.zeroValue295
 t233:=Tryz.underlying296
 a233:=Tryz.isAgg296
 z233:=Tryz.sizeOf296
 v233:=Tryz.zeroValue296
 g15:=by kernel_rfl
 g16:=by kernel_rfl
 g17:=by kernel_rfl
 g18:=by kernel_rfl
 g19:=by kernel_rfl
 t80:=Tryz.underlying153
 a80:=Tryz.isAgg153
 z80:=Tryz.sizeOf153
 v80:=Tryz.zeroValue153
 i0:=by kernel_rfl
 i2:=by kernel_rfl
 i3:=by kernel_rfl
 i4:=by kernel_rfl
 i5:=by kernel_rfl
 i9:=by kernel_rfl
 i20:=by kernel_rfl
 i21:=by kernel_rfl
 i37:=by kernel_rfl
 i46:=by kernel_rfl
 i51:=by kernel_rfl
 i53:=by kernel_rfl
 i75:=by kernel_rfl
 i76:=by kernel_rfl
 i80:=by kernel_rfl
 i85:=by kernel_rfl
 i127:=by kernel_rfl
 i143:=by kernel_rfl
 i145:=by kernel_rfl
 i167:=by kernel_rfl
 i168:=by kernel_rfl
 i171:=by kernel_rfl
 i173:=by kernel_rfl
 i175:=by kernel_rfl
 i210:=by kernel_rfl
 i212:=by kernel_rfl
 i232:=by kernel_rfl
 i233:=by kernel_rfl
 m15:=by kernel_rfl
 m16:=by kernel_rfl
 m17:=by kernel_rfl
 m18:=by kernel_rfl
 m19:=by kernel_rfl
 c0:=by kernel_rfl
 c2:=by kernel_rfl
 c3:=by kernel_rfl
 c4:=by kernel_rfl
 c5:=by kernel_rfl
 c9:=by kernel_rfl
 c20:=by kernel_rfl
 c21:=by kernel_rfl
 c37:=by kernel_rfl
 c46:=by kernel_rfl
 c51:=by kernel_rfl
 c53:=by kernel_rfl
 c75:=by kernel_rfl
 c76:=by kernel_rfl
 c80:=by kernel_rfl
 c85:=by kernel_rfl
 c127:=by kernel_rfl
 c143:=by kernel_rfl
 c145:=by kernel_rfl
 c167:=by kernel_rfl
 c168:=by kernel_rfl
 c171:=by kernel_rfl
 c173:=by kernel_rfl
 c175:=by kernel_rfl
 c210:=by kernel_rfl
 c212:=by kernel_rfl
 c213:=by kernel_rfl
 c232:=by kernel_rfl
 c233:=by kernel_rfl }
theorem strconvAtoiE (l:List UInt8) (hl:l.length≤18) (h:Lib.atoi l=none):FrE Tryz.prog 112 [.one (.v (.string (bs l)))] fun out=>∃ N:Nat,out=.tup [.one (.v (.int .i64 0)),.one (.v (.iface (Tryz.laysC172_ren.t 168) (.pointer (some ⟨N,0,none⟩))))]:=by
 refine⟨⟨_,Tryz.func112,by kernel_rfl,by kernel_rfl⟩,fun w vs F hG hv=>?_⟩
 obtain⟨v1,vr,G1,G2,rfl,g1,⟨rfl,rfl⟩,rfl⟩:=hv
 simp only [V0r,C] at g1
 obtain⟨rfl,rfl,_⟩:=g1
 obtain⟨tp,p,hvar⟩:∃ tp p,w.cell? ⟨Tryz.laysC172_ren.g 15,0,none⟩=some (.iface tp p):=by
  obtain⟨w0,⟨_,_,tp,p,h2⟩,h3⟩:=hG.ex
  have h4:=World.var?_cell Tryz.laysC172.m15 h2 0
  have hgl:Tryz.laysC172_ren.g 15<Tryz.prog.low:=Nat.lt_trans (of_decide_eq_true (by kernel_rfl)) low_lt
  exact⟨tp,p,(World.cell?_of_block (a:=⟨Tryz.laysC172_ren.g 15,0,none⟩) (h3 _ hgl)).trans (by simpa using h4)⟩
 have hcon:=Any.strconv_Atoi_err Tryz.laysC172 (bs l) (by rw [bs_size];exact hl) (by rw [bs_list];exact h) (.iface tp p) w hvar (.inr ⟨tp,p,rfl⟩)
 change Calls Tryz.prog 112 _ _ _ at hcon
 refine hcon.mono ?_
 rintro e w' ⟨N,rfl,_,_,hB⟩
 exact⟨_,⟨N,rfl⟩,_,[],rfl,⟨_,rfl,V0s_vs [.int .i64 0,.iface (Tryz.laysC172_ren.t 168) (.pointer (some ⟨N,0,none⟩))] rfl⟩,by simp,hB⟩
end Go.Proofs.YtdhojcaoljhbiaaGreatDoor
