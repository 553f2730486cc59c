import Derived.Test.YtdhojcaoljhbiaaGreatDoorAbs13xk
import Derived.Test.YtdhojcaoljhbiaaGreatDoorAbsDxk
set_option linter.unusedVariables false
set_option linter.unusedSimpArgs false
namespace Go.Q
open Go.RowKit
def E.nv (id:Nat):E→Bool
 | .vw i _=>!(Nat.beq i id)
 | .sb i _ _ _=>!(Nat.beq i id)
 | _=>true
def A.nv (id:Nat):A→Bool
 | .one e=>e.nv id
 | .agg l=>l.all (E.nv id)
def S.nv (id:Nat):S→Bool
 | .a x=>x.nv id
 | .tup l=>l.all (A.nv id)
def R.nv (id:Nat):R→Bool
 | .row _ _=>true
 | .box cs=>cs.all (E.nv id)
 | .hdr _ _=>true
 | .blk _ _=>true
 | .kept _=>true
 | .opq=>true
 | .cur _=>true
 | .mp _ _=>true
def nvB (id:Nat) (sl:List (Nat×(Bool×S))) (rs:List (Nat×R)):Bool:=sl.all (fun x=>x.2.2.nv id)&&rs.all (fun x=>x.2.nv id)
theorem E.puv_nv {id:Nat} {e:E} (h:e.nv id=true):e.puv id=e:=by
 cases e with
 | vw i x=>simp only [E.nv,Bool.not_eq_true'] at h;simp only [E.puv,h,cond_false]
 | sb i k p q=>simp only [E.nv,Bool.not_eq_true'] at h;simp only [E.puv,h,cond_false]
 | _=>rfl
theorem map_same {α:Type} {f:α→α}:∀ {l:List α},(∀ x∈l,f x=x)→l.map f=l
 | [],_=>rfl
 | x::l,h=>by rw [List.map_cons,h x (by simp),map_same fun y hy=>h y (by simp [hy])]
theorem A.puv_nv {id:Nat} {x:A} (h:x.nv id=true):x.puv id=x:=by
 cases x with
 | one e=>simp only [A.puv,E.puv_nv h]
 | agg l=>simp only [A.puv];rw [map_same fun e he=>E.puv_nv (List.all_eq_true.1 h e he)]
theorem S.puv_nv {id:Nat} {x:S} (h:x.nv id=true):x.puv id=x:=by
 cases x with
 | a x=>simp only [S.puv,A.puv_nv h]
 | tup l=>simp only [S.puv];rw [map_same fun e he=>A.puv_nv (List.all_eq_true.1 h e he)]
theorem R.puv_nv {id:Nat} {x:R} (h:x.nv id=true):x.puv id=x:=by
 cases x with
 | row k rows=>rfl
 | box cs=>simp only [R.puv];rw [map_same fun e he=>E.puv_nv (List.all_eq_true.1 h e he)]
 | hdr j x=>rfl
 | blk j b=>rfl
 | kept K=>rfl
 | opq=>rfl
 | cur g=>rfl
 | mp b f=>rfl
def overL:List E→List E→List E
 | [],cs=>cs
 | e::l,cs=>e::overL l (cs.drop 1)
def setC:List E→Nat→List E→List E
 | cs,0,l=>overL l cs
 | [],_+1,l=>l
 | c::cs,p+1,l=>c::setC cs p l
theorem overL_eq:∀ (l cs:List E),overL l cs=l++cs.drop l.length
 | [],cs=>rfl
 | e::l,cs=>by rw [overL,overL_eq l];simp
theorem setC_eq:∀ (cs:List E) (p:Nat) (l:List E),p≤cs.length→setC cs p l=setL cs p l
 | cs,0,l,_=>by unfold setC;rw [overL_eq];simp [setL]
 | [],p+1,l,h=>by simp at h
 | c::cs,p+1,l,h=>by rw [setC,setC_eq cs p l (by simpa using h)];simp [setL,Nat.succ_add]
section
variable {P:Program} {ops:Array Oper} {o:Oper} {σ:St} {q:Bool}
theorem upd_nv {id:Nat} {r:R} (h:nvB id σ.slots σ.res=true):σ.upd id r=⟨σ.n,σ.slots,setR σ.res id r⟩:=by
 simp only [nvB,Bool.and_eq_true,List.all_eq_true] at h
 unfold St.upd
 rw [map_same fun x hx=>?_,map_same fun x hx=>?_]
 · rw [R.puv_nv (h.2 x hx)]
 rw [S.puv_nv (h.1 x hx)]
theorem R_store_pb {id p:Nat} {t:TypeId} {x y:Operand} {cs:List E} {A0:A} {ag:Bool} {n:Nat} (ho:o.op=.store t x y) (hg:o.guard=none) (hdn:o.dst=none) (hx:Get σ true x (.one (.pp id p))) (hy:Get σ true y A0) (hs:look σ.res id=some (.box cs)) (ht:tyB P t ag n=true)
 (he:(cellsA A0).all E.cell1=true) (hl:Nat.beq (cellsA A0).length n=true) (hn:Nat.ble (p+n) cs.length=true) (hv1:nvB id σ.slots σ.res=true) (hv2:(cellsA A0).all (E.nv id)=true):Op1 P ops o σ ⟨σ.n,σ.slots,setR σ.res id (.box (setC cs p (cellsA A0)))⟩:=
 .skip hg fun w0 a w ⟨I,hr⟩=>by
  have hv:a.eval x=.pointer (some ⟨I.B id,p,none⟩):=hx.va hr rfl
  obtain⟨ds,h1,h2,h3⟩:=(hy.va hr rfl).cells he
  obtain⟨hF,vs,ty,g1,g2⟩:=hr.res id _ hs
  have hn':=Nat.le_of_ble_eq_true hn
  have hl':=Nat.eq_of_beq_eq_true hl
  have e1:=VEs_len h2
  have e2:=VEs_len g2
  have hst:=run_storeCells_at P (I.B id) p ty ds 0 vs.toArray w g1 (by simp;omega) h3
  simp only [Nat.add_zero] at hst
  have hsz:(a.eval y).cells.size=n:=by rw [h1];simp;omega
  have hc:Chg w (w.setRow (I.B id) (vs.take p++ds++vs.drop (p+ds.length)).toArray) (I.F id):=
   ⟨rfl,rfl,rfl,by simp [World.setRow],fun k _ hk=>setRow_other w (I.B id) k _ (fun e=>hk (by rw [hF,e];simp))⟩
  refine⟨w.setRow (I.B id) (vs.take p++ds++vs.drop (p+ds.length)).toArray,?_,I.set id [I.B id] (I.hd id) (I.B id),?_⟩
  · simp [execOp,ho,hv,Instr.storeAt,Instr.sureAddr,storeVar,tyB_size ht,h1,hst]
    omega
  rw [hdn]
  have hcs:cs.all (E.nv id)=true:=by
   have key:∀ (l:List (Nat×R)),(l.all fun x=>x.2.nv id)=true→look l id=some (.box cs)→cs.all (E.nv id)=true:=by
    intro l
    induction l with
    | nil=>intro _ h;cases h
    | cons y l ih=>
     obtain⟨j,y⟩:=y
     intro ha hk
     simp only [List.all_cons,Bool.and_eq_true] at ha
     rw [look_cons] at hk
     split at hk
     · cases hk;exact ha.1
     exact ih ha.2 hk
   simp only [nvB,Bool.and_eq_true] at hv1
   exact key _ hv1.2 hs
  have hall:∀ e∈setL cs p (cellsA A0),e.puv id=e:=by
   intro e hm
   simp only [setL,List.mem_append] at hm
   rcases hm with (hm|hm)|hm
   · exact E.puv_nv (List.all_eq_true.1 hcs e (List.mem_of_mem_take hm))
   · exact E.puv_nv (List.all_eq_true.1 hv2 e hm)
   exact E.puv_nv (List.all_eq_true.1 hcs e (List.mem_of_mem_drop hm))
  rw [←upd_nv hv1,setC_eq cs p _ (by omega)]
  refine hr.upd hs hc ⟨by simp,fun b hb=>?_⟩ ⟨by simp [Ip.set],_,ty,by simp only [Ip.set,if_true];exact setRow_heap w (I.B id) vs.toArray _ ty (0,0) g1,?_⟩
  · simp only [List.mem_singleton] at hb
    subst hb
    exact⟨((hr.own id _ hs).2 _ (by rw [hF];simp)).1,by simp [World.setRow];exact (Array.getElem?_eq_some_iff.1 g1).1,⟨.inl _,ty,setRow_heap w (I.B id) vs.toArray _ ty (0,0) g1⟩,.inl (by rw [hF];simp)⟩
  have hlist:VEs I w (setL cs p (cellsA A0)) (vs.take p++ds++vs.drop (p+ds.length)):=by
   rw [setL,←e1]
   exact VEs_append (VEs_append (VEs_take p g2) h2) (VEs_drop _ g2)
  have:=hlist.puv (G:=[I.B id]) hc (fun b hz hb=>(hr.lt id b hb).2 hz) (fun i hi=>hr.apart i id hi)
  rwa [map_same hall] at this
variable {w0:Base} {Q:Exit→St→Prop} {n:Nat} {sl:List (Nat×(Bool×S))} {rs:List (Nat×R)} {l:List Oper}
theorem AWl.chgb {rs':List (Nat×R)} (ho:Op1 P ops o ⟨n,sl,rs⟩ ⟨n,sl,rs'⟩) (h:AWl P w0 ops Q l ⟨n,sl,rs'⟩):AWl P w0 ops Q (o::l) ⟨n,sl,rs⟩:=AWl.op ho h
end
end Go.Q
namespace Go.Q
open Go.RowKit
section
variable {P:Program} {ops:Array Oper} {o:Oper} {σ:St} {q:Bool}
def MkPost (w:World) (x':V0) (u v:Value) (F:List Nat) (e:Ending) (w':World):Prop:=
 e=.returned u∧∃ F',V0r true w' x' v F'∧F'.Nodup∧(∀ b∈F',(w.heap.size≤b∨b∈F)∧Thaw w' b)∧Chg w w' F
def FnM (P:Program) (f:FuncId) (x:V0) (k:Value) (x':V0) (u:Value):Prop:=
 Callee P f∧u.oneCell'=true∧∀ w v F,Good w F→V0r true w x v F→F.Nodup→(∀ b∈F,Thaw w b)→Calls P f (List.toArray [v,k]) w (MkPost w x' u v F)
def E.puvL (ids:List Nat):E→E
 | .vw i x=>bif memN ids i then .no else .vw i x
 | .sb i k p q=>bif memN ids i then .no else .sb i k p q
 | e=>e
def A.puvL (ids:List Nat):A→A
 | .one e=>.one (e.puvL ids)
 | .agg l=>.agg (l.map (E.puvL ids))
def S.puvL (ids:List Nat):S→S
 | .a x=>.a (x.puvL ids)
 | .tup l=>.tup (l.map (A.puvL ids))
def R.puvL (ids:List Nat):R→R
 | .row k rows=>.row k rows
 | .box cs=>.box (cs.map (E.puvL ids))
 | .hdr j x=>.hdr j x
 | .blk j b=>.blk j b
 | .kept K=>.kept K
 | .opq=>.opq
 | .cur g=>.cur g
 | .mp b f=>.mp b f
def Ip.newF (I:Ip) (ids:List Nat) (NF:Nat→List Nat):Ip:=⟨I.Z,fun i=>bif memN ids i then NF i else I.F i,I.hd,I.B⟩
section
variable {I:Ip} {w w':World} {ids:List Nat} {NF:Nat→List Nat} {FF:List Nat}
theorem VE.puvL (hc:Chg w w' FF) (hZ:∀ b,I.Z b→b∉FF) (hv:∀ i,memN ids i=false→∀ b∈I.F i,b∉FF) {e:E} {c:Value} (h:VE I w e c):VE (I.newF ids NF) w' (e.puvL ids) c:=by
 cases e with
 | t x=>obtain⟨G,h1,h2⟩:=h;exact⟨G,h1.congr fun b hb=>hc.block b (h1.lt b hb) (hZ b (h2 b hb)),h2⟩
 | no=>trivial
 | rf i=>exact h
 | tl i k j=>exact h
 | pf i k j=>exact h
 | vw i x=>
  simp only [E.puvL]
  cases e:memN ids i with
  | true=>trivial
  | false=>
   obtain⟨G',h1,h2⟩:=h
   refine⟨G',h1.congr fun b hb=>hc.block b (h1.lt b hb) (hv i e b (h2 b hb)),fun b hb=>?_⟩
   show b∈(bif memN ids i then NF i else I.F i)
   rw [e];exact h2 b hb
 | pr i k p q=>exact h
 | sb i k p q=>
  simp only [E.puvL]
  cases e:memN ids i with
  | true=>trivial
  | false=>
   obtain⟨g,n,m,h1,h2,h3,h4⟩:=h
   have hb':=hc.block g h3 (hv i e g h2)
   refine⟨g,n,m,h1,?_,heap_lt hb' h3,(World.cell?_of_block (a:=⟨g,_,none⟩) hb').trans h4⟩
   show g∈(bif memN ids i then NF i else I.F i)
   rw [e];exact h2
 | pp i o=>exact h
theorem VEs.puvL (hc:Chg w w' FF) (hZ:∀ b,I.Z b→b∉FF) (hv:∀ i,memN ids i=false→∀ b∈I.F i,b∉FF):∀ {l:List E} {cs:List Value},VEs I w l cs→VEs (I.newF ids NF) w' (l.map (E.puvL ids)) cs
 | [],_,h=>h
 | _::_,_,⟨c,cr,h1,h2,h3⟩=>⟨c,cr,h1,h2.puvL hc hZ hv,h3.puvL hc hZ hv⟩
theorem VA.puvL (hc:Chg w w' FF) (hZ:∀ b,I.Z b→b∉FF) (hv:∀ i,memN ids i=false→∀ b∈I.F i,b∉FF) {x:A} {v:Value} (h:VA I w x v):VA (I.newF ids NF) w' (x.puvL ids) v:=by
 cases x with
 | one e=>exact VE.puvL hc hZ hv h
 | agg l=>obtain⟨cs,h1,h2⟩:=h;exact⟨cs,h1,h2.puvL hc hZ hv⟩
theorem VAs.puvL (hc:Chg w w' FF) (hZ:∀ b,I.Z b→b∉FF) (hv:∀ i,memN ids i=false→∀ b∈I.F i,b∉FF):∀ {l:List A} {cs:List Value},VAs I w l cs→VAs (I.newF ids NF) w' (l.map (A.puvL ids)) cs
 | [],_,h=>h
 | _::_,_,⟨c,cr,h1,h2,h3⟩=>⟨c,cr,h1,h2.puvL hc hZ hv,h3.puvL hc hZ hv⟩
theorem VS.puvL (hc:Chg w w' FF) (hZ:∀ b,I.Z b→b∉FF) (hv:∀ i,memN ids i=false→∀ b∈I.F i,b∉FF) {x:Bool×S} {v:Value} (h:VS I w x v):VS (I.newF ids NF) w' (x.1,x.2.puvL ids) v:=by
 obtain⟨p,x⟩:=x
 cases p
 · exact h
 cases x with
 | a x=>exact VA.puvL hc hZ hv h
 | tup l=>obtain⟨vs,h1,h2⟩:=h;exact⟨vs,h1,h2.puvL hc hZ hv⟩
end
theorem memN_false {ids:List Nat} {i:Nat}:memN ids i=false↔i∉ids:=by
 rw [←memN_iff];cases memN ids i<;>simp
theorem look_none_not {L:List (Nat×R)} {i:Nat} (h:look L i=none):i∉L.map (·.1):=by
 induction L with
 | nil=>simp
 | cons x L ih=>
  obtain⟨j,y⟩:=x
  rw [look_cons] at h
  by_cases e:j=i
  · rw [if_pos e] at h;cases h
  rw [if_neg e] at h
  have:=ih h
  simp only [List.map_cons,List.mem_cons,not_or]
  exact⟨fun h=>e h.symm,this⟩
inductive MkL (σ:St):List E→List T→List T→List (Nat×R)→Prop where
 | nil:MkL σ [] [] [] []
 | v {x:Value} {es:List E} {ts ts':List T} {L:List (Nat×R)} (h:MkL σ es ts ts' L):MkL σ (.t (.v x)::es) (.v x::ts) (.v x::ts') L
 | rf {id k:Nat} {rows rows':List (List T)} {es:List E} {ts ts':List T} {L:List (Nat×R)} (hs:look σ.res id=some (.row k rows)) (hn:look L id=none) (h:MkL σ es ts ts' L):MkL σ (.rf id::es) (.sl k rows::ts) (.sl k rows'::ts') ((id,.row k rows')::L)
theorem MkL.own {I:Ip} {w0:Base} {w:World} {a:Act} (hr:RelI I w0 σ a w) {es:List E} {ts ts':List T} {L:List (Nat×R)} (h:MkL σ es ts ts' L):∀ {cs:List Value},VEs I w es cs→
 ∃ F,Cs true w ts cs F∧F.Nodup∧(∀ b∈F,Thaw w b)∧(∀ b,b∈F↔∃ i∈L.map (·.1),b∈I.F i)∧(∀ i∈L.map (·.1),∃ r0,look σ.res i=some r0):=by
 induction h with
 | nil=>intro cs hv;exact⟨[],by unfold Cs;exact⟨hv,rfl⟩,List.nodup_nil,by simp,by simp,by simp⟩
 | v h ih=>
  rintro cs ⟨c,cr,rfl,h1,h2⟩
  obtain⟨F,g1,g2,g3,g4,g5⟩:=ih h2
  obtain⟨G,k1,_⟩:=h1
  simp only [C] at k1
  obtain⟨k1,rfl,k2⟩:=k1
  exact⟨F,by unfold Cs;exact⟨c,cr,[],F,rfl,by unfold C;exact⟨k1,rfl,k2⟩,g1,rfl⟩,g2,g3,g4,g5⟩
 | @rf id k rows rows' es ts ts' L hs hn h ih=>
  rintro cs ⟨c,cr,rfl,h1,h2⟩
  obtain⟨F,g1,g2,g3,g4,g5⟩:=ih h2
  have hC:C true w (.sl k rows) (I.hd id) (I.F id):=hr.res id _ hs
  have hc:c=I.hd id:=h1.1
  have own:=hr.own id _ hs
  have hni:=look_none_not hn
  refine⟨I.F id++F,by unfold Cs;exact⟨c,cr,_,_,rfl,hc▸hC,g1,rfl⟩,List.nodup_append.2 ⟨own.1,g2,fun x hx y hy e=>?_⟩,fun b hb=>?_,fun b=>?_,fun i hi=>?_⟩
  · subst e
    obtain⟨j,hj,hb⟩:=(g4 x).1 hy
    exact hr.apart id j (fun e=>hni (e▸hj)) x hx hb
  · rcases List.mem_append.1 hb with hb|hb
    · exact (own.2 b hb).2
    exact g3 b hb
  · simp only [List.mem_append,g4,List.map_cons,List.mem_cons]
    constructor
    · rintro (hb|⟨j,hj,hb⟩)
      · exact⟨id,.inl rfl,hb⟩
      exact⟨j,.inr hj,hb⟩
    rintro⟨j,rfl|hj,hb⟩
    · exact .inl hb
    exact .inr ⟨j,hj,hb⟩
  rcases List.mem_cons.1 hi with rfl|hi
  · exact⟨_,hs⟩
  exact g5 i hi
theorem MkL.back {I:Ip} {w0:Base} {w w':World} {a:Act} (hr:RelI I w0 σ a w) {es:List E} {ts ts':List T} {L:List (Nat×R)} (h:MkL σ es ts ts' L):∀ {cs:List Value} {F':List Nat},VEs I w es cs→Cs true w' ts' cs F'→F'.Nodup→
 ∃ NF:Nat→List Nat,(∀ i∈L.map (·.1),(NF i).Nodup∧∀ b∈NF i,b∈F')∧(∀ i∈L.map (·.1),∀ j∈L.map (·.1),i≠j→∀ b∈NF i,b∉NF j)∧∀ i r,look L i=some r→∃ k rows,r=.row k rows∧C true w' (.sl k rows) (I.hd i) (NF i):=by
 induction h with
 | nil=>intro cs F' _ _ _;exact⟨fun _=>[],by simp,by simp,fun i r h=>by cases h⟩
 | v h ih=>
  rintro cs F' ⟨c,cr,rfl,h1,h2⟩ hC hN
  simp only [Cs] at hC
  obtain⟨c',cr',G1,G2,e,k1,k2,rfl⟩:=hC
  cases e
  simp only [C] at k1
  obtain⟨_,rfl,_⟩:=k1
  exact ih h2 k2 hN
 | @rf id k rows rows' es ts ts' L hs hn h ih=>
  rintro cs F' ⟨c,cr,rfl,h1,h2⟩ hC hN
  rw [Cs] at hC
  obtain⟨c',cr',G1,G2,e,k1,k2,rfl⟩:=hC
  cases e
  obtain⟨n1,n2,n3⟩:=List.nodup_append.1 hN
  obtain⟨NF,g1,g2,g3⟩:=ih h2 k2 n2
  have hc:c=I.hd id:=h1.1
  have hni:=look_none_not hn
  have hself:∀ i∈L.map (·.1),i≠id:=fun i hi e=>hni (e▸hi)
  refine⟨fun i=>if i=id then G1 else NF i,fun i hi=>?_,fun i hi j hj hne b hb hb'=>?_,fun i r hl=>?_⟩
  · rcases List.mem_cons.1 hi with hi1|hi1
    · have hi1:i=id:=hi1
      simp only [if_pos hi1];exact⟨n1,fun b hb=>by simp [hb]⟩
    simp only [if_neg (hself i hi1)]
    exact⟨(g1 i hi1).1,fun b hb=>by simp [(g1 i hi1).2 b hb]⟩
  · rcases List.mem_cons.1 hi with hi1|hi1
    · have hi1:i=id:=hi1
      rcases List.mem_cons.1 hj with hj1|hj1
      · have hj1:j=id:=hj1
        exact hne (hi1.trans hj1.symm)
      simp only [if_pos hi1] at hb
      simp only [if_neg (hself j hj1)] at hb'
      exact n3 b hb b ((g1 j hj1).2 b hb') rfl
    simp only [if_neg (hself i hi1)] at hb
    rcases List.mem_cons.1 hj with hj1|hj1
    · have hj1:j=id:=hj1
      simp only [if_pos hj1] at hb'
      exact n3 b hb' b ((g1 i hi1).2 b hb) rfl
    simp only [if_neg (hself j hj1)] at hb'
    exact g2 i hi1 j hj1 hne b hb hb'
  rw [look_cons] at hl
  by_cases e:id=i
  · subst e
    rw [if_pos rfl] at hl
    cases hl
    exact⟨k,rows',rfl,by simp only [if_true];rw [←hc];exact k1⟩
  rw [if_neg e] at hl
  obtain⟨k',rows1,rfl,h4⟩:=g3 i r hl
  exact⟨k',rows1,rfl,by simp only [if_neg (fun h=>e h.symm:¬ i=id)];exact h4⟩
def V0of:A→List T→V0
 | .one _,ts=>.one (ts.headD (.v undef))
 | .agg _,ts=>.agg ts
theorem V0of_r {I:Ip} {w:World} {A0:A} {v:Value} (hv:VA I w A0 v):∃ cs,VEs I w (cellsA A0) cs∧∀ {oo:Bool} {w':World} {ts:List T} {F:List Nat},ts.length=(cellsA A0).length→(V0r oo w' (V0of A0 ts) v F↔Cs oo w' ts cs F):=by
 cases A0 with
 | one e=>
  refine⟨[v],⟨v,[],rfl,hv,rfl⟩,fun {oo w' ts F} hl=>?_⟩
  match ts,hl with
  | [t],_=>
   show C oo w' t v F↔_
   constructor
   · intro h;unfold Cs;exact⟨v,[],F,[],rfl,h,by unfold Cs;exact⟨rfl,rfl⟩,by simp⟩
   intro h
   rw [Cs] at h
   obtain⟨c,cr,G1,G2,e,h1,h2,rfl⟩:=h
   cases e
   rw [Cs] at h2
   obtain⟨_,rfl⟩:=h2
   simpa using h1
 | agg l=>
  obtain⟨cs,rfl,h2⟩:=hv
  refine⟨cs,h2,fun {oo w' ts F} hl=>?_⟩
  show (∃ cs',(Value.agg (List.toArray cs))=.agg (List.toArray cs')∧Cs oo w' ts cs' F)↔_
  constructor
  · rintro⟨cs',e,h⟩
    have:cs=cs':=by simpa using e
    subst this;exact h
  intro h;exact⟨cs,rfl,h⟩
theorem MkL.len {es:List E} {ts ts':List T} {L:List (Nat×R)} (h:MkL σ es ts ts' L):ts.length=es.length∧ts'.length=es.length:=by
 induction h with
 | nil=>simp
 | v _ ih=>simp [ih.1,ih.2]
 | rf _ _ _ ih=>simp [ih.1,ih.2]
def hdsOf (hd:Nat→Value) (rs:List (Nat×R)):List (Nat×R):=rs.map fun x=>(x.1-500,.hdr (some x.1) (hd x.1))
theorem look_append {α:Type}:∀ (l m:List (Nat×α)) (i:Nat),look (l++m) i=match look l i with|some x=>some x|none=>look m i
 | [],_,_=>rfl
 | (j,y)::l,m,i=>by
  rw [List.cons_append,look_cons,look_cons]
  by_cases e:j=i
  · rw [if_pos e,if_pos e]
  rw [if_neg e,if_neg e];exact look_append l m i
theorem RelI.heads {I:Ip} {w0:Base} {w:World} {a:Act} (h:RelI I w0 σ a w) {hds:List (Nat×R)} (hh:∀ i r,look hds i=some r→I.F i=[]∧∃ j x,r=.hdr j x∧∀ m,j=some m→I.hd m=x):RelI I w0 ⟨σ.n,σ.slots,σ.res++hds⟩ a w:=by
 have key:∀ i r,look (σ.res++hds) i=some r→look σ.res i=some r∨look hds i=some r:=fun i r hi=>by
  rw [look_append] at hi
  split at hi
  · rename_i x hx;rw [hx];exact .inl hi
  exact .inr hi
 refine⟨h.ext,h.defers,h.size,h.slots,fun i r hi=>?_,h.old,h.lt,fun i r hi=>?_,h.apart⟩
 · rcases key i r hi with hi|hi
   · exact h.res i r hi
   obtain⟨g1,j,x,rfl,g2⟩:=hh i r hi;exact⟨g1,g2⟩
 rcases key i r hi with hi|hi
 · exact h.own i r hi
 rw [(hh i r hi).1];simp
inductive Back (hd:Nat→Value) (σ:St):List Nat→List E→List T→Prop where
 | nil:Back hd σ [] [] []
 | v {x:Value} {ids:List Nat} {es:List E} {ts:List T} (h:Back hd σ ids es ts):Back hd σ ids (.t (.v x)::es) (.v x::ts)
 | rf {id k:Nat} {rows:List (List T)} {ids:List Nat} {es:List E} {ts:List T} (hs:look σ.res id=some (.row k rows)) (hh:look σ.res (id-500)=some (.hdr (some id) (hd id))) (hn:memN ids id=false) (h:Back hd σ ids es ts):Back hd σ (id::ids) (.rf id::es) (.sl k rows::ts)
theorem Back.ok {hd:Nat→Value} {I:Ip} {w0:Base} {w:World} {a:Act} (hr:RelI I w0 σ a w) {ids:List Nat} {es:List E} {ts:List T} (h:Back hd σ ids es ts):∀ {I0:Ip} {w1:World} {cs:List Value},I0.hd=hd→VEs I0 w1 es cs→
 ∃ F,Cs true w ts cs F∧F.Nodup∧∀ b∈F,∃ i∈ids,∃ r,look σ.res i=some r∧b∈I.F i:=by
 induction h with
 | nil=>intro I0 w1 cs _ hv;exact⟨[],by unfold Cs;exact⟨hv,rfl⟩,List.nodup_nil,by simp⟩
 | v h ih=>
  rintro I0 w1 cs e ⟨c,cr,rfl,h1,h2⟩
  obtain⟨F,g1,g2,g3⟩:=ih e h2
  obtain⟨G,k1,_⟩:=h1
  simp only [C] at k1
  obtain⟨k1,rfl,k2⟩:=k1
  exact⟨F,by unfold Cs;exact⟨c,cr,[],F,rfl,by unfold C;exact⟨k1,rfl,k2⟩,g1,rfl⟩,g2,g3⟩
 | @rf id k rows ids es ts hs hh hn h ih=>
  rintro I0 w1 cs e ⟨c,cr,rfl,h1,h2⟩
  obtain⟨F,g1,g2,g3⟩:=ih e h2
  have hC:C true w (.sl k rows) (I.hd id) (I.F id):=hr.res id _ hs
  have hhd:I.hd id=hd id:=(hr.res _ _ hh).2 id rfl
  have hc:c=I.hd id:=by rw [hhd,←e];exact h1.1
  refine⟨I.F id++F,by unfold Cs;exact⟨c,cr,_,_,rfl,hc▸hC,g1,rfl⟩,List.nodup_append.2 ⟨(hr.own id _ hs).1,g2,fun x hx y hy e=>?_⟩,fun b hb=>?_⟩
  · subst e
    obtain⟨j,hj,_,_,hb⟩:=g3 x hy
    exact hr.apart id j (fun e=>memN_false.1 hn (e▸hj)) x hx hb
  rcases List.mem_append.1 hb with hb|hb
  · exact⟨id,by simp,_,hs,hb⟩
  obtain⟨j,hj,r,h3,h4⟩:=g3 b hb;exact⟨j,by simp [hj],r,h3,h4⟩
def RetM (P:Program) (fn:Func) (hd:Nat→Value) (y:A) (ts:List T) (u:Value):Exit→St→Prop
 | .normal,σ=>Res P fn false (.a (.one (.v u))) σ∧∃ ids,Back hd σ ids (cellsA y) ts
 | .ret,σ=>Res P fn false (.a (.one (.v u))) σ∧∃ ids,Back hd σ ids (cellsA y) ts
 | _,_=>False
theorem FnM.walk {n:Nat} {f:FuncId} {fn:Func} {c:Code} {x x':V0} {k u:Value} {y:A} {ts:List T} {rs:List (Nat×R)} {R0:(Nat→Value)→List (Nat×R)} (hf:P.funcs[f]?=some fn) (hb:fn.body=some c) (hname:(fn.name == "runtime.NumGoroutine")=false) (hnt:fn.ntmps=n) (hn:Nat.ble 2 n=true)
 (hk:k.oneCell'=true) (hu:u.oneCell'=true) (hy:outV0 1000 x=some (y,rs)) (hR:(fun hd=>addsR rs []++hdsOf hd rs)=R0) (hx':V0of y ts=x') (hl:ts.length=(cellsA y).length) (hids:rs.all (fun x=>Nat.ble 1000 x.1&&Nat.ble x.1 1400)=true)
 (h:LenV [x]→∀ w0 hd,AW P w0 c (RetM P fn hd y ts u) ⟨n,[(0,(true,.a y)),(1,(true,.a (.one (.t (.v k)))))],R0 hd⟩):FnM P f x k x' u:=by
 subst hnt hR hx'
 refine⟨⟨fn,hf,hname,by rw [hb];rfl⟩,hu,fun w v F hG hv hnd hth=>?_⟩
 have hlen:LenV [x]:=V0s.lenV (w:=w) (vs:=[v]) (F:=F) ⟨v,[],F,[],rfl,hv.read,⟨rfl,rfl⟩,by simp⟩
 have hn':2≤fn.ntmps:=Nat.le_of_ble_eq_true hn
 have hlt:∀ b∈F,b<w.heap.size:=V0r.lt hv
 let a0:Act:=⟨(List.toArray [v,k])++Array.replicate (fn.ntmps-(List.toArray [v,k]).size) undef,[]⟩
 have hsz:a0.tmps.size=fn.ntmps:=by simp [a0];omega
 have h1v:a0.tmps.getD 1 undef=k:=by simp [a0,Array.getD_eq_getD_getElem?,Array.getElem?_append]
 have h0v:a0.tmps.getD 0 undef=v:=by simp [a0,Array.getD_eq_getD_getElem?,Array.getElem?_append]
 let I0:Ip:=⟨fun b=>b<w.heap.size∧b∉F,fun _=>[],fun _=>undef,fun _=>0⟩
 have hr0:RelI I0 ⟨w,F,hG⟩ ⟨fn.ntmps,[(1,(true,.a (.one (.t (.v k)))))],[]⟩ a0 w:=by
  refine⟨Chg.refl w F,rfl,hsz,fun i z hi=>?_,fun id r hi=>(by cases hi),fun b hb=>hb.1,fun id b hb=>(by cases hb),fun id r hi=>(by cases hi),fun i j _ b hb=>(by cases hb)⟩
  rw [look_cons] at hi
  by_cases e:1=i
  · subst e
    rw [if_pos rfl] at hi
    cases hi
    rw [h1v]
    exact⟨[],by unfold C;exact⟨rfl,rfl,hk⟩,by simp⟩
  rw [if_neg e] at hi;cases hi
 have hfree:∀ b∈F,Free I0 ⟨w,F,hG⟩ w b:=fun b hb=>⟨.inr hb,hlt b hb,hth b hb,fun hz=>hz.2 hb,fun i hi=>by cases hi⟩
 obtain⟨I1,r1,r2,r3,_⟩:=outV0_ok hy (by
  rw [List.all_eq_true] at hids ⊢
  intro z hz
  have h1:=hids z hz
  rfl) hr0 hv hnd hfree
 rw [adds_eq] at r1
 have r1':=r1.heads (hds:=hdsOf I1.hd rs) fun i r hi=>by
  have hm:=look_mem hi
  obtain⟨z,hz,e⟩:=List.mem_map.1 hm
  obtain⟨rfl,rfl⟩:=Prod.mk.inj e
  have h1:=List.all_eq_true.1 hids z hz
  simp only [Bool.and_eq_true] at h1
  have h2:=Nat.le_of_ble_eq_true h1.1
  have h3:=Nat.le_of_ble_eq_true h1.2
  exact⟨(r3.2 _ (by omega)).1,_,_,rfl,fun m hm=>by cases hm;rfl⟩
 have r2':RelI I1 ⟨w,F,hG⟩ ⟨fn.ntmps,[(0,(true,.a y)),(1,(true,.a (.one (.t (.v k)))))],addsR rs []++hdsOf I1.hd rs⟩ a0 w:=by
  refine⟨r1'.ext,r1'.defers,r1'.size,fun i z hi=>?_,r1'.res,r1'.old,r1'.lt,r1'.own,r1'.apart⟩
  rw [look_cons] at hi
  by_cases e:0=i
  · subst e
    rw [if_pos rfl] at hi
    cases hi
    rw [h0v];exact r2
  rw [if_neg e] at hi;exact r1'.slots i z hi
 refine calls_of_wp hf hb (Code.wp_mono ?_ (h hlen ⟨w,F,hG⟩ I1.hd _ _ ⟨_,r2'⟩))
 rintro e a' w' ⟨σ,h1,I,hI⟩
 have key:(Res P fn false (.a (.one (.v u))) σ∧∃ ids,Back I1.hd σ ids (cellsA y) ts)→a'.defers=[]∧∃ v',(results fn a'.tmps).run P w'=.ok v' w'∧MkPost w (V0of y ts) u v F (.returned v') w':=fun ⟨h1,ids,h2⟩=>by
  obtain⟨v',F',g1,g2,_⟩:=h1 I ⟨w,F,hG⟩ a' w' hI
  have hv':v'=u:=by unfold Vr V0r C at g2;exact g2.1
  subst hv'
  obtain⟨cs,hes,hcs⟩:=V0of_r r2
  obtain⟨F2,k1,k2,k3⟩:=h2.ok hI rfl hes
  refine⟨hI.defers,_,g1,rfl,F2,(hcs hl).2 k1,k2,fun b hb=>?_,hI.ext⟩
  obtain⟨i,_,r,h3,h4⟩:=k3 b hb
  exact (hI.own i r h3).2 b h4
 cases e with
 | normal=>exact key h1
 | ret=>exact key h1
 | exit id=>exact h1.elim
 | goto l=>exact h1.elim
 | panic c=>exact h1.elim
 | outgrown=>exact h1.elim
variable {w0:Base} {Q:Exit→St→Prop} {n:Nat} {sl:List (Nat×(Bool×S))} {rs:List (Nat×R)} {l:List Oper}
theorem AWl.updput {d id:Nat} {r:R} {x:Bool×S} (ho:Op1 P ops o ⟨n,sl,rs⟩ ((St.upd ⟨n,sl,rs⟩ id r).put o.dst x)) (hd:o.dst=some d) (h:AWl P w0 ops Q l ⟨n,(d,x)::puvS id sl,updR id r rs⟩):AWl P w0 ops Q (o::l) ⟨n,sl,rs⟩:=
 AWl.op ho (by rw [hd];exact h)
theorem RetM.mk {fn:Func} {hd:Nat→Value} {y:A} {ts:List T} {u:Value} {ids:List Nat} (h1:Res P fn false (.a (.one (.v u))) σ) (h2:Back hd σ ids (cellsA y) ts):Res P fn false (.a (.one (.v u))) σ∧∃ ids,Back hd σ ids (cellsA y) ts:=⟨h1,ids,h2⟩
end
theorem take_at {α:Type} {l:List α} {i:Nat} {x:α} (h:l[i]?=some x):l.take (i+1)=l.take i++[x]:=by
 obtain⟨hi,rfl⟩:=List.getElem?_eq_some_iff.1 h
 exact List.take_succ_eq_append_getElem hi
theorem drop_at {α:Type} {l:List α} {i:Nat} {x:α} (h:l[i]?=some x):l.drop i=x::l.drop (i+1):=by
 obtain⟨hi,rfl⟩:=List.getElem?_eq_some_iff.1 h
 exact List.drop_eq_getElem_cons hi
theorem set_at {α:Type} {l:List α} {i:Nat} {x:α} (y:α) (h:l[i]?=some x):(l.set i y)[i]?=some y:=by
 obtain⟨hi,_⟩:=List.getElem?_eq_some_iff.1 h
 rw [List.getElem?_set_self hi]
end Go.Q
namespace Go.Q
open Go.RowKit
section
variable {P:Program} {ops:Array Oper} {o:Oper} {σ:St} {q:Bool}
theorem RelI.reslot {I:Ip} {w0:Base} {w:World} {a:Act} (h:RelI I w0 σ a w) {i:Nat} {x:Bool×S} (hv:VS I w x (a.tmps.getD i undef)):RelI I w0 ⟨σ.n,(i,x)::σ.slots,σ.res⟩ a w:=
 ⟨h.ext,h.defers,h.size,fun j y hj=>by
  rw [look_cons] at hj
  by_cases e:i=j
  · subst e;rw [if_pos rfl] at hj;cases hj;exact hv
  rw [if_neg e] at hj;exact h.slots j y hj,h.res,h.old,h.lt,h.own,h.apart⟩
theorem RelI.nilrow {I:Ip} {w0:Base} {w:World} {a:Act} (h:RelI I w0 σ a w) {id:Nat} (k:Nat) (hf:σ.has id=false):RelI (I.set id [] (.slice none 0 0) 0) w0 (σ.add id (.row k [])) a w:=
 h.addF hf List.nodup_nil (fun b hb=>by cases hb) (by
  show C true w (.sl k []) _ _
  simp only [Ip.set,if_true]
  unfold C
  exact⟨none,0,0,rfl,rfl,Nat.le_refl _,Nat.zero_le _,.inl ⟨rfl,rfl,fun _=>rfl⟩⟩)
theorem VE_nil {I:Ip} {w:World} {id:Nat} {c:Value} (h:VE I w (.t (.v (.slice none 0 0))) c):VE (I.set id [] (.slice none 0 0) 0) w (.rf id) c:=by
 obtain⟨G,h1,_⟩:=h
 simp only [C] at h1
 refine⟨?_,none,0,0,h1.1⟩
 simp only [Ip.set,if_true];exact h1.1
theorem VEs_nil {I:Ip} {w:World} {id:Nat}:∀ {es:List E} {cs:List Value} {j:Nat},es.any (E.has id)=false→VEs I w es cs→es[j]?=some (.t (.v (.slice none 0 0)))→VEs (I.set id [] (.slice none 0 0) 0) w (es.set j (.rf id)) cs
 | [],_,_,_,_,h=>by simp at h
 | e::es,_,0,hh,⟨c,cr,rfl,h1,h2⟩,h=>by
  simp at h
  subst h
  simp only [List.any_cons,Bool.or_eq_false_iff] at hh
  exact⟨c,cr,rfl,VE_nil h1,h2.set hh.2⟩
 | e::es,_,j+1,hh,⟨c,cr,rfl,h1,h2⟩,h=>by
  simp only [List.any_cons,Bool.or_eq_false_iff] at hh
  exact⟨c,cr,rfl,h1.set hh.1,VEs_nil hh.2 h2 (by simpa using h)⟩
variable {w0:Base} {Q:Exit→St→Prop} {n:Nat} {sl:List (Nat×(Bool×S))} {rs:List (Nat×R)} {l:List Oper}
theorem By {i:Nat} (id k:Nat) (hi:look sl i=some (true,.a (.one (.t (.v (.slice none 0 0)))))) (hf:St.has ⟨n,sl,rs⟩ id=false) (h:AWl P w0 ops Q l ⟨n,(i,(true,.a (.one (.rf id))))::sl,(id,.row k [])::rs⟩):AWl P w0 ops Q l ⟨n,sl,rs⟩:=fun a w ⟨I,hr⟩=>
 h a w ⟨_,(hr.nilrow k hf).reslot (VE_nil (hr.slots _ _ hi))⟩
theorem Dn {i:Nat} (id k j:Nat) {es:List E} (hi:look sl i=some (true,.a (.agg es))) (hj:es[j]?=some (.t (.v (.slice none 0 0)))) (hf:St.has ⟨n,sl,rs⟩ id=false) (h:AWl P w0 ops Q l ⟨n,(i,(true,.a (.agg (es.set j (.rf id)))))::sl,(id,.row k [])::rs⟩):AWl P w0 ops Q l ⟨n,sl,rs⟩:=fun a w ⟨I,hr⟩=>by
 have hh:=St.has_slot hf hi
 obtain⟨cs,h1,h2⟩:=hr.slots _ _ hi
 exact h a w ⟨_,(hr.nilrow k hf).reslot ⟨cs,h1,VEs_nil (by simpa [S.has,A.has] using hh) h2 hj⟩⟩
theorem AWl.nilB {b:Nat} (id k j:Nat) {cs:List E} (hb:look rs b=some (.box cs)) (hj:cs[j]?=some (.t (.v (.slice none 0 0)))) (hf:St.has ⟨n,sl,rs⟩ id=false) (h:AWl P w0 ops Q l ⟨n,sl,(id,.row k [])::setR rs b (.box (cs.set j (.rf id)))⟩):AWl P w0 ops Q l ⟨n,sl,rs⟩:=fun a w ⟨I,hr⟩=>by
 have hh:=St.has_res hf hb
 have hne:id≠b:=fun e=>hh.1 e.symm
 have hr':=(hr.nilrow k hf)
 have hb':look (St.add ⟨n,sl,rs⟩ id (.row k [])).res b=some (.box cs):=by
  rw [St.add,look_cons,if_neg hne];exact hb
 refine h a w ⟨I.set id [] (.slice none 0 0) 0,?_⟩
 have hr0:RelI (I.set id [] (.slice none 0 0) 0) w0 ⟨n,sl,setR ((id,.row k [])::rs) b (.box (cs.set j (.rf id)))⟩ a w:=by
  have key:∀ i r,look (setR ((id,R.row k [])::rs) b (.box (cs.set j (.rf id)))) i=some r→(i=b∧r=.box (cs.set j (.rf id)))∨look ((id,R.row k [])::rs) i=some r:=fun i r hi=>by
   rcases look_setR _ _ _ _ _ hi with ⟨h1,h2,_⟩|⟨_,h2⟩
   · exact .inl ⟨h1,h2⟩
   exact .inr h2
  refine⟨hr'.ext,hr'.defers,hr'.size,hr'.slots,fun i r hi=>?_,hr'.old,hr'.lt,fun i r hi=>?_,hr'.apart⟩
  · rcases key i r hi with ⟨rfl,rfl⟩|hi
    · obtain⟨h1,vs,e,h2,h3⟩:=hr.res _ _ hb
      refine⟨by simp only [Ip.set,if_neg hh.1];exact h1,vs,e,by simp only [Ip.set,if_neg hh.1];exact h2,VEs_nil (by simpa [R.has] using hh.2) h3 hj⟩
    exact hr'.res i r hi
  rcases key i r hi with ⟨rfl,rfl⟩|hi
  · exact hr'.own _ _ hb'
  exact hr'.own i r hi
 have e:setR ((id,R.row k [])::rs) b (.box (cs.set j (.rf id)))=(id,.row k [])::setR rs b (.box (cs.set j (.rf id))):=by
  rw [setR,beq_false hne];rfl
 rw [←e];exact hr0
theorem Bt {σ':St} (hl:Le σ σ') (h:AWl P w0 ops Q l σ'):AWl P w0 ops Q l σ:=fun a w hr=>h a w (hl w0 a w hr)
theorem Au {id:Nat} (h:Q .normal σ):BlockQ id Q .normal σ:=h
def Round1 {β1:Type} (Inv:β1→Prop) (J:β1→St) (m:β1→Nat) (a1:β1) (Q:Exit→St→Prop):Exit→St→Prop:=Round (β:=β1) (fun x=>Inv x) (fun x=>J x) (fun x=>m x) a1 Q
theorem Bj {β1:Type} (Inv:β1→Prop) (J:β1→St) (m:β1→Nat) (y1:β1) {c:Code} (h0:Inv y1) (hs:Le σ (J y1)) (round:∀ a1,Inv a1→AW P w0 c (Round1 Inv J m a1 Q) (J a1)):AW P w0 (.loop c) Q σ:=
 Dx (β:=β1) (fun x=>Inv x) (fun x=>J x) (fun x=>m x) y1 h0 hs fun x h=>round x h
theorem Round1.next {β1:Type} {Inv:β1→Prop} {J:β1→St} {m:β1→Nat} {a1:β1} (y1:β1) (h1:Inv y1) (h2:m y1<m a1) (h3:Le σ (J y1)):Round1 Inv J m a1 Q .normal σ:=⟨y1,h1,h2,h3⟩
def Round2 {β1 β2:Type} (Inv:β1→β2→Prop) (J:β1→β2→St) (m:β1→β2→Nat) (a1:β1) (a2:β2) (Q:Exit→St→Prop):Exit→St→Prop:=Round (β:=β1×β2) (fun x=>Inv x.1 x.2) (fun x=>J x.1 x.2) (fun x=>m x.1 x.2) (a1,a2) Q
theorem Dz {β1 β2:Type} (Inv:β1→β2→Prop) (J:β1→β2→St) (m:β1→β2→Nat) (y1:β1) (y2:β2) {c:Code} (h0:Inv y1 y2) (hs:Le σ (J y1 y2)) (round:∀ a1 a2,Inv a1 a2→AW P w0 c (Round2 Inv J m a1 a2 Q) (J a1 a2)):AW P w0 (.loop c) Q σ:=
 Dx (β:=β1×β2) (fun x=>Inv x.1 x.2) (fun x=>J x.1 x.2) (fun x=>m x.1 x.2) (y1,y2) h0 hs fun x h=>round (x.1) (x.2) h
theorem Round2.next {β1 β2:Type} {Inv:β1→β2→Prop} {J:β1→β2→St} {m:β1→β2→Nat} {a1:β1} {a2:β2} (y1:β1) (y2:β2) (h1:Inv y1 y2) (h2:m y1 y2<m a1 a2) (h3:Le σ (J y1 y2)):Round2 Inv J m a1 a2 Q .normal σ:=⟨(y1,y2),h1,h2,h3⟩
def Round3 {β1 β2 β3:Type} (Inv:β1→β2→β3→Prop) (J:β1→β2→β3→St) (m:β1→β2→β3→Nat) (a1:β1) (a2:β2) (a3:β3) (Q:Exit→St→Prop):Exit→St→Prop:=Round (β:=β1×β2×β3) (fun x=>Inv x.1 x.2.1 x.2.2) (fun x=>J x.1 x.2.1 x.2.2) (fun x=>m x.1 x.2.1 x.2.2) (a1,a2,a3) Q
theorem AW.loop3 {β1 β2 β3:Type} (Inv:β1→β2→β3→Prop) (J:β1→β2→β3→St) (m:β1→β2→β3→Nat) (y1:β1) (y2:β2) (y3:β3) {c:Code} (h0:Inv y1 y2 y3) (hs:Le σ (J y1 y2 y3)) (round:∀ a1 a2 a3,Inv a1 a2 a3→AW P w0 c (Round3 Inv J m a1 a2 a3 Q) (J a1 a2 a3)):AW P w0 (.loop c) Q σ:=
 Dx (β:=β1×β2×β3) (fun x=>Inv x.1 x.2.1 x.2.2) (fun x=>J x.1 x.2.1 x.2.2) (fun x=>m x.1 x.2.1 x.2.2) (y1,y2,y3) h0 hs fun x h=>round (x.1) (x.2.1) (x.2.2) h
theorem Round3.next {β1 β2 β3:Type} {Inv:β1→β2→β3→Prop} {J:β1→β2→β3→St} {m:β1→β2→β3→Nat} {a1:β1} {a2:β2} {a3:β3} (y1:β1) (y2:β2) (y3:β3) (h1:Inv y1 y2 y3) (h2:m y1 y2 y3<m a1 a2 a3) (h3:Le σ (J y1 y2 y3)):Round3 Inv J m a1 a2 a3 Q .normal σ:=⟨(y1,y2,y3),h1,h2,h3⟩
def Round4 {β1 β2 β3 β4:Type} (Inv:β1→β2→β3→β4→Prop) (J:β1→β2→β3→β4→St) (m:β1→β2→β3→β4→Nat) (a1:β1) (a2:β2) (a3:β3) (a4:β4) (Q:Exit→St→Prop):Exit→St→Prop:=Round (β:=β1×β2×β3×β4) (fun x=>Inv x.1 x.2.1 x.2.2.1 x.2.2.2) (fun x=>J x.1 x.2.1 x.2.2.1 x.2.2.2) (fun x=>m x.1 x.2.1 x.2.2.1 x.2.2.2) (a1,a2,a3,a4) Q
theorem Round4.next {β1 β2 β3 β4:Type} {Inv:β1→β2→β3→β4→Prop} {J:β1→β2→β3→β4→St} {m:β1→β2→β3→β4→Nat} {a1:β1} {a2:β2} {a3:β3} {a4:β4} (y1:β1) (y2:β2) (y3:β3) (y4:β4) (h1:Inv y1 y2 y3 y4) (h2:m y1 y2 y3 y4<m a1 a2 a3 a4) (h3:Le σ (J y1 y2 y3 y4)):Round4 Inv J m a1 a2 a3 a4 Q .normal σ:=⟨(y1,y2,y3,y4),h1,h2,h3⟩
def Round5 {β1 β2 β3 β4 β5:Type} (Inv:β1→β2→β3→β4→β5→Prop) (J:β1→β2→β3→β4→β5→St) (m:β1→β2→β3→β4→β5→Nat) (a1:β1) (a2:β2) (a3:β3) (a4:β4) (a5:β5) (Q:Exit→St→Prop):Exit→St→Prop:=Round (β:=β1×β2×β3×β4×β5) (fun x=>Inv x.1 x.2.1 x.2.2.1 x.2.2.2.1 x.2.2.2.2) (fun x=>J x.1 x.2.1 x.2.2.1 x.2.2.2.1 x.2.2.2.2) (fun x=>m x.1 x.2.1 x.2.2.1 x.2.2.2.1 x.2.2.2.2) (a1,a2,a3,a4,a5) Q
theorem Round5.next {β1 β2 β3 β4 β5:Type} {Inv:β1→β2→β3→β4→β5→Prop} {J:β1→β2→β3→β4→β5→St} {m:β1→β2→β3→β4→β5→Nat} {a1:β1} {a2:β2} {a3:β3} {a4:β4} {a5:β5} (y1:β1) (y2:β2) (y3:β3) (y4:β4) (y5:β5) (h1:Inv y1 y2 y3 y4 y5) (h2:m y1 y2 y3 y4 y5<m a1 a2 a3 a4 a5) (h3:Le σ (J y1 y2 y3 y4 y5)):Round5 Inv J m a1 a2 a3 a4 a5 Q .normal σ:=⟨(y1,y2,y3,y4,y5),h1,h2,h3⟩
end
end Go.Q
namespace Go.Q
open Go.RowKit
def swN (u v i:Nat):Nat:=bif Nat.beq i u then v else bif Nat.beq i v then u else i
theorem swN_if (u v i:Nat):swN u v i=if i=u then v else if i=v then u else i:=by
 unfold swN
 have e:∀ a b:Nat,Nat.beq a b=decide (a=b):=fun a b=>by
  cases h:Nat.beq a b with
  | true=>simp [Nat.eq_of_beq_eq_true h]
  | false=>simp [Nat.ne_of_beq_eq_false h]
 rw [e,e]
 by_cases h1:i=u
 · simp [h1]
 by_cases h2:i=v
 · simp [h1,h2]
 simp [h1,h2]
theorem swN_swN (u v i:Nat):swN u v (swN u v i)=i:=by
 rw [swN_if,swN_if]
 by_cases h1:i=u
 · subst h1
   rw [if_pos rfl]
   by_cases h2:v=i
   · rw [if_pos h2,h2]
   rw [if_neg h2,if_pos rfl]
 rw [if_neg h1]
 by_cases h2:i=v
 · subst h2;rw [if_pos rfl,if_pos rfl]
 rw [if_neg h2,if_neg h1,if_neg h2]
theorem swN_inj {u v i j:Nat} (h:swN u v i=swN u v j):i=j:=by
 have:=congrArg (swN u v) h
 rwa [swN_swN,swN_swN] at this
def swE (u v:Nat):E→E
 | .t x=>.t x
 | .rf id=>.rf (swN u v id)
 | .vw id x=>.vw (swN u v id) x
 | .pp id o=>.pp (swN u v id) o
 | .pr id k i j=>.pr (swN u v id) k i j
 | .sb id k i j=>.sb (swN u v id) k i j
 | .tl id k j=>.tl (swN u v id) k j
 | .pf id k m=>.pf (swN u v id) k m
 | .no=>.no
def swEs (u v:Nat):List E→List E
 | []=>[]
 | e::r=>swE u v e::swEs u v r
def swA (u v:Nat):A→A
 | .one e=>.one (swE u v e)
 | .agg l=>.agg (swEs u v l)
def swAs (u v:Nat):List A→List A
 | []=>[]
 | e::r=>swA u v e::swAs u v r
def swS (u v:Nat):S→S
 | .a x=>.a (swA u v x)
 | .tup l=>.tup (swAs u v l)
def swR (u v:Nat):R→R
 | .row k rows=>.row k rows
 | .box cs=>.box (swEs u v cs)
 | .hdr none x=>.hdr none x
 | .hdr (some j) x=>.hdr (some (swN u v j)) x
 | .blk none x=>.blk none x
 | .blk (some j) x=>.blk (some (swN u v j)) x
 | .kept K=>.kept K
 | .opq=>.opq
 | .cur g=>.cur g
 | .mp b f=>.mp b f
def swSl (u v:Nat):List (Nat×(Bool×S))→List (Nat×(Bool×S))
 | []=>[]
 | (i,p,x)::r=>(i,p,swS u v x)::swSl u v r
def swRl (u v:Nat):List (Nat×R)→List (Nat×R)
 | []=>[]
 | (i,x)::r=>(swN u v i,swR u v x)::swRl u v r
def St.sw (u v:Nat) (σ:St):St:=⟨σ.n,swSl u v σ.slots,swRl u v σ.res⟩
def Ip.sw (u v:Nat) (I:Ip):Ip:=⟨I.Z,fun i=>I.F (swN u v i),fun i=>I.hd (swN u v i),fun i=>I.B (swN u v i)⟩
section
variable {u v:Nat} {I:Ip} {w:World}
theorem VE.sw {e:E} {c:Value} (h:VE I w e c):VE (I.sw u v) w (swE u v e) c:=by
 cases e<;>simp only [VE,swE,Ip.sw,swN_swN] at h ⊢<;>exact h
theorem VEs.sw:∀ {l:List E} {cs:List Value},VEs I w l cs→VEs (I.sw u v) w (swEs u v l) cs
 | [],_,h=>h
 | e::r,cs,h=>by
  obtain⟨c,cr,h1,h2,h3⟩:=h
  exact⟨c,cr,h1,h2.sw,VEs.sw h3⟩
theorem VA.sw {x:A} {c:Value} (h:VA I w x c):VA (I.sw u v) w (swA u v x) c:=by
 cases x with
 | one e=>exact VE.sw (show VE I w e c from h)
 | agg l=>obtain⟨cs,h1,h2⟩:=h;exact⟨cs,h1,h2.sw⟩
theorem VAs.sw:∀ {l:List A} {cs:List Value},VAs I w l cs→VAs (I.sw u v) w (swAs u v l) cs
 | [],_,h=>h
 | e::r,cs,h=>by
  obtain⟨c,cr,h1,h2,h3⟩:=h
  exact⟨c,cr,h1,h2.sw,VAs.sw h3⟩
theorem VS.sw {p:Bool} {x:S} {c:Value} (h:VS I w (p,x) c):VS (I.sw u v) w (p,swS u v x) c:=by
 unfold VS at h ⊢
 simp only at h ⊢
 split at h
 · rename_i hp
   rw [if_pos hp]
   cases x with
   | a x=>exact VA.sw h
   | tup l=>obtain⟨vs,h1,h2⟩:=h;exact⟨vs,h1,h2.sw⟩
 rename_i hp
 rw [if_neg hp];exact h
theorem RR.sw {id:Nat} {r:R} (h:RR I w id r):RR (I.sw u v) w (swN u v id) (swR u v r):=by
 cases r with
 | row k rows=>unfold RR swR Ip.sw;simp only [swN_swN];exact h
 | box cs=>
  obtain⟨h1,vs,e,h2,h3⟩:=h
  unfold RR swR
  simp only
  refine⟨by simpa only [Ip.sw,swN_swN] using h1,vs,e,by simpa only [Ip.sw,swN_swN] using h2,h3.sw⟩
 | opq=>trivial
 | cur g=>unfold RR swR Ip.sw;simp only [swN_swN];exact h
 | mp b f=>unfold RR swR Ip.sw;simp only [swN_swN];exact h
 | kept K=>exact⟨by unfold Ip.sw;simp only [swN_swN];exact h.1,h.2⟩
 | hdr j x=>
  obtain⟨h1,h2⟩:=h
  cases j with
  | none=>exact⟨by simpa only [Ip.sw,swN_swN] using h1,fun i hi=>by cases hi⟩
  | some j=>
   refine⟨by simpa only [Ip.sw,swN_swN] using h1,fun i hi=>?_⟩
   cases hi
   simpa only [Ip.sw,swN_swN] using h2 j rfl
 | blk j x=>
  obtain⟨h1,h2⟩:=h
  cases j with
  | none=>exact⟨by simpa only [Ip.sw,swN_swN] using h1,fun i hi=>by cases hi⟩
  | some j=>
   refine⟨by simpa only [Ip.sw,swN_swN] using h1,fun i hi=>?_⟩
   cases hi
   simpa only [Ip.sw,swN_swN] using h2 j rfl
end
theorem look_swSl (u v:Nat):∀ (l:List (Nat×(Bool×S))) (i:Nat) (y:Bool×S),look (swSl u v l) i=some y→∃ x,look l i=some (y.1,x)∧y.2=swS u v x
 | [],_,_,h=>by cases h
 | (k,p,x)::r,i,y,h=>by
  rw [swSl,look_cons] at h
  by_cases e:k=i
  · rw [if_pos e] at h
    cases h
    exact⟨x,by rw [look_cons,if_pos e],rfl⟩
  rw [if_neg e] at h
  obtain⟨x',h1,h2⟩:=look_swSl u v r i y h
  exact⟨x',by rw [look_cons,if_neg e];exact h1,h2⟩
theorem look_swRl (u v:Nat):∀ (l:List (Nat×R)) (i:Nat) (y:R),look (swRl u v l) i=some y→∃ x,look l (swN u v i)=some x∧y=swR u v x
 | [],_,_,h=>by cases h
 | (k,x)::r,i,y,h=>by
  rw [swRl,look_cons] at h
  by_cases e:swN u v k=i
  · rw [if_pos e] at h
    cases h
    exact⟨x,by rw [look_cons,if_pos (by rw [←e,swN_swN])],rfl⟩
  rw [if_neg e] at h
  obtain⟨x',h1,h2⟩:=look_swRl u v r i y h
  exact⟨x',by rw [look_cons,if_neg (fun h=>e (by rw [h,swN_swN]))];exact h1,h2⟩
theorem Le.sw (u v:Nat) (σ:St):Le σ (σ.sw u v):=by
 rintro w0 a w ⟨I,h⟩
 refine⟨I.sw u v,⟨h.ext,h.defers,h.size,fun i x hx=>?_,fun id r hr=>?_,h.old,fun id b hb=>h.lt (swN u v id) b hb,fun id r hr=>?_,fun i j hij b hb=>?_⟩⟩
 · obtain⟨y,h1,h2⟩:=look_swSl u v σ.slots i x hx
   have:=(h.slots i _ h1).sw (u:=u) (v:=v)
   rw [←h2] at this
   exact this
 · obtain⟨y,h1,h2⟩:=look_swRl u v σ.res id r hr
   have:=(h.res _ _ h1).sw (u:=u) (v:=v)
   rw [swN_swN,←h2] at this
   exact this
 · obtain⟨y,h1,h2⟩:=look_swRl u v σ.res id r hr
   exact h.own _ _ h1
 exact h.apart (swN u v i) (swN u v j) (fun e=>hij (swN_inj e)) b hb
theorem Le.trans {σ σ' σ'':St} (h1:Le σ σ') (h2:Le σ' σ''):Le σ σ'':=fun w0 a w h=>h2 w0 a w (h1 w0 a w h)
section
variable {Q:Exit→St→Prop} {σ:St}
theorem ThenQ.ex {K:St→Prop} {i:Nat} (h:Q (.exit i) σ):ThenQ K Q (.exit i) σ:=h
theorem Round1.ex {β1:Type} {Inv:β1→Prop} {J:β1→St} {m:β1→Nat} {a1:β1} {i:Nat} (h:Q (.exit i) σ):Round1 Inv J m a1 Q (.exit i) σ:=h
theorem Round2.ex {β1 β2:Type} {Inv:β1→β2→Prop} {J:β1→β2→St} {m:β1→β2→Nat} {a1:β1} {a2:β2} {i:Nat} (h:Q (.exit i) σ):Round2 Inv J m a1 a2 Q (.exit i) σ:=h
theorem Round3.ex {β1 β2 β3:Type} {Inv:β1→β2→β3→Prop} {J:β1→β2→β3→St} {m:β1→β2→β3→Nat} {a1:β1} {a2:β2} {a3:β3} {i:Nat} (h:Q (.exit i) σ):Round3 Inv J m a1 a2 a3 Q (.exit i) σ:=h
theorem Round4.ex {β1 β2 β3 β4:Type} {Inv:β1→β2→β3→β4→Prop} {J:β1→β2→β3→β4→St} {m:β1→β2→β3→β4→Nat} {a1:β1} {a2:β2} {a3:β3} {a4:β4} {i:Nat} (h:Q (.exit i) σ):Round4 Inv J m a1 a2 a3 a4 Q (.exit i) σ:=h
theorem Round5.ex {β1 β2 β3 β4 β5:Type} {Inv:β1→β2→β3→β4→β5→Prop} {J:β1→β2→β3→β4→β5→St} {m:β1→β2→β3→β4→β5→Nat} {a1:β1} {a2:β2} {a3:β3} {a4:β4} {a5:β5} {i:Nat} (h:Q (.exit i) σ):Round5 Inv J m a1 a2 a3 a4 a5 Q (.exit i) σ:=h
end
section
variable {P:Program} {ops:Array Oper} {o:Oper} {σ:St} {q:Bool}
theorem R_grd {x:S} (hg:Grd ops o σ q) (hd:o.dst.all (fun d=>Nat.blt d σ.n)=true) (h:q=true→Op1 P ops { o with guard:=none } σ (σ.put o.dst (true,x))):Op1 P ops o σ (σ.put o.dst (q,x)):=by
 rintro w0 a w ⟨I,hr⟩ K Q hK
 rw [hg.wanted hr]
 cases q with
 | false=>exact hK _ _ ⟨I,hr.put hd rfl⟩
 | true=>exact h rfl w0 a w ⟨I,hr⟩ K Q hK
end
end Go.Q
