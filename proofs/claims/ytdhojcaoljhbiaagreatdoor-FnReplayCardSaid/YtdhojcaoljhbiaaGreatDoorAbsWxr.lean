import Derived.Test.YtdhojcaoljhbiaaGreatDoorAbs14xr
import Derived.Test.YtdhojcaoljhbiaaGreatDoorAbsDxr
import Derived.WideLaws
set_option linter.unusedVariables false
set_option linter.unusedSimpArgs false
namespace Go.Q
open Go.RowKit
section
variable {P:Program} {ops:Array Oper} {o:Oper} {σ:St} {q:Bool}
def MkPost (w:World) (x':V0) (u v:Value) (F:List Nat) (e:Ending) (w':World):Prop:=
 e=.returned u∧∃ F',V0r true w' x' v F'∧F'.Nodup∧(∀ b∈F',(w.heap.size≤b∨b∈F)∧Thaw w' b)∧Chg w w' F
def FnM (P:Program) (f:FuncId) (x:V0) (k:Value) (x':V0) (u:Value):Prop:=
 Callee P f∧u.oneCell'=true∧∀ w v F,Good w F→V0r true w x v F→F.Nodup→(∀ b∈F,Thaw w b)→Calls P f (List.toArray [v,k]) w (MkPost w x' u v F)
def E.puvL (ids:List Nat):E→E
 | .vw i x=>bif memN ids i then .no else .vw i x
 | .sb i k p q=>bif memN ids i then .no else .sb i k p q
 | e=>e
def A.puvL (ids:List Nat):A→A
 | .one e=>.one (e.puvL ids)
 | .agg l=>.agg (l.map (E.puvL ids))
def S.puvL (ids:List Nat):S→S
 | .a x=>.a (x.puvL ids)
 | .tup l=>.tup (l.map (A.puvL ids))
def R.puvL (ids:List Nat):R→R
 | .row k rows=>.row k rows
 | .box cs=>.box (cs.map (E.puvL ids))
 | .hdr j x=>.hdr j x
 | .blk j b=>.blk j b
 | .kept K=>.kept K
 | .opq=>.opq
 | .cur g=>.cur g
 | .mp b f=>.mp b f
def Ip.newF (I:Ip) (ids:List Nat) (NF:Nat→List Nat):Ip:=⟨I.Z,fun i=>bif memN ids i then NF i else I.F i,I.hd,I.B⟩
section
variable {I:Ip} {w w':World} {ids:List Nat} {NF:Nat→List Nat} {FF:List Nat}
theorem VE.puvL (hc:Chg w w' FF) (hZ:∀ b,I.Z b→b∉FF) (hv:∀ i,memN ids i=false→∀ b∈I.F i,b∉FF) {e:E} {c:Value} (h:VE I w e c):VE (I.newF ids NF) w' (e.puvL ids) c:=by
 cases e with
 | t x=>obtain⟨G,h1,h2⟩:=h;exact⟨G,h1.congr fun b hb=>hc.block b (h1.lt b hb) (hZ b (h2 b hb)),h2⟩
 | no=>trivial
 | rf i=>exact h
 | tl i k j=>exact h
 | pf i k j=>exact h
 | vw i x=>
  simp only [E.puvL]
  cases e:memN ids i with
  | true=>trivial
  | false=>
   obtain⟨G',h1,h2⟩:=h
   refine⟨G',h1.congr fun b hb=>hc.block b (h1.lt b hb) (hv i e b (h2 b hb)),fun b hb=>?_⟩
   show b∈(bif memN ids i then NF i else I.F i)
   rw [e];exact h2 b hb
 | pr i k p q=>exact h
 | sb i k p q=>
  simp only [E.puvL]
  cases e:memN ids i with
  | true=>trivial
  | false=>
   obtain⟨g,n,m,h1,h2,h3,h4⟩:=h
   have hb':=hc.block g h3 (hv i e g h2)
   refine⟨g,n,m,h1,?_,heap_lt hb' h3,(World.cell?_of_block (a:=⟨g,_,none⟩) hb').trans h4⟩
   show g∈(bif memN ids i then NF i else I.F i)
   rw [e];exact h2
 | pp i o=>exact h
theorem VEs.puvL (hc:Chg w w' FF) (hZ:∀ b,I.Z b→b∉FF) (hv:∀ i,memN ids i=false→∀ b∈I.F i,b∉FF):∀ {l:List E} {cs:List Value},VEs I w l cs→VEs (I.newF ids NF) w' (l.map (E.puvL ids)) cs
 | [],_,h=>h
 | _::_,_,⟨c,cr,h1,h2,h3⟩=>⟨c,cr,h1,h2.puvL hc hZ hv,h3.puvL hc hZ hv⟩
theorem VA.puvL (hc:Chg w w' FF) (hZ:∀ b,I.Z b→b∉FF) (hv:∀ i,memN ids i=false→∀ b∈I.F i,b∉FF) {x:A} {v:Value} (h:VA I w x v):VA (I.newF ids NF) w' (x.puvL ids) v:=by
 cases x with
 | one e=>exact VE.puvL hc hZ hv h
 | agg l=>obtain⟨cs,h1,h2⟩:=h;exact⟨cs,h1,h2.puvL hc hZ hv⟩
theorem VAs.puvL (hc:Chg w w' FF) (hZ:∀ b,I.Z b→b∉FF) (hv:∀ i,memN ids i=false→∀ b∈I.F i,b∉FF):∀ {l:List A} {cs:List Value},VAs I w l cs→VAs (I.newF ids NF) w' (l.map (A.puvL ids)) cs
 | [],_,h=>h
 | _::_,_,⟨c,cr,h1,h2,h3⟩=>⟨c,cr,h1,h2.puvL hc hZ hv,h3.puvL hc hZ hv⟩
theorem VS.puvL (hc:Chg w w' FF) (hZ:∀ b,I.Z b→b∉FF) (hv:∀ i,memN ids i=false→∀ b∈I.F i,b∉FF) {x:Bool×S} {v:Value} (h:VS I w x v):VS (I.newF ids NF) w' (x.1,x.2.puvL ids) v:=by
 obtain⟨p,x⟩:=x
 cases p
 · exact h
 cases x with
 | a x=>exact VA.puvL hc hZ hv h
 | tup l=>obtain⟨vs,h1,h2⟩:=h;exact⟨vs,h1,h2.puvL hc hZ hv⟩
end
theorem memN_false {ids:List Nat} {i:Nat}:memN ids i=false↔i∉ids:=by
 rw [←memN_iff];cases memN ids i<;>simp
theorem look_none_not {L:List (Nat×R)} {i:Nat} (h:look L i=none):i∉L.map (·.1):=by
 induction L with
 | nil=>simp
 | cons x L ih=>
  obtain⟨j,y⟩:=x
  rw [look_cons] at h
  by_cases e:j=i
  · rw [if_pos e] at h;cases h
  rw [if_neg e] at h
  have:=ih h
  simp only [List.map_cons,List.mem_cons,not_or]
  exact⟨fun h=>e h.symm,this⟩
inductive MkL (σ:St):List E→List T→List T→List (Nat×R)→Prop where
 | nil:MkL σ [] [] [] []
 | v {x:Value} {es:List E} {ts ts':List T} {L:List (Nat×R)} (h:MkL σ es ts ts' L):MkL σ (.t (.v x)::es) (.v x::ts) (.v x::ts') L
 | rf {id k:Nat} {rows rows':List (List T)} {es:List E} {ts ts':List T} {L:List (Nat×R)} (hs:look σ.res id=some (.row k rows)) (hn:look L id=none) (h:MkL σ es ts ts' L):MkL σ (.rf id::es) (.sl k rows::ts) (.sl k rows'::ts') ((id,.row k rows')::L)
theorem MkL.own {I:Ip} {w0:Base} {w:World} {a:Act} (hr:RelI I w0 σ a w) {es:List E} {ts ts':List T} {L:List (Nat×R)} (h:MkL σ es ts ts' L):∀ {cs:List Value},VEs I w es cs→
 ∃ F,Cs true w ts cs F∧F.Nodup∧(∀ b∈F,Thaw w b)∧(∀ b,b∈F↔∃ i∈L.map (·.1),b∈I.F i)∧(∀ i∈L.map (·.1),∃ r0,look σ.res i=some r0):=by
 induction h with
 | nil=>intro cs hv;exact⟨[],by unfold Cs;exact⟨hv,rfl⟩,List.nodup_nil,by simp,by simp,by simp⟩
 | v h ih=>
  rintro cs ⟨c,cr,rfl,h1,h2⟩
  obtain⟨F,g1,g2,g3,g4,g5⟩:=ih h2
  obtain⟨G,k1,_⟩:=h1
  simp only [C] at k1
  obtain⟨k1,rfl,k2⟩:=k1
  exact⟨F,by unfold Cs;exact⟨c,cr,[],F,rfl,by unfold C;exact⟨k1,rfl,k2⟩,g1,rfl⟩,g2,g3,g4,g5⟩
 | @rf id k rows rows' es ts ts' L hs hn h ih=>
  rintro cs ⟨c,cr,rfl,h1,h2⟩
  obtain⟨F,g1,g2,g3,g4,g5⟩:=ih h2
  have hC:C true w (.sl k rows) (I.hd id) (I.F id):=hr.res id _ hs
  have hc:c=I.hd id:=h1.1
  have own:=hr.own id _ hs
  have hni:=look_none_not hn
  refine⟨I.F id++F,by unfold Cs;exact⟨c,cr,_,_,rfl,hc▸hC,g1,rfl⟩,List.nodup_append.2 ⟨own.1,g2,fun x hx y hy e=>?_⟩,fun b hb=>?_,fun b=>?_,fun i hi=>?_⟩
  · subst e
    obtain⟨j,hj,hb⟩:=(g4 x).1 hy
    exact hr.apart id j (fun e=>hni (e▸hj)) x hx hb
  · rcases List.mem_append.1 hb with hb|hb
    · exact (own.2 b hb).2
    exact g3 b hb
  · simp only [List.mem_append,g4,List.map_cons,List.mem_cons]
    constructor
    · rintro (hb|⟨j,hj,hb⟩)
      · exact⟨id,.inl rfl,hb⟩
      exact⟨j,.inr hj,hb⟩
    rintro⟨j,rfl|hj,hb⟩
    · exact .inl hb
    exact .inr ⟨j,hj,hb⟩
  rcases List.mem_cons.1 hi with rfl|hi
  · exact⟨_,hs⟩
  exact g5 i hi
theorem MkL.back {I:Ip} {w0:Base} {w w':World} {a:Act} (hr:RelI I w0 σ a w) {es:List E} {ts ts':List T} {L:List (Nat×R)} (h:MkL σ es ts ts' L):∀ {cs:List Value} {F':List Nat},VEs I w es cs→Cs true w' ts' cs F'→F'.Nodup→
 ∃ NF:Nat→List Nat,(∀ i∈L.map (·.1),(NF i).Nodup∧∀ b∈NF i,b∈F')∧(∀ i∈L.map (·.1),∀ j∈L.map (·.1),i≠j→∀ b∈NF i,b∉NF j)∧∀ i r,look L i=some r→∃ k rows,r=.row k rows∧C true w' (.sl k rows) (I.hd i) (NF i):=by
 induction h with
 | nil=>intro cs F' _ _ _;exact⟨fun _=>[],by simp,by simp,fun i r h=>by cases h⟩
 | v h ih=>
  rintro cs F' ⟨c,cr,rfl,h1,h2⟩ hC hN
  simp only [Cs] at hC
  obtain⟨c',cr',G1,G2,e,k1,k2,rfl⟩:=hC
  cases e
  simp only [C] at k1
  obtain⟨_,rfl,_⟩:=k1
  exact ih h2 k2 hN
 | @rf id k rows rows' es ts ts' L hs hn h ih=>
  rintro cs F' ⟨c,cr,rfl,h1,h2⟩ hC hN
  rw [Cs] at hC
  obtain⟨c',cr',G1,G2,e,k1,k2,rfl⟩:=hC
  cases e
  obtain⟨n1,n2,n3⟩:=List.nodup_append.1 hN
  obtain⟨NF,g1,g2,g3⟩:=ih h2 k2 n2
  have hc:c=I.hd id:=h1.1
  have hni:=look_none_not hn
  have hself:∀ i∈L.map (·.1),i≠id:=fun i hi e=>hni (e▸hi)
  refine⟨fun i=>if i=id then G1 else NF i,fun i hi=>?_,fun i hi j hj hne b hb hb'=>?_,fun i r hl=>?_⟩
  · rcases List.mem_cons.1 hi with hi1|hi1
    · have hi1:i=id:=hi1
      simp only [if_pos hi1];exact⟨n1,fun b hb=>by simp [hb]⟩
    simp only [if_neg (hself i hi1)]
    exact⟨(g1 i hi1).1,fun b hb=>by simp [(g1 i hi1).2 b hb]⟩
  · rcases List.mem_cons.1 hi with hi1|hi1
    · have hi1:i=id:=hi1
      rcases List.mem_cons.1 hj with hj1|hj1
      · have hj1:j=id:=hj1
        exact hne (hi1.trans hj1.symm)
      simp only [if_pos hi1] at hb
      simp only [if_neg (hself j hj1)] at hb'
      exact n3 b hb b ((g1 j hj1).2 b hb') rfl
    simp only [if_neg (hself i hi1)] at hb
    rcases List.mem_cons.1 hj with hj1|hj1
    · have hj1:j=id:=hj1
      simp only [if_pos hj1] at hb'
      exact n3 b hb' b ((g1 i hi1).2 b hb) rfl
    simp only [if_neg (hself j hj1)] at hb'
    exact g2 i hi1 j hj1 hne b hb hb'
  rw [look_cons] at hl
  by_cases e:id=i
  · subst e
    rw [if_pos rfl] at hl
    cases hl
    exact⟨k,rows',rfl,by simp only [if_true];rw [←hc];exact k1⟩
  rw [if_neg e] at hl
  obtain⟨k',rows1,rfl,h4⟩:=g3 i r hl
  exact⟨k',rows1,rfl,by simp only [if_neg (fun h=>e h.symm:¬ i=id)];exact h4⟩
def V0of:A→List T→V0
 | .one _,ts=>.one (ts.headD (.v undef))
 | .agg _,ts=>.agg ts
theorem V0of_r {I:Ip} {w:World} {A0:A} {v:Value} (hv:VA I w A0 v):∃ cs,VEs I w (cellsA A0) cs∧∀ {oo:Bool} {w':World} {ts:List T} {F:List Nat},ts.length=(cellsA A0).length→(V0r oo w' (V0of A0 ts) v F↔Cs oo w' ts cs F):=by
 cases A0 with
 | one e=>
  refine⟨[v],⟨v,[],rfl,hv,rfl⟩,fun {oo w' ts F} hl=>?_⟩
  match ts,hl with
  | [t],_=>
   show C oo w' t v F↔_
   constructor
   · intro h;unfold Cs;exact⟨v,[],F,[],rfl,h,by unfold Cs;exact⟨rfl,rfl⟩,by simp⟩
   intro h
   rw [Cs] at h
   obtain⟨c,cr,G1,G2,e,h1,h2,rfl⟩:=h
   cases e
   rw [Cs] at h2
   obtain⟨_,rfl⟩:=h2
   simpa using h1
 | agg l=>
  obtain⟨cs,rfl,h2⟩:=hv
  refine⟨cs,h2,fun {oo w' ts F} hl=>?_⟩
  show (∃ cs',(Value.agg (List.toArray cs))=.agg (List.toArray cs')∧Cs oo w' ts cs' F)↔_
  constructor
  · rintro⟨cs',e,h⟩
    have:cs=cs':=by simpa using e
    subst this;exact h
  intro h;exact⟨cs,rfl,h⟩
theorem MkL.len {es:List E} {ts ts':List T} {L:List (Nat×R)} (h:MkL σ es ts ts' L):ts.length=es.length∧ts'.length=es.length:=by
 induction h with
 | nil=>simp
 | v _ ih=>simp [ih.1,ih.2]
 | rf _ _ _ ih=>simp [ih.1,ih.2]
def hdsOf (hd:Nat→Value) (rs:List (Nat×R)):List (Nat×R):=rs.map fun x=>(x.1-500,.hdr (some x.1) (hd x.1))
theorem look_append {α:Type}:∀ (l m:List (Nat×α)) (i:Nat),look (l++m) i=match look l i with|some x=>some x|none=>look m i
 | [],_,_=>rfl
 | (j,y)::l,m,i=>by
  rw [List.cons_append,look_cons,look_cons]
  by_cases e:j=i
  · rw [if_pos e,if_pos e]
  rw [if_neg e,if_neg e];exact look_append l m i
theorem RelI.heads {I:Ip} {w0:Base} {w:World} {a:Act} (h:RelI I w0 σ a w) {hds:List (Nat×R)} (hh:∀ i r,look hds i=some r→I.F i=[]∧∃ j x,r=.hdr j x∧∀ m,j=some m→I.hd m=x):RelI I w0 ⟨σ.n,σ.slots,σ.res++hds⟩ a w:=by
 have key:∀ i r,look (σ.res++hds) i=some r→look σ.res i=some r∨look hds i=some r:=fun i r hi=>by
  rw [look_append] at hi
  split at hi
  · rename_i x hx;rw [hx];exact .inl hi
  exact .inr hi
 refine⟨h.ext,h.defers,h.size,h.slots,fun i r hi=>?_,h.old,h.lt,fun i r hi=>?_,h.apart⟩
 · rcases key i r hi with hi|hi
   · exact h.res i r hi
   obtain⟨g1,j,x,rfl,g2⟩:=hh i r hi;exact⟨g1,g2⟩
 rcases key i r hi with hi|hi
 · exact h.own i r hi
 rw [(hh i r hi).1];simp
inductive Back (hd:Nat→Value) (σ:St):List Nat→List E→List T→Prop where
 | nil:Back hd σ [] [] []
 | v {x:Value} {ids:List Nat} {es:List E} {ts:List T} (h:Back hd σ ids es ts):Back hd σ ids (.t (.v x)::es) (.v x::ts)
 | rf {id k:Nat} {rows:List (List T)} {ids:List Nat} {es:List E} {ts:List T} (hs:look σ.res id=some (.row k rows)) (hh:look σ.res (id-500)=some (.hdr (some id) (hd id))) (hn:memN ids id=false) (h:Back hd σ ids es ts):Back hd σ (id::ids) (.rf id::es) (.sl k rows::ts)
theorem Back.ok {hd:Nat→Value} {I:Ip} {w0:Base} {w:World} {a:Act} (hr:RelI I w0 σ a w) {ids:List Nat} {es:List E} {ts:List T} (h:Back hd σ ids es ts):∀ {I0:Ip} {w1:World} {cs:List Value},I0.hd=hd→VEs I0 w1 es cs→
 ∃ F,Cs true w ts cs F∧F.Nodup∧∀ b∈F,∃ i∈ids,∃ r,look σ.res i=some r∧b∈I.F i:=by
 induction h with
 | nil=>intro I0 w1 cs _ hv;exact⟨[],by unfold Cs;exact⟨hv,rfl⟩,List.nodup_nil,by simp⟩
 | v h ih=>
  rintro I0 w1 cs e ⟨c,cr,rfl,h1,h2⟩
  obtain⟨F,g1,g2,g3⟩:=ih e h2
  obtain⟨G,k1,_⟩:=h1
  simp only [C] at k1
  obtain⟨k1,rfl,k2⟩:=k1
  exact⟨F,by unfold Cs;exact⟨c,cr,[],F,rfl,by unfold C;exact⟨k1,rfl,k2⟩,g1,rfl⟩,g2,g3⟩
 | @rf id k rows ids es ts hs hh hn h ih=>
  rintro I0 w1 cs e ⟨c,cr,rfl,h1,h2⟩
  obtain⟨F,g1,g2,g3⟩:=ih e h2
  have hC:C true w (.sl k rows) (I.hd id) (I.F id):=hr.res id _ hs
  have hhd:I.hd id=hd id:=(hr.res _ _ hh).2 id rfl
  have hc:c=I.hd id:=by rw [hhd,←e];exact h1.1
  refine⟨I.F id++F,by unfold Cs;exact⟨c,cr,_,_,rfl,hc▸hC,g1,rfl⟩,List.nodup_append.2 ⟨(hr.own id _ hs).1,g2,fun x hx y hy e=>?_⟩,fun b hb=>?_⟩
  · subst e
    obtain⟨j,hj,_,_,hb⟩:=g3 x hy
    exact hr.apart id j (fun e=>memN_false.1 hn (e▸hj)) x hx hb
  rcases List.mem_append.1 hb with hb|hb
  · exact⟨id,by simp,_,hs,hb⟩
  obtain⟨j,hj,r,h3,h4⟩:=g3 b hb;exact⟨j,by simp [hj],r,h3,h4⟩
def RetM (P:Program) (fn:Func) (hd:Nat→Value) (y:A) (ts:List T) (u:Value):Exit→St→Prop
 | .normal,σ=>Res P fn false (.a (.one (.v u))) σ∧∃ ids,Back hd σ ids (cellsA y) ts
 | .ret,σ=>Res P fn false (.a (.one (.v u))) σ∧∃ ids,Back hd σ ids (cellsA y) ts
 | _,_=>False
theorem FnM.walk {n:Nat} {f:FuncId} {fn:Func} {c:Code} {x x':V0} {k u:Value} {y:A} {ts:List T} {rs:List (Nat×R)} {R0:(Nat→Value)→List (Nat×R)} (hf:P.funcs[f]?=some fn) (hb:fn.body=some c) (hname:(fn.name == "runtime.NumGoroutine")=false) (hnt:fn.ntmps=n) (hn:Nat.ble 2 n=true)
 (hk:k.oneCell'=true) (hu:u.oneCell'=true) (hy:outV0 1000 x=some (y,rs)) (hR:(fun hd=>addsR rs []++hdsOf hd rs)=R0) (hx':V0of y ts=x') (hl:ts.length=(cellsA y).length) (hids:rs.all (fun x=>Nat.ble 1000 x.1&&Nat.ble x.1 1400)=true)
 (h:LenV [x]→∀ w0 hd,AW P w0 c (RetM P fn hd y ts u) ⟨n,[(0,(true,.a y)),(1,(true,.a (.one (.t (.v k)))))],R0 hd⟩):FnM P f x k x' u:=by
 subst hnt hR hx'
 refine⟨⟨fn,hf,hname,by rw [hb];rfl⟩,hu,fun w v F hG hv hnd hth=>?_⟩
 have hlen:LenV [x]:=V0s.lenV (w:=w) (vs:=[v]) (F:=F) ⟨v,[],F,[],rfl,hv.read,⟨rfl,rfl⟩,by simp⟩
 have hn':2≤fn.ntmps:=Nat.le_of_ble_eq_true hn
 have hlt:∀ b∈F,b<w.heap.size:=V0r.lt hv
 let a0:Act:=⟨(List.toArray [v,k])++Array.replicate (fn.ntmps-(List.toArray [v,k]).size) undef,[]⟩
 have hsz:a0.tmps.size=fn.ntmps:=by simp [a0];omega
 have h1v:a0.tmps.getD 1 undef=k:=by simp [a0,Array.getD_eq_getD_getElem?,Array.getElem?_append]
 have h0v:a0.tmps.getD 0 undef=v:=by simp [a0,Array.getD_eq_getD_getElem?,Array.getElem?_append]
 let I0:Ip:=⟨fun b=>b<w.heap.size∧b∉F,fun _=>[],fun _=>undef,fun _=>0⟩
 have hr0:RelI I0 ⟨w,F,hG⟩ ⟨fn.ntmps,[(1,(true,.a (.one (.t (.v k)))))],[]⟩ a0 w:=by
  refine⟨Chg.refl w F,rfl,hsz,fun i z hi=>?_,fun id r hi=>(by cases hi),fun b hb=>hb.1,fun id b hb=>(by cases hb),fun id r hi=>(by cases hi),fun i j _ b hb=>(by cases hb)⟩
  rw [look_cons] at hi
  by_cases e:1=i
  · subst e
    rw [if_pos rfl] at hi
    cases hi
    rw [h1v]
    exact⟨[],by unfold C;exact⟨rfl,rfl,hk⟩,by simp⟩
  rw [if_neg e] at hi;cases hi
 have hfree:∀ b∈F,Free I0 ⟨w,F,hG⟩ w b:=fun b hb=>⟨.inr hb,hlt b hb,hth b hb,fun hz=>hz.2 hb,fun i hi=>by cases hi⟩
 obtain⟨I1,r1,r2,r3,_⟩:=outV0_ok hy (by
  rw [List.all_eq_true] at hids ⊢
  intro z hz
  have h1:=hids z hz
  rfl) hr0 hv hnd hfree
 rw [adds_eq] at r1
 have r1':=r1.heads (hds:=hdsOf I1.hd rs) fun i r hi=>by
  have hm:=look_mem hi
  obtain⟨z,hz,e⟩:=List.mem_map.1 hm
  obtain⟨rfl,rfl⟩:=Prod.mk.inj e
  have h1:=List.all_eq_true.1 hids z hz
  simp only [Bool.and_eq_true] at h1
  have h2:=Nat.le_of_ble_eq_true h1.1
  have h3:=Nat.le_of_ble_eq_true h1.2
  exact⟨(r3.2 _ (by omega)).1,_,_,rfl,fun m hm=>by cases hm;rfl⟩
 have r2':RelI I1 ⟨w,F,hG⟩ ⟨fn.ntmps,[(0,(true,.a y)),(1,(true,.a (.one (.t (.v k)))))],addsR rs []++hdsOf I1.hd rs⟩ a0 w:=by
  refine⟨r1'.ext,r1'.defers,r1'.size,fun i z hi=>?_,r1'.res,r1'.old,r1'.lt,r1'.own,r1'.apart⟩
  rw [look_cons] at hi
  by_cases e:0=i
  · subst e
    rw [if_pos rfl] at hi
    cases hi
    rw [h0v];exact r2
  rw [if_neg e] at hi;exact r1'.slots i z hi
 refine calls_of_wp hf hb (Code.wp_mono ?_ (h hlen ⟨w,F,hG⟩ I1.hd _ _ ⟨_,r2'⟩))
 rintro e a' w' ⟨σ,h1,I,hI⟩
 have key:(Res P fn false (.a (.one (.v u))) σ∧∃ ids,Back I1.hd σ ids (cellsA y) ts)→a'.defers=[]∧∃ v',(results fn a'.tmps).run P w'=.ok v' w'∧MkPost w (V0of y ts) u v F (.returned v') w':=fun ⟨h1,ids,h2⟩=>by
  obtain⟨v',F',g1,g2,_⟩:=h1 I ⟨w,F,hG⟩ a' w' hI
  have hv':v'=u:=by unfold Vr V0r C at g2;exact g2.1
  subst hv'
  obtain⟨cs,hes,hcs⟩:=V0of_r r2
  obtain⟨F2,k1,k2,k3⟩:=h2.ok hI rfl hes
  refine⟨hI.defers,_,g1,rfl,F2,(hcs hl).2 k1,k2,fun b hb=>?_,hI.ext⟩
  obtain⟨i,_,r,h3,h4⟩:=k3 b hb
  exact (hI.own i r h3).2 b h4
 cases e with
 | normal=>exact key h1
 | ret=>exact key h1
 | exit id=>exact h1.elim
 | goto l=>exact h1.elim
 | panic c=>exact h1.elim
 | outgrown=>exact h1.elim
variable {w0:Base} {Q:Exit→St→Prop} {n:Nat} {sl:List (Nat×(Bool×S))} {rs:List (Nat×R)} {l:List Oper}
theorem AWl.updput {d id:Nat} {r:R} {x:Bool×S} (ho:Op1 P ops o ⟨n,sl,rs⟩ ((St.upd ⟨n,sl,rs⟩ id r).put o.dst x)) (hd:o.dst=some d) (h:AWl P w0 ops Q l ⟨n,(d,x)::puvS id sl,updR id r rs⟩):AWl P w0 ops Q (o::l) ⟨n,sl,rs⟩:=
 AWl.op ho (by rw [hd];exact h)
theorem RetM.mk {fn:Func} {hd:Nat→Value} {y:A} {ts:List T} {u:Value} {ids:List Nat} (h1:Res P fn false (.a (.one (.v u))) σ) (h2:Back hd σ ids (cellsA y) ts):Res P fn false (.a (.one (.v u))) σ∧∃ ids,Back hd σ ids (cellsA y) ts:=⟨h1,ids,h2⟩
end
theorem take_at {α:Type} {l:List α} {i:Nat} {x:α} (h:l[i]?=some x):l.take (i+1)=l.take i++[x]:=by
 obtain⟨hi,rfl⟩:=List.getElem?_eq_some_iff.1 h
 exact List.take_succ_eq_append_getElem hi
theorem drop_at {α:Type} {l:List α} {i:Nat} {x:α} (h:l[i]?=some x):l.drop i=x::l.drop (i+1):=by
 obtain⟨hi,rfl⟩:=List.getElem?_eq_some_iff.1 h
 exact List.drop_eq_getElem_cons hi
end Go.Q
namespace Go.Q
open Go.RowKit
section
variable {P:Program} {ops:Array Oper} {o:Oper} {σ:St} {q:Bool}
theorem RelI.reslot {I:Ip} {w0:Base} {w:World} {a:Act} (h:RelI I w0 σ a w) {i:Nat} {x:Bool×S} (hv:VS I w x (a.tmps.getD i undef)):RelI I w0 ⟨σ.n,(i,x)::σ.slots,σ.res⟩ a w:=
 ⟨h.ext,h.defers,h.size,fun j y hj=>by
  rw [look_cons] at hj
  by_cases e:i=j
  · subst e;rw [if_pos rfl] at hj;cases hj;exact hv
  rw [if_neg e] at hj;exact h.slots j y hj,h.res,h.old,h.lt,h.own,h.apart⟩
theorem RelI.nilrow {I:Ip} {w0:Base} {w:World} {a:Act} (h:RelI I w0 σ a w) {id:Nat} (k:Nat) (hf:σ.has id=false):RelI (I.set id [] (.slice none 0 0) 0) w0 (σ.add id (.row k [])) a w:=
 h.addF hf List.nodup_nil (fun b hb=>by cases hb) (by
  show C true w (.sl k []) _ _
  simp only [Ip.set,if_true]
  unfold C
  exact⟨none,0,0,rfl,rfl,Nat.le_refl _,Nat.zero_le _,.inl ⟨rfl,rfl,fun _=>rfl⟩⟩)
theorem VE_nil {I:Ip} {w:World} {id:Nat} {c:Value} (h:VE I w (.t (.v (.slice none 0 0))) c):VE (I.set id [] (.slice none 0 0) 0) w (.rf id) c:=by
 obtain⟨G,h1,_⟩:=h
 simp only [C] at h1
 refine⟨?_,none,0,0,h1.1⟩
 simp only [Ip.set,if_true];exact h1.1
theorem VEs_nil {I:Ip} {w:World} {id:Nat}:∀ {es:List E} {cs:List Value} {j:Nat},es.any (E.has id)=false→VEs I w es cs→es[j]?=some (.t (.v (.slice none 0 0)))→VEs (I.set id [] (.slice none 0 0) 0) w (es.set j (.rf id)) cs
 | [],_,_,_,_,h=>by simp at h
 | e::es,_,0,hh,⟨c,cr,rfl,h1,h2⟩,h=>by
  simp at h
  subst h
  simp only [List.any_cons,Bool.or_eq_false_iff] at hh
  exact⟨c,cr,rfl,VE_nil h1,h2.set hh.2⟩
 | e::es,_,j+1,hh,⟨c,cr,rfl,h1,h2⟩,h=>by
  simp only [List.any_cons,Bool.or_eq_false_iff] at hh
  exact⟨c,cr,rfl,h1.set hh.1,VEs_nil hh.2 h2 (by simpa using h)⟩
variable {w0:Base} {Q:Exit→St→Prop} {n:Nat} {sl:List (Nat×(Bool×S))} {rs:List (Nat×R)} {l:List Oper}
theorem AWl.nilS {i:Nat} (id k:Nat) (hi:look sl i=some (true,.a (.one (.t (.v (.slice none 0 0)))))) (hf:St.has ⟨n,sl,rs⟩ id=false) (h:AWl P w0 ops Q l ⟨n,(i,(true,.a (.one (.rf id))))::sl,(id,.row k [])::rs⟩):AWl P w0 ops Q l ⟨n,sl,rs⟩:=fun a w ⟨I,hr⟩=>
 h a w ⟨_,(hr.nilrow k hf).reslot (VE_nil (hr.slots _ _ hi))⟩
theorem Cp {i:Nat} (id k j:Nat) {es:List E} (hi:look sl i=some (true,.a (.agg es))) (hj:es[j]?=some (.t (.v (.slice none 0 0)))) (hf:St.has ⟨n,sl,rs⟩ id=false) (h:AWl P w0 ops Q l ⟨n,(i,(true,.a (.agg (es.set j (.rf id)))))::sl,(id,.row k [])::rs⟩):AWl P w0 ops Q l ⟨n,sl,rs⟩:=fun a w ⟨I,hr⟩=>by
 have hh:=St.has_slot hf hi
 obtain⟨cs,h1,h2⟩:=hr.slots _ _ hi
 exact h a w ⟨_,(hr.nilrow k hf).reslot ⟨cs,h1,VEs_nil (by simpa [S.has,A.has] using hh) h2 hj⟩⟩
theorem AWl.nilB {b:Nat} (id k j:Nat) {cs:List E} (hb:look rs b=some (.box cs)) (hj:cs[j]?=some (.t (.v (.slice none 0 0)))) (hf:St.has ⟨n,sl,rs⟩ id=false) (h:AWl P w0 ops Q l ⟨n,sl,(id,.row k [])::setR rs b (.box (cs.set j (.rf id)))⟩):AWl P w0 ops Q l ⟨n,sl,rs⟩:=fun a w ⟨I,hr⟩=>by
 have hh:=St.has_res hf hb
 have hne:id≠b:=fun e=>hh.1 e.symm
 have hr':=(hr.nilrow k hf)
 have hb':look (St.add ⟨n,sl,rs⟩ id (.row k [])).res b=some (.box cs):=by
  rw [St.add,look_cons,if_neg hne];exact hb
 refine h a w ⟨I.set id [] (.slice none 0 0) 0,?_⟩
 have hr0:RelI (I.set id [] (.slice none 0 0) 0) w0 ⟨n,sl,setR ((id,.row k [])::rs) b (.box (cs.set j (.rf id)))⟩ a w:=by
  have key:∀ i r,look (setR ((id,R.row k [])::rs) b (.box (cs.set j (.rf id)))) i=some r→(i=b∧r=.box (cs.set j (.rf id)))∨look ((id,R.row k [])::rs) i=some r:=fun i r hi=>by
   rcases look_setR _ _ _ _ _ hi with ⟨h1,h2,_⟩|⟨_,h2⟩
   · exact .inl ⟨h1,h2⟩
   exact .inr h2
  refine⟨hr'.ext,hr'.defers,hr'.size,hr'.slots,fun i r hi=>?_,hr'.old,hr'.lt,fun i r hi=>?_,hr'.apart⟩
  · rcases key i r hi with ⟨rfl,rfl⟩|hi
    · obtain⟨h1,vs,e,h2,h3⟩:=hr.res _ _ hb
      refine⟨by simp only [Ip.set,if_neg hh.1];exact h1,vs,e,by simp only [Ip.set,if_neg hh.1];exact h2,VEs_nil (by simpa [R.has] using hh.2) h3 hj⟩
    exact hr'.res i r hi
  rcases key i r hi with ⟨rfl,rfl⟩|hi
  · exact hr'.own _ _ hb'
  exact hr'.own i r hi
 have e:setR ((id,R.row k [])::rs) b (.box (cs.set j (.rf id)))=(id,.row k [])::setR rs b (.box (cs.set j (.rf id))):=by
  rw [setR,beq_false hne];rfl
 rw [←e];exact hr0
theorem Bf {σ':St} (hl:Le σ σ') (h:AWl P w0 ops Q l σ'):AWl P w0 ops Q l σ:=fun a w hr=>h a w (hl w0 a w hr)
theorem A7 {id:Nat} (h:Q .normal σ):BlockQ id Q .normal σ:=h
def Round1 {β1:Type} (Inv:β1→Prop) (J:β1→St) (m:β1→Nat) (a1:β1) (Q:Exit→St→Prop):Exit→St→Prop:=Round (β:=β1) (fun x=>Inv x) (fun x=>J x) (fun x=>m x) a1 Q
theorem AW.loop1 {β1:Type} (Inv:β1→Prop) (J:β1→St) (m:β1→Nat) (y1:β1) {c:Code} (h0:Inv y1) (hs:Le σ (J y1)) (round:∀ a1,Inv a1→AW P w0 c (Round1 Inv J m a1 Q) (J a1)):AW P w0 (.loop c) Q σ:=
 C8 (β:=β1) (fun x=>Inv x) (fun x=>J x) (fun x=>m x) y1 h0 hs fun x h=>round x h
theorem Round1.next {β1:Type} {Inv:β1→Prop} {J:β1→St} {m:β1→Nat} {a1:β1} (y1:β1) (h1:Inv y1) (h2:m y1<m a1) (h3:Le σ (J y1)):Round1 Inv J m a1 Q .normal σ:=⟨y1,h1,h2,h3⟩
def Round2 {β1 β2:Type} (Inv:β1→β2→Prop) (J:β1→β2→St) (m:β1→β2→Nat) (a1:β1) (a2:β2) (Q:Exit→St→Prop):Exit→St→Prop:=Round (β:=β1×β2) (fun x=>Inv x.1 x.2) (fun x=>J x.1 x.2) (fun x=>m x.1 x.2) (a1,a2) Q
theorem Dn {β1 β2:Type} (Inv:β1→β2→Prop) (J:β1→β2→St) (m:β1→β2→Nat) (y1:β1) (y2:β2) {c:Code} (h0:Inv y1 y2) (hs:Le σ (J y1 y2)) (round:∀ a1 a2,Inv a1 a2→AW P w0 c (Round2 Inv J m a1 a2 Q) (J a1 a2)):AW P w0 (.loop c) Q σ:=
 C8 (β:=β1×β2) (fun x=>Inv x.1 x.2) (fun x=>J x.1 x.2) (fun x=>m x.1 x.2) (y1,y2) h0 hs fun x h=>round (x.1) (x.2) h
theorem Round2.next {β1 β2:Type} {Inv:β1→β2→Prop} {J:β1→β2→St} {m:β1→β2→Nat} {a1:β1} {a2:β2} (y1:β1) (y2:β2) (h1:Inv y1 y2) (h2:m y1 y2<m a1 a2) (h3:Le σ (J y1 y2)):Round2 Inv J m a1 a2 Q .normal σ:=⟨(y1,y2),h1,h2,h3⟩
def Round3 {β1 β2 β3:Type} (Inv:β1→β2→β3→Prop) (J:β1→β2→β3→St) (m:β1→β2→β3→Nat) (a1:β1) (a2:β2) (a3:β3) (Q:Exit→St→Prop):Exit→St→Prop:=Round (β:=β1×β2×β3) (fun x=>Inv x.1 x.2.1 x.2.2) (fun x=>J x.1 x.2.1 x.2.2) (fun x=>m x.1 x.2.1 x.2.2) (a1,a2,a3) Q
theorem AW.loop3 {β1 β2 β3:Type} (Inv:β1→β2→β3→Prop) (J:β1→β2→β3→St) (m:β1→β2→β3→Nat) (y1:β1) (y2:β2) (y3:β3) {c:Code} (h0:Inv y1 y2 y3) (hs:Le σ (J y1 y2 y3)) (round:∀ a1 a2 a3,Inv a1 a2 a3→AW P w0 c (Round3 Inv J m a1 a2 a3 Q) (J a1 a2 a3)):AW P w0 (.loop c) Q σ:=
 C8 (β:=β1×β2×β3) (fun x=>Inv x.1 x.2.1 x.2.2) (fun x=>J x.1 x.2.1 x.2.2) (fun x=>m x.1 x.2.1 x.2.2) (y1,y2,y3) h0 hs fun x h=>round (x.1) (x.2.1) (x.2.2) h
theorem Round3.next {β1 β2 β3:Type} {Inv:β1→β2→β3→Prop} {J:β1→β2→β3→St} {m:β1→β2→β3→Nat} {a1:β1} {a2:β2} {a3:β3} (y1:β1) (y2:β2) (y3:β3) (h1:Inv y1 y2 y3) (h2:m y1 y2 y3<m a1 a2 a3) (h3:Le σ (J y1 y2 y3)):Round3 Inv J m a1 a2 a3 Q .normal σ:=⟨(y1,y2,y3),h1,h2,h3⟩
def Round4 {β1 β2 β3 β4:Type} (Inv:β1→β2→β3→β4→Prop) (J:β1→β2→β3→β4→St) (m:β1→β2→β3→β4→Nat) (a1:β1) (a2:β2) (a3:β3) (a4:β4) (Q:Exit→St→Prop):Exit→St→Prop:=Round (β:=β1×β2×β3×β4) (fun x=>Inv x.1 x.2.1 x.2.2.1 x.2.2.2) (fun x=>J x.1 x.2.1 x.2.2.1 x.2.2.2) (fun x=>m x.1 x.2.1 x.2.2.1 x.2.2.2) (a1,a2,a3,a4) Q
theorem AW.loop4 {β1 β2 β3 β4:Type} (Inv:β1→β2→β3→β4→Prop) (J:β1→β2→β3→β4→St) (m:β1→β2→β3→β4→Nat) (y1:β1) (y2:β2) (y3:β3) (y4:β4) {c:Code} (h0:Inv y1 y2 y3 y4) (hs:Le σ (J y1 y2 y3 y4)) (round:∀ a1 a2 a3 a4,Inv a1 a2 a3 a4→AW P w0 c (Round4 Inv J m a1 a2 a3 a4 Q) (J a1 a2 a3 a4)):AW P w0 (.loop c) Q σ:=
 C8 (β:=β1×β2×β3×β4) (fun x=>Inv x.1 x.2.1 x.2.2.1 x.2.2.2) (fun x=>J x.1 x.2.1 x.2.2.1 x.2.2.2) (fun x=>m x.1 x.2.1 x.2.2.1 x.2.2.2) (y1,y2,y3,y4) h0 hs fun x h=>round (x.1) (x.2.1) (x.2.2.1) (x.2.2.2) h
theorem Round4.next {β1 β2 β3 β4:Type} {Inv:β1→β2→β3→β4→Prop} {J:β1→β2→β3→β4→St} {m:β1→β2→β3→β4→Nat} {a1:β1} {a2:β2} {a3:β3} {a4:β4} (y1:β1) (y2:β2) (y3:β3) (y4:β4) (h1:Inv y1 y2 y3 y4) (h2:m y1 y2 y3 y4<m a1 a2 a3 a4) (h3:Le σ (J y1 y2 y3 y4)):Round4 Inv J m a1 a2 a3 a4 Q .normal σ:=⟨(y1,y2,y3,y4),h1,h2,h3⟩
def Round5 {β1 β2 β3 β4 β5:Type} (Inv:β1→β2→β3→β4→β5→Prop) (J:β1→β2→β3→β4→β5→St) (m:β1→β2→β3→β4→β5→Nat) (a1:β1) (a2:β2) (a3:β3) (a4:β4) (a5:β5) (Q:Exit→St→Prop):Exit→St→Prop:=Round (β:=β1×β2×β3×β4×β5) (fun x=>Inv x.1 x.2.1 x.2.2.1 x.2.2.2.1 x.2.2.2.2) (fun x=>J x.1 x.2.1 x.2.2.1 x.2.2.2.1 x.2.2.2.2) (fun x=>m x.1 x.2.1 x.2.2.1 x.2.2.2.1 x.2.2.2.2) (a1,a2,a3,a4,a5) Q
theorem AW.loop5 {β1 β2 β3 β4 β5:Type} (Inv:β1→β2→β3→β4→β5→Prop) (J:β1→β2→β3→β4→β5→St) (m:β1→β2→β3→β4→β5→Nat) (y1:β1) (y2:β2) (y3:β3) (y4:β4) (y5:β5) {c:Code} (h0:Inv y1 y2 y3 y4 y5) (hs:Le σ (J y1 y2 y3 y4 y5)) (round:∀ a1 a2 a3 a4 a5,Inv a1 a2 a3 a4 a5→AW P w0 c (Round5 Inv J m a1 a2 a3 a4 a5 Q) (J a1 a2 a3 a4 a5)):AW P w0 (.loop c) Q σ:=
 C8 (β:=β1×β2×β3×β4×β5) (fun x=>Inv x.1 x.2.1 x.2.2.1 x.2.2.2.1 x.2.2.2.2) (fun x=>J x.1 x.2.1 x.2.2.1 x.2.2.2.1 x.2.2.2.2) (fun x=>m x.1 x.2.1 x.2.2.1 x.2.2.2.1 x.2.2.2.2) (y1,y2,y3,y4,y5) h0 hs fun x h=>round (x.1) (x.2.1) (x.2.2.1) (x.2.2.2.1) (x.2.2.2.2) h
theorem Round5.next {β1 β2 β3 β4 β5:Type} {Inv:β1→β2→β3→β4→β5→Prop} {J:β1→β2→β3→β4→β5→St} {m:β1→β2→β3→β4→β5→Nat} {a1:β1} {a2:β2} {a3:β3} {a4:β4} {a5:β5} (y1:β1) (y2:β2) (y3:β3) (y4:β4) (y5:β5) (h1:Inv y1 y2 y3 y4 y5) (h2:m y1 y2 y3 y4 y5<m a1 a2 a3 a4 a5) (h3:Le σ (J y1 y2 y3 y4 y5)):Round5 Inv J m a1 a2 a3 a4 a5 Q .normal σ:=⟨(y1,y2,y3,y4,y5),h1,h2,h3⟩
end
end Go.Q
namespace Go.Q
open Go.RowKit
section
variable {P:Program} {ops:Array Oper} {o:Oper} {σ:St} {q:Bool}
def V0c (w:World) (FF:List Nat):List (Bool×V0)→List Value→List Nat→Prop
 | [],vs,F=>vs=[]∧F=[]
 | (o,x)::r,vs,F=>∃ v vr G1 G2,vs=v::vr∧V0r o w x v G1∧V0c w FF r vr G2∧(if o=true then F=G1++G2 else F=G2∧∀ b∈G1,b∉FF)
def CPost (w:World) (out:V) (F:List Nat) (e:Ending) (w':World):Prop:=
 ∃ v F',e=.returned v∧Vr true w' out v F'∧F'.Nodup∧(∀ b∈F',(w.heap.size≤b∨b∈F)∧Thaw w' b)∧Chg w w' F
def FnC (P:Program) (f:FuncId) (ins:List (Bool×V0)) (out:V):Prop:=Callee P f∧∀ w vs F,Good w F→V0c w F ins vs F→F.Nodup→(∀ b∈F,Thaw w b)→Calls P f (List.toArray vs) w (CPost w out F)
theorem V0c.len {w:World} {FF:List Nat}:∀ {ins:List (Bool×V0)} {vs:List Value} {F:List Nat},V0c w FF ins vs F→vs.length=ins.length
 | [],_,_,⟨h,_⟩=>by subst h;rfl
 | (_,_)::_,_,_,⟨v,vr,_,_,rfl,_,h,_⟩=>by simp [h.len]
theorem V0c.sub {w:World} {FF:List Nat}:∀ {ins:List (Bool×V0)} {vs:List Value} {F:List Nat},V0c w FF ins vs F→∀ b∈F,b<w.heap.size
 | [],_,_,⟨_,h⟩,b,hb=>by subst h;cases hb
 | (o,x)::r,_,F,⟨v,vr,G1,G2,rfl,h1,h2,h3⟩,b,hb=>by
  cases o with
  | true=>
   simp only [if_true] at h3
   subst h3
   rcases List.mem_append.1 hb with hb|hb
   · exact h1.lt b hb
   exact h2.sub b hb
  | false=>
   simp only [Bool.false_eq_true,if_false] at h3
   rw [h3.1] at hb
   exact h2.sub b hb
def initC:Nat→List (Bool×V0)→St→Option St
 | _,[],σ=>some σ
 | i,(false,x)::r,σ=>initC (i+1) r ⟨σ.n,(i,(true,.a (inA x)))::σ.slots,σ.res⟩
 | i,(true,x)::r,σ=>match outV0 (1000+50*i) x with
  | some (y,rs)=>bif (rs.all fun x=>!σ.has x.1) then initC (i+1) r ⟨σ.n,(i,(true,.a y))::σ.slots,addsR rs σ.res⟩ else none
  | none=>none
theorem initC_ok {w0:Base} {w:World} {a:Act} {FF:List Nat} (hZ0:∀ b,b<w.heap.size→b∉FF→True):∀ {ins:List (Bool×V0)} {i:Nat} {σ σ':St} {I:Ip} {vs:List Value} {F:List Nat},initC i ins σ=some σ'→RelI I w0 σ a w→(∀ b,b<w.heap.size→b∉FF→I.Z b)→V0c w FF ins vs F→F.Nodup→(∀ b∈F,Free I w0 w b)→(∀ j v,vs[j]?=some v→a.tmps.getD (i+j) undef=v)→
 ∃ I',RelI I' w0 σ' a w
 | [],i,σ,σ',I,vs,F,h,hr,_,_,_,_,_=>by simp only [initC,Option.some.injEq] at h;subst h;exact⟨I,hr⟩
 | (false,x)::r,i,σ,σ',I,vs,F,h,hr,hZ,⟨v,vr,G1,G2,e,h1,h2,h3⟩,hn,hf,hv=>by
  subst e
  rw [initC] at h
  simp only [Bool.false_eq_true,if_false] at h3
  obtain⟨rfl,h3⟩:=h3
  refine initC_ok hZ0 h (hr.reslot ?_) hZ h2 hn hf fun j u hj=>?_
  · rw [show a.tmps.getD i undef=v from hv 0 v rfl]
    exact VA_also h1 fun b hb=>hZ b (h1.lt b hb) (h3 b hb)
  rw [show i+1+j=i+(j+1) by omega];exact hv (j+1) u (by simpa using hj)
 | (true,x)::r,i,σ,σ',I,vs,F,h,hr,hZ,⟨v,vr,G1,G2,e,h1,h2,h3⟩,hn,hf,hv=>by
  subst e
  rw [initC] at h
  simp only [if_true] at h3
  subst h3
  split at h
  · rename_i y rs hy
    cases hb:(rs.all fun x=>!σ.has x.1) with
    | false=>rw [hb] at h;cases h
    | true=>
     rw [hb] at h
     obtain⟨n1,n2,n3⟩:=List.nodup_append.1 hn
     obtain⟨I1,r1,r2,r3,r4⟩:=outV0_ok hy hb hr h1 n1 fun b hb=>hf b (by simp [hb])
     have e1:σ.adds rs=⟨σ.n,σ.slots,addsR rs σ.res⟩:=adds_eq rs σ.n σ.slots σ.res
     rw [e1] at r1
     refine initC_ok hZ0 (σ:=⟨σ.n,(i,(true,.a y))::σ.slots,addsR rs σ.res⟩) h (r1.reslot ?_) (by rw [r3.1];exact hZ) h2 n2 (fun b hb=>r4 b (hf b (by simp [hb])) fun hm=>n3 b hm b hb rfl) fun j u hj=>?_
     · rw [show a.tmps.getD i undef=v from hv 0 v rfl];exact r2
     rw [show i+1+j=i+(j+1) by omega];exact hv (j+1) u (by simpa using hj)
  cases h
theorem FnC.walk {n:Nat} {f:FuncId} {fn:Func} {c:Code} {ins:List (Bool×V0)} {out:V} {σ':St} (hf:P.funcs[f]?=some fn) (hb:fn.body=some c) (hname:(fn.name == "runtime.NumGoroutine")=false) (hnt:fn.ntmps=n) (hn:Nat.ble ins.length n=true) (hi:initC 0 ins ⟨n,[],[]⟩=some σ')
 (h:∀ w0,AW P w0 c (RetQ P fn true out) σ'):FnC P f ins out:=by
 subst hnt
 refine⟨⟨fn,hf,hname,by rw [hb];rfl⟩,fun w vs F hG hv hnd hth=>?_⟩
 have hl:=hv.len
 have hn':ins.length≤fn.ntmps:=Nat.le_of_ble_eq_true hn
 have hlt:=hv.sub
 let a0:Act:=⟨(List.toArray vs)++Array.replicate (fn.ntmps-(List.toArray vs).size) undef,[]⟩
 let I0:Ip:=⟨fun b=>b<w.heap.size∧b∉F,fun _=>[],fun _=>undef,fun _=>0⟩
 have hr0:RelI I0 ⟨w,F,hG⟩ ⟨fn.ntmps,[],[]⟩ a0 w:=by
  refine⟨Chg.refl w F,rfl,by simp [a0,hl];omega,fun i z hi=>(by cases hi),fun id r hi=>(by cases hi),fun b hb=>hb.1,fun id b hb=>(by cases hb),fun id r hi=>(by cases hi),fun i j _ b hb=>(by cases hb)⟩
 obtain⟨I1,r1⟩:=initC_ok (fun _ _ _=>trivial) hi hr0 (fun b h1 h2=>⟨h1,h2⟩) hv hnd (fun b hb=>⟨.inr hb,hlt b hb,hth b hb,fun hz=>hz.2 hb,fun i hi=>by cases hi⟩) fun j v hj=>by
  have hjl:j<vs.length:=(List.getElem?_eq_some_iff.1 hj).1
  simp only [Nat.zero_add,a0]
  rw [Array.getD_eq_getD_getElem?,Array.getElem?_append_left (by simpa using hjl)]
  simp [hj]
 refine calls_of_wp hf hb (Code.wp_mono ?_ (h ⟨w,F,hG⟩ _ _ ⟨_,r1⟩))
 rintro e a' w' ⟨σ1,h1,I,hI⟩
 have key:Res P fn true out σ1→a'.defers=[]∧∃ v',(results fn a'.tmps).run P w'=.ok v' w'∧CPost w out F (.returned v') w':=fun h1=>by
  obtain⟨v',F',g1,g2,g3,g4⟩:=h1 I ⟨w,F,hG⟩ a' w' hI
  exact⟨hI.defers,v',g1,v',F',rfl,g2,(g4 rfl).1,fun b hb=>⟨g3 b hb,(g4 rfl).2 b hb⟩,hI.ext⟩
 cases e with
 | normal=>exact key h1
 | ret=>exact key h1
 | exit id=>exact h1.elim
 | goto l=>exact h1.elim
 | panic c=>exact h1.elim
 | outgrown=>exact h1.elim
theorem RelI.chgF {I:Ip} {w0:Base} {w w':World} {a:Act} (h:RelI I w0 σ a w) {G:List Nat} (hG:∀ b∈G,Free I w0 w b) (hc:Chg w w' G):RelI I w0 σ a w':=by
 have hZ:∀ b,I.Z b→b∉G:=fun b hz hb=>(hG b hb).2.2.2.1 hz
 have hv:∀ i,∀ b∈I.F i,b∉G:=fun i b hb hg=>(hG b hg).2.2.2.2 i hb
 have hm:∀ i,memN [] i=false→∀ b∈I.F i,b∉G:=fun i _=>hv i
 have hI:I.newF [] I.F=I:=by unfold Ip.newF;congr 1
 have hE:∀ e:E,e.puvL []=e:=fun e=>by cases e<;>rfl
 have hA:∀ e:A,e.puvL []=e:=fun e=>by
  cases e with
  | one e=>simp only [A.puvL,hE]
  | agg l=>simp only [A.puvL];rw [map_same fun e _=>hE e]
 have hS:∀ e:S,e.puvL []=e:=fun e=>by
  cases e with
  | a x=>simp only [S.puvL,hA]
  | tup l=>simp only [S.puvL];rw [map_same fun e _=>hA e]
 refine⟨Chg.ext h.ext hc fun b hb=>(hG b hb).1,h.defers,h.size,fun i x hi=>?_,fun i r hi=>?_,fun b hb=>Nat.lt_of_lt_of_le (h.old b hb) hc.size,fun i b hb=>⟨Nat.lt_of_lt_of_le (h.lt i b hb).1 hc.size,(h.lt i b hb).2⟩,fun i r hi=>⟨(h.own i r hi).1,fun b hb=>⟨((h.own i r hi).2 b hb).1,((h.own i r hi).2 b hb).2.chg hc (hv i b hb)⟩⟩,h.apart⟩
 · have:=(h.slots i x hi).puvL (NF:=I.F) hc hZ hm
   rw [hI,hS] at this
   exact this
 have:=h.res i r hi
 cases r with
 | row k rows=>
  have this:C true w (.sl k rows) (I.hd i) (I.F i):=this
  exact (this.congr fun b hb=>hc.block b (this.lt b hb) (hv i b hb):C true w' (.sl k rows) (I.hd i) (I.F i))
 | box cs=>
  obtain⟨h1,vs,t,h2,h3⟩:=this
  refine⟨h1,vs,t,?_,?_⟩
  · exact (hc.block _ (Array.getElem?_eq_some_iff.1 h2).1 (hv i _ (by rw [h1];simp))).trans h2
  have:=h3.puvL (NF:=I.F) hc hZ hm
  rw [hI,map_same fun e _=>hE e] at this
  exact this
 | hdr j x=>exact this
 | blk j b=>exact this
 | opq=>trivial
 | cur g=>
  have this:I.F i=[g.1]∧I.B i=g.1∧CuB I.Z w g:=this
  exact⟨this.1,this.2.1,this.2.2.congr (hc.block _ this.2.2.lt (hv i _ (by rw [this.1];simp))) fun b hb hz=>⟨hz,hc.block b hb (hZ b hz)⟩⟩
 | mp b f=>
  have this:I.F i=[b]∧MapB w b f:=this
  exact⟨this.1,this.2.congr (hc.block _ this.2.lt (hv i _ (by rw [this.1];simp)))⟩
 | kept K=>exact⟨this.1,fun x hx=>⟨(hc.block x.1 (h.old _ (this.2 x hx).2) (hZ _ (this.2 x hx).2)).trans (this.2 x hx).1,(this.2 x hx).2⟩⟩
inductive ArgRd (σ:St):List Operand→List (Bool×V0)→Prop where
 | nil:ArgRd σ [] []
 | cons {x:Operand} {A0:A} {ts:List T} {l:List Operand} {ins:List (Bool×V0)} (hx:Get σ true x A0) (hts:cellsA A0=ts.map .t) (h:ArgRd σ l ins):ArgRd σ (x::l) ((false,V0of A0 ts)::ins)
inductive ArgC (σ:St) (xo:Operand) (x0:V0):List Operand→List (Bool×V0)→Prop where
 | own {l:List Operand} {ins:List (Bool×V0)} (h:ArgRd σ l ins):ArgC σ xo x0 (xo::l) ((true,x0)::ins)
 | cons {x:Operand} {A0:A} {ts:List T} {l:List Operand} {ins:List (Bool×V0)} (hx:Get σ true x A0) (hts:cellsA A0=ts.map .t) (h:ArgC σ xo x0 l ins):ArgC σ xo x0 (x::l) ((false,V0of A0 ts)::ins)
theorem ArgRd.one {σ:St} {x:Operand} {t:T} {l:List Operand} {ins:List (Bool×V0)} (hx:Get σ true x (.one (.t t))) (h:ArgRd σ l ins):ArgRd σ (x::l) ((false,.one t)::ins):=.cons (ts:=[t]) hx rfl h
theorem ArgRd.agg {σ:St} {x:Operand} {ts:List T} {l:List Operand} {ins:List (Bool×V0)} (hx:Get σ true x (.agg (ts.map .t))) (h:ArgRd σ l ins):ArgRd σ (x::l) ((false,.agg ts)::ins):=.cons hx rfl h
theorem ArgC.one {σ:St} {xo x:Operand} {x0:V0} {t:T} {l:List Operand} {ins:List (Bool×V0)} (hx:Get σ true x (.one (.t t))) (h:ArgC σ xo x0 l ins):ArgC σ xo x0 (x::l) ((false,.one t)::ins):=.cons (ts:=[t]) hx rfl h
theorem ArgC.agg {σ:St} {xo x:Operand} {x0:V0} {ts:List T} {l:List Operand} {ins:List (Bool×V0)} (hx:Get σ true x (.agg (ts.map .t))) (h:ArgC σ xo x0 l ins):ArgC σ xo x0 (x::l) ((false,.agg ts)::ins):=.cons hx rfl h
theorem VEs_Z {I:Ip} {w:World}:∀ {ts:List T} {cs:List Value},VEs I w (ts.map .t) cs→∃ G,Cs false w ts cs G∧∀ b∈G,I.Z b
 | [],cs,h=>⟨[],by unfold Cs;exact⟨h,rfl⟩,by simp⟩
 | t::ts,cs,⟨c,cr,e,⟨G1,h1,h2⟩,h3⟩=>by
  obtain⟨G2,g1,g2⟩:=VEs_Z h3
  exact⟨G1++G2,by unfold Cs;exact⟨c,cr,G1,G2,e,h1,g1,rfl⟩,fun b hb=>by rcases List.mem_append.1 hb with hb|hb;exact h2 b hb;exact g2 b hb⟩
theorem read_Z {I:Ip} {w0:Base} {w:World} {a:Act} (hr:RelI I w0 σ a w) {x:Operand} {A0:A} {ts:List T} (hx:Get σ true x A0) (hts:cellsA A0=ts.map .t):∃ G,V0r false w (V0of A0 ts) (a.eval x) G∧∀ b∈G,I.Z b:=by
 have hv:=hx.va hr rfl
 obtain⟨cs,h1,h2⟩:=V0of_r hv
 rw [hts] at h1
 obtain⟨G,g1,g2⟩:=VEs_Z h1
 exact⟨G,(h2 (by rw [hts];simp)).2 g1,g2⟩
theorem ArgRd.ok {I:Ip} {w0:Base} {w:World} {a:Act} (hr:RelI I w0 σ a w) {FF:List Nat} (hZ:∀ b,I.Z b→b∉FF) {l:List Operand} {ins:List (Bool×V0)} (h:ArgRd σ l ins):V0c w FF ins (l.map a.eval) []:=by
 induction h with
 | nil=>exact⟨rfl,rfl⟩
 | cons hx hts h ih=>
  obtain⟨G,g1,g2⟩:=read_Z hr hx hts
  exact⟨_,_,G,[],rfl,g1,ih,by simp only [Bool.false_eq_true,if_false];exact⟨trivial,fun b hb=>hZ b (g2 b hb)⟩⟩
theorem ArgC.ok {I:Ip} {w0:Base} {w:World} {a:Act} (hr:RelI I w0 σ a w) {F:List Nat} (hZ:∀ b,I.Z b→b∉F) {xo:Operand} {x0:V0} (hx0:V0r true w x0 (a.eval xo) F) {l:List Operand} {ins:List (Bool×V0)} (h:ArgC σ xo x0 l ins):V0c w F ins (l.map a.eval) F:=by
 induction h with
 | own h=>exact⟨_,_,F,[],rfl,hx0,h.ok hr hZ,by simp⟩
 | cons hx hts h ih=>
  obtain⟨G,g1,g2⟩:=read_Z hr hx hts
  exact⟨_,_,G,F,rfl,g1,ih,by simp only [Bool.false_eq_true,if_false];exact⟨trivial,fun b hb=>hZ b (g2 b hb)⟩⟩
theorem R_consume {f:FuncId} {xo:Operand} {l:List Operand} {tys:Array TypeId} {ins:List (Bool×V0)} {out:V} {A0:A} {ts:List T} {σ':St} {y:S} {rs:List (Nat×R)} (n:Nat) (h:FnC P f ins out) (ho:o.op=.call { callee:=.value (.func f),args:=l.toArray,argTypes:=tys }) (hg:o.guard=none) (hd:o.dst.all (fun d=>Nat.blt d σ.n)=true)
 (hx:Get σ true xo A0) (ha:absorb σ (cellsA A0)=some (σ',ts)) (hl:Nat.beq ts.length (cellsA A0).length=true) (hargs:ArgC σ' xo (V0of A0 ts) l ins) (hout:outV n out=some (y,rs)) (hf:(rs.all fun x=>!σ'.has x.1)=true):Op1 P ops o σ ((σ'.adds rs).put o.dst (true,y)):=by
 rintro w0 a w ⟨I,hr⟩ K Q hK
 simp only [Region.wanted,hg,if_true]
 obtain⟨cs,hes,hcs⟩:=V0of_r (hx.va hr rfl)
 obtain⟨I',G,r1,r2,r3,r4,_⟩:=RelI.absorb ha hr hes
 have hx0:=(hcs (oo:=true) (w':=w) (F:=G) (Nat.eq_of_beq_eq_true hl)).2 r2
 have hZ:∀ b,I'.Z b→b∉G:=fun b hz hb=>(r4 b hb).2.2.2.1 hz
 have hc:=hargs.ok r1 hZ hx0
 unfold Oper.wp
 rw [run_enter h.1 ho]
 refine (h.2 w _ G (r1.goodF fun b hb=>(r4 b hb).1) hc r3 fun b hb=>(r4 b hb).2.2.1).mono fun e w' hR=>?_
 obtain⟨v,F',rfl,h1,h2,h3,h4⟩:=hR
 have r1':=r1.chgF r4 h4
 have hfree:∀ b∈F',Free I' w0 w' b:=fun b hb=>by
  rcases (h3 b hb).1 with g|g
  · exact⟨.inl (Nat.le_trans r1.ext.size g),Vr.lt h1 b hb,(h3 b hb).2,fun hz=>by have:=r1.old b hz;omega,fun i hi=>by have:=(r1.lt i b hi).1;omega⟩
  exact⟨(r4 b g).1,Vr.lt h1 b hb,(h3 b hb).2,(r4 b g).2.2.2.1,(r4 b g).2.2.2.2⟩
 obtain⟨I2,g1,g2⟩:=outV_ok hout hf r1' h1 h2 hfree
 refine hK _ _ ⟨I2,g1.put ?_ g2⟩
 have e1:(σ'.adds rs).n=σ'.n:=adds_n rs
 rw [e1,absorb_n ha];exact hd
variable {w0:Base} {Q:Exit→St→Prop} {n:Nat} {sl:List (Nat×(Bool×S))} {rs:List (Nat×R)} {l:List Oper}
theorem AWl.consume {d:Nat} {rl:List (Nat×R)} {σ':St} {x:Bool×S} (ho:Op1 P ops o ⟨n,sl,rs⟩ ((σ'.adds rl).put o.dst x)) (hd:o.dst=some d) (h:AWl P w0 ops Q l ⟨σ'.n,(d,x)::σ'.slots,addsR rl σ'.res⟩):AWl P w0 ops Q (o::l) ⟨n,sl,rs⟩:=
 AWl.op ho (by rw [hd,show σ'=⟨σ'.n,σ'.slots,σ'.res⟩ from rfl,adds_eq];exact h)
end
end Go.Q
namespace Go.Q
open Go.RowKit
section
variable {P:Program} {ops:Array Oper} {o:Oper} {σ:St} {q:Bool}
variable {w0:Base} {Q:Exit→St→Prop} {n:Nat} {sl:List (Nat×(Bool×S))} {rs:List (Nat×R)} {l:List Oper}
theorem RelI.take {I:Ip} {w:World} {a:Act} {id k i p k2:Nat} (nid:Nat) {rows rows2:List (List T)} {row:List T} (hr:RelI I w0 ⟨n,sl,rs⟩ a w) (hs:look rs id=some (.row k rows)) (hi:rows[i]?=some row) (hp:row[p]?=some (.sl k2 rows2))
 (hf:∀ c0,St.has ⟨n,puvS id sl,updR id (.row k (rows.set i (row.take p++.v c0::row.drop (p+1)))) rs⟩ nid=false) :
 ∃ c I',(∃ a l k,c=.slice a l k)∧RelI I' w0 ⟨n,puvS id sl,(nid,.row k2 rows2)::updR id (.row k (rows.set i (row.take p++.v c::row.drop (p+1)))) rs⟩ a w∧I'.hd nid=c∧∀ g n' m',I.hd id=.slice (some ⟨g,0,none⟩) n' m'→w.cell? ⟨g,i*k+p,none⟩=some c:=by
 have hC:C true w (.sl k rows) _ _:=hr.res id _ hs
 have own:=hr.own id _ hs
 simp only [C] at hC
 obtain⟨a0,len,cap,g1,g2,g3,g4,g5⟩:=hC
 have hlti:i<rows.length:=(List.getElem?_eq_some_iff.1 hi).1
 rcases g5 with ⟨g5,_⟩|⟨g,off,Gr,rfl,hF,g6,g7,g8⟩
 · omega
 obtain⟨rfl,cur,e,hcur,hcs⟩:=g7 trivial
 have hg1:=g1
 rw [hF] at own
 obtain⟨u1,xs,u2,u3,u4⟩:=g8.flat
 simp only [Nat.zero_add] at u4
 obtain⟨p1,_⟩:=set_split (.sl k2 rows2:T) hp
 have hrk:row.length=k:=u1 row (List.mem_of_getElem? hi)
 have hpl:p<row.length:=(List.getElem?_eq_some_iff.1 hp).1
 have s1:=(set_split row hi).1
 have e1:rows.flatten=((rows.take i).flatten++row.take p)++([.sl k2 rows2]++(row.drop (p+1)++(rows.drop (i+1)).flatten)):=by
  conv=>lhs;rw [s1,p1]
  simp
 rw [e1] at u2
 obtain⟨x1,x23,F1,F23,rfl,rfl,v1,v2,v3⟩:=u2.split
 obtain⟨x2,x3,F2,F3,rfl,rfl,v4,v5,v6⟩:=v2.split
 match x2,v6 with
 | [c],_=>
 have v4':C true w (.sl k2 rows2) c F2:=by
  rw [Cs] at v4
  obtain⟨c',cr,G1,G2,e,h1,h2,rfl⟩:=v4
  cases e
  rw [Cs] at h2
  obtain⟨_,rfl⟩:=h2
  simpa using h1
 have hfl:((rows.take i).flatten).length=i*k:=by
  have key:∀ (l:List (List T)),(∀ r∈l,r.length=k)→l.flatten.length=l.length*k:=by
   intro l
   induction l with
   | nil=>intro _;simp
   | cons r l ih=>intro h;rw [List.flatten_cons,List.length_append,ih fun r hr=>h r (by simp [hr]),h r (by simp),List.length_cons,Nat.succ_mul];omega
  rw [key _ fun r hr=>u1 r (List.mem_of_mem_take hr),List.length_take,Nat.min_eq_left (Nat.le_of_lt hlti)]
 have lx1:x1.length=i*k+p:=by rw [v3,List.length_append,hfl,List.length_take];omega
 have hc:=u4 (i*k+p) c (by rw [←lx1,List.getElem?_append_right (Nat.le_refl _),Nat.sub_self];rfl)
 have hsl:∃ a l k,c=.slice a l k:=by
  simp only [C] at v4'
  obtain⟨a1,l1,c1,e,_⟩:=v4'
  exact⟨_,_,_,e⟩
 have hnd:=List.nodup_cons.1 own.1
 obtain⟨d1,d23,d12⟩:=List.nodup_append.1 hnd.2
 obtain⟨d2,d3,d23'⟩:=List.nodup_append.1 d23
 have inG:∀ b,b∈g::(F1++F3)→b∈g::(F1++(F2++F3))∧b∉F2:=fun b hb=>by
  rcases List.mem_cons.1 hb with rfl|hb
  · exact⟨by simp,fun hm=>hnd.1 (by simp [hm])⟩
  rcases List.mem_append.1 hb with hb|hb
  · exact⟨by simp [hb],fun hm=>d12 b hb b (by simp [hm]) rfl⟩
  exact⟨by simp [hb],fun hm=>d23' b hm b hb rfl⟩
 have r1:=hr.upd (G:=g::(F1++F3)) (r:=.row k (rows.set i (row.take p++.v c::row.drop (p+1)))) hs (Chg.refl w _) ⟨List.nodup_cons.2 ⟨fun hm=>?_,List.nodup_append.2 ⟨d1,d3,fun b hb b' hb' e=>?_⟩⟩,fun b hb=>?_⟩ ?_
 · have r2:=r1.addF (hf c) (G:=F2) (u:=c) (b:=0) (r:=.row k2 rows2) d2 (fun b hb=>?_) (by
    show C true w (.sl k2 rows2) _ _
    simp only [Ip.set,if_true]
    exact v4')
   · refine⟨c,_,hsl,r2,by simp only [Ip.set,if_true],fun g0 n0 m0 h0=>?_⟩
     rw [hg1] at h0
     cases h0
     exact hc
   obtain⟨o1,cc,ee,o2⟩:=own.2 b (by simp [hb])
   have hlt:b<w.heap.size:=(Array.getElem?_eq_some_iff.1 o2).1
   refine⟨o1,hlt,⟨cc,ee,o2⟩,fun hz=>(hr.lt id b (by rw [hF];simp [hb])).2 hz,fun j hj=>?_⟩
   by_cases ej:j=id
   · simp only [Ip.set,if_pos ej] at hj
     exact (inG b hj).2 hb
   simp only [Ip.set,if_neg ej] at hj
   exact hr.apart j id ej b hj (by rw [hF];simp [hb])
 · rcases List.mem_append.1 hm with hm|hm
   · exact hnd.1 (by simp [hm])
   exact hnd.1 (by simp [hm])
 · subst e
   exact d12 b hb b (by simp [hb']) rfl
 · obtain⟨hin,_⟩:=inG b hb
   obtain⟨o1,cc,ee,o2⟩:=own.2 b hin
   exact⟨o1,(Array.getElem?_eq_some_iff.1 o2).1,⟨cc,ee,o2⟩,.inl (by rw [hF];exact hin)⟩
 show C true _ _ _ _
 simp only [Ip.set,if_true]
 unfold C
 refine⟨_,_,_,hg1,by simpa using g2,g3,g4,.inr ⟨g,0,F1++F3,rfl,rfl,g6,fun _=>⟨rfl,cur,e,hcur,hcs⟩,Rws.of (xs:=x1++([c]++x3)) (fun r hm=>?_) ?_ fun j u hj=>?_⟩⟩
 · rcases List.mem_or_eq_of_mem_set hm with hm|rfl
   · exact u1 r hm
   simp only [List.length_append,List.length_take,List.length_cons,List.length_drop]
   omega
 · rw [(set_split (row.take p++.v c::row.drop (p+1)) hi).2]
   have ef:(rows.take i++(row.take p++.v c::row.drop (p+1))::rows.drop (i+1)).flatten=((rows.take i).flatten++row.take p)++([.v c]++(row.drop (p+1)++(rows.drop (i+1)).flatten)):=by simp
   rw [ef]
   refine v1.append (Cs.append (F:=[]) ?_ v5)
   unfold Cs
   obtain⟨a1,l1,c1,rfl⟩:=hsl
   exact⟨_,[],[],[],rfl,by unfold C;exact⟨rfl,rfl,rfl⟩,by unfold Cs;exact⟨rfl,rfl⟩,rfl⟩
 rw [Nat.zero_add]
 exact u4 j u hj
end
end Go.Q
namespace Go.Q
open Go.RowKit
section
variable {P:Program} {ops:Array Oper} {o:Oper} {σ:St} {q:Bool}
theorem C.hdr {o:Bool} {w:World} {k:Nat} {rows:List (List T)} {a:Option Addr} {n m:Nat} {F:List Nat} (h:C o w (.sl k rows) (.slice a n m) F):rows.length=n∧n≤m∧m≤maxLen:=by
 simp only [C] at h
 obtain⟨a',n',m',e,h1,h2,h3,_⟩:=h
 cases e
 exact⟨h1,h2,h3⟩
theorem C.blk {w:World} {k:Nat} {rows:List (List T)} {a:Option Addr} {n m:Nat} {F:List Nat} (h:C true w (.sl k rows) (.slice a n m) F):(m=0∧F=[]∧rows=[])∨∃ g G cur e,a=some ⟨g,0,none⟩∧F=g::G∧w.heap[g]?=some (.cells cur e (0,0))∧cur.size=m*k∧Rws true w g k 0 rows G:=by
 simp only [C] at h
 obtain⟨a',n',m',e,h1,h2,h3,h4⟩:=h
 cases e
 rcases h4 with ⟨h4,rfl,h5⟩|⟨b,off,G,rfl,rfl,h6,h7,h8⟩
 · exact .inl ⟨h5 trivial,rfl,List.eq_nil_of_length_eq_zero (by omega)⟩
 obtain⟨rfl,cur,e,h9,h10⟩:=h7 trivial
 exact .inr ⟨b,G,cur,e,rfl,rfl,h9,h10,h8⟩
theorem R_len_tl {id k j:Nat} {rows:List (List T)} {x:Operand} {t e:TypeId} (ho:o.op=.call { callee:=.builtin .len,args:=#[x],argTypes:=#[t] }) (hg:Grd ops o σ q) (hd:o.dst.all (fun d=>Nat.blt d σ.n)=true)
 (hx:Get σ q x (.one (.tl id k j))) (hs:look σ.res id=some (.row k rows)) (hu:P.underlying t=some (.slice e)):Op1 P ops o σ (σ.put o.dst (q,.a (.one (.t (.v (.int .i64 ((rows.length-j:Nat):Int))))))):=
 .val hg hd fun I w0 a w hr hq=>by
  obtain⟨a0,a',n,m,h1,h2,h3,h4,h5⟩:VE I w (.tl id k j) (a.eval x):=hx.va hr hq
  have hC:C true w (.sl k rows) (I.hd id) (I.F id):=hr.res id _ hs
  rw [h1] at hC
  obtain⟨e1,e2,e3⟩:=hC.hdr
  refine⟨.int .i64 ((rows.length-j:Nat):Int),?_,[],by unfold C;exact⟨rfl,rfl,rfl⟩,by simp⟩
  simp [execOp,ho,resolve,invoke,builtin,Builtin.len_,h2,run_underlying hu,Builtin.lenOf,e1]
  rfl
theorem R_indexAddr_tl {id k j:Nat} {t e:TypeId} {x y:Operand} {n:Int} {ag:Bool} {rows:List (List T)} {row:List T} (ho:o.op=.indexAddr t x y) (hg:Grd ops o σ q) (hd:o.dst.all (fun d=>Nat.blt d σ.n)=true) (hx:Get σ q x (.one (.tl id k j)))
 (hs:look σ.res id=some (.row k rows)) (hy:Get σ q y (.one (.t (.v (.int .i64 n))))) (hu:P.underlying t=some (.slice e)) (hk:tyB P e ag k=true) (hi:q=true→0≤n∧rows[j+n.toNat]?=some row):Op1 P ops o σ (σ.put o.dst (q,.a (.one (.pr id k (j+n.toNat) 0)))):=
 .val hg hd fun I w0 a w hr hq=>by
  obtain⟨a0,a',N,M,h1,h2,h3,h4,h5⟩:VE I w (.tl id k j) (a.eval x):=hx.va hr hq
  have hC:C true w (.sl k rows) (I.hd id) (I.F id):=hr.res id _ hs
  rw [h1] at hC
  obtain⟨e1,e2,e3⟩:=hC.hdr
  obtain⟨h0,hi⟩:=hi hq
  have hlt:j+n.toNat<rows.length:=(List.getElem?_eq_some_iff.1 hi).1
  obtain⟨g,rfl,rfl⟩:=h5 (by omega)
  have hn:n<((N-j:Nat):Int):=by omega
  refine⟨.pointer (some ⟨g,j*k+n.toNat*k,none⟩),?_,g,N,M,h1,by rw [Nat.add_mul];simp⟩
  simp [execOp,ho,hy.int hr hq,h2,Instr.indexAt,asIntOf,run_underlying hu,h0,hn,tyB_size hk,Addr.add_lit]
theorem R_slice_rf {id k m:Nat} {t e:TypeId} {x:Operand} {lo:Option Operand} {ag:Bool} {rows:List (List T)} (ho:o.op=.slice t x lo none none) (hg:Grd ops o σ q) (hd:o.dst.all (fun d=>Nat.blt d σ.n)=true) (hx:Get σ q x (.one (.rf id)))
 (hs:look σ.res id=some (.row k rows)) (hl:Bnd σ q lo 0 m) (hu:P.underlying t=some (.slice e)) (hk:tyB P e ag k=true) (hb:q=true→m≤rows.length):Op1 P ops o σ (σ.put o.dst (q,.a (.one (.tl id k m)))):=
 .val hg hd fun I w0 a w hr hq=>by
  obtain⟨h1,a0,N,M,h2⟩:VE I w (.rf id) (a.eval x):=hx.va hr hq
  have hC:C true w (.sl k rows) (I.hd id) (I.F id):=hr.res id _ hs
  rw [←h1,h2] at hC
  obtain⟨e1,e2,e3⟩:=hC.hdr
  have hb:=hb hq
  have hrun:(Instr.sliceAt t (.slice a0 N M) (lo.map a.eval) none none).run P w=.ok (.slice (if M=m then a0 else a0.map (·.add (m*k))) (N-m) (M-m)) w:=by
   have b1:m≤M:=by omega
   have b2:m≤N:=by omega
   rcases hl.val hr hq with ⟨h6,rfl⟩|h6<;>rw [h6]<;>simp [Instr.sliceAt,Instr.slice,run_underlying hu,Instr.sliceBounds,Instr.sliceBound,asIntOf,tyB_size hk,b1,b2,e2]
  refine⟨.slice (if M=m then a0 else a0.map (·.add (m*k))) (N-m) (M-m),by simp [execOp,ho,h2,hrun],a0,(if M=m then a0 else a0.map (·.add (m*k))),N,M,by rw [←h1,h2],rfl,by omega,e2,fun hm=>?_⟩
  rcases hC.blk with ⟨h3,_⟩|⟨g,G,cur,e,rfl,_⟩
  · omega
  refine⟨g,rfl,?_⟩
  rw [if_neg (by omega)]
  simp [Addr.add_lit]
theorem run_append_at (w:World) (t ty e e0:TypeId) (i:TypeInfo) (ht:P.underlying t=some (.slice e)) (hi:P.info? e=some i)
 (g p sLen sCap:Nat) (cur:Array Value) (hg:w.heap[g]?=some (.cells cur e0 (0,0)))
 (a:Addr) (m c:Nat) (news:List Value) (hl:news.length=m*i.size) (hnews:∀ j u,news[j]?=some u→w.cell? (a.add j)=some u) (h1:∀ u∈news,u.oneCell'=true)
 (hroom:sLen+m≤sCap) (hfit:p+sLen*i.size+news.length≤cur.size) :
 (Builtin.append_ #[t,t] ty #[.slice (some ⟨g,p,none⟩) sLen sCap,.slice (some a) m c]).run P w =
  .ok (.slice (some ⟨g,p,none⟩) (sLen+m) sCap) (w.setRow g (cur.toList.take (p+sLen*i.size)++news++cur.toList.drop (p+sLen*i.size+news.length)).toArray):=by
 have hf:=run_firstCells_some (P:=P) w i.size m a m c news hl hnews
 have hst:=run_storeCells_at P g (p+sLen*i.size) e0 news 0 cur w hg (by simpa using hfit) h1
 simp only [Nat.add_zero] at hst
 simp [Builtin.append_,run_underlying ht,sizeOf,typeInfo,hi,Builtin.lenOf,hroom,hf,Addr.add_lit,hst]
theorem Cs.cell1' {o:Bool} {w:World} {ts:List T} {cs:List Value} {F:List Nat} (h:Cs o w ts cs F):∀ u∈cs,u.oneCell'=true:=by
 intro u hu
 obtain⟨j,hj⟩:=List.getElem?_of_mem hu
 have hjl:=(List.getElem?_eq_some_iff.1 hj).1
 have:=h.len
 obtain⟨c',G',k1,k2,_⟩:=h.get (i:=j) (t:=ts[j]'(by omega)) (List.getElem?_eq_getElem _)
 rw [hj] at k1;cases k1
 exact k2.cell1
def OpE (P:Program) (ops:Array Oper) (o:Oper) (σ:St) (Φ:St→Prop):Prop:=∀ w0 a w,Rel w0 σ a w→∀ (K:Act→World→Prop) (Q:Exit→Act→World→Prop),(∀ σ' a' w',Φ σ'→Rel w0 σ' a' w'→K a' w')→
 if Region.wanted o (yielded ops a.tmps) then o.wp P a w K Q else K (a.put o.dst undef) w
theorem OpE.eff {Φ:St→Prop} (hg:o.guard=none) (h:∀ w0 a w,Rel w0 σ a w→∃ v w' σ',(execOp a.eval o).run P w=.ok (.value v) w'∧Φ σ'∧Rel w0 σ' (a.put o.dst v) w'):OpE P ops o σ Φ:=by
 intro w0 a w hr K Q hK
 simp only [Region.wanted,hg,if_true]
 obtain⟨v,w',σ',h1,h2,h3⟩:=h w0 a w hr
 unfold Oper.wp
 rw [h1]
 exact hK _ _ _ h2 h3
theorem Bi {w0:Base} {Q:Exit→St→Prop} {l:List Oper} {Φ:St→Prop} (ho:OpE P ops o σ Φ) (h:∀ σ',Φ σ'→AWl P w0 ops Q l σ'):AWl P w0 ops Q (o::l) σ:=fun a w hr=>
 wpList_step fun K hK=>ho w0 a w hr K _ fun σ' a' w' hφ hr'=>hK a' w' (h σ' hφ a' w' hr')
variable {w0:Base} {Q:Exit→St→Prop} {n:Nat} {sl:List (Nat×(Bool×S))} {rs:List (Nat×R)} {l:List Oper}
end
end Go.Q
namespace Go.Q
open Go.RowKit
section
variable {P:Program} {ops:Array Oper} {o:Oper} {σ:St} {q:Bool}
theorem Rws.takeN {w:World} {b k:Nat}:∀ {rows:List (List T)} {off:Nat} {G:List Nat},Rws true w b k off rows G→G.Nodup→∀ m,∃ G',Rws true w b k off (rows.take m) G'∧G'.Sublist G
 | [],off,G,h,_,m=>⟨G,by simpa using h,List.Sublist.refl _⟩
 | row::rows,off,G,h,hn,0=>⟨[],by simp [Rws],by simp⟩
 | row::rows,off,G,h,hn,m+1=>by
  simp only [Rws] at h
  obtain⟨G1,G2,h1,h2,h3,rfl⟩:=h
  obtain⟨G',g1,g2⟩:=Rws.takeN h3 (List.nodup_append.1 hn).2.1 m
  refine⟨G1++G',?_,List.Sublist.append (List.Sublist.refl _) g2⟩
  rw [List.take_succ_cons]
  simp only [Rws]
  exact⟨G1,G',h1,h2,g1,rfl⟩
theorem zeroCells_flat (zs:List Value) (n:Nat):(Builtin.zeroCells zs.toArray n).toList=(List.replicate n zs).flatten:=by
 unfold Builtin.zeroCells
 rw [←made_flat zs (.inr trivial) n]
 simp
theorem R_clear {id k j bytes:Nat} {t e:TypeId} {x:Operand} {z:Value} {zs:List Value} {rows:List (List T)} (ho:o.op=.call { callee:=.builtin .clear,args:=#[x],argTypes:=#[t] }) (hg:o.guard=none) (hd:o.dst=none) (hx:Get σ true x (.one (.tl id k j)))
 (hs:look σ.res id=some (.row k rows)) (hu:P.underlying t=some (.slice e)) (hi:(P.info? e).map (fun i=>(i.zero,i.size,i.bytes))=some (some z,k,bytes)) (hz:z.cells=zs.toArray) (hk:(Nat.beq zs.length k&&zs.all Value.oneCell')=true) :
 Op1 P ops o σ (σ.upd id (.row k (rows.take j++List.replicate (rows.length-j) (zs.map .v)))):=
 .eff hg fun w0 a w ⟨I,hr⟩=>by
  simp only [Bool.and_eq_true] at hk
  have hzk:=Nat.eq_of_beq_eq_true hk.1
  obtain⟨a0,a',N,M,h1,h2,h3,h4,h5⟩:VE I w (.tl id k j) (a.eval x):=hx.va hr rfl
  have hC:C true w (.sl k rows) (I.hd id) (I.F id):=hr.res id _ hs
  have hC0:=hC
  have own:=hr.own id _ hs
  rw [h1] at hC
  obtain⟨e1,e2,e3⟩:=hC.hdr
  obtain⟨i,hi1,hi2,hi3,hi4⟩:=info_parts hi
  subst hi3
  by_cases hj:j=N
  · have hrun:(Builtin.clear_ #[t] o.type #[a.eval x]).run P w=.ok (.tuple #[]) w:=by
     rw [h2,show N-j=0 by omega]
     cases a'<;>simp [Builtin.clear_,run_underlying hu]
    have er:rows.take j++List.replicate (rows.length-j) (zs.map T.v)=rows:=by
     rw [show rows.length-j=0 by omega,List.take_of_length_le (by omega)];simp
    rw [er]
    have hR:=hr.upd (G:=I.F id) (r:=.row i.size rows) hs (Chg.refl _ _) ⟨own.1,fun b hb=>⟨(own.2 b hb).1,(hr.lt id b hb).1,(own.2 b hb).2,.inl hb⟩⟩ (by show C true _ _ _ _;simpa [Ip.set] using hC0)
    exact⟨.tuple #[],w,by simp [execOp,ho,resolve,invoke,builtin,hrun],_,by rw [hd];exact hR⟩
  have hjN:j<N:=by omega
  obtain⟨g',rfl,rfl⟩:=h5 (by omega)
  rcases hC.blk with ⟨q1,_⟩|⟨g,G,cur,e',q1,q2,q3,q4,q5⟩
  · omega
  cases q1
  have hvals:∀ v∈(List.replicate (N-j) zs).flatten,v.oneCell'=true:=fun v hv=>by
   rw [List.mem_flatten] at hv
   obtain⟨l,hl,hv⟩:=hv
   rw [(List.mem_replicate.1 hl).2] at hv
   exact List.all_eq_true.1 hk.2 v hv
  have hlen:((List.replicate (N-j) zs).flatten).length=(N-j)*i.size:=by simp [hzk]
  have hjk:j*i.size+(N-j)*i.size=N*i.size:=by rw [←Nat.add_mul];congr 1;omega
  have hNM:N*i.size≤M*i.size:=Nat.mul_le_mul_right _ e2
  have hst:=run_storeCells_at P g' (j*i.size) e' ((List.replicate (N-j) zs).flatten) 0 cur w q3 (by rw [hlen,q4];omega) hvals
  simp only [Nat.add_zero] at hst
  have hzv:(zeroValue e).run P w=.ok z w:=by simp [zeroValue,typeInfo,hi1,hi2]
  have hrun:(Builtin.clear_ #[t] o.type #[a.eval x]).run P w=.ok (.tuple #[]) (w.setRow g' (cur.toList.take (j*i.size)++(List.replicate (N-j) zs).flatten++cur.toList.drop (j*i.size+((List.replicate (N-j) zs).flatten).length)).toArray):=by
   rw [h2]
   have hnz:∃ n',N-j=n'+1:=⟨N-j-1,by omega⟩
   obtain⟨n',hn'⟩:=hnz
   have hzc:(Builtin.zeroCells z.cells (N-j)).toList=(List.replicate (N-j) zs).flatten:=by rw [hz];exact zeroCells_flat zs _
   rw [←hzc,hn'] at hst ⊢
   simp [Builtin.clear_,run_underlying hu,hzv,hst]
  generalize harr:(cur.toList.take (j*i.size)++(List.replicate (N-j) zs).flatten++cur.toList.drop (j*i.size+((List.replicate (N-j) zs).flatten).length)).toArray=arr at hrun
  have hgn:(w.setRow g' arr).heap[g']?=some (.cells arr e' (0,0)):=setRow_heap w g' cur _ e' _ q3
  have hsz:arr.size=M*i.size:=by
   rw [←harr,←q4]
   simp only [List.size_toArray,List.length_append,List.length_take,List.length_drop,Array.length_toList,hlen]
   omega
  have hch:Chg w (w.setRow g' arr) (I.F id):=⟨rfl,rfl,rfl,by simp [World.setRow],fun b _ hb=>setRow_other w g' b _ (fun e=>hb (by rw [q2,e];simp))⟩
  rw [q2] at own
  have hnd:=List.nodup_cons.1 own.1
  obtain⟨G',g1,g2⟩:=q5.takeN hnd.2 j
  obtain⟨s1,xs,s2,s3,s4⟩:=g1.flat
  simp only [Nat.zero_add] at s4
  have hxl:xs.length=j*i.size:=by rw [s3,List.length_take];congr 1;omega
  have hxs:cur.toList.take (j*i.size)=xs:=by
   apply List.ext_getElem?;intro p
   by_cases hp:p<xs.length
   · have:=s4 p _ (List.getElem?_eq_getElem hp)
     simp only [World.cell?,q3] at this
     rw [List.getElem?_take,if_pos (by omega),List.getElem?_eq_getElem hp]
     simpa using this
   rw [List.getElem?_eq_none (by simp;omega),List.getElem?_eq_none (by omega)]
  have hgne:∀ b∈G',b≠g':=fun b hb e=>hnd.1 (e▸g2.subset hb)
  have hR:=hr.upd (G:=g'::G') (r:=.row i.size (rows.take j++List.replicate (rows.length-j) (zs.map .v))) hs hch ⟨List.nodup_cons.2 ⟨fun hm=>hnd.1 (g2.subset hm),hnd.2.sublist g2⟩,fun b hb=>by
   have hin:b∈g'::G:=by
    rcases List.mem_cons.1 hb with rfl|hb
    · simp
    simp [g2.subset hb]
   obtain⟨o1,o2⟩:=own.2 b hin
   refine⟨o1,Nat.lt_of_lt_of_le (hr.lt id b (by rw [q2];exact hin)).1 hch.size,?_,.inl (by rw [q2];exact hin)⟩
   by_cases eb:b=g'
   · subst eb;exact⟨.inl _,_,hgn⟩
   · obtain⟨cc,ee,o3⟩:=o2
     exact⟨cc,ee,(setRow_other w g' b _ eb).trans o3⟩⟩ (by
   show C true _ _ _ _
   simp only [Ip.set,if_true]
   rw [h1]
   unfold C
   refine⟨_,_,_,rfl,by simp;omega,e2,e3,.inr ⟨g',0,G',rfl,rfl,(Array.getElem?_eq_some_iff.1 hgn).1,fun _=>⟨rfl,arr,e',hgn,hsz⟩,Rws.of (xs:=xs++(List.replicate (N-j) zs).flatten) (fun row hm=>?_) ?_ fun p u hp=>?_⟩⟩
   · rcases List.mem_append.1 hm with hm|hm
     · exact s1 row hm
     rw [(List.mem_replicate.1 hm).2,List.length_map];exact hzk
   · rw [List.flatten_append]
     have s2':Cs true (w.setRow g' arr) (rows.take j).flatten xs G':=s2.congr fun b hb=>setRow_other w g' b _ (hgne b hb)
     have s3':Cs true (w.setRow g' arr) (List.replicate (rows.length-j) (zs.map T.v)).flatten ((List.replicate (N-j) zs).flatten) []:=by
      rw [flatten_replicate_map,e1]
      exact Cs_vals (List.all_eq_true.2 hvals)
     simpa using s2'.append s3'
   simp only [World.cell?,hgn,Nat.zero_add]
   rw [←harr,hxs]
   have hlt:=(List.getElem?_eq_some_iff.1 hp).1
   simp only [Option.isSome_none,Bool.false_eq_true,if_false,List.getElem?_toArray]
   rw [List.getElem?_append_left hlt];exact hp)
  exact⟨.tuple #[],w.setRow g' arr,by simp [execOp,ho,resolve,invoke,builtin,hrun],_,by rw [hd];exact hR⟩
theorem R_load_prq {id k i p:Nat} {t:TypeId} {x:Operand} {rows:List (List T)} {row:List T} {ag:Bool} {n:Nat} (ho:o.op=.load t x) (hg:Grd ops o σ q) (hd:o.dst.all (fun d=>Nat.blt d σ.n)=true) (hx:Get σ q x (.one (.pr id k i p))) (hs:look σ.res id=some (.row k rows)) (hi:q=true→rows[i]?=some row) (ht:tyB P t ag n=true)
 (hn:Nat.ble (p+n) row.length=true) (h1:(ag||Nat.beq n 1)=true):Op1 P ops o σ (σ.put o.dst (q,.a (mkA ag (((row.drop p).take n).map (toE id))))):=by
 cases q with
 | true=>exact R_load_pr ho hg hd hx hs (hi rfl) ht hn h1
 | false=>exact .val hg hd fun I w0 a w hr hq=>by cases hq
theorem R_callq {f:FuncId} {l:List Operand} {tys:Array TypeId} {ins:List V0} {out:V} (ho:o.op=.call { callee:=.value (.func f),args:=l.toArray,argTypes:=tys }) (hg:Grd ops o σ q) (hd:o.dst.all (fun d=>Nat.blt d σ.n)=true)
 (ha:Args σ q l ins) (h:q=true→FrT P f ins out):Op1 P ops o σ (σ.put o.dst (q,inS out)):=by
 cases q with
 | true=>exact Bo (h rfl) ho hg hd ha
 | false=>
  rintro w0 a w ⟨I,hr⟩ K Q hK
  rw [hg.wanted hr]
  exact hK _ _ ⟨I,hr.put hd rfl⟩
theorem isV_map {α:Type} {f:α→List T} (h:∀ x,(f x).all T.isV=true):∀ l:List α,(l.map f).flatten.all T.isV=true
 | []=>rfl
 | x::l=>by rw [List.map_cons,List.flatten_cons,List.all_append,h x,isV_map h l];rfl
theorem isV_part {α:Type} {f:α→List T} (h:∀ x,(f x).all T.isV=true) (l:List α) (n m:Nat):(((l.map f).take m).drop n).flatten.all T.isV=true:=by
 rw [←List.map_take,←List.map_drop];exact isV_map h _
theorem Dd {id:Nat} {t e:TypeId} {x:Operand} {lo hi:Option Operand} {k n m:Nat} {ag:Bool} {rows:List (List T)} (ho:o.op=.slice t x lo hi none) (hg:Grd ops o σ q) (hd:o.dst.all (fun d=>Nat.blt d σ.n)=true) (hx:Get σ q x (.one (.rf id))) (hs:look σ.res id=some (.row k rows))
 (hl:Bnd σ q lo 0 n) (hh:Bnd σ q hi rows.length m) (hu:P.underlying t=some (.slice e)) (hk:tyB P e ag k=true) (hb:q=true→n≤m∧m≤rows.length):Op1 P ops o σ (σ.put o.dst (q,.a (.one (.vw id (.sl k ((rows.take m).drop n)))))):=
 .val hg hd fun I w0 a w hr hq=>by
  have hv:VE I w (.rf id) (a.eval x):=hx.va hr hq
  have hC:C true w (.sl k rows) (I.hd id) (I.F id):=hr.res id _ hs
  obtain⟨v',F',g1,g2,g3⟩:=slice_C hu hk (C.read hC) (hl.val hr hq) (hh.val hr hq) (hb hq).2 (hb hq).1
  rw [←hv.1] at g1
  exact⟨v',by simp [execOp,ho,g1],F',g2,g3⟩
end
end Go.Q
namespace Go.Q
open Go.RowKit
section
variable {P:Program}
def disN:List Nat→Bool
 | []=>true
 | x::l=>l.all (fun y=>!(Nat.beq x y))&&disN l
theorem Sup.sub0 {σ σ':St} (hn:σ'.n=σ.n) (hs:SubS0 σ σ'.slots) (hr:SubR0 σ σ'.res):Sup σ' σ:=⟨hn.symm,fun i x h=>look_SubS0 hs i x h,fun i x h=>look_SubR0 hr i x h⟩
theorem A4 {σ σ':St} (hn:σ'.n=σ.n:=by exact rfl) (hs:SubS0 σ σ'.slots:=by (repeat refine⟨rfl,?_⟩);exact trivial) (hr:SubR0 σ σ'.res:=by (repeat refine⟨rfl,?_⟩);exact trivial):Sup σ' σ:=Sup.sub0 hn hs hr
def StepsF (P:Program) (ops:Array Oper) (B:Nat→List Nat) (outs:List Out) (X:Nat→Bool) (σ σ2:St):Nat→List Oper→List Out→Prop
 | i,o::l,y::r=>Loc P ops o (stL (memN (B i)) 0 outs (bif X i then σ2 else σ)) y∧StepsF P ops B outs X σ σ2 (i+1) l r
 | _,_,_=>True
theorem StepsF.at {ops:Array Oper} {B:Nat→List Nat} {outs:List Out} {X:Nat→Bool} {σ σ2:St}:∀ (l:List Oper) (r:List Out) (k:Nat),StepsF P ops B outs X σ σ2 k l r→∀ i o y,l[i]?=some o→r[i]?=some y→Loc P ops o (stL (memN (B (k+i))) 0 outs (bif X (k+i) then σ2 else σ)) y
 | [],r,k,h,i,o,y,hl,hr=>by simp at hl
 | o'::l,[],k,h,i,o,y,hl,hr=>by simp at hr
 | o'::l,y'::r,k,h,0,o,y,hl,hr=>by simp at hl hr;subst hl;subst hr;exact h.1
 | o'::l,y'::r,k,h,i+1,o,y,hl,hr=>by
  have:=StepsF.at l r (k+1) h.2 i o y (by simpa using hl) (by simpa using hr)
  rwa [show k+1+i=k+(i+1) by omega] at this
end
end Go.Q
namespace Go.Q
open Go.RowKit
section
variable {P:Program} {ops:Array Oper} {o:Oper} {σ:St} {q:Bool}
structure DrawG (P:Program) (N:Nat) (B:Nat→List Nat) (l:List Oper) (n:Nat) (sl:List (Nat×(Bool×S))) (rs:List (Nat×R)) (Fin:List Out→Prop) (acc:List Out) (k:Nat) (rest:List Oper):Prop where
 pf:acc.length=k→rest=l.drop k→∃ more:List Out,(acc.reverse++more).length=N∧
  Steps P l.toArray B (acc.reverse++more) ⟨n,sl,rs⟩ k rest more∧Fin (acc.reverse++more)
variable {N:Nat} {B:Nat→List Nat} {l:List Oper} {n:Nat} {sl:List (Nat×(Bool×S))} {rs:List (Nat×R)} {Fin:List Out→Prop} {acc:List Out} {k:Nat} {rest:List Oper}
theorem DrawG.step {y:Out} (hN:Nat.blt k N=true) (hlt:((B k).all fun j=>Nat.blt j k)=true) (hl:Loc P l.toArray o (stR (memN (B k)) k acc ⟨n,sl,rs⟩) y) (h:DrawG P N B l n sl rs Fin (y::acc) (k+1) rest):DrawG P N B l n sl rs Fin acc k (o::rest):=⟨fun ha hr=>by
 have hd:rest=l.drop (k+1):=by
  have:=congrArg (List.drop 1) hr
  simpa using this
 obtain⟨more,h1,h3,h4⟩:=h.pf (by simp [ha]) hd
 have e:(y::acc).reverse++more=acc.reverse++(y::more):=by simp
 rw [e] at h1 h3 h4
 refine⟨y::more,h1,⟨?_,h3⟩,h4⟩
 have:stL (memN (B k)) 0 (acc.reverse++(y::more)) ⟨n,sl,rs⟩=stR (memN (B k)) k acc ⟨n,sl,rs⟩:=by
  rw [stL_append,←ha,stR_eq,stL_false]
  intro j hj
  rw [List.length_reverse,Nat.zero_add,ha] at hj
  cases hm:memN (B acc.length) j with
  | false=>rfl
  | true=>
   have h1:=List.all_eq_true.1 hlt j (by rw [←ha];exact memN_iff.1 hm)
   have h2:j<k:=Nat.le_of_ble_eq_true h1
   omega
 rw [this]
 exact hl⟩
theorem DrawG.s {d:Nat} {x:Bool×S} (hl:∀ σ',Sup (stR (memN (B k)) k acc ⟨n,sl,rs⟩) σ'→Op1 P l.toArray o σ' (σ'.put o.dst x)) (h:DrawG P N B l n sl rs Fin ((d,x,[])::acc) (k+1) rest) (hN:Nat.blt k N=true:=by exact rfl) (hlt:((B k).all fun j=>Nat.blt j k)=true:=by exact rfl) (hd:o.dst=some d:=by exact rfl):DrawG P N B l n sl rs Fin acc k (o::rest):=DrawG.step hN hlt (B9 hd hl) h
theorem DrawG.mv {d i:Nat} {x:A} (h:DrawG P N B l n sl rs Fin ((d,(true,.a x),[])::acc) (k+1) rest) (ho:o.op=.move (.tmp i):=by exact rfl) (hg:o.guard=none:=by exact rfl) (hN:Nat.blt k N=true:=by exact rfl) (hlt:((B k).all fun j=>Nat.blt j k)=true:=by exact rfl) (hd:o.dst=some d:=by exact rfl) (hdn:o.dst.all (fun d=>Nat.blt d (stR (memN (B k)) k acc ⟨n,sl,rs⟩).n)=true:=by exact rfl) (hx:look (stR (memN (B k)) k acc ⟨n,sl,rs⟩).slots i=some (true,.a x):=by exact rfl):DrawG P N B l n sl rs Fin acc k (o::rest):=DrawG.step hN hlt (B9 hd fun σ' hs=>Bh ho (.no hg) (Ag hs hdn) (.tm (hs.slots _ _ hx))) h
theorem DrawG.fin (hk:Nat.beq k N=true) (h:Fin acc.reverse):DrawG P N B l n sl rs Fin acc k rest:=⟨fun ha hr=>by
 have hk':=Nat.eq_of_beq_eq_true hk
 refine⟨[],by simp [ha,hk'],by unfold Steps;split<;>first|trivial|(rename_i h;cases h),by rw [List.append_nil];exact h⟩⟩
def FinA (P:Program) (w0:Base) (Q:Exit→St→Prop) (N:Nat) (B:Nat→List Nat) (l:List Oper) (σ:St) (o:Oper) (nid d:Nat) (r:R) (x:Bool×S) (outs:List Out):Prop:=
 (outs.all (fun y=>y.2.2.isEmpty)=true∧outs.map (fun y=>y.2.1.2.pur nid)=outs.map (fun y=>y.2.1.2)∧outs.all (fun y=>(look σ.slots y.1).isNone&&!(Nat.beq y.1 d))=true∧disN (outs.map (·.1))=true)∧
 (∀ σ',Sup (stL (memN (B N)) 0 outs σ) σ'→Op1 P l.toArray o σ' ((σ'.chg nid r).put o.dst x))∧
 AWl P w0 l.toArray Q (l.drop (N+1)) (stL (fun _=>true) 0 outs ((σ.chg nid r).put (some d) x))
theorem stL_all:∀ (outs:List Out) (i:Nat) (σ:St),stL (fun _=>true) i outs σ=⟨σ.n,finSl outs.reverse σ.slots,finRs outs.reverse σ.res⟩:=fun outs i σ=>by
 have h:=fin_eq (n:=σ.n) (sl:=σ.slots) (rs:=σ.res) outs.reverse outs.reverse.length
 rw [stR_eq,List.reverse_reverse] at h
 have key:∀ (os:List Out) (i j:Nat) (σ:St),stL (fun _=>true) i os σ=stL (fun _=>true) j os σ:=by
  intro os
  induction os with
  | nil=>intro i j σ;rfl
  | cons y os ih=>intro i j σ;rw [stL,stL];exact ih _ _ _
 rw [key outs i 0 σ]
 exact h
theorem FinA.mk {w0:Base} {Q:Exit→St→Prop} {nid d:Nat} {r:R} {x:Bool×S} (h1:(acc.reverse.all (fun y=>y.2.2.isEmpty)&&(acc.reverse.all (fun y=>(look σ.slots y.1).isNone&&!(Nat.beq y.1 d))&&disN (acc.reverse.map (·.1))))=true) (h2:acc.reverse.map (fun y=>y.2.1.2.pur nid)=acc.reverse.map (fun y=>y.2.1.2))
 (h3:∀ σ',Sup (stR (memN (B N)) N acc σ) σ'→Op1 P l.toArray o σ' ((σ'.chg nid r).put o.dst x)) (hk:Nat.beq acc.length N=true)
 (h4:AWl P w0 l.toArray Q (l.drop (N+1)) ⟨σ.n,finSl acc ((d,x)::(σ.chg nid r).slots),finRs acc (σ.chg nid r).res⟩):FinA P w0 Q N B l σ o nid d r x acc.reverse:=by
 simp only [Bool.and_eq_true] at h1
 have hk':=Nat.eq_of_beq_eq_true hk
 refine⟨⟨h1.1,h2,by simpa only [Bool.and_eq_true] using h1.2.1,h1.2.2⟩,fun σ' hs=>h3 σ' ?_,?_⟩
 · rw [←hk',stR_eq,hk'];exact hs
 rw [stL_all,List.reverse_reverse];exact h4
end
end Go.Q
namespace Go.Q
open Go.RowKit
def swN (u v i:Nat):Nat:=bif Nat.beq i u then v else bif Nat.beq i v then u else i
theorem swN_if (u v i:Nat):swN u v i=if i=u then v else if i=v then u else i:=by
 unfold swN
 have e:∀ a b:Nat,Nat.beq a b=decide (a=b):=fun a b=>by
  cases h:Nat.beq a b with
  | true=>simp [Nat.eq_of_beq_eq_true h]
  | false=>simp [Nat.ne_of_beq_eq_false h]
 rw [e,e]
 by_cases h1:i=u
 · simp [h1]
 by_cases h2:i=v
 · simp [h1,h2]
 simp [h1,h2]
theorem swN_swN (u v i:Nat):swN u v (swN u v i)=i:=by
 rw [swN_if,swN_if]
 by_cases h1:i=u
 · subst h1
   rw [if_pos rfl]
   by_cases h2:v=i
   · rw [if_pos h2,h2]
   rw [if_neg h2,if_pos rfl]
 rw [if_neg h1]
 by_cases h2:i=v
 · subst h2;rw [if_pos rfl,if_pos rfl]
 rw [if_neg h2,if_neg h1,if_neg h2]
theorem swN_inj {u v i j:Nat} (h:swN u v i=swN u v j):i=j:=by
 have:=congrArg (swN u v) h
 rwa [swN_swN,swN_swN] at this
def swE (u v:Nat):E→E
 | .t x=>.t x
 | .rf id=>.rf (swN u v id)
 | .vw id x=>.vw (swN u v id) x
 | .pp id o=>.pp (swN u v id) o
 | .pr id k i j=>.pr (swN u v id) k i j
 | .sb id k i j=>.sb (swN u v id) k i j
 | .tl id k j=>.tl (swN u v id) k j
 | .pf id k m=>.pf (swN u v id) k m
 | .no=>.no
def swEs (u v:Nat):List E→List E
 | []=>[]
 | e::r=>swE u v e::swEs u v r
def swA (u v:Nat):A→A
 | .one e=>.one (swE u v e)
 | .agg l=>.agg (swEs u v l)
def swAs (u v:Nat):List A→List A
 | []=>[]
 | e::r=>swA u v e::swAs u v r
def swS (u v:Nat):S→S
 | .a x=>.a (swA u v x)
 | .tup l=>.tup (swAs u v l)
def swR (u v:Nat):R→R
 | .row k rows=>.row k rows
 | .box cs=>.box (swEs u v cs)
 | .hdr none x=>.hdr none x
 | .hdr (some j) x=>.hdr (some (swN u v j)) x
 | .blk none x=>.blk none x
 | .blk (some j) x=>.blk (some (swN u v j)) x
 | .kept K=>.kept K
 | .opq=>.opq
 | .cur g=>.cur g
 | .mp b f=>.mp b f
def swSl (u v:Nat):List (Nat×(Bool×S))→List (Nat×(Bool×S))
 | []=>[]
 | (i,p,x)::r=>(i,p,swS u v x)::swSl u v r
def swRl (u v:Nat):List (Nat×R)→List (Nat×R)
 | []=>[]
 | (i,x)::r=>(swN u v i,swR u v x)::swRl u v r
def St.sw (u v:Nat) (σ:St):St:=⟨σ.n,swSl u v σ.slots,swRl u v σ.res⟩
def Ip.sw (u v:Nat) (I:Ip):Ip:=⟨I.Z,fun i=>I.F (swN u v i),fun i=>I.hd (swN u v i),fun i=>I.B (swN u v i)⟩
section
variable {u v:Nat} {I:Ip} {w:World}
theorem VE.sw {e:E} {c:Value} (h:VE I w e c):VE (I.sw u v) w (swE u v e) c:=by
 cases e<;>simp only [VE,swE,Ip.sw,swN_swN] at h ⊢<;>exact h
theorem VEs.sw:∀ {l:List E} {cs:List Value},VEs I w l cs→VEs (I.sw u v) w (swEs u v l) cs
 | [],_,h=>h
 | e::r,cs,h=>by
  obtain⟨c,cr,h1,h2,h3⟩:=h
  exact⟨c,cr,h1,h2.sw,VEs.sw h3⟩
theorem VA.sw {x:A} {c:Value} (h:VA I w x c):VA (I.sw u v) w (swA u v x) c:=by
 cases x with
 | one e=>exact VE.sw (show VE I w e c from h)
 | agg l=>obtain⟨cs,h1,h2⟩:=h;exact⟨cs,h1,h2.sw⟩
theorem VAs.sw:∀ {l:List A} {cs:List Value},VAs I w l cs→VAs (I.sw u v) w (swAs u v l) cs
 | [],_,h=>h
 | e::r,cs,h=>by
  obtain⟨c,cr,h1,h2,h3⟩:=h
  exact⟨c,cr,h1,h2.sw,VAs.sw h3⟩
theorem VS.sw {p:Bool} {x:S} {c:Value} (h:VS I w (p,x) c):VS (I.sw u v) w (p,swS u v x) c:=by
 unfold VS at h ⊢
 simp only at h ⊢
 split at h
 · rename_i hp
   rw [if_pos hp]
   cases x with
   | a x=>exact VA.sw h
   | tup l=>obtain⟨vs,h1,h2⟩:=h;exact⟨vs,h1,h2.sw⟩
 rename_i hp
 rw [if_neg hp];exact h
theorem RR.sw {id:Nat} {r:R} (h:RR I w id r):RR (I.sw u v) w (swN u v id) (swR u v r):=by
 cases r with
 | row k rows=>unfold RR swR Ip.sw;simp only [swN_swN];exact h
 | box cs=>
  obtain⟨h1,vs,e,h2,h3⟩:=h
  unfold RR swR
  simp only
  refine⟨by simpa only [Ip.sw,swN_swN] using h1,vs,e,by simpa only [Ip.sw,swN_swN] using h2,h3.sw⟩
 | opq=>trivial
 | cur g=>unfold RR swR Ip.sw;simp only [swN_swN];exact h
 | mp b f=>unfold RR swR Ip.sw;simp only [swN_swN];exact h
 | kept K=>exact⟨by unfold Ip.sw;simp only [swN_swN];exact h.1,h.2⟩
 | hdr j x=>
  obtain⟨h1,h2⟩:=h
  cases j with
  | none=>exact⟨by simpa only [Ip.sw,swN_swN] using h1,fun i hi=>by cases hi⟩
  | some j=>
   refine⟨by simpa only [Ip.sw,swN_swN] using h1,fun i hi=>?_⟩
   cases hi
   simpa only [Ip.sw,swN_swN] using h2 j rfl
 | blk j x=>
  obtain⟨h1,h2⟩:=h
  cases j with
  | none=>exact⟨by simpa only [Ip.sw,swN_swN] using h1,fun i hi=>by cases hi⟩
  | some j=>
   refine⟨by simpa only [Ip.sw,swN_swN] using h1,fun i hi=>?_⟩
   cases hi
   simpa only [Ip.sw,swN_swN] using h2 j rfl
end
theorem look_swSl (u v:Nat):∀ (l:List (Nat×(Bool×S))) (i:Nat) (y:Bool×S),look (swSl u v l) i=some y→∃ x,look l i=some (y.1,x)∧y.2=swS u v x
 | [],_,_,h=>by cases h
 | (k,p,x)::r,i,y,h=>by
  rw [swSl,look_cons] at h
  by_cases e:k=i
  · rw [if_pos e] at h
    cases h
    exact⟨x,by rw [look_cons,if_pos e],rfl⟩
  rw [if_neg e] at h
  obtain⟨x',h1,h2⟩:=look_swSl u v r i y h
  exact⟨x',by rw [look_cons,if_neg e];exact h1,h2⟩
theorem look_swRl (u v:Nat):∀ (l:List (Nat×R)) (i:Nat) (y:R),look (swRl u v l) i=some y→∃ x,look l (swN u v i)=some x∧y=swR u v x
 | [],_,_,h=>by cases h
 | (k,x)::r,i,y,h=>by
  rw [swRl,look_cons] at h
  by_cases e:swN u v k=i
  · rw [if_pos e] at h
    cases h
    exact⟨x,by rw [look_cons,if_pos (by rw [←e,swN_swN])],rfl⟩
  rw [if_neg e] at h
  obtain⟨x',h1,h2⟩:=look_swRl u v r i y h
  exact⟨x',by rw [look_cons,if_neg (fun h=>e (by rw [h,swN_swN]))];exact h1,h2⟩
theorem Le.sw (u v:Nat) (σ:St):Le σ (σ.sw u v):=by
 rintro w0 a w ⟨I,h⟩
 refine⟨I.sw u v,⟨h.ext,h.defers,h.size,fun i x hx=>?_,fun id r hr=>?_,h.old,fun id b hb=>h.lt (swN u v id) b hb,fun id r hr=>?_,fun i j hij b hb=>?_⟩⟩
 · obtain⟨y,h1,h2⟩:=look_swSl u v σ.slots i x hx
   have:=(h.slots i _ h1).sw (u:=u) (v:=v)
   rw [←h2] at this
   exact this
 · obtain⟨y,h1,h2⟩:=look_swRl u v σ.res id r hr
   have:=(h.res _ _ h1).sw (u:=u) (v:=v)
   rw [swN_swN,←h2] at this
   exact this
 · obtain⟨y,h1,h2⟩:=look_swRl u v σ.res id r hr
   exact h.own _ _ h1
 exact h.apart (swN u v i) (swN u v j) (fun e=>hij (swN_inj e)) b hb
theorem Le.trans {σ σ' σ'':St} (h1:Le σ σ') (h2:Le σ' σ''):Le σ σ'':=fun w0 a w h=>h2 w0 a w (h1 w0 a w h)
section
variable {Q:Exit→St→Prop} {σ:St}
theorem ThenQ.ex {K:St→Prop} {i:Nat} (h:Q (.exit i) σ):ThenQ K Q (.exit i) σ:=h
theorem Round1.ex {β1:Type} {Inv:β1→Prop} {J:β1→St} {m:β1→Nat} {a1:β1} {i:Nat} (h:Q (.exit i) σ):Round1 Inv J m a1 Q (.exit i) σ:=h
theorem Round2.ex {β1 β2:Type} {Inv:β1→β2→Prop} {J:β1→β2→St} {m:β1→β2→Nat} {a1:β1} {a2:β2} {i:Nat} (h:Q (.exit i) σ):Round2 Inv J m a1 a2 Q (.exit i) σ:=h
theorem Round3.ex {β1 β2 β3:Type} {Inv:β1→β2→β3→Prop} {J:β1→β2→β3→St} {m:β1→β2→β3→Nat} {a1:β1} {a2:β2} {a3:β3} {i:Nat} (h:Q (.exit i) σ):Round3 Inv J m a1 a2 a3 Q (.exit i) σ:=h
theorem Round4.ex {β1 β2 β3 β4:Type} {Inv:β1→β2→β3→β4→Prop} {J:β1→β2→β3→β4→St} {m:β1→β2→β3→β4→Nat} {a1:β1} {a2:β2} {a3:β3} {a4:β4} {i:Nat} (h:Q (.exit i) σ):Round4 Inv J m a1 a2 a3 a4 Q (.exit i) σ:=h
theorem Round5.ex {β1 β2 β3 β4 β5:Type} {Inv:β1→β2→β3→β4→β5→Prop} {J:β1→β2→β3→β4→β5→St} {m:β1→β2→β3→β4→β5→Nat} {a1:β1} {a2:β2} {a3:β3} {a4:β4} {a5:β5} {i:Nat} (h:Q (.exit i) σ):Round5 Inv J m a1 a2 a3 a4 a5 Q (.exit i) σ:=h
end
section
variable {P:Program} {ops:Array Oper} {o:Oper} {σ:St} {q:Bool}
end
end Go.Q
namespace Go.Q
open Go.RowKit
end Go.Q
namespace Go.Q
open Go.RowKit
section
variable {P:Program} {ops:Array Oper} {o:Oper} {σ:St} {q:Bool}
theorem guard_str {op:BinOp} {t:TypeId} {x y:Operand} {a b:ByteArray} (w:World):(eqGuard op t x y (.string a) (.string b)).run P w=.ok () w:=by
 unfold eqGuard;split<;>rfl
theorem str_eq (a b:ByteArray):(a.toList == b.toList)=decide (a=b):=by
 rw [Bool.eq_iff_iff,beq_iff_eq,decide_eq_true_eq]
 exact⟨fun h=>by
  rw [ByteArray.toList_eq,ByteArray.toList_eq] at h
  exact ByteArray.ext (Array.toList_inj.1 h),fun h=>by rw [h]⟩
theorem Cr {t t':TypeId} {x y:Operand} {a b:ByteArray} (ho:o.op=.binOp .add t x y t') (hg:Grd ops o σ q) (hd:o.dst.all (fun d=>Nat.blt d σ.n)=true) (hx:Get σ q x (.one (.t (.v (.string a))))) (hy:Get σ q y (.one (.t (.v (.string b)))))
 (hb:q=true→a.size+b.size≤9223372036854775807):Op1 P ops o σ (σ.put o.dst (q,.a (.one (.t (.v (.string (a++b))))))):=
 Dr ho hg hd hx hy guard_str (h:=fun hq w=>by
  have:=hb hq
  simp only [binOp,Op.stringOp]
  rw [if_neg (show ¬ (((a.size+b.size:Nat):Int)>IntKind.i64.max) by rw [show IntKind.i64.max=9223372036854775807 from rfl];omega)]
  rfl)
theorem R_eqstr {t t':TypeId} {x y:Operand} {a b:ByteArray} (ho:o.op=.binOp .eql t x y t') (hg:Grd ops o σ q) (hd:o.dst.all (fun d=>Nat.blt d σ.n)=true) (hx:Get σ q x (.one (.t (.v (.string a))))) (hy:Get σ q y (.one (.t (.v (.string b))))) :
 Op1 P ops o σ (σ.put o.dst (q,.a (.one (.t (.v (.bool (decide (a=b)))))))):=
 Dr ho hg hd hx hy guard_str (h:=fun hq w=>by simp only [binOp,Op.stringOp,str_eq];rfl)
theorem R_nestr {t t':TypeId} {x y:Operand} {a b:ByteArray} (ho:o.op=.binOp .neq t x y t') (hg:Grd ops o σ q) (hd:o.dst.all (fun d=>Nat.blt d σ.n)=true) (hx:Get σ q x (.one (.t (.v (.string a))))) (hy:Get σ q y (.one (.t (.v (.string b))))) :
 Op1 P ops o σ (σ.put o.dst (q,.a (.one (.t (.v (.bool (!decide (a=b)))))))):=
 Dr ho hg hd hx hy guard_str (h:=fun hq w=>by simp only [binOp,Op.stringOp,str_eq];rfl)
theorem B6 {t:TypeId} {x y:Operand} {s:ByteArray} {n:Int} {b:UInt8} (ho:o.op=.index t x y) (hg:Grd ops o σ q) (hd:o.dst.all (fun d=>Nat.blt d σ.n)=true) (hx:Get σ q x (.one (.t (.v (.string s))))) (hy:Get σ q y (.one (.t (.v (.int .i64 n)))))
 (hu:P.underlying t=some .string) (hi:q=true→0≤n∧s[n.toNat]?=some b):Op1 P ops o σ (σ.put o.dst (q,.a (.one (.t (.v (.int .u8 b.toNat)))))):=
 .val hg hd fun I w0 a w hr hq=>⟨_,by
  obtain⟨h0,h1⟩:=hi hq
  simp [execOp,ho,hx.int hr hq,hy.int hr hq,Instr.index,asIntOf,run_underlying hu,h0,h1],VS_v _⟩
theorem Cl {t:TypeId} {x:Operand} {lo hi:Option Operand} {n m:Nat} {s:ByteArray} (ho:o.op=.slice t x lo hi none) (hg:Grd ops o σ q) (hd:o.dst.all (fun d=>Nat.blt d σ.n)=true) (hx:Get σ q x (.one (.t (.v (.string s)))))
 (hl:Bnd σ q lo 0 n) (hh:Bnd σ q hi s.size m) (hu:P.underlying t=some .string) (hb:q=true→n≤m∧m≤s.size):Op1 P ops o σ (σ.put o.dst (q,.a (.one (.t (.v (.string (s.extract n m))))))):=
 .val hg hd fun I w0 a w hr hq=>⟨_,by
  obtain⟨b1,b2⟩:=hb hq
  have b3:n≤s.size:=Nat.le_trans b1 b2
  have hs:=hx.int hr hq
  have hlo:=hl.val hr hq
  have hhi:=hh.val hr hq
  rcases hlo with ⟨e1,rfl⟩|e1<;>rcases hhi with ⟨e2,rfl⟩|e2<;>simp [execOp,ho,hs,e1,e2,Instr.sliceAt,Instr.slice,run_underlying hu,Instr.sliceBounds,Instr.sliceBound,asIntOf,b1,b2,b3],VS_v _⟩
end
end Go.Q
namespace Go.Q
open Go.RowKit
section
variable {P:Program} {ops:Array Oper} {o:Oper} {σ:St}
end
end Go.Q
namespace Go.Q
open Go.RowKit
end Go.Q
namespace Go.Q
open Go.RowKit
section
variable {P:Program} {ops:Array Oper} {o:Oper} {σ:St} {q:Bool}
theorem run_byteStr {w:World} {n:Int} {v:Value} {G:List Nat} (h:C false w (.sl 1 [[.v (.int .u8 n)]]) v G):(Conv.bytesToString v).run P w=.ok (.string ⟨#[UInt8.ofNat n.toNat]⟩) w:=by
 simp only [C] at h
 obtain⟨a,len,cap,rfl,e1,e2,e3,e4⟩:=h
 have e1:len=1:=by simpa using e1.symm
 subst e1
 rcases e4 with ⟨h0,_⟩|⟨b,off,G',rfl,_,hb,_,hR⟩
 · omega
 simp only [Rws,Ms,C] at hR
 obtain⟨_,_,_,⟨c,_,_,hc,⟨rfl,_⟩,_⟩,_⟩:=hR
 have hl:=run_loadCells_list (P:=P) w ⟨b,off,none⟩ [.int .u8 n] (fun j u hj=>by
  cases j with
  | zero=>cases hj;rw [Addr.add_lit];simpa using hc
  | succ j=>cases hj)
 simp only [List.length_singleton] at hl
 simp [Conv.bytesToString,hl]
 rfl
theorem R_byteStr {t t' e:TypeId} {x:Operand} {n:Int} (ho:o.op=.convert t t' x) (hg:Grd ops o σ q) (hd:o.dst.all (fun d=>Nat.blt d σ.n)=true) (hx:Get σ q x (.one (.t (.sl 1 [[.v (.int .u8 n)]]))))
 (hu:P.underlying t=some (.slice e)) (he:P.underlying e=some (.int .u8)) (hu':P.underlying t'=some .string):Op1 P ops o σ (σ.put o.dst (q,.a (.one (.t (.v (.string ⟨#[UInt8.ofNat n.toNat]⟩)))))):=
 .val hg hd fun I w0 a w hr hq=>by
  obtain⟨G,h1,_⟩:VE I w (.t (.sl 1 [[.v (.int .u8 n)]])) (a.eval x):=hx.va hr hq
  have hb:=run_byteStr (P:=P) h1
  have hs:=h1
  simp only [C] at hs
  obtain⟨ad,len,cap,e0,_⟩:=hs
  exact⟨_,by
   rw [e0] at hb
   simp [execOp,ho,e0,Go.convert,run_underlying hu,run_underlying hu',run_underlying he,hb],VS_v _⟩
end
end Go.Q
namespace Go.Q
open Go.RowKit
section
variable {P:Program} {ops:Array Oper} {o:Oper} {σ:St} {q:Bool}
theorem R_nenil0 {t t':TypeId} {x:Operand} (ho:o.op=.binOp .neq t x (.const .nilIface) t') (hg:Grd ops o σ q) (hd:o.dst.all (fun d=>Nat.blt d σ.n)=true) (hx:Get σ q x (.one (.t (.v .nilIface)))) (_:Get σ q (.const .nilIface) (.one (.t (.v .nilIface))))
 (hu:P.underlying t=some (.interface (P.methodsAt t))):Op1 P ops o σ (σ.put o.dst (q,.a (.one (.t (.v (.bool false)))))):=
 Dr ho hg hd hx (.const rfl) (fun w=>by simp [eqGuard]) (h:=fun hq w=>by simp [binOp,run_equal_nil_nil w t hu])
theorem R_nenil1 {t t' T:TypeId} {x:Operand} {p:Value} (ho:o.op=.binOp .neq t x (.const .nilIface) t') (hg:Grd ops o σ q) (hd:o.dst.all (fun d=>Nat.blt d σ.n)=true) (hx:Get σ q x (.one (.t (.v (.iface T p))))) (_:Get σ q (.const .nilIface) (.one (.t (.v .nilIface))))
 (hu:P.underlying t=some (.interface (P.methodsAt t))):Op1 P ops o σ (σ.put o.dst (q,.a (.one (.t (.v (.bool true)))))):=
 Dr ho hg hd hx (.const rfl) (fun w=>by simp [eqGuard]) (h:=fun hq w=>by simp [binOp,run_equal_held_nil w t T p hu])
theorem R_remS {t t':TypeId} {x y:Operand} {k:IntKind} {n m:Int} (r:Int) (ho:o.op=.binOp .rem t x y t') (hg:Grd ops o σ q) (hd:o.dst.all (fun d=>Nat.blt d σ.n)=true) (hx:Get σ q x (.one (.t (.v (.int k n))))) (hy:Get σ q y (.one (.t (.v (.int k m)))))
 (hb:q=true→m≠0∧n.tmod m=r):Op1 P ops o σ (σ.put o.dst (q,.a (.one (.t (.v (.int k r)))))):=Dr ho hg hd hx hy guard_int (h:=fun hq w=>by
  obtain⟨h1,h2⟩:=hb hq
  simp [binOp,Op.intDiv,h1,h2])
theorem R_quoS {t t':TypeId} {x y:Operand} {k:IntKind} {n m:Int} (r:Int) (ho:o.op=.binOp .quo t x y t') (hg:Grd ops o σ q) (hd:o.dst.all (fun d=>Nat.blt d σ.n)=true) (hx:Get σ q x (.one (.t (.v (.int k n))))) (hy:Get σ q y (.one (.t (.v (.int k m)))))
 (hb:q=true→m≠0∧k.wrap (n.tdiv m)=r):Op1 P ops o σ (σ.put o.dst (q,.a (.one (.t (.v (.int k r)))))):=Dr ho hg hd hx hy guard_int (h:=fun hq w=>by
  obtain⟨h1,h2⟩:=hb hq
  simp [binOp,Op.intDiv,h1,h2])
theorem R_subS {t t':TypeId} {x y:Operand} {k:IntKind} {n m:Int} (r:Int) (ho:o.op=.binOp .sub t x y t') (hg:Grd ops o σ q) (hd:o.dst.all (fun d=>Nat.blt d σ.n)=true) (hx:Get σ q x (.one (.t (.v (.int k n))))) (hy:Get σ q y (.one (.t (.v (.int k m)))))
 (hb:q=true→k.wrap (n-m)=r):Op1 P ops o σ (σ.put o.dst (q,.a (.one (.t (.v (.int k r)))))):=Dr ho hg hd hx hy guard_int (h:=fun hq w=>by
  simp [binOp,Op.intArith,hb hq])
theorem R_neg {t:TypeId} {x:Operand} {n:Int} (ho:o.op=.unOp .neg t x) (hg:Grd ops o σ q) (hd:o.dst.all (fun d=>Nat.blt d σ.n)=true) (hx:Get σ q x (.one (.t (.v (.int .i64 n)))))
 (hb:q=true→ -9223372036854775808≤ -n∧ -n≤9223372036854775807):Op1 P ops o σ (σ.put o.dst (q,.a (.one (.t (.v (.int .i64 (-n))))))):=
 .val hg hd fun I w0 a w hr hq=>⟨.int .i64 (-n),by simp [execOp,ho,hx.int hr hq,Op.unary,Op.intArith,Int.zero_sub,wrap_in (hb hq)],VS_v _⟩
theorem wrapI {n:Int} (h:-9223372036854775808≤n∧n≤9223372036854775807):IntKind.i64.wrap n=n:=wrap_in h
def FrE (P:Program) (f:FuncId) (ins:List V0) (Out:V→Prop):Prop:=Callee P f∧∀ w vs F,Good w []→V0s false w ins vs F→Calls P f (List.toArray vs) w fun e w'=>∃ out,Out out∧FrPost w out e w'
theorem R_calle {f:FuncId} {l:List Operand} {tys:Array TypeId} {ins:List V0} {Out:V→Prop} (h:FrE P f ins Out) (ho:o.op=.call { callee:=.value (.func f),args:=l.toArray,argTypes:=tys }) (hg:o.guard=none) (hd:o.dst.all (fun d=>Nat.blt d σ.n)=true)
 (ha:Args σ true l ins):OpE P ops o σ fun σ'=>∃ out,Out out∧σ'=σ.put o.dst (true,inS out):=by
 rintro w0 a w ⟨I,hr⟩ K Q hK
 simp only [Region.wanted,hg,if_true]
 obtain⟨F,hF⟩:=ha.ok hr rfl
 unfold Oper.wp
 rw [run_enter h.1 ho]
 refine (h.2 w _ F hr.good hF).mono fun e w' hR=>?_
 obtain⟨out,hout,v,G,rfl,h1,h3,h4⟩:=hR
 have hr':=(hr.later h4).also (G:=G) fun b hb=>⟨Vr.lt h1 b hb,fun i hi=>by have:=(hr.lt i b hi).1;have:=h3 b hb;omega⟩
 exact hK _ _ _ ⟨out,hout,rfl⟩ ⟨_,hr'.put hd (VS_also h1 fun b hb=>.inr hb)⟩
end
end Go.Q
