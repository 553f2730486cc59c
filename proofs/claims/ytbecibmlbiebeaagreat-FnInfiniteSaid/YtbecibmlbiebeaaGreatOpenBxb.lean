import Derived.Test.YtbecibmlbiebeaaGreatAbs12xb
import Derived.Test.YtbecibmlbiebeaaGreatProg
import Derived.Deep.Slices
set_option linter.unusedVariables false
set_option linter.unusedSimpArgs false
namespace Go.Q
open Go.RowKit
section
variable {P:Program} {ops:Array Oper} {o:Oper} {σ:St} {q:Bool}
def E.puv (id:Nat):E→E
 | .vw i x=>bif Nat.beq i id then .no else .vw i x
 | .sb i k p q=>bif Nat.beq i id then .no else .sb i k p q
 | e=>e
def A.puv (id:Nat):A→A
 | .one e=>.one (e.puv id)
 | .agg l=>.agg (l.map (E.puv id))
def S.puv (id:Nat):S→S
 | .a x=>.a (x.puv id)
 | .tup l=>.tup (l.map (A.puv id))
def R.puv (id:Nat):R→R
 | .row k rows=>.row k rows
 | .box cs=>.box (cs.map (E.puv id))
 | .hdr j x=>.hdr j x
 | .blk j b=>.blk j b
 | .kept K=>.kept K
 | .opq=>.opq
 | .cur g=>.cur g
 | .mp b f=>.mp b f
def St.upd (σ:St) (id:Nat) (r:R):St:={ σ with slots:=σ.slots.map (fun x=>(x.1,(x.2.1,x.2.2.puv id))),res:=setR (σ.res.map fun x=>(x.1,x.2.puv id)) id r }
theorem VE.puv {I:Ip} {w w':World} {id:Nat} {G:List Nat} (hc:Chg w w' (I.F id)) (hZ:∀ b,I.Z b→b∉I.F id) (hv:∀ i,i≠id→∀ b∈I.F i,b∉I.F id) {e:E} {c:Value} (h:VE I w e c) :
 VE (I.set id G (I.hd id) (I.B id)) w' (e.puv id) c:=by
 have hhd:∀ i,(I.set id G (I.hd id) (I.B id)).hd i=I.hd i:=fun i=>by simp only [Ip.set];split;(rename_i e;rw [e]);rfl
 have hB:∀ i,(I.set id G (I.hd id) (I.B id)).B i=I.B i:=fun i=>by simp only [Ip.set];split;(rename_i e;rw [e]);rfl
 cases e with
 | t x=>obtain⟨G,h1,h2⟩:=h;exact⟨G,h1.congr fun b hb=>hc.block b (h1.lt b hb) (hZ b (h2 b hb)),h2⟩
 | no=>trivial
 | rf i=>simp only [E.puv,VE,hhd] at h ⊢;exact h
 | tl i k j=>simp only [E.puv,VE,hhd] at h ⊢;exact h
 | pf i k j=>simp only [E.puv,VE,hhd] at h ⊢;exact h
 | vw i x=>
  simp only [E.puv]
  cases e:Nat.beq i id with
  | true=>trivial
  | false=>
   obtain⟨G',h1,h2⟩:=h
   simp only [cond_false,VE,Ip.set,if_neg (beq_ne e)]
   exact⟨G',h1.congr fun b hb=>hc.block b (h1.lt b hb) (hv i (beq_ne e) b (h2 b hb)),h2⟩
 | pr i k p q=>simp only [E.puv,VE,hhd] at h ⊢;exact h
 | sb i k p q=>
  simp only [E.puv]
  cases e:Nat.beq i id with
  | true=>trivial
  | false=>
   obtain⟨g,n,m,h1,h2,h3,h4⟩:=h
   have hb':=hc.block g h3 (hv i (beq_ne e) g h2)
   simp only [cond_false,VE,Ip.set,if_neg (beq_ne e)]
   exact⟨g,n,m,h1,h2,heap_lt hb' h3,(World.cell?_of_block (a:=⟨g,_,none⟩) hb').trans h4⟩
 | pp i o=>simp only [E.puv,VE,hB] at h ⊢;exact h
theorem VEs.puv {I:Ip} {w w':World} {id:Nat} {G:List Nat} (hc:Chg w w' (I.F id)) (hZ:∀ b,I.Z b→b∉I.F id) (hv:∀ i,i≠id→∀ b∈I.F i,b∉I.F id):∀ {l:List E} {cs:List Value},VEs I w l cs→
 VEs (I.set id G (I.hd id) (I.B id)) w' (l.map (E.puv id)) cs
 | [],_,h=>h
 | _::_,_,⟨c,cr,h1,h2,h3⟩=>⟨c,cr,h1,h2.puv hc hZ hv,h3.puv hc hZ hv⟩
theorem VA.puv {I:Ip} {w w':World} {id:Nat} {G:List Nat} (hc:Chg w w' (I.F id)) (hZ:∀ b,I.Z b→b∉I.F id) (hv:∀ i,i≠id→∀ b∈I.F i,b∉I.F id) {x:A} {v:Value} (h:VA I w x v) :
 VA (I.set id G (I.hd id) (I.B id)) w' (x.puv id) v:=by
 cases x with
 | one e=>exact VE.puv hc hZ hv h
 | agg l=>obtain⟨cs,h1,h2⟩:=h;exact⟨cs,h1,h2.puv hc hZ hv⟩
theorem VAs.puv {I:Ip} {w w':World} {id:Nat} {G:List Nat} (hc:Chg w w' (I.F id)) (hZ:∀ b,I.Z b→b∉I.F id) (hv:∀ i,i≠id→∀ b∈I.F i,b∉I.F id):∀ {l:List A} {cs:List Value},VAs I w l cs→
 VAs (I.set id G (I.hd id) (I.B id)) w' (l.map (A.puv id)) cs
 | [],_,h=>h
 | _::_,_,⟨c,cr,h1,h2,h3⟩=>⟨c,cr,h1,h2.puv hc hZ hv,h3.puv hc hZ hv⟩
theorem VS.puv {I:Ip} {w w':World} {id:Nat} {G:List Nat} (hc:Chg w w' (I.F id)) (hZ:∀ b,I.Z b→b∉I.F id) (hv:∀ i,i≠id→∀ b∈I.F i,b∉I.F id) {x:Bool×S} {v:Value} (h:VS I w x v) :
 VS (I.set id G (I.hd id) (I.B id)) w' (x.1,x.2.puv id) v:=by
 obtain⟨p,x⟩:=x
 cases p
 · exact h
 cases x with
 | a x=>exact VA.puv hc hZ hv h
 | tup l=>obtain⟨vs,h1,h2⟩:=h;exact⟨vs,h1,h2.puv hc hZ hv⟩
theorem RelI.upd {I:Ip} {w0:Base} {w w':World} {σ:St} {a:Act} (h:RelI I w0 σ a w) {id:Nat} {r0:R} (h0:look σ.res id=some r0) (hc:Chg w w' (I.F id)) {G:List Nat} {r:R}
 (hG:G.Nodup∧∀ b∈G,w0.own b∧b<w'.heap.size∧Thaw w' b∧(b∈I.F id∨w.heap.size≤b∨Free I w0 w b)) (hr:RR (I.set id G (I.hd id) (I.B id)) w' id r):RelI (I.set id G (I.hd id) (I.B id)) w0 (σ.upd id r) a w':=by
 have base:=h.chg h0 hc hG hr
 have hZ:∀ b,I.Z b→b∉I.F id:=fun b hz hb=>(h.lt id b hb).2 hz
 have hv:∀ i,i≠id→∀ b∈I.F i,b∉I.F id:=fun i hi=>h.apart i id hi
 have key:∀ i r',look (σ.upd id r).res i=some r'→(i=id∧r'=r)∨(i≠id∧∃ y,look σ.res i=some y∧r'=y.puv id):=by
  intro i r' hi
  rcases look_setR _ _ _ _ _ hi with ⟨h1,h2,_⟩|⟨h1,h2⟩
  · exact .inl ⟨h1,h2⟩
  refine .inr ⟨h1,?_⟩
  rw [look_map] at h2
  obtain⟨y,hy,e⟩:=Option.map_eq_some_iff.1 h2
  exact⟨y,hy,e.symm⟩
 have Foth:∀ i,i≠id→(I.set id G (I.hd id) (I.B id)).F i=I.F i:=fun i hi=>by simp [Ip.set,hi]
 have Fid:(I.set id G (I.hd id) (I.B id)).F id=G:=by simp [Ip.set]
 refine⟨base.ext,base.defers,h.size,fun i x hi=>?_,fun i r' hi=>?_,base.old,base.lt,fun i r' hi=>?_,base.apart⟩
 · have hi':look (σ.slots.map fun x=>(x.1,(x.2.1,x.2.2.puv id))) i=some x:=hi
   rw [look_map (fun x:Bool×S=>(x.1,x.2.puv id))] at hi'
   obtain⟨y,hy,rfl⟩:=Option.map_eq_some_iff.1 hi'
   exact (h.slots i y hy).puv hc hZ hv
 · rcases key i r' hi with ⟨rfl,rfl⟩|⟨e,y,hy,rfl⟩
   · exact hr
   have:=h.res i y hy
   cases y with
   | row k rows=>
    have this:C true w (.sl k rows) (I.hd i) (I.F i):=this
    show C true w' (.sl k rows) _ _
    simp only [Ip.set,if_neg e]
    exact this.congr fun b hb=>hc.block b (this.lt b hb) (hv i e b hb)
   | box cs=>
    obtain⟨h1,vs,t,h2,h3⟩:=this
    refine⟨by simpa only [Ip.set,if_neg e] using h1,vs,t,?_,h3.puv hc hZ hv⟩
    simp only [Ip.set,if_neg e]
    exact (hc.block _ (Array.getElem?_eq_some_iff.1 h2).1 (hv i e _ (by rw [h1];simp))).trans h2
   | opq=>trivial
   | cur g=>
    have this:I.F i=[g.1]∧I.B i=g.1∧CuB I.Z w g:=this
    refine⟨by simpa only [Ip.set,if_neg e] using this.1,by simpa only [Ip.set,if_neg e] using this.2.1,?_⟩
    exact this.2.2.congr (hc.block _ this.2.2.lt (hv i e _ (by rw [this.1];simp))) fun b hb hz=>⟨hz,hc.block b hb (hZ b hz)⟩
   | mp b f=>
    have this:I.F i=[b]∧MapB w b f:=this
    exact⟨by simpa only [Ip.set,if_neg e] using this.1,this.2.congr (hc.block _ this.2.lt (hv i e _ (by rw [this.1];simp)))⟩
   | kept K=>exact⟨by simp only [Ip.set,if_neg e];exact this.1,fun x hx=>⟨(hc.block x.1 (h.old _ (this.2 x hx).2) (hZ _ (this.2 x hx).2)).trans (this.2 x hx).1,(this.2 x hx).2⟩⟩
   | hdr j x=>
    refine⟨by simp only [Ip.set,if_neg e];exact this.1,fun k hk=>?_⟩
    have:=this.2 k hk
    simp only [Ip.set]
    split
    · rename_i e';rw [←e'];exact this
    exact this
   | blk j b=>
    refine⟨by simp only [Ip.set,if_neg e];exact this.1,fun k hk=>?_⟩
    have:=this.2 k hk
    simp only [Ip.set]
    split
    · rename_i e';rw [←e'];exact this
    exact this
 rcases key i r' hi with ⟨rfl,rfl⟩|⟨e,y,hy,rfl⟩
 · rw [Fid];exact⟨hG.1,fun b hb=>⟨(hG.2 b hb).1,(hG.2 b hb).2.2.1⟩⟩
 rw [Foth i e]
 exact⟨(h.own i y hy).1,fun b hb=>⟨((h.own i y hy).2 b hb).1,((h.own i y hy).2 b hb).2.chg hc (hv i e b hb)⟩⟩
theorem set_split {α:Type} {l:List α} {i:Nat} {x:α} (y:α) (h:l[i]?=some x):l=l.take i++x::l.drop (i+1)∧l.set i y=l.take i++y::l.drop (i+1):=by
 obtain⟨hi,rfl⟩:=List.getElem?_eq_some_iff.1 h
 refine⟨?_,List.set_eq_take_append_cons_drop .. |>.trans (if_pos hi)⟩
 rw [←List.drop_eq_getElem_cons hi,List.take_append_drop]
theorem Cn {id k i p:Nat} {t:TypeId} {x y:Operand} {rows:List (List T)} {row:List T} {A0:A} {σ':St} {ts:List T} {ag:Bool} {n:Nat} (ho:o.op=.store t x y) (hg:o.guard=none) (hdn:o.dst=none) (hy:Get σ true y A0) (ha:absorb σ (cellsA A0)=some (σ',ts))
 (hx:Get σ' true x (.one (.pr id k i p))) (hs:look σ'.res id=some (.row k rows)) (hi:rows[i]?=some row) (ht:tyB P t ag n=true) (he:(cellsA A0).all E.cell1=true) (hl:Nat.beq (cellsA A0).length n=true) (hn:Nat.ble (p+n) row.length=true) (hold:((row.drop p).take n).all T.isV=true) :
 Op1 P ops o σ (σ'.upd id (.row k (rows.set i (row.take p++ts++row.drop (p+n))))):=
 .skip hg fun w0 a w ⟨I,hr⟩=>by
  obtain⟨ds,hd1,hd2,hd3⟩:=(hy.va hr rfl).cells he
  have hdl:=VEs_len hd2
  obtain⟨I',G,r1,r2,r3,r4,_⟩:=RelI.absorb ha hr hd2
  obtain⟨g,n',m',hg1,hv⟩:VE I' w (.pr id k i p) (a.eval x):=hx.va r1 rfl
  have hC:C true w (.sl k rows) _ _:=r1.res id _ hs
  have own:=r1.own id _ hs
  have hlt:=r1.lt id
  simp only [C] at hC
  obtain⟨a0,len,cap,g1,g2,g3,g4,g5⟩:=hC
  have hlti:i<rows.length:=(List.getElem?_eq_some_iff.1 hi).1
  have hn':=Nat.le_of_ble_eq_true hn
  have hl':=Nat.eq_of_beq_eq_true hl
  rcases g5 with ⟨g5,_⟩|⟨b,off,Gr,rfl,hF,g6,g7,g8⟩
  · omega
  obtain⟨rfl,cur,e,hcur,hcs⟩:=g7 trivial
  rw [hg1] at g1
  cases g1
  rw [hF] at own hlt
  obtain⟨u1,xs,u2,u3,u4⟩:=g8.flat
  simp only [Nat.zero_add] at u4
  obtain⟨s1,s2⟩:=set_split (row.take p++ts++row.drop (p+n)) hi
  have hrow:row=row.take p++((row.drop p).take n++row.drop (p+n)):=by
   rw [←List.drop_drop,List.take_append_drop,List.take_append_drop]
  have hrk:row.length=k:=u1 row (List.mem_of_getElem? hi)
  have e1:rows.flatten=((rows.take i).flatten++row.take p)++((row.drop p).take n++(row.drop (p+n)++(rows.drop (i+1)).flatten)):=by
   conv=>lhs;rw [s1,hrow]
   simp
  rw [e1] at u2
  obtain⟨x1,x23,F1,F23,rfl,rfl,v1,v2,v3⟩:=u2.split
  obtain⟨x2,x3,F2,F3,rfl,rfl,v4,v5,v6⟩:=v2.split
  obtain⟨_,rfl⟩:=Cs_flat (o':=true) (w':=w) hold v4
  have hfl:((rows.take i).flatten).length=i*k:=by
   have key:∀ (l:List (List T)),(∀ r∈l,r.length=k)→l.flatten.length=l.length*k:=by
    intro l
    induction l with
    | nil=>intro _;simp
    | cons r l ih=>intro h;rw [List.flatten_cons,List.length_append,ih fun r hr=>h r (by simp [hr]),h r (by simp),List.length_cons,Nat.succ_mul];omega
   rw [key _ fun r hr=>u1 r (List.mem_of_mem_take hr),List.length_take,Nat.min_eq_left (Nat.le_of_lt hlti)]
  have lx1:x1.length=i*k+p:=by rw [v3,List.length_append,hfl,List.length_take];omega
  have lx2:x2.length=n:=by rw [v6,List.length_take,List.length_drop];omega
  have hdn':ds.length=n:=hdl.trans hl'
  have htot:(i*k+p)+n+x3.length=rows.length*k:=by
   have:=u3
   simp only [List.length_append] at this
   omega
  have hcurl:cur.toList=x1++(x2++x3)++cur.toList.drop (x1++(x2++x3)).length:=by
   apply List.ext_getElem?;intro j
   by_cases hj:j<(x1++(x2++x3)).length
   · have:=u4 j _ (List.getElem?_eq_getElem hj)
     simp only [World.cell?,hcur] at this
     rw [List.getElem?_append_left hj,List.getElem?_eq_getElem hj]
     simpa using this
   rw [List.getElem?_append_right (by omega),List.getElem?_drop]
   congr 1
   omega
  have hst:=run_storeCells_at P g (i*k+p) e ds 0 cur w hcur (by rw [hcs];have:=Nat.mul_le_mul_right k g3;rw [←g2] at this;simp;omega) hd3
  simp only [Nat.add_zero] at hst
  have hnew:cur.toList.take (i*k+p)++ds++cur.toList.drop (i*k+p+ds.length)=x1++(ds++x3)++cur.toList.drop (x1++(x2++x3)).length:=by
   rw [hcurl]
   generalize cur.toList.drop (x1++(x2++x3)).length=tl
   have t1:(x1++(x2++x3)++tl).take (i*k+p)=x1:=by rw [List.append_assoc,←lx1,List.take_left' rfl]
   have t2:(x1++(x2++x3)++tl).drop (i*k+p+ds.length)=x3++tl:=by
    rw [←List.drop_drop,List.append_assoc,←lx1,List.drop_left' rfl,List.append_assoc,hdn',←lx2,List.drop_left' rfl]
   rw [t1,t2]
   have t3:(x1++(x2++x3)++tl).drop (x1++(x2++x3)).length=tl:=List.drop_left' rfl
   simp
  rw [hnew] at hst
  generalize htl:cur.toList.drop (x1++(x2++x3)).length=tl at hst
  have hb:g∈I'.F id:=by rw [hF];simp
  have hgG:∀ c∈G,c≠g:=fun c hc e=>(r4 c hc).2.2.2.2 id (e▸hb)
  have hgF:∀ c∈F1++([]++F3),c≠g:=fun c hc e=>(List.nodup_cons.1 own.1).1 (e▸hc)
  have hch:Chg w (w.setRow g (x1++(ds++x3)++tl).toArray) (I'.F id):=
   ⟨rfl,rfl,rfl,by simp [World.setRow],fun c _ hk=>setRow_other w g c _ (fun e=>hk (by rw [hF,e];simp))⟩
  have hset:=setRow_heap w g cur (x1++(ds++x3)++tl).toArray e (0,0) hcur
  have hoth:∀ c,c≠g→(w.setRow g (x1++(ds++x3)++tl).toArray).heap[c]?=w.heap[c]?:=fun c hc=>setRow_other w g c _ hc
  have hsz:(w.setRow g (x1++(ds++x3)++tl).toArray).heap.size=w.heap.size:=by simp [World.setRow]
  refine⟨w.setRow g (x1++(ds++x3)++tl).toArray,?_,I'.set id (g::(F1++(G++F3))) (I'.hd id) (I'.B id),?_⟩
  · have hsz':(a.eval y).cells.size=n:=by rw [hd1];simpa using hdn'
    simp [execOp,ho,hv,Instr.storeAt,Instr.sureAddr,storeVar,tyB_size ht,hd1,hst]
    omega
  rw [hdn]
  refine r1.upd hs hch ⟨List.nodup_cons.2 ⟨fun hm=>?_,?_⟩,fun c hc=>?_⟩ ?_
  · rcases List.mem_append.1 hm with hm|hm
    · exact hgF g (by simp [hm]) rfl
    rcases List.mem_append.1 hm with hm|hm
    · exact hgG g hm rfl
    exact hgF g (by simp [hm]) rfl
  · have hnd:=(List.nodup_cons.1 own.1).2
    rw [List.nil_append] at hnd
    obtain⟨d1,d2,d3⟩:=List.nodup_append.1 hnd
    have hGF:∀ c∈G,c∉F1∧c∉F3:=fun c hc=>⟨fun h=>(r4 c hc).2.2.2.2 id (by rw [hF];simp [h]),fun h=>(r4 c hc).2.2.2.2 id (by rw [hF];simp [h])⟩
    refine List.nodup_append.2 ⟨d1,List.nodup_append.2 ⟨r3,d2,fun c hc d hd e=>(hGF c hc).2 (e▸hd)⟩,fun c hc d hd e=>?_⟩
    rcases List.mem_append.1 hd with hd|hd
    · exact (hGF d hd).1 (e▸hc)
    exact d3 c hc d hd e
  · by_cases hcg:c=g
    · subst hcg
      exact⟨(own.2 c (by simp)).1,by rw [hsz];exact g6,⟨.inl _,e,hset⟩,.inl hb⟩
    have hold':c∈F1++([]++F3)→w0.own c∧c<(w.setRow g (x1++(ds++x3)++tl).toArray).heap.size∧Thaw (w.setRow g (x1++(ds++x3)++tl).toArray) c∧(c∈I'.F id∨w.heap.size≤c∨Free I' w0 w c):=fun hm=>by
     obtain⟨o1,cc,ee,o2⟩:=own.2 c (List.mem_cons_of_mem _ hm)
     exact⟨o1,by rw [hsz];exact (hlt c (List.mem_cons_of_mem _ hm)).1,⟨cc,ee,(hoth c hcg).trans o2⟩,.inl (by rw [hF];exact List.mem_cons_of_mem _ hm)⟩
    rcases List.mem_cons.1 hc with hc|hc
    · exact absurd hc hcg
    rcases List.mem_append.1 hc with hc|hc
    · exact hold' (by simp [hc])
    rcases List.mem_append.1 hc with hc|hc
    · obtain⟨f1,f2,⟨cc,ee,f3⟩,f4⟩:=r4 c hc
      exact⟨f1,by rw [hsz];exact f2,⟨cc,ee,(hoth c hcg).trans f3⟩,.inr (.inr ⟨f1,f2,⟨cc,ee,f3⟩,f4⟩)⟩
    exact hold' (by simp [hc])
  show C true _ _ _ _
  simp only [Ip.set,if_true]
  unfold C
  refine⟨_,_,_,hg1,by simpa using g2,g3,g4,.inr ⟨g,0,F1++(G++F3),rfl,rfl,by rw [hsz];exact g6,fun _=>⟨rfl,_,e,hset,?_⟩,Rws.of (xs:=x1++(ds++x3)) (fun r hm=>?_) ?_ fun j u hj=>?_⟩⟩
  · rw [←hcs]
    have:=congrArg List.length hcurl
    rw [htl] at this
    simp only [List.length_append,Array.length_toList] at this
    simp only [List.size_toArray,List.length_append]
    omega
  · rcases List.mem_or_eq_of_mem_set hm with hm|rfl
    · exact u1 r hm
    have:=Cs.len r2
    simp only [List.length_append,List.length_take,List.length_drop]
    omega
  · rw [s2]
    have ef:(rows.take i++(row.take p++ts++row.drop (p+n))::rows.drop (i+1)).flatten=((rows.take i).flatten++row.take p)++(ts++(row.drop (p+n)++(rows.drop (i+1)).flatten)):=by simp
    rw [ef]
    exact (v1.congr fun c hc=>hoth c (hgF c (by simp [hc]))).append ((r2.congr fun c hc=>hoth c (hgG c hc)).append (v5.congr fun c hc=>hoth c (hgF c (by simp [hc]))))
  simp only [World.cell?,hset,Nat.zero_add]
  simp only [Option.isSome_none,Bool.false_eq_true,if_false,List.getElem?_toArray]
  rw [List.getElem?_append_left (List.getElem?_eq_some_iff.1 hj).1]
  exact hj
theorem R_shl1 {t t':TypeId} {x y:Operand} {n:Int} {m:Int} (ho:o.op=.binOp .shl t x y t') (hg:Grd ops o σ q) (hd:o.dst.all (fun d=>Nat.blt d σ.n)=true) (hx:Get σ q x (.one (.t (.v (.int .i64 n))))) (hy:Get σ q y (.one (.t (.v (.int .i64 m)))))
 (hb:q=true→0≤m∧m≤63∧0≤n∧n*2^m.toNat≤9223372036854775807):Op1 P ops o σ (σ.put o.dst (q,.a (.one (.t (.v (.int .i64 (n*2^m.toNat))))))):=
 Dq ho hg hd hx hy guard_int (h:=fun hq w=>by
  obtain⟨h1,h2,h3,h4⟩:=hb hq
  have e1:min m.toNat IntKind.i64.bits=m.toNat:=by simp [IntKind.bits];omega
  have h5:0≤n*2^m.toNat:=Int.mul_nonneg h3 (Int.pow_nonneg (by omega))
  simp only [binOp,Op.shift,e1]
  rw [if_neg (by omega),wrap_in ⟨by omega,h4⟩]
  rfl)
theorem R_or_int {t t':TypeId} {x y:Operand} {n m:Int} (ho:o.op=.binOp .or t x y t') (hg:Grd ops o σ q) (hd:o.dst.all (fun d=>Nat.blt d σ.n)=true) (hx:Get σ q x (.one (.t (.v (.int .i64 n))))) (hy:Get σ q y (.one (.t (.v (.int .i64 m)))))
 (hb:q=true→0≤n∧n≤9223372036854775807∧0≤m∧m≤9223372036854775807):Op1 P ops o σ (σ.put o.dst (q,.a (.one (.t (.v (.int .i64 ((n.toNat|||m.toNat:Nat):Int))))))):=
 Dq ho hg hd hx hy guard_int (h:=fun hq w=>by
  obtain⟨h1,h2,h3,h4⟩:=hb hq
  have b1:n.toNat<2^63:=by omega
  have b2:m.toNat<2^63:=by omega
  have b3:=Nat.or_lt_two_pow b1 b2
  have e1:(BitVec.ofInt 64 n|||BitVec.ofInt 64 m).toNat=(n.toNat|||m.toNat):=by
   rw [BitVec.toNat_or,BitVec.toNat_ofInt,BitVec.toNat_ofInt]
   congr 1
   · omega
   omega
  simp only [binOp,Op.intBits]
  simp only [ne_eq,not_true_eq_false,if_false]
  show (pure (Value.int .i64 (IntKind.i64.wrap ((BitVec.ofInt 64 n|||BitVec.ofInt 64 m).toNat:Int))):Sem Value).run P w=_
  rw [e1,wrap_in ⟨by omega,by omega⟩]
  rfl)
end
end Go.Q
namespace Go.Q
section
variable {P:Program} {ops:Array Oper} {o:Oper} {σ':St} {w0:Base} {Q:Exit→St→Prop} {n:Nat} {sl:List (Nat×(Bool×S))} {rs:List (Nat×R)} {l:List Oper}
theorem all_fresh {σ:St} {rl:List (Nat×R)} (h:∀ z∈rl,σ.has z.1=false):(rl.all fun x=>!σ.has x.1)=true:=by
 rw [List.all_eq_true]
 intro x hx
 rw [h x hx]
 rfl
theorem R_movet {σ:St} {q p:Bool} {t:Nat} {x:List A} (ho:o.op=.move (.tmp t)) (hg:Grd ops o σ q) (hd:o.dst.all (fun d=>Nat.blt d σ.n)=true) (hx:look σ.slots t=some (p,.tup x)) (hp:q=true→p=true):Op1 P ops o σ (σ.put o.dst (q,.tup x)):=
 .val hg hd fun I w0 a w hr hq=>by
  have:=hr.slots _ _ hx
  rw [hp hq] at this
  exact⟨a.eval (.tmp t),by simp [execOp,ho],this⟩
theorem Bn {d id:Nat} {r:R} {x:Bool×S} (ho:Op1 P ops o ⟨n,sl,rs⟩ ((σ'.add id r).put o.dst x)) (hd:o.dst=some d) (h:AWl P w0 ops Q l ⟨σ'.n,(d,x)::σ'.slots,(id,r)::σ'.res⟩):AWl P w0 ops Q (o::l) ⟨n,sl,rs⟩:=
 AWl.op ho (by rw [hd];exact h)
def puvS (id:Nat) (sl:List (Nat×(Bool×S))):List (Nat×(Bool×S)):=sl.map fun x=>(x.1,(x.2.1,x.2.2.puv id))
def updR (id:Nat) (r:R) (rs:List (Nat×R)):List (Nat×R):=setR (rs.map fun x=>(x.1,x.2.puv id)) id r
theorem Ch {id:Nat} {r:R} (ho:Op1 P ops o ⟨n,sl,rs⟩ (σ'.upd id r)) (h:AWl P w0 ops Q l ⟨σ'.n,puvS id σ'.slots,updR id r σ'.res⟩):AWl P w0 ops Q (o::l) ⟨n,sl,rs⟩:=AWl.op ho h
theorem Dr {d id:Nat} {r:R} {x:Bool×S} (ho:Op1 P ops o ⟨n,sl,rs⟩ ((σ'.chg id r).put o.dst x)) (hd:o.dst=some d) (h:AWl P w0 ops Q l ⟨σ'.n,(d,x)::purS id σ'.slots,chgR id r σ'.res⟩):AWl P w0 ops Q (o::l) ⟨n,sl,rs⟩:=
 AWl.op ho (by rw [hd];exact h)
end
end Go.Q
namespace Go.Q
open Go.RowKit
def E.nv (id:Nat):E→Bool
 | .vw i _=>!(Nat.beq i id)
 | .sb i _ _ _=>!(Nat.beq i id)
 | _=>true
def A.nv (id:Nat):A→Bool
 | .one e=>e.nv id
 | .agg l=>l.all (E.nv id)
def S.nv (id:Nat):S→Bool
 | .a x=>x.nv id
 | .tup l=>l.all (A.nv id)
def R.nv (id:Nat):R→Bool
 | .row _ _=>true
 | .box cs=>cs.all (E.nv id)
 | .hdr _ _=>true
 | .blk _ _=>true
 | .kept _=>true
 | .opq=>true
 | .cur _=>true
 | .mp _ _=>true
def nvB (id:Nat) (sl:List (Nat×(Bool×S))) (rs:List (Nat×R)):Bool:=sl.all (fun x=>x.2.2.nv id)&&rs.all (fun x=>x.2.nv id)
theorem E.puv_nv {id:Nat} {e:E} (h:e.nv id=true):e.puv id=e:=by
 cases e with
 | vw i x=>simp only [E.nv,Bool.not_eq_true'] at h;simp only [E.puv,h,cond_false]
 | sb i k p q=>simp only [E.nv,Bool.not_eq_true'] at h;simp only [E.puv,h,cond_false]
 | _=>rfl
theorem map_same {α:Type} {f:α→α}:∀ {l:List α},(∀ x∈l,f x=x)→l.map f=l
 | [],_=>rfl
 | x::l,h=>by rw [List.map_cons,h x (by simp),map_same fun y hy=>h y (by simp [hy])]
theorem A.puv_nv {id:Nat} {x:A} (h:x.nv id=true):x.puv id=x:=by
 cases x with
 | one e=>simp only [A.puv,E.puv_nv h]
 | agg l=>simp only [A.puv];rw [map_same fun e he=>E.puv_nv (List.all_eq_true.1 h e he)]
theorem S.puv_nv {id:Nat} {x:S} (h:x.nv id=true):x.puv id=x:=by
 cases x with
 | a x=>simp only [S.puv,A.puv_nv h]
 | tup l=>simp only [S.puv];rw [map_same fun e he=>A.puv_nv (List.all_eq_true.1 h e he)]
theorem R.puv_nv {id:Nat} {x:R} (h:x.nv id=true):x.puv id=x:=by
 cases x with
 | row k rows=>rfl
 | box cs=>simp only [R.puv];rw [map_same fun e he=>E.puv_nv (List.all_eq_true.1 h e he)]
 | hdr j x=>rfl
 | blk j b=>rfl
 | kept K=>rfl
 | opq=>rfl
 | cur g=>rfl
 | mp b f=>rfl
def overL:List E→List E→List E
 | [],cs=>cs
 | e::l,cs=>e::overL l (cs.drop 1)
def setC:List E→Nat→List E→List E
 | cs,0,l=>overL l cs
 | [],_+1,l=>l
 | c::cs,p+1,l=>c::setC cs p l
theorem overL_eq:∀ (l cs:List E),overL l cs=l++cs.drop l.length
 | [],cs=>rfl
 | e::l,cs=>by rw [overL,overL_eq l];simp
theorem setC_eq:∀ (cs:List E) (p:Nat) (l:List E),p≤cs.length→setC cs p l=setL cs p l
 | cs,0,l,_=>by unfold setC;rw [overL_eq];simp [setL]
 | [],p+1,l,h=>by simp at h
 | c::cs,p+1,l,h=>by rw [setC,setC_eq cs p l (by simpa using h)];simp [setL,Nat.succ_add]
section
variable {P:Program} {ops:Array Oper} {o:Oper} {σ:St} {q:Bool}
theorem upd_nv {id:Nat} {r:R} (h:nvB id σ.slots σ.res=true):σ.upd id r=⟨σ.n,σ.slots,setR σ.res id r⟩:=by
 simp only [nvB,Bool.and_eq_true,List.all_eq_true] at h
 unfold St.upd
 rw [map_same fun x hx=>?_,map_same fun x hx=>?_]
 · rw [R.puv_nv (h.2 x hx)]
 rw [S.puv_nv (h.1 x hx)]
theorem R_store_pb {id p:Nat} {t:TypeId} {x y:Operand} {cs:List E} {A0:A} {ag:Bool} {n:Nat} (ho:o.op=.store t x y) (hg:o.guard=none) (hdn:o.dst=none) (hx:Get σ true x (.one (.pp id p))) (hy:Get σ true y A0) (hs:look σ.res id=some (.box cs)) (ht:tyB P t ag n=true)
 (he:(cellsA A0).all E.cell1=true) (hl:Nat.beq (cellsA A0).length n=true) (hn:Nat.ble (p+n) cs.length=true) (hv1:nvB id σ.slots σ.res=true) (hv2:(cellsA A0).all (E.nv id)=true):Op1 P ops o σ ⟨σ.n,σ.slots,setR σ.res id (.box (setC cs p (cellsA A0)))⟩:=
 .skip hg fun w0 a w ⟨I,hr⟩=>by
  have hv:a.eval x=.pointer (some ⟨I.B id,p,none⟩):=hx.va hr rfl
  obtain⟨ds,h1,h2,h3⟩:=(hy.va hr rfl).cells he
  obtain⟨hF,vs,ty,g1,g2⟩:=hr.res id _ hs
  have hn':=Nat.le_of_ble_eq_true hn
  have hl':=Nat.eq_of_beq_eq_true hl
  have e1:=VEs_len h2
  have e2:=VEs_len g2
  have hst:=run_storeCells_at P (I.B id) p ty ds 0 vs.toArray w g1 (by simp;omega) h3
  simp only [Nat.add_zero] at hst
  have hsz:(a.eval y).cells.size=n:=by rw [h1];simp;omega
  have hc:Chg w (w.setRow (I.B id) (vs.take p++ds++vs.drop (p+ds.length)).toArray) (I.F id):=
   ⟨rfl,rfl,rfl,by simp [World.setRow],fun k _ hk=>setRow_other w (I.B id) k _ (fun e=>hk (by rw [hF,e];simp))⟩
  refine⟨w.setRow (I.B id) (vs.take p++ds++vs.drop (p+ds.length)).toArray,?_,I.set id [I.B id] (I.hd id) (I.B id),?_⟩
  · simp [execOp,ho,hv,Instr.storeAt,Instr.sureAddr,storeVar,tyB_size ht,h1,hst]
    omega
  rw [hdn]
  have hcs:cs.all (E.nv id)=true:=by
   have key:∀ (l:List (Nat×R)),(l.all fun x=>x.2.nv id)=true→look l id=some (.box cs)→cs.all (E.nv id)=true:=by
    intro l
    induction l with
    | nil=>intro _ h;cases h
    | cons y l ih=>
     obtain⟨j,y⟩:=y
     intro ha hk
     simp only [List.all_cons,Bool.and_eq_true] at ha
     rw [look_cons] at hk
     split at hk
     · cases hk;exact ha.1
     exact ih ha.2 hk
   simp only [nvB,Bool.and_eq_true] at hv1
   exact key _ hv1.2 hs
  have hall:∀ e∈setL cs p (cellsA A0),e.puv id=e:=by
   intro e hm
   simp only [setL,List.mem_append] at hm
   rcases hm with (hm|hm)|hm
   · exact E.puv_nv (List.all_eq_true.1 hcs e (List.mem_of_mem_take hm))
   · exact E.puv_nv (List.all_eq_true.1 hv2 e hm)
   exact E.puv_nv (List.all_eq_true.1 hcs e (List.mem_of_mem_drop hm))
  rw [←upd_nv hv1,setC_eq cs p _ (by omega)]
  refine hr.upd hs hc ⟨by simp,fun b hb=>?_⟩ ⟨by simp [Ip.set],_,ty,by simp only [Ip.set,if_true];exact setRow_heap w (I.B id) vs.toArray _ ty (0,0) g1,?_⟩
  · simp only [List.mem_singleton] at hb
    subst hb
    exact⟨((hr.own id _ hs).2 _ (by rw [hF];simp)).1,by simp [World.setRow];exact (Array.getElem?_eq_some_iff.1 g1).1,⟨.inl _,ty,setRow_heap w (I.B id) vs.toArray _ ty (0,0) g1⟩,.inl (by rw [hF];simp)⟩
  have hlist:VEs I w (setL cs p (cellsA A0)) (vs.take p++ds++vs.drop (p+ds.length)):=by
   rw [setL,←e1]
   exact VEs_append (VEs_append (VEs_take p g2) h2) (VEs_drop _ g2)
  have:=hlist.puv (G:=[I.B id]) hc (fun b hz hb=>(hr.lt id b hb).2 hz) (fun i hi=>hr.apart i id hi)
  rwa [map_same hall] at this
variable {w0:Base} {Q:Exit→St→Prop} {n:Nat} {sl:List (Nat×(Bool×S))} {rs:List (Nat×R)} {l:List Oper}
theorem AWl.chgb {rs':List (Nat×R)} (ho:Op1 P ops o ⟨n,sl,rs⟩ ⟨n,sl,rs'⟩) (h:AWl P w0 ops Q l ⟨n,sl,rs'⟩):AWl P w0 ops Q (o::l) ⟨n,sl,rs⟩:=AWl.op ho h
end
end Go.Q
namespace Go.Q
open Go.RowKit
section
variable {P:Program} {ops:Array Oper} {o:Oper} {σ:St} {q:Bool}
def MkPost (w:World) (x':V0) (u v:Value) (F:List Nat) (e:Ending) (w':World):Prop:=
 e=.returned u∧∃ F',V0r true w' x' v F'∧F'.Nodup∧(∀ b∈F',(w.heap.size≤b∨b∈F)∧Thaw w' b)∧Chg w w' F
def FnM (P:Program) (f:FuncId) (x:V0) (k:Value) (x':V0) (u:Value):Prop:=
 Callee P f∧u.oneCell'=true∧∀ w v F,Good w F→V0r true w x v F→F.Nodup→(∀ b∈F,Thaw w b)→Calls P f (List.toArray [v,k]) w (MkPost w x' u v F)
def E.puvL (ids:List Nat):E→E
 | .vw i x=>bif memN ids i then .no else .vw i x
 | .sb i k p q=>bif memN ids i then .no else .sb i k p q
 | e=>e
def A.puvL (ids:List Nat):A→A
 | .one e=>.one (e.puvL ids)
 | .agg l=>.agg (l.map (E.puvL ids))
def S.puvL (ids:List Nat):S→S
 | .a x=>.a (x.puvL ids)
 | .tup l=>.tup (l.map (A.puvL ids))
def R.puvL (ids:List Nat):R→R
 | .row k rows=>.row k rows
 | .box cs=>.box (cs.map (E.puvL ids))
 | .hdr j x=>.hdr j x
 | .blk j b=>.blk j b
 | .kept K=>.kept K
 | .opq=>.opq
 | .cur g=>.cur g
 | .mp b f=>.mp b f
def Ip.newF (I:Ip) (ids:List Nat) (NF:Nat→List Nat):Ip:=⟨I.Z,fun i=>bif memN ids i then NF i else I.F i,I.hd,I.B⟩
section
variable {I:Ip} {w w':World} {ids:List Nat} {NF:Nat→List Nat} {FF:List Nat}
theorem VE.puvL (hc:Chg w w' FF) (hZ:∀ b,I.Z b→b∉FF) (hv:∀ i,memN ids i=false→∀ b∈I.F i,b∉FF) {e:E} {c:Value} (h:VE I w e c):VE (I.newF ids NF) w' (e.puvL ids) c:=by
 cases e with
 | t x=>obtain⟨G,h1,h2⟩:=h;exact⟨G,h1.congr fun b hb=>hc.block b (h1.lt b hb) (hZ b (h2 b hb)),h2⟩
 | no=>trivial
 | rf i=>exact h
 | tl i k j=>exact h
 | pf i k j=>exact h
 | vw i x=>
  simp only [E.puvL]
  cases e:memN ids i with
  | true=>trivial
  | false=>
   obtain⟨G',h1,h2⟩:=h
   refine⟨G',h1.congr fun b hb=>hc.block b (h1.lt b hb) (hv i e b (h2 b hb)),fun b hb=>?_⟩
   show b∈(bif memN ids i then NF i else I.F i)
   rw [e];exact h2 b hb
 | pr i k p q=>exact h
 | sb i k p q=>
  simp only [E.puvL]
  cases e:memN ids i with
  | true=>trivial
  | false=>
   obtain⟨g,n,m,h1,h2,h3,h4⟩:=h
   have hb':=hc.block g h3 (hv i e g h2)
   refine⟨g,n,m,h1,?_,heap_lt hb' h3,(World.cell?_of_block (a:=⟨g,_,none⟩) hb').trans h4⟩
   show g∈(bif memN ids i then NF i else I.F i)
   rw [e];exact h2
 | pp i o=>exact h
theorem VEs.puvL (hc:Chg w w' FF) (hZ:∀ b,I.Z b→b∉FF) (hv:∀ i,memN ids i=false→∀ b∈I.F i,b∉FF):∀ {l:List E} {cs:List Value},VEs I w l cs→VEs (I.newF ids NF) w' (l.map (E.puvL ids)) cs
 | [],_,h=>h
 | _::_,_,⟨c,cr,h1,h2,h3⟩=>⟨c,cr,h1,h2.puvL hc hZ hv,h3.puvL hc hZ hv⟩
theorem VA.puvL (hc:Chg w w' FF) (hZ:∀ b,I.Z b→b∉FF) (hv:∀ i,memN ids i=false→∀ b∈I.F i,b∉FF) {x:A} {v:Value} (h:VA I w x v):VA (I.newF ids NF) w' (x.puvL ids) v:=by
 cases x with
 | one e=>exact VE.puvL hc hZ hv h
 | agg l=>obtain⟨cs,h1,h2⟩:=h;exact⟨cs,h1,h2.puvL hc hZ hv⟩
theorem VAs.puvL (hc:Chg w w' FF) (hZ:∀ b,I.Z b→b∉FF) (hv:∀ i,memN ids i=false→∀ b∈I.F i,b∉FF):∀ {l:List A} {cs:List Value},VAs I w l cs→VAs (I.newF ids NF) w' (l.map (A.puvL ids)) cs
 | [],_,h=>h
 | _::_,_,⟨c,cr,h1,h2,h3⟩=>⟨c,cr,h1,h2.puvL hc hZ hv,h3.puvL hc hZ hv⟩
theorem VS.puvL (hc:Chg w w' FF) (hZ:∀ b,I.Z b→b∉FF) (hv:∀ i,memN ids i=false→∀ b∈I.F i,b∉FF) {x:Bool×S} {v:Value} (h:VS I w x v):VS (I.newF ids NF) w' (x.1,x.2.puvL ids) v:=by
 obtain⟨p,x⟩:=x
 cases p
 · exact h
 cases x with
 | a x=>exact VA.puvL hc hZ hv h
 | tup l=>obtain⟨vs,h1,h2⟩:=h;exact⟨vs,h1,h2.puvL hc hZ hv⟩
end
theorem memN_false {ids:List Nat} {i:Nat}:memN ids i=false↔i∉ids:=by
 rw [←memN_iff];cases memN ids i<;>simp
theorem look_none_not {L:List (Nat×R)} {i:Nat} (h:look L i=none):i∉L.map (·.1):=by
 induction L with
 | nil=>simp
 | cons x L ih=>
  obtain⟨j,y⟩:=x
  rw [look_cons] at h
  by_cases e:j=i
  · rw [if_pos e] at h;cases h
  rw [if_neg e] at h
  have:=ih h
  simp only [List.map_cons,List.mem_cons,not_or]
  exact⟨fun h=>e h.symm,this⟩
inductive MkL (σ:St):List E→List T→List T→List (Nat×R)→Prop where
 | nil:MkL σ [] [] [] []
 | v {x:Value} {es:List E} {ts ts':List T} {L:List (Nat×R)} (h:MkL σ es ts ts' L):MkL σ (.t (.v x)::es) (.v x::ts) (.v x::ts') L
 | rf {id k:Nat} {rows rows':List (List T)} {es:List E} {ts ts':List T} {L:List (Nat×R)} (hs:look σ.res id=some (.row k rows)) (hn:look L id=none) (h:MkL σ es ts ts' L):MkL σ (.rf id::es) (.sl k rows::ts) (.sl k rows'::ts') ((id,.row k rows')::L)
theorem MkL.own {I:Ip} {w0:Base} {w:World} {a:Act} (hr:RelI I w0 σ a w) {es:List E} {ts ts':List T} {L:List (Nat×R)} (h:MkL σ es ts ts' L):∀ {cs:List Value},VEs I w es cs→
 ∃ F,Cs true w ts cs F∧F.Nodup∧(∀ b∈F,Thaw w b)∧(∀ b,b∈F↔∃ i∈L.map (·.1),b∈I.F i)∧(∀ i∈L.map (·.1),∃ r0,look σ.res i=some r0):=by
 induction h with
 | nil=>intro cs hv;exact⟨[],by unfold Cs;exact⟨hv,rfl⟩,List.nodup_nil,by simp,by simp,by simp⟩
 | v h ih=>
  rintro cs ⟨c,cr,rfl,h1,h2⟩
  obtain⟨F,g1,g2,g3,g4,g5⟩:=ih h2
  obtain⟨G,k1,_⟩:=h1
  simp only [C] at k1
  obtain⟨k1,rfl,k2⟩:=k1
  exact⟨F,by unfold Cs;exact⟨c,cr,[],F,rfl,by unfold C;exact⟨k1,rfl,k2⟩,g1,rfl⟩,g2,g3,g4,g5⟩
 | @rf id k rows rows' es ts ts' L hs hn h ih=>
  rintro cs ⟨c,cr,rfl,h1,h2⟩
  obtain⟨F,g1,g2,g3,g4,g5⟩:=ih h2
  have hC:C true w (.sl k rows) (I.hd id) (I.F id):=hr.res id _ hs
  have hc:c=I.hd id:=h1.1
  have own:=hr.own id _ hs
  have hni:=look_none_not hn
  refine⟨I.F id++F,by unfold Cs;exact⟨c,cr,_,_,rfl,hc▸hC,g1,rfl⟩,List.nodup_append.2 ⟨own.1,g2,fun x hx y hy e=>?_⟩,fun b hb=>?_,fun b=>?_,fun i hi=>?_⟩
  · subst e
    obtain⟨j,hj,hb⟩:=(g4 x).1 hy
    exact hr.apart id j (fun e=>hni (e▸hj)) x hx hb
  · rcases List.mem_append.1 hb with hb|hb
    · exact (own.2 b hb).2
    exact g3 b hb
  · simp only [List.mem_append,g4,List.map_cons,List.mem_cons]
    constructor
    · rintro (hb|⟨j,hj,hb⟩)
      · exact⟨id,.inl rfl,hb⟩
      exact⟨j,.inr hj,hb⟩
    rintro⟨j,rfl|hj,hb⟩
    · exact .inl hb
    exact .inr ⟨j,hj,hb⟩
  rcases List.mem_cons.1 hi with rfl|hi
  · exact⟨_,hs⟩
  exact g5 i hi
theorem MkL.back {I:Ip} {w0:Base} {w w':World} {a:Act} (hr:RelI I w0 σ a w) {es:List E} {ts ts':List T} {L:List (Nat×R)} (h:MkL σ es ts ts' L):∀ {cs:List Value} {F':List Nat},VEs I w es cs→Cs true w' ts' cs F'→F'.Nodup→
 ∃ NF:Nat→List Nat,(∀ i∈L.map (·.1),(NF i).Nodup∧∀ b∈NF i,b∈F')∧(∀ i∈L.map (·.1),∀ j∈L.map (·.1),i≠j→∀ b∈NF i,b∉NF j)∧∀ i r,look L i=some r→∃ k rows,r=.row k rows∧C true w' (.sl k rows) (I.hd i) (NF i):=by
 induction h with
 | nil=>intro cs F' _ _ _;exact⟨fun _=>[],by simp,by simp,fun i r h=>by cases h⟩
 | v h ih=>
  rintro cs F' ⟨c,cr,rfl,h1,h2⟩ hC hN
  simp only [Cs] at hC
  obtain⟨c',cr',G1,G2,e,k1,k2,rfl⟩:=hC
  cases e
  simp only [C] at k1
  obtain⟨_,rfl,_⟩:=k1
  exact ih h2 k2 hN
 | @rf id k rows rows' es ts ts' L hs hn h ih=>
  rintro cs F' ⟨c,cr,rfl,h1,h2⟩ hC hN
  rw [Cs] at hC
  obtain⟨c',cr',G1,G2,e,k1,k2,rfl⟩:=hC
  cases e
  obtain⟨n1,n2,n3⟩:=List.nodup_append.1 hN
  obtain⟨NF,g1,g2,g3⟩:=ih h2 k2 n2
  have hc:c=I.hd id:=h1.1
  have hni:=look_none_not hn
  have hself:∀ i∈L.map (·.1),i≠id:=fun i hi e=>hni (e▸hi)
  refine⟨fun i=>if i=id then G1 else NF i,fun i hi=>?_,fun i hi j hj hne b hb hb'=>?_,fun i r hl=>?_⟩
  · rcases List.mem_cons.1 hi with hi1|hi1
    · have hi1:i=id:=hi1
      simp only [if_pos hi1];exact⟨n1,fun b hb=>by simp [hb]⟩
    simp only [if_neg (hself i hi1)]
    exact⟨(g1 i hi1).1,fun b hb=>by simp [(g1 i hi1).2 b hb]⟩
  · rcases List.mem_cons.1 hi with hi1|hi1
    · have hi1:i=id:=hi1
      rcases List.mem_cons.1 hj with hj1|hj1
      · have hj1:j=id:=hj1
        exact hne (hi1.trans hj1.symm)
      simp only [if_pos hi1] at hb
      simp only [if_neg (hself j hj1)] at hb'
      exact n3 b hb b ((g1 j hj1).2 b hb') rfl
    simp only [if_neg (hself i hi1)] at hb
    rcases List.mem_cons.1 hj with hj1|hj1
    · have hj1:j=id:=hj1
      simp only [if_pos hj1] at hb'
      exact n3 b hb' b ((g1 i hi1).2 b hb) rfl
    simp only [if_neg (hself j hj1)] at hb'
    exact g2 i hi1 j hj1 hne b hb hb'
  rw [look_cons] at hl
  by_cases e:id=i
  · subst e
    rw [if_pos rfl] at hl
    cases hl
    exact⟨k,rows',rfl,by simp only [if_true];rw [←hc];exact k1⟩
  rw [if_neg e] at hl
  obtain⟨k',rows1,rfl,h4⟩:=g3 i r hl
  exact⟨k',rows1,rfl,by simp only [if_neg (fun h=>e h.symm:¬ i=id)];exact h4⟩
def V0of:A→List T→V0
 | .one _,ts=>.one (ts.headD (.v undef))
 | .agg _,ts=>.agg ts
theorem V0of_r {I:Ip} {w:World} {A0:A} {v:Value} (hv:VA I w A0 v):∃ cs,VEs I w (cellsA A0) cs∧∀ {oo:Bool} {w':World} {ts:List T} {F:List Nat},ts.length=(cellsA A0).length→(V0r oo w' (V0of A0 ts) v F↔Cs oo w' ts cs F):=by
 cases A0 with
 | one e=>
  refine⟨[v],⟨v,[],rfl,hv,rfl⟩,fun {oo w' ts F} hl=>?_⟩
  match ts,hl with
  | [t],_=>
   show C oo w' t v F↔_
   constructor
   · intro h;unfold Cs;exact⟨v,[],F,[],rfl,h,by unfold Cs;exact⟨rfl,rfl⟩,by simp⟩
   intro h
   rw [Cs] at h
   obtain⟨c,cr,G1,G2,e,h1,h2,rfl⟩:=h
   cases e
   rw [Cs] at h2
   obtain⟨_,rfl⟩:=h2
   simpa using h1
 | agg l=>
  obtain⟨cs,rfl,h2⟩:=hv
  refine⟨cs,h2,fun {oo w' ts F} hl=>?_⟩
  show (∃ cs',(Value.agg (List.toArray cs))=.agg (List.toArray cs')∧Cs oo w' ts cs' F)↔_
  constructor
  · rintro⟨cs',e,h⟩
    have:cs=cs':=by simpa using e
    subst this;exact h
  intro h;exact⟨cs,rfl,h⟩
theorem MkL.len {es:List E} {ts ts':List T} {L:List (Nat×R)} (h:MkL σ es ts ts' L):ts.length=es.length∧ts'.length=es.length:=by
 induction h with
 | nil=>simp
 | v _ ih=>simp [ih.1,ih.2]
 | rf _ _ _ ih=>simp [ih.1,ih.2]
def hdsOf (hd:Nat→Value) (rs:List (Nat×R)):List (Nat×R):=rs.map fun x=>(x.1-500,.hdr (some x.1) (hd x.1))
theorem look_append {α:Type}:∀ (l m:List (Nat×α)) (i:Nat),look (l++m) i=match look l i with|some x=>some x|none=>look m i
 | [],_,_=>rfl
 | (j,y)::l,m,i=>by
  rw [List.cons_append,look_cons,look_cons]
  by_cases e:j=i
  · rw [if_pos e,if_pos e]
  rw [if_neg e,if_neg e];exact look_append l m i
theorem RelI.heads {I:Ip} {w0:Base} {w:World} {a:Act} (h:RelI I w0 σ a w) {hds:List (Nat×R)} (hh:∀ i r,look hds i=some r→I.F i=[]∧∃ j x,r=.hdr j x∧∀ m,j=some m→I.hd m=x):RelI I w0 ⟨σ.n,σ.slots,σ.res++hds⟩ a w:=by
 have key:∀ i r,look (σ.res++hds) i=some r→look σ.res i=some r∨look hds i=some r:=fun i r hi=>by
  rw [look_append] at hi
  split at hi
  · rename_i x hx;rw [hx];exact .inl hi
  exact .inr hi
 refine⟨h.ext,h.defers,h.size,h.slots,fun i r hi=>?_,h.old,h.lt,fun i r hi=>?_,h.apart⟩
 · rcases key i r hi with hi|hi
   · exact h.res i r hi
   obtain⟨g1,j,x,rfl,g2⟩:=hh i r hi;exact⟨g1,g2⟩
 rcases key i r hi with hi|hi
 · exact h.own i r hi
 rw [(hh i r hi).1];simp
inductive Back (hd:Nat→Value) (σ:St):List Nat→List E→List T→Prop where
 | nil:Back hd σ [] [] []
 | v {x:Value} {ids:List Nat} {es:List E} {ts:List T} (h:Back hd σ ids es ts):Back hd σ ids (.t (.v x)::es) (.v x::ts)
 | rf {id k:Nat} {rows:List (List T)} {ids:List Nat} {es:List E} {ts:List T} (hs:look σ.res id=some (.row k rows)) (hh:look σ.res (id-500)=some (.hdr (some id) (hd id))) (hn:memN ids id=false) (h:Back hd σ ids es ts):Back hd σ (id::ids) (.rf id::es) (.sl k rows::ts)
theorem Back.ok {hd:Nat→Value} {I:Ip} {w0:Base} {w:World} {a:Act} (hr:RelI I w0 σ a w) {ids:List Nat} {es:List E} {ts:List T} (h:Back hd σ ids es ts):∀ {I0:Ip} {w1:World} {cs:List Value},I0.hd=hd→VEs I0 w1 es cs→
 ∃ F,Cs true w ts cs F∧F.Nodup∧∀ b∈F,∃ i∈ids,∃ r,look σ.res i=some r∧b∈I.F i:=by
 induction h with
 | nil=>intro I0 w1 cs _ hv;exact⟨[],by unfold Cs;exact⟨hv,rfl⟩,List.nodup_nil,by simp⟩
 | v h ih=>
  rintro I0 w1 cs e ⟨c,cr,rfl,h1,h2⟩
  obtain⟨F,g1,g2,g3⟩:=ih e h2
  obtain⟨G,k1,_⟩:=h1
  simp only [C] at k1
  obtain⟨k1,rfl,k2⟩:=k1
  exact⟨F,by unfold Cs;exact⟨c,cr,[],F,rfl,by unfold C;exact⟨k1,rfl,k2⟩,g1,rfl⟩,g2,g3⟩
 | @rf id k rows ids es ts hs hh hn h ih=>
  rintro I0 w1 cs e ⟨c,cr,rfl,h1,h2⟩
  obtain⟨F,g1,g2,g3⟩:=ih e h2
  have hC:C true w (.sl k rows) (I.hd id) (I.F id):=hr.res id _ hs
  have hhd:I.hd id=hd id:=(hr.res _ _ hh).2 id rfl
  have hc:c=I.hd id:=by rw [hhd,←e];exact h1.1
  refine⟨I.F id++F,by unfold Cs;exact⟨c,cr,_,_,rfl,hc▸hC,g1,rfl⟩,List.nodup_append.2 ⟨(hr.own id _ hs).1,g2,fun x hx y hy e=>?_⟩,fun b hb=>?_⟩
  · subst e
    obtain⟨j,hj,_,_,hb⟩:=g3 x hy
    exact hr.apart id j (fun e=>memN_false.1 hn (e▸hj)) x hx hb
  rcases List.mem_append.1 hb with hb|hb
  · exact⟨id,by simp,_,hs,hb⟩
  obtain⟨j,hj,r,h3,h4⟩:=g3 b hb;exact⟨j,by simp [hj],r,h3,h4⟩
def RetM (P:Program) (fn:Func) (hd:Nat→Value) (y:A) (ts:List T) (u:Value):Exit→St→Prop
 | .normal,σ=>Res P fn false (.a (.one (.v u))) σ∧∃ ids,Back hd σ ids (cellsA y) ts
 | .ret,σ=>Res P fn false (.a (.one (.v u))) σ∧∃ ids,Back hd σ ids (cellsA y) ts
 | _,_=>False
theorem FnM.walk {n:Nat} {f:FuncId} {fn:Func} {c:Code} {x x':V0} {k u:Value} {y:A} {ts:List T} {rs:List (Nat×R)} {R0:(Nat→Value)→List (Nat×R)} (hf:P.funcs[f]?=some fn) (hb:fn.body=some c) (hname:(fn.name == "runtime.NumGoroutine")=false) (hnt:fn.ntmps=n) (hn:Nat.ble 2 n=true)
 (hk:k.oneCell'=true) (hu:u.oneCell'=true) (hy:outV0 1000 x=some (y,rs)) (hR:(fun hd=>addsR rs []++hdsOf hd rs)=R0) (hx':V0of y ts=x') (hl:ts.length=(cellsA y).length) (hids:rs.all (fun x=>Nat.ble 1000 x.1&&Nat.ble x.1 1400)=true)
 (h:LenV [x]→∀ w0 hd,AW P w0 c (RetM P fn hd y ts u) ⟨n,[(0,(true,.a y)),(1,(true,.a (.one (.t (.v k)))))],R0 hd⟩):FnM P f x k x' u:=by
 subst hnt hR hx'
 refine⟨⟨fn,hf,hname,by rw [hb];rfl⟩,hu,fun w v F hG hv hnd hth=>?_⟩
 have hlen:LenV [x]:=V0s.lenV (w:=w) (vs:=[v]) (F:=F) ⟨v,[],F,[],rfl,hv.read,⟨rfl,rfl⟩,by simp⟩
 have hn':2≤fn.ntmps:=Nat.le_of_ble_eq_true hn
 have hlt:∀ b∈F,b<w.heap.size:=V0r.lt hv
 let a0:Act:=⟨(List.toArray [v,k])++Array.replicate (fn.ntmps-(List.toArray [v,k]).size) undef,[]⟩
 have hsz:a0.tmps.size=fn.ntmps:=by simp [a0];omega
 have h1v:a0.tmps.getD 1 undef=k:=by simp [a0,Array.getD_eq_getD_getElem?,Array.getElem?_append]
 have h0v:a0.tmps.getD 0 undef=v:=by simp [a0,Array.getD_eq_getD_getElem?,Array.getElem?_append]
 let I0:Ip:=⟨fun b=>b<w.heap.size∧b∉F,fun _=>[],fun _=>undef,fun _=>0⟩
 have hr0:RelI I0 ⟨w,F,hG⟩ ⟨fn.ntmps,[(1,(true,.a (.one (.t (.v k)))))],[]⟩ a0 w:=by
  refine⟨Chg.refl w F,rfl,hsz,fun i z hi=>?_,fun id r hi=>(by cases hi),fun b hb=>hb.1,fun id b hb=>(by cases hb),fun id r hi=>(by cases hi),fun i j _ b hb=>(by cases hb)⟩
  rw [look_cons] at hi
  by_cases e:1=i
  · subst e
    rw [if_pos rfl] at hi
    cases hi
    rw [h1v]
    exact⟨[],by unfold C;exact⟨rfl,rfl,hk⟩,by simp⟩
  rw [if_neg e] at hi;cases hi
 have hfree:∀ b∈F,Free I0 ⟨w,F,hG⟩ w b:=fun b hb=>⟨.inr hb,hlt b hb,hth b hb,fun hz=>hz.2 hb,fun i hi=>by cases hi⟩
 obtain⟨I1,r1,r2,r3,_⟩:=outV0_ok hy (by
  rw [List.all_eq_true] at hids ⊢
  intro z hz
  have h1:=hids z hz
  rfl) hr0 hv hnd hfree
 rw [adds_eq] at r1
 have r1':=r1.heads (hds:=hdsOf I1.hd rs) fun i r hi=>by
  have hm:=look_mem hi
  obtain⟨z,hz,e⟩:=List.mem_map.1 hm
  obtain⟨rfl,rfl⟩:=Prod.mk.inj e
  have h1:=List.all_eq_true.1 hids z hz
  simp only [Bool.and_eq_true] at h1
  have h2:=Nat.le_of_ble_eq_true h1.1
  have h3:=Nat.le_of_ble_eq_true h1.2
  exact⟨(r3.2 _ (by omega)).1,_,_,rfl,fun m hm=>by cases hm;rfl⟩
 have r2':RelI I1 ⟨w,F,hG⟩ ⟨fn.ntmps,[(0,(true,.a y)),(1,(true,.a (.one (.t (.v k)))))],addsR rs []++hdsOf I1.hd rs⟩ a0 w:=by
  refine⟨r1'.ext,r1'.defers,r1'.size,fun i z hi=>?_,r1'.res,r1'.old,r1'.lt,r1'.own,r1'.apart⟩
  rw [look_cons] at hi
  by_cases e:0=i
  · subst e
    rw [if_pos rfl] at hi
    cases hi
    rw [h0v];exact r2
  rw [if_neg e] at hi;exact r1'.slots i z hi
 refine calls_of_wp hf hb (Code.wp_mono ?_ (h hlen ⟨w,F,hG⟩ I1.hd _ _ ⟨_,r2'⟩))
 rintro e a' w' ⟨σ,h1,I,hI⟩
 have key:(Res P fn false (.a (.one (.v u))) σ∧∃ ids,Back I1.hd σ ids (cellsA y) ts)→a'.defers=[]∧∃ v',(results fn a'.tmps).run P w'=.ok v' w'∧MkPost w (V0of y ts) u v F (.returned v') w':=fun ⟨h1,ids,h2⟩=>by
  obtain⟨v',F',g1,g2,_⟩:=h1 I ⟨w,F,hG⟩ a' w' hI
  have hv':v'=u:=by unfold Vr V0r C at g2;exact g2.1
  subst hv'
  obtain⟨cs,hes,hcs⟩:=V0of_r r2
  obtain⟨F2,k1,k2,k3⟩:=h2.ok hI rfl hes
  refine⟨hI.defers,_,g1,rfl,F2,(hcs hl).2 k1,k2,fun b hb=>?_,hI.ext⟩
  obtain⟨i,_,r,h3,h4⟩:=k3 b hb
  exact (hI.own i r h3).2 b h4
 cases e with
 | normal=>exact key h1
 | ret=>exact key h1
 | exit id=>exact h1.elim
 | goto l=>exact h1.elim
 | panic c=>exact h1.elim
 | outgrown=>exact h1.elim
variable {w0:Base} {Q:Exit→St→Prop} {n:Nat} {sl:List (Nat×(Bool×S))} {rs:List (Nat×R)} {l:List Oper}
theorem AWl.updput {d id:Nat} {r:R} {x:Bool×S} (ho:Op1 P ops o ⟨n,sl,rs⟩ ((St.upd ⟨n,sl,rs⟩ id r).put o.dst x)) (hd:o.dst=some d) (h:AWl P w0 ops Q l ⟨n,(d,x)::puvS id sl,updR id r rs⟩):AWl P w0 ops Q (o::l) ⟨n,sl,rs⟩:=
 AWl.op ho (by rw [hd];exact h)
theorem RetM.mk {fn:Func} {hd:Nat→Value} {y:A} {ts:List T} {u:Value} {ids:List Nat} (h1:Res P fn false (.a (.one (.v u))) σ) (h2:Back hd σ ids (cellsA y) ts):Res P fn false (.a (.one (.v u))) σ∧∃ ids,Back hd σ ids (cellsA y) ts:=⟨h1,ids,h2⟩
end
theorem take_at {α:Type} {l:List α} {i:Nat} {x:α} (h:l[i]?=some x):l.take (i+1)=l.take i++[x]:=by
 obtain⟨hi,rfl⟩:=List.getElem?_eq_some_iff.1 h
 exact List.take_succ_eq_append_getElem hi
theorem drop_at {α:Type} {l:List α} {i:Nat} {x:α} (h:l[i]?=some x):l.drop i=x::l.drop (i+1):=by
 obtain⟨hi,rfl⟩:=List.getElem?_eq_some_iff.1 h
 exact List.drop_eq_getElem_cons hi
theorem set_at {α:Type} {l:List α} {i:Nat} {x:α} (y:α) (h:l[i]?=some x):(l.set i y)[i]?=some y:=by
 obtain⟨hi,_⟩:=List.getElem?_eq_some_iff.1 h
 rw [List.getElem?_set_self hi]
end Go.Q
namespace Go.D
open Go.Q
def cInt (x:Int):List T:=[.v (.int .i64 x)]
def cBool (x:Bool):List T:=[.v (.bool x)]
def cIntS (x:List Int):List T:=[.sl 1 (x.map cInt)]
def cBoolS (x:List Bool):List T:=[.sl 1 (x.map cBool)]
structure TPair where
 From:Int
 To:Int
 deriving DecidableEq
def cPair (x:TPair):List T:=[.v (.int .i64 x.From),.v (.int .i64 x.To)]
structure TToken where
 Kind:Int
 Letter:Int
 Low:Int
 High:Int
 deriving DecidableEq
def cToken (x:TToken):List T:=[.v (.int .i64 x.Kind),.v (.int .i64 x.Letter),.v (.int .i64 x.Low),.v (.int .i64 x.High)]
structure TExpr where
 Tokens:(List TToken)
 deriving DecidableEq
def cExpr (x:TExpr):List T:=[.sl 4 (x.Tokens.map cToken)]
structure TEdge where
 ID:Int
 From:Int
 To:Int
 Label:Int
 deriving DecidableEq
def cEdge (x:TEdge):List T:=[.v (.int .i64 x.ID),.v (.int .i64 x.From),.v (.int .i64 x.To),.v (.int .i64 x.Label)]
structure TGraph where
 Values:(List Int)
 Edges:(List TEdge)
 deriving DecidableEq
def cGraph (x:TGraph):List T:=[.sl 1 (x.Values.map cInt),.sl 4 (x.Edges.map cEdge)]
structure TStep where
 Edge:Int
 Inverse:Bool
 deriving DecidableEq
def cStep (x:TStep):List T:=[.v (.int .i64 x.Edge),.v (.bool x.Inverse)]
structure TWalk where
 Start:Int
 Steps:(List TStep)
 deriving DecidableEq
def cWalk (x:TWalk):List T:=[.v (.int .i64 x.Start),.sl 2 (x.Steps.map cStep)]
structure TChange where
 Insert:Bool
 Edge:TEdge
 deriving DecidableEq
def cChange (x:TChange):List T:=[.v (.bool x.Insert),.v (.int .i64 x.Edge.ID),.v (.int .i64 x.Edge.From),.v (.int .i64 x.Edge.To),.v (.int .i64 x.Edge.Label)]
structure TBatch where
 Changes:(List TChange)
 deriving DecidableEq
def cBatch (x:TBatch):List T:=[.sl 5 (x.Changes.map cChange)]
structure THistory where
 First:Int
 Graphs:(List TGraph)
 deriving DecidableEq
def cHistory (x:THistory):List T:=[.v (.int .i64 x.First),.sl 2 (x.Graphs.map cGraph)]
structure TPositions where
 Letters:(List Int)
 First:Int
 Last:Int
 Follow:(List Int)
 Nullable:Bool
 deriving DecidableEq
def cPositions (x:TPositions):List T:=[.sl 1 (x.Letters.map cInt),.v (.int .i64 x.First),.v (.int .i64 x.Last),.sl 1 (x.Follow.map cInt),.v (.bool x.Nullable)]
structure TAutomaton where
 Start:Int
 Accept:(List Bool)
 Next:(List (List Int))
 deriving DecidableEq
def cAutomaton (x:TAutomaton):List T:=[.v (.int .i64 x.Start),.sl 1 (x.Accept.map cBool),.sl 1 (x.Next.map cIntS)]
structure TProductStep where
 Step:TStep
 Node:Int
 State:Int
 deriving DecidableEq
def cProductStep (x:TProductStep):List T:=[.v (.int .i64 x.Step.Edge),.v (.bool x.Step.Inverse),.v (.int .i64 x.Node),.v (.int .i64 x.State)]
def cProductStepS (x:List TProductStep):List T:=[.sl 4 (x.map cProductStep)]
structure TPathAtom where
 From:Int
 To:Int
 Expr:TExpr
 deriving DecidableEq
def cPathAtom (x:TPathAtom):List T:=[.v (.int .i64 x.From),.v (.int .i64 x.To),.sl 4 (x.Expr.Tokens.map cToken)]
structure TConjunction where
 VariableCount:Int
 Atoms:(List TPathAtom)
 deriving DecidableEq
def cConjunction (x:TConjunction):List T:=[.v (.int .i64 x.VariableCount),.sl 3 (x.Atoms.map cPathAtom)]
structure TView where
 Automaton:TAutomaton
 Source:Int
 Ranks:(List Int)
 Supports:(List Int)
 deriving DecidableEq
def cView (x:TView):List T:=[.v (.int .i64 x.Automaton.Start),.sl 1 (x.Automaton.Accept.map cBool),.sl 1 (x.Automaton.Next.map cIntS),.v (.int .i64 x.Source),.sl 1 (x.Ranks.map cInt),.sl 1 (x.Supports.map cInt)]
structure TDelta where
 Added:(List TPair)
 Removed:(List TPair)
 deriving DecidableEq
def cDelta (x:TDelta):List T:=[.sl 2 (x.Added.map cPair),.sl 2 (x.Removed.map cPair)]
structure TRegistered where
 ID:Int
 Expr:TExpr
 Shared:Int
 deriving DecidableEq
def cRegistered (x:TRegistered):List T:=[.v (.int .i64 x.ID),.sl 4 (x.Expr.Tokens.map cToken),.v (.int .i64 x.Shared)]
structure TRegistry where
 Automata:(List TAutomaton)
 Queries:(List TRegistered)
 deriving DecidableEq
def cRegistry (x:TRegistry):List T:=[.sl 3 (x.Automata.map cAutomaton),.sl 3 (x.Queries.map cRegistered)]
end Go.D
namespace Go.Q
def inB (x a b:Int):Bool:=decide (a≤x)&&decide (x≤b)
theorem eq_of_getElem? {α:Type} {l r:List α} (hl:l.length=r.length) (h:∀ i:Nat,i<l.length→l[i]?=r[i]?):l=r:=List.ext_getElem? fun i=>by
 rcases Nat.lt_or_ge i l.length with hi|hi
 · exact h i hi
 rw [List.getElem?_eq_none hi,List.getElem?_eq_none (by omega)]
theorem each_succ {α:Type} {p:α→Bool} {l:List α} {k:Nat} {x:α} (h:∀ j y,j<k→l[j]?=some y→p y=true) (hx:l[k]?=some x) (hp:p x=true):∀ j y,j<k+1→l[j]?=some y→p y=true:=fun j y hj hy=>by
 rcases Nat.lt_or_eq_of_le (Nat.le_of_lt_succ hj) with h1|rfl
 · exact h j y h1 hy
 rw [hx] at hy;cases hy;exact hp
theorem each_all {α:Type} {p:α→Bool} {l:List α} {k:Nat} (h:∀ j y,j<k→l[j]?=some y→p y=true) (hk:l.length≤k):l.all p=true:=by
 rw [List.all_eq_true]
 intro x hx
 obtain⟨j,hj,rfl⟩:=List.getElem_of_mem hx
 exact h j _ (by omega) (List.getElem?_eq_getElem hj)
theorem not_all {α:Type} {p:α→Bool} {l:List α} {k:Nat} {x:α} (hx:l[k]?=some x) (hp:p x=false):l.all p=false:=by
 rw [List.all_eq_false]
 exact⟨x,List.mem_of_getElem? hx,by rw [hp];simp⟩
def findI {α:Type} (p:α→Bool):List α→Nat→Int
 | [],_=> -1
 | x::r,k=>if p x then (k:Int) else findI p r (k+1)
theorem findI_at {α:Type} {p:α→Bool}:∀ {l:List α} {m k:Nat} {x:α},(∀ j y,j<k→l[j]?=some y→(!p y)=true)→l[k]?=some x→p x=true→findI p l m=((m+k:Nat):Int)
 | [],_,_,_,_,h,_=>by simp at h
 | y::l,m,0,x,_,h,hp=>by simp at h;subst h;simp [findI,hp]
 | y::l,m,k+1,x,hn,h,hp=>by
  have h0:=hn 0 y (by omega) rfl
  have h0':p y=false:=by simpa using h0
  rw [findI,h0',if_neg (by simp),findI_at (k:=k) (fun j z hj hz=>hn (j+1) z (by omega) (by simpa using hz)) (by simpa using h) hp]
  omega
theorem findI_none {α:Type} {p:α→Bool}:∀ {l:List α} {m k:Nat},(∀ j y,j<k→l[j]?=some y→(!p y)=true)→l.length≤k→findI p l m=-1
 | [],_,_,_,_=>rfl
 | y::l,m,0,_,h=>by simp at h
 | y::l,m,k+1,hn,h=>by
  have h0:=hn 0 y (by omega) rfl
  have h0':p y=false:=by simpa using h0
  rw [findI,h0',if_neg (by simp)]
  exact findI_none (k:=k) (fun j z hj hz=>hn (j+1) z (by omega) (by simpa using hz)) (by simpa using h)
theorem findI_lt {α:Type} {p:α→Bool}:∀ {l:List α} {m:Nat},findI p l m=-1∨∃ k x,l[k]?=some x∧p x=true∧findI p l m=((m+k:Nat):Int)
 | [],_=>.inl rfl
 | y::l,m=>by
  rw [findI]
  split
  · exact .inr ⟨0,y,rfl,by assumption,rfl⟩
  rcases findI_lt (p:=p) (l:=l) (m:=m+1) with h|⟨k,x,h1,h2,h3⟩
  · exact .inl h
  exact .inr ⟨k+1,x,by simpa using h1,h2,by rw [h3];omega⟩
theorem getD_at {α:Type} {d:α} {l:List α} {k:Nat} (h:k<l.length):l[k]?=some (l[k]?.getD d):=by rw [List.getElem?_eq_getElem h];rfl
section
open Go.RowKit
variable {P:Program} {ops:Array Oper} {o:Oper} {σ:St} {q:Bool}
theorem Dp {α:Type} {f:α→List T} {l:List α} {x:Operand} {t:TypeId} {A0:A} {k:Nat} (ho:o.op=.call { callee:=.builtin .len,args:=#[x],argTypes:=#[t] }) (hg:Grd ops o σ q) (hd:o.dst.all (fun d=>Nat.blt d σ.n)=true)
 (hx:Get σ q x A0) (hs:Sq σ A0 k (l.map f)) {e:TypeId} (hu:P.underlying t=some (.slice e)):Op1 P ops o σ (σ.put o.dst (q,.a (.one (.t (.v (.int .i64 l.length)))))):=by
 have:=R_len ho hg hd hx hs hu
 rwa [List.length_map] at this
variable {w0:Base} {Q:Exit→St→Prop} {n:Nat} {sl:List (Nat×(Bool×S))} {rs:List (Nat×R)} {ls:List Oper}
theorem Aq {d i:Nat} {t:TypeId} {cs:List T} {ag:Bool} {m:Nat} (ht:tyB P t ag m=true) (h:AWl P w0 ops Q ls ⟨n,(d,(true,.a (mkA ag ((cs.take m).map .t))))::sl,rs⟩) (ho:o.op=.load t (.tmp i):=by exact rfl) (hx:look sl i=some (true,.a (.one (.t (.ad cs)))):=by exact rfl) (hn:Nat.ble m cs.length=true:=by exact rfl) (h1:(ag||Nat.beq m 1)=true:=by exact rfl) (hg:o.guard=none:=by exact rfl) (hd:o.dst.all (fun d=>Nat.blt d n)=true:=by exact rfl) (he:o.dst=some d:=by exact rfl):AWl P w0 ops Q (o::ls) ⟨n,sl,rs⟩:=Ad (Ca ho (.no hg) hd (.tm hx) ht hn h1) he h
theorem Bv {P:Program} {w0:Base} {Q:Exit→St→Prop} {ops:Array Oper} {o:Oper} {l:List Oper} {n:Nat} {sl:List (Nat×(Bool×S))} {rs:List (Nat×R)} {d:Nat} {f:FuncId} {xs:List Operand} {tys:Array TypeId} {ins:List V0} {out:V} (hf:FnT P f ins out) (h:AWl P w0 ops Q l ⟨n,(d,(true,inS out))::sl,rs⟩) (ho:o.op=.call { callee:=.value (.func f),args:=xs.toArray,argTypes:=tys }:=by exact rfl) (hg:o.guard=none:=by exact rfl) (hd:o.dst.all (fun d=>Nat.blt d n)=true:=by exact rfl) (ha:Args ⟨n,sl,rs⟩ true xs ins:=by repeat first|exact .nil|refine .cons (.tm rfl) rfl ?_|refine .cons (.const rfl) rfl ?_) (he:o.dst=some d:=by exact rfl):AWl P w0 ops Q (o::l) ⟨n,sl,rs⟩:=Ad (Bc hf.fr ho (.no hg) hd ha) he h
theorem Cm {P:Program} {w0:Base} {Q:Exit→St→Prop} {ops:Array Oper} {o:Oper} {l:List Oper} {n:Nat} {sl:List (Nat×(Bool×S))} {rs:List (Nat×R)} {d i:Nat} {j g:Nat} {b:Bool} {x:A}  (h:AWl P w0 ops Q l ⟨n,(d,(b,.a (x)))::sl,rs⟩) (ho:o.op=.move (.tmp i):=by exact rfl) (hg:o.guard=some (j,true):=by exact rfl) (hj:(ops[j]?).bind (·.dst)=some g:=by exact rfl) (hb:look sl g=some (true,.a (.one (.t (.v (.bool b))))):=by exact rfl) (hgn:Nat.blt g n=true:=by exact rfl) (hx:look sl i=some (true,.a x):=by exact rfl) (hd:o.dst.all (fun d=>Nat.blt d n)=true:=by exact rfl) (he:o.dst=some d:=by exact rfl):AWl P w0 ops Q (o::l) ⟨n,sl,rs⟩:=Ad (Bh ho (.yes1 hg hj hb hgn) hd (.tmp hx fun _=>rfl)) he h
theorem Dj {P:Program} {w0:Base} {Q:Exit→St→Prop} {ops:Array Oper} {o:Oper} {l:List Oper} {n:Nat} {sl:List (Nat×(Bool×S))} {rs:List (Nat×R)} {d i:Nat} {j g:Nat} {b:Bool} {t:TypeId} {cs:List T} {ag:Bool} {m:Nat} (ht:tyB P t ag m=true) (h:AWl P w0 ops Q l ⟨n,(d,(b,.a (mkA ag ((cs.take m).map .t))))::sl,rs⟩) (ho:o.op=.load t (.tmp i):=by exact rfl) (hg:o.guard=some (j,true):=by exact rfl) (hj:(ops[j]?).bind (·.dst)=some g:=by exact rfl) (hb:look sl g=some (true,.a (.one (.t (.v (.bool b))))):=by exact rfl) (hgn:Nat.blt g n=true:=by exact rfl) (hx:look sl i=some (b,.a (.one (.t (.ad cs)))):=by exact rfl) (hn:Nat.ble m cs.length=true:=by exact rfl) (h1:(ag||Nat.beq m 1)=true:=by exact rfl) (hd:o.dst.all (fun d=>Nat.blt d n)=true:=by exact rfl) (he:o.dst=some d:=by exact rfl):AWl P w0 ops Q (o::l) ⟨n,sl,rs⟩:=Ad (Ca ho (.yes1 hg hj hb hgn) hd (.tmp hx id) ht hn h1) he h
theorem AWl.fy {P:Program} {w0:Base} {Q:Exit→St→Prop} {ops:Array Oper} {o:Oper} {l:List Oper} {n:Nat} {sl:List (Nat×(Bool×S))} {rs:List (Nat×R)} {d i:Nat} {j g:Nat} {b:Bool} {t:TypeId} {k off:Nat} {cs:List T} (hf:fldB P t k off=true) (h:AWl P w0 ops Q l ⟨n,(d,(b,.a (.one (.t (.ad (cs.drop off))))))::sl,rs⟩) (ho:o.op=.fieldAddr t (.tmp i) k:=by exact rfl) (hg:o.guard=some (j,true):=by exact rfl) (hj:(ops[j]?).bind (·.dst)=some g:=by exact rfl) (hb:look sl g=some (true,.a (.one (.t (.v (.bool b))))):=by exact rfl) (hgn:Nat.blt g n=true:=by exact rfl) (hx:look sl i=some (true,.a (.one (.t (.ad cs)))):=by exact rfl) (hd:o.dst.all (fun d=>Nat.blt d n)=true:=by exact rfl) (he:o.dst=some d:=by exact rfl):AWl P w0 ops Q (o::l) ⟨n,sl,rs⟩:=Ad (Cj ho (.yes1 hg hj hb hgn) hd (.tmp hx fun _=>rfl) hf) he h
theorem AWl.mw {P:Program} {w0:Base} {Q:Exit→St→Prop} {ops:Array Oper} {o:Oper} {l:List Oper} {n:Nat} {sl:List (Nat×(Bool×S))} {rs:List (Nat×R)} {d i:Nat} {j g:Nat} {b:Bool} {x:A}  (h:AWl P w0 ops Q l ⟨n,(d,(!b,.a (x)))::sl,rs⟩) (ho:o.op=.move (.tmp i):=by exact rfl) (hg:o.guard=some (j,false):=by exact rfl) (hj:(ops[j]?).bind (·.dst)=some g:=by exact rfl) (hb:look sl g=some (true,.a (.one (.t (.v (.bool b))))):=by exact rfl) (hgn:Nat.blt g n=true:=by exact rfl) (hx:look sl i=some (true,.a x):=by exact rfl) (hd:o.dst.all (fun d=>Nat.blt d n)=true:=by exact rfl) (he:o.dst=some d:=by exact rfl):AWl P w0 ops Q (o::l) ⟨n,sl,rs⟩:=Ad (Bh ho (.not1 hg hj hb hgn) hd (.tmp hx fun _=>rfl)) he h
theorem Db {P:Program} {w0:Base} {Q:Exit→St→Prop} {ops:Array Oper} {o:Oper} {l:List Oper} {n:Nat} {sl:List (Nat×(Bool×S))} {rs:List (Nat×R)} {d i:Nat} {j g:Nat} {b:Bool} {t:TypeId} {cs:List T} {ag:Bool} {m:Nat} (ht:tyB P t ag m=true) (h:AWl P w0 ops Q l ⟨n,(d,(!b,.a (mkA ag ((cs.take m).map .t))))::sl,rs⟩) (ho:o.op=.load t (.tmp i):=by exact rfl) (hg:o.guard=some (j,false):=by exact rfl) (hj:(ops[j]?).bind (·.dst)=some g:=by exact rfl) (hb:look sl g=some (true,.a (.one (.t (.v (.bool b))))):=by exact rfl) (hgn:Nat.blt g n=true:=by exact rfl) (hx:look sl i=some (!b,.a (.one (.t (.ad cs)))):=by exact rfl) (hn:Nat.ble m cs.length=true:=by exact rfl) (h1:(ag||Nat.beq m 1)=true:=by exact rfl) (hd:o.dst.all (fun d=>Nat.blt d n)=true:=by exact rfl) (he:o.dst=some d:=by exact rfl):AWl P w0 ops Q (o::l) ⟨n,sl,rs⟩:=Ad (Ca ho (.not1 hg hj hb hgn) hd (.tmp hx id) ht hn h1) he h
theorem Dc {P:Program} {w0:Base} {Q:Exit→St→Prop} {ops:Array Oper} {o:Oper} {l:List Oper} {n:Nat} {sl:List (Nat×(Bool×S))} {rs:List (Nat×R)} {d i:Nat} {j g:Nat} {b:Bool} {t:TypeId} {k off:Nat} {cs:List T} (hf:fldB P t k off=true) (h:AWl P w0 ops Q l ⟨n,(d,(!b,.a (.one (.t (.ad (cs.drop off))))))::sl,rs⟩) (ho:o.op=.fieldAddr t (.tmp i) k:=by exact rfl) (hg:o.guard=some (j,false):=by exact rfl) (hj:(ops[j]?).bind (·.dst)=some g:=by exact rfl) (hb:look sl g=some (true,.a (.one (.t (.v (.bool b))))):=by exact rfl) (hgn:Nat.blt g n=true:=by exact rfl) (hx:look sl i=some (true,.a (.one (.t (.ad cs)))):=by exact rfl) (hd:o.dst.all (fun d=>Nat.blt d n)=true:=by exact rfl) (he:o.dst=some d:=by exact rfl):AWl P w0 ops Q (o::l) ⟨n,sl,rs⟩:=Ad (Cj ho (.not1 hg hj hb hgn) hd (.tmp hx fun _=>rfl) hf) he h
theorem Ck {P:Program} {w0:Base} {Q:Exit→St→Prop} {ops:Array Oper} {o:Oper} {l:List Oper} {n:Nat} {sl:List (Nat×(Bool×S))} {rs:List (Nat×R)} {d i:Nat} {j:Nat} {b b':Bool}  (h:AWl P w0 ops Q l ⟨n,(d,(true,.a (.one (.t (.v (.bool (b&&b')))))))::sl,rs⟩) (ho:o.op=.pick (.tmp i) (.tmp j) (.const (.bool false)):=by exact rfl) (hg:o.guard=none:=by exact rfl) (hx:look sl i=some (true,.a (.one (.t (.v (.bool b))))):=by exact rfl) (hy:look sl j=some (b,.a (.one (.t (.v (.bool b'))))):=by exact rfl) (hd:o.dst.all (fun d=>Nat.blt d n)=true:=by exact rfl) (he:o.dst=some d:=by exact rfl):AWl P w0 ops Q (o::l) ⟨n,sl,rs⟩:=Ad (R_and ho (.no hg) hd (.tm hx) (.tmp hy id)) he h
theorem Cx {P:Program} {w0:Base} {Q:Exit→St→Prop} {ops:Array Oper} {o:Oper} {l:List Oper} {n:Nat} {sl:List (Nat×(Bool×S))} {rs:List (Nat×R)} {d i:Nat} {j:Nat} {b b':Bool}  (h:AWl P w0 ops Q l ⟨n,(d,(true,.a (.one (.t (.v (.bool (b||b')))))))::sl,rs⟩) (ho:o.op=.pick (.tmp i) (.const (.bool true)) (.tmp j):=by exact rfl) (hg:o.guard=none:=by exact rfl) (hx:look sl i=some (true,.a (.one (.t (.v (.bool b))))):=by exact rfl) (hy:look sl j=some (!b,.a (.one (.t (.v (.bool b'))))):=by exact rfl) (hd:o.dst.all (fun d=>Nat.blt d n)=true:=by exact rfl) (he:o.dst=some d:=by exact rfl):AWl P w0 ops Q (o::l) ⟨n,sl,rs⟩:=Ad (R_or ho (.no hg) hd (.tm hx) (.tmp hy id)) he h
theorem C1 {P:Program} {w0:Base} {Q:Exit→St→Prop} {ops:Array Oper} {o:Oper} {l:List Oper} {n:Nat} {sl:List (Nat×(Bool×S))} {rs:List (Nat×R)} {d i:Nat} {t:TypeId} {b:Bool}  (h:AWl P w0 ops Q l ⟨n,(d,(true,.a (.one (.t (.v (.bool !b))))))::sl,rs⟩) (ho:o.op=.unOp .not t (.tmp i):=by exact rfl) (hg:o.guard=none:=by exact rfl) (hx:look sl i=some (true,.a (.one (.t (.v (.bool b))))):=by exact rfl) (hd:o.dst.all (fun d=>Nat.blt d n)=true:=by exact rfl) (he:o.dst=some d:=by exact rfl):AWl P w0 ops Q (o::l) ⟨n,sl,rs⟩:=Ad (R_not ho (.no hg) hd (.tm hx)) he h
theorem Bs {P:Program} {w0:Base} {Q:Exit→St→Prop} {ops:Array Oper} {o:Oper} {l:List Oper} {n:Nat} {sl:List (Nat×(Bool×S))} {rs:List (Nat×R)} {d i:Nat} {t t':TypeId} {k:IntKind} {c m:Int}  (h:AWl P w0 ops Q l ⟨n,(d,(true,.a (.one (.t (.v (.bool (decide (c=m))))))))::sl,rs⟩) (ho:o.op=.binOp .eql t (.tmp i) (.const (.int k m)) t':=by exact rfl) (hg:o.guard=none:=by exact rfl) (hx:look sl i=some (true,.a (.one (.t (.v (.int k c))))):=by exact rfl) (hc:(Value.int k m).oneCell'=true:=by exact rfl) (hd:o.dst.all (fun d=>Nat.blt d n)=true:=by exact rfl) (he:o.dst=some d:=by exact rfl):AWl P w0 ops Q (o::l) ⟨n,sl,rs⟩:=Ad (R_eq ho (.no hg) hd (.tm hx) (.const hc)) he h
theorem AWl.nc {P:Program} {w0:Base} {Q:Exit→St→Prop} {ops:Array Oper} {o:Oper} {l:List Oper} {n:Nat} {sl:List (Nat×(Bool×S))} {rs:List (Nat×R)} {d i:Nat} {t t':TypeId} {k:IntKind} {c m:Int}  (h:AWl P w0 ops Q l ⟨n,(d,(true,.a (.one (.t (.v (.bool (!decide (c=m))))))))::sl,rs⟩) (ho:o.op=.binOp .neq t (.tmp i) (.const (.int k m)) t':=by exact rfl) (hg:o.guard=none:=by exact rfl) (hx:look sl i=some (true,.a (.one (.t (.v (.int k c))))):=by exact rfl) (hc:(Value.int k m).oneCell'=true:=by exact rfl) (hd:o.dst.all (fun d=>Nat.blt d n)=true:=by exact rfl) (he:o.dst=some d:=by exact rfl):AWl P w0 ops Q (o::l) ⟨n,sl,rs⟩:=Ad (R_ne ho (.no hg) hd (.tm hx) (.const hc)) he h
theorem Du {P:Program} {w0:Base} {Q:Exit→St→Prop} {ops:Array Oper} {o:Oper} {l:List Oper} {n:Nat} {sl:List (Nat×(Bool×S))} {rs:List (Nat×R)} {d i:Nat} {t t':TypeId} {k:IntKind} {c m:Int}  (h:AWl P w0 ops Q l ⟨n,(d,(true,.a (.one (.t (.v (.bool (decide (c<m))))))))::sl,rs⟩) (ho:o.op=.binOp .lss t (.tmp i) (.const (.int k m)) t':=by exact rfl) (hg:o.guard=none:=by exact rfl) (hx:look sl i=some (true,.a (.one (.t (.v (.int k c))))):=by exact rfl) (hc:(Value.int k m).oneCell'=true:=by exact rfl) (hd:o.dst.all (fun d=>Nat.blt d n)=true:=by exact rfl) (he:o.dst=some d:=by exact rfl):AWl P w0 ops Q (o::l) ⟨n,sl,rs⟩:=Ad (R_lt ho (.no hg) hd (.tm hx) (.const hc)) he h
theorem AWl.gc {P:Program} {w0:Base} {Q:Exit→St→Prop} {ops:Array Oper} {o:Oper} {l:List Oper} {n:Nat} {sl:List (Nat×(Bool×S))} {rs:List (Nat×R)} {d i:Nat} {t t':TypeId} {k:IntKind} {c m:Int}  (h:AWl P w0 ops Q l ⟨n,(d,(true,.a (.one (.t (.v (.bool (decide (m<c))))))))::sl,rs⟩) (ho:o.op=.binOp .gtr t (.tmp i) (.const (.int k m)) t':=by exact rfl) (hg:o.guard=none:=by exact rfl) (hx:look sl i=some (true,.a (.one (.t (.v (.int k c))))):=by exact rfl) (hc:(Value.int k m).oneCell'=true:=by exact rfl) (hd:o.dst.all (fun d=>Nat.blt d n)=true:=by exact rfl) (he:o.dst=some d:=by exact rfl):AWl P w0 ops Q (o::l) ⟨n,sl,rs⟩:=Ad (R_gt ho (.no hg) hd (.tm hx) (.const hc)) he h
theorem AWl.gd {P:Program} {w0:Base} {Q:Exit→St→Prop} {ops:Array Oper} {o:Oper} {l:List Oper} {n:Nat} {sl:List (Nat×(Bool×S))} {rs:List (Nat×R)} {d i:Nat} {t t':TypeId} {k:IntKind} {c m:Int}  (h:AWl P w0 ops Q l ⟨n,(d,(true,.a (.one (.t (.v (.bool (decide (m≤c))))))))::sl,rs⟩) (ho:o.op=.binOp .geq t (.tmp i) (.const (.int k m)) t':=by exact rfl) (hg:o.guard=none:=by exact rfl) (hx:look sl i=some (true,.a (.one (.t (.v (.int k c))))):=by exact rfl) (hc:(Value.int k m).oneCell'=true:=by exact rfl) (hd:o.dst.all (fun d=>Nat.blt d n)=true:=by exact rfl) (he:o.dst=some d:=by exact rfl):AWl P w0 ops Q (o::l) ⟨n,sl,rs⟩:=Ad (R_ge ho (.no hg) hd (.tm hx) (.const hc)) he h
theorem C8 {P:Program} {w0:Base} {Q:Exit→St→Prop} {ops:Array Oper} {o:Oper} {l:List Oper} {n:Nat} {sl:List (Nat×(Bool×S))} {rs:List (Nat×R)} {d i:Nat} {t t':TypeId} {c m:Int}  (h:AWl P w0 ops Q l ⟨n,(d,(true,.a (.one (.t (.v (.int .i64 (c-m)))))))::sl,rs⟩) (ho:o.op=.binOp .sub t (.tmp i) (.const (.int .i64 m)) t':=by exact rfl) (hg:o.guard=none:=by exact rfl) (hx:look sl i=some (true,.a (.one (.t (.v (.int .i64 c))))):=by exact rfl) (hb:-9223372036854775808≤c-m∧c-m≤9223372036854775807:=by omega) (hd:o.dst.all (fun d=>Nat.blt d n)=true:=by exact rfl) (he:o.dst=some d:=by exact rfl):AWl P w0 ops Q (o::l) ⟨n,sl,rs⟩:=Ad (Dx ho (.no hg) hd (.tm hx) (.const rfl) fun _=>hb) he h
theorem A9 {d i:Nat} {id p:Nat} {t:TypeId} {cs:List E} {ag:Bool} {m:Nat} (ht:tyB P t ag m=true) (h:AWl P w0 ops Q ls ⟨n,(d,(true,.a (mkA ag ((cs.drop p).take m))))::sl,rs⟩) (ho:o.op=.load t (.tmp i):=by exact rfl) (hx:look sl i=some (true,.a (.one (.pp id p))):=by exact rfl) (hs:look rs id=some (.box cs):=by exact rfl) (hn:Nat.ble (p+m) cs.length=true:=by exact rfl) (h1:(ag||Nat.beq m 1)=true:=by exact rfl) (hg:o.guard=none:=by exact rfl) (hd:o.dst.all (fun d=>Nat.blt d n)=true:=by exact rfl) (he:o.dst=some d:=by exact rfl):AWl P w0 ops Q (o::ls) ⟨n,sl,rs⟩:=Ad (Bk ho (.no hg) hd (.tm hx) hs ht hn h1) he h
theorem Bg {d i:Nat} {t:TypeId} {j off:Nat} {cs:List T} (hf:fldB P t j off=true) (h:AWl P w0 ops Q ls ⟨n,(d,(true,.a (.one (.t (.ad (cs.drop off))))))::sl,rs⟩) (ho:o.op=.fieldAddr t (.tmp i) j:=by exact rfl) (hx:look sl i=some (true,.a (.one (.t (.ad cs)))):=by exact rfl) (hg:o.guard=none:=by exact rfl) (hd:o.dst.all (fun d=>Nat.blt d n)=true:=by exact rfl) (he:o.dst=some d:=by exact rfl):AWl P w0 ops Q (o::ls) ⟨n,sl,rs⟩:=Ad (Cj ho (.no hg) hd (.tm hx) hf) he h
theorem Br {d i:Nat} {id p:Nat} {t:TypeId} {j off:Nat} (hf:fldB P t j off=true) (h:AWl P w0 ops Q ls ⟨n,(d,(true,.a (.one (.pp id (p+off)))))::sl,rs⟩) (ho:o.op=.fieldAddr t (.tmp i) j:=by exact rfl) (hx:look sl i=some (true,.a (.one (.pp id p))):=by exact rfl) (hg:o.guard=none:=by exact rfl) (hd:o.dst.all (fun d=>Nat.blt d n)=true:=by exact rfl) (he:o.dst=some d:=by exact rfl):AWl P w0 ops Q (o::ls) ⟨n,sl,rs⟩:=Ad (Ba ho (.no hg) hd (.tm hx) hf) he h
theorem A8 {d i:Nat} {t t':TypeId} {c m:Int}  (h:AWl P w0 ops Q ls ⟨n,(d,(true,.a (.one (.t (.v (.int .i64 (c+m)))))))::sl,rs⟩) (ho:o.op=.binOp .add t (.tmp i) (.const (.int .i64 m)) t':=by exact rfl) (hx:look sl i=some (true,.a (.one (.t (.v (.int .i64 c))))):=by exact rfl) (hb:-9223372036854775808≤c+m∧c+m≤9223372036854775807:=by omega) (hg:o.guard=none:=by exact rfl) (hd:o.dst.all (fun d=>Nat.blt d n)=true:=by exact rfl) (he:o.dst=some d:=by exact rfl):AWl P w0 ops Q (o::ls) ⟨n,sl,rs⟩:=Ad (C7 ho (.no hg) hd (.tm hx) (.const rfl) fun _=>hb) he h
theorem AWl.lt {d i:Nat} {j:Nat} {t t':TypeId} {k:IntKind} {c m:Int}  (h:AWl P w0 ops Q ls ⟨n,(d,(true,.a (.one (.t (.v (.bool (decide (c<m))))))))::sl,rs⟩) (ho:o.op=.binOp .lss t (.tmp i) (.tmp j) t':=by exact rfl) (hx:look sl i=some (true,.a (.one (.t (.v (.int k c))))):=by exact rfl) (hy:look sl j=some (true,.a (.one (.t (.v (.int k m))))):=by exact rfl) (hg:o.guard=none:=by exact rfl) (hd:o.dst.all (fun d=>Nat.blt d n)=true:=by exact rfl) (he:o.dst=some d:=by exact rfl):AWl P w0 ops Q (o::ls) ⟨n,sl,rs⟩:=Ad (R_lt ho (.no hg) hd (.tm hx) (.tm hy)) he h
theorem AWl.eq {d i:Nat} {j:Nat} {t t':TypeId} {k:IntKind} {c m:Int}  (h:AWl P w0 ops Q ls ⟨n,(d,(true,.a (.one (.t (.v (.bool (decide (c=m))))))))::sl,rs⟩) (ho:o.op=.binOp .eql t (.tmp i) (.tmp j) t':=by exact rfl) (hx:look sl i=some (true,.a (.one (.t (.v (.int k c))))):=by exact rfl) (hy:look sl j=some (true,.a (.one (.t (.v (.int k m))))):=by exact rfl) (hg:o.guard=none:=by exact rfl) (hd:o.dst.all (fun d=>Nat.blt d n)=true:=by exact rfl) (he:o.dst=some d:=by exact rfl):AWl P w0 ops Q (o::ls) ⟨n,sl,rs⟩:=Ad (R_eq ho (.no hg) hd (.tm hx) (.tm hy)) he h
theorem Be {d i:Nat} {α:Type} {f:α→List T} {a:List α} {t:TypeId} {A0:A} {k:Nat} {e:TypeId} (hs:Sq ⟨n,sl,rs⟩ A0 k (a.map f)) (hu:P.underlying t=some (.slice e)) (h:AWl P w0 ops Q ls ⟨n,(d,(true,.a (.one (.t (.v (.int .i64 a.length))))))::sl,rs⟩) (ho:o.op=.call { callee:=.builtin .len,args:=#[.tmp i],argTypes:=#[t] }:=by exact rfl) (hx:look sl i=some (true,.a A0):=by exact rfl) (hg:o.guard=none:=by exact rfl) (hd:o.dst.all (fun d=>Nat.blt d n)=true:=by exact rfl) (he:o.dst=some d:=by exact rfl):AWl P w0 ops Q (o::ls) ⟨n,sl,rs⟩:=Ad (Dp ho (.no hg) hd (.tm hx) hs hu) he h
theorem Az {id p i j:Nat} {t:TypeId} {cs:List E} {A0:A} {ag:Bool} {m:Nat} (ht:tyB P t ag m=true) (h:AWl P w0 ops Q ls ⟨n,sl,setR rs id (.box (setC cs p (cellsA A0)))⟩) (ho:o.op=.store t (.tmp i) (.tmp j):=by exact rfl) (hg:o.guard=none:=by exact rfl) (hdn:o.dst=none:=by exact rfl) (hx:look sl i=some (true,.a (.one (.pp id p))):=by exact rfl) (hy:look sl j=some (true,.a A0):=by exact rfl) (hs:look rs id=some (.box cs):=by exact rfl) (he:(cellsA A0).all E.cell1=true:=by exact rfl) (hl:Nat.beq (cellsA A0).length m=true:=by exact rfl) (hn:Nat.ble (p+m) cs.length=true:=by exact rfl) (hv1:nvB id sl rs=true:=by kernel_rfl) (hv2:(cellsA A0).all (E.nv id)=true:=by exact rfl):AWl P w0 ops Q (o::ls) ⟨n,sl,rs⟩:=AWl.chgb (R_store_pb (σ:=⟨n,sl,rs⟩) ho hg hdn (.tm hx) (.tm hy) hs ht he hl hn hv1 hv2) h
end
end Go.Q
namespace Go.Proofs.YtbecibmlbiebeaaGreat
open Go.RowKit Go.Q
theorem ty3:tyB Tryz.prog 3 false 1=true:=by kernel_rfl
theorem in3:inZ Tryz.prog 3=some (some (.int .i64 0),1,8):=by kernel_rfl
theorem ty4:tyB Tryz.prog 4 false 1=true:=by kernel_rfl
theorem in4:inZ Tryz.prog 4=some (some (.bool false),1,1):=by kernel_rfl
theorem in5:inZ Tryz.prog 5=some (some (.int .u8 0),1,1):=by kernel_rfl
theorem ty9:tyB Tryz.prog 9 false 1=true:=by kernel_rfl
theorem in9:inZ Tryz.prog 9=some (some (.string .empty),1,16):=by kernel_rfl
theorem ty24:tyB Tryz.prog 24 false 1=true:=by kernel_rfl
theorem Cd:tyB Tryz.prog 26 true 1=true:=by kernel_rfl
theorem Df:inZ Tryz.prog 26=some (some (.agg #[.slice none 0 0]),1,24):=by kernel_rfl
theorem st26:stB Tryz.prog 26=true:=by kernel_rfl
theorem Di:fldB Tryz.prog 26 0 0=true:=by kernel_rfl
theorem fp26_0:(match Tryz.prog.underlying 26 with|some (.struct fs)=>(match fs[0]? with|some f=>Nat.beq f.offset 0&&(match Tryz.prog.info? f.type with|some i=>Nat.beq i.size 1|none=>false)|none=>false)|_=>false)=true:=by kernel_rfl
theorem ty33:tyB Tryz.prog 33 false 1=true:=by kernel_rfl
theorem in33:inZ Tryz.prog 33=some (some (.slice none 0 0),1,24):=by kernel_rfl
theorem ty34:tyB Tryz.prog 34 false 1=true:=by kernel_rfl
theorem Bt:tyB Tryz.prog 36 true 3=true:=by kernel_rfl
theorem in36:inZ Tryz.prog 36=some (some (.agg #[.int .i64 0,.slice none 0 0,.slice none 0 0]),3,56):=by kernel_rfl
theorem st36:stB Tryz.prog 36=true:=by kernel_rfl
theorem fl36_0:fldB Tryz.prog 36 0 0=true:=by kernel_rfl
theorem fp36_0:(match Tryz.prog.underlying 36 with|some (.struct fs)=>(match fs[0]? with|some f=>Nat.beq f.offset 0&&(match Tryz.prog.info? f.type with|some i=>Nat.beq i.size 1|none=>false)|none=>false)|_=>false)=true:=by kernel_rfl
theorem C0:fldB Tryz.prog 36 1 1=true:=by kernel_rfl
theorem C4:fldB Tryz.prog 36 2 2=true:=by kernel_rfl
theorem Bz:tyB Tryz.prog 40 false 1=true:=by kernel_rfl
theorem in40:inZ Tryz.prog 40=some (some (.slice none 0 0),1,24):=by kernel_rfl
theorem ty43:tyB Tryz.prog 43 false 1=true:=by kernel_rfl
theorem Bx:tyB Tryz.prog 45 true 2=true:=by kernel_rfl
theorem in45:inZ Tryz.prog 45=some (some (.agg #[.slice none 0 0,.slice none 0 0]),2,48):=by kernel_rfl
theorem st45:stB Tryz.prog 45=true:=by kernel_rfl
theorem Cl:fldB Tryz.prog 45 0 0=true:=by kernel_rfl
theorem Cw:fldB Tryz.prog 45 1 1=true:=by kernel_rfl
theorem ty58:tyB Tryz.prog 58 true 2=true:=by kernel_rfl
theorem in58:inZ Tryz.prog 58=some (some (.agg #[.int .i64 0,.int .i64 0]),2,16):=by kernel_rfl
theorem st58:stB Tryz.prog 58=true:=by kernel_rfl
theorem fl58_0:fldB Tryz.prog 58 0 0=true:=by kernel_rfl
theorem fp58_0:(match Tryz.prog.underlying 58 with|some (.struct fs)=>(match fs[0]? with|some f=>Nat.beq f.offset 0&&(match Tryz.prog.info? f.type with|some i=>Nat.beq i.size 1|none=>false)|none=>false)|_=>false)=true:=by kernel_rfl
theorem fl58_1:fldB Tryz.prog 58 1 1=true:=by kernel_rfl
theorem fp58_1:(match Tryz.prog.underlying 58 with|some (.struct fs)=>(match fs[1]? with|some f=>Nat.beq f.offset 1&&(match Tryz.prog.info? f.type with|some i=>Nat.beq i.size 1|none=>false)|none=>false)|_=>false)=true:=by kernel_rfl
theorem ty72:tyB Tryz.prog 72 false 1=true:=by kernel_rfl
theorem in72:inZ Tryz.prog 72=some (some (.slice none 0 0),1,24):=by kernel_rfl
theorem ty75:tyB Tryz.prog 75 true 2=true:=by kernel_rfl
theorem in75:inZ Tryz.prog 75=some (some (.agg #[.int .i64 0,.bool false]),2,16):=by kernel_rfl
theorem st75:stB Tryz.prog 75=true:=by kernel_rfl
theorem fl75_0:fldB Tryz.prog 75 0 0=true:=by kernel_rfl
theorem fp75_0:(match Tryz.prog.underlying 75 with|some (.struct fs)=>(match fs[0]? with|some f=>Nat.beq f.offset 0&&(match Tryz.prog.info? f.type with|some i=>Nat.beq i.size 1|none=>false)|none=>false)|_=>false)=true:=by kernel_rfl
theorem fl75_1:fldB Tryz.prog 75 1 1=true:=by kernel_rfl
theorem fp75_1:(match Tryz.prog.underlying 75 with|some (.struct fs)=>(match fs[1]? with|some f=>Nat.beq f.offset 1&&(match Tryz.prog.info? f.type with|some i=>Nat.beq i.size 1|none=>false)|none=>false)|_=>false)=true:=by kernel_rfl
theorem ty77:tyB Tryz.prog 77 true 4=true:=by kernel_rfl
theorem in77:inZ Tryz.prog 77=some (some (.agg #[.int .i64 0,.bool false,.int .i64 0,.int .i64 0]),4,32):=by kernel_rfl
theorem st77:stB Tryz.prog 77=true:=by kernel_rfl
theorem fp77_0:(match Tryz.prog.underlying 77 with|some (.struct fs)=>(match fs[0]? with|some f=>Nat.beq f.offset 0&&(match Tryz.prog.info? f.type with|some i=>Nat.beq i.size 2|none=>false)|none=>false)|_=>false)=true:=by kernel_rfl
theorem fl77_1:fldB Tryz.prog 77 1 2=true:=by kernel_rfl
theorem fp77_1:(match Tryz.prog.underlying 77 with|some (.struct fs)=>(match fs[1]? with|some f=>Nat.beq f.offset 2&&(match Tryz.prog.info? f.type with|some i=>Nat.beq i.size 1|none=>false)|none=>false)|_=>false)=true:=by kernel_rfl
theorem fl77_2:fldB Tryz.prog 77 2 3=true:=by kernel_rfl
theorem fp77_2:(match Tryz.prog.underlying 77 with|some (.struct fs)=>(match fs[2]? with|some f=>Nat.beq f.offset 3&&(match Tryz.prog.info? f.type with|some i=>Nat.beq i.size 1|none=>false)|none=>false)|_=>false)=true:=by kernel_rfl
theorem Co:tyB Tryz.prog 88 true 4=true:=by kernel_rfl
theorem Dl:inZ Tryz.prog 88=some (some (.agg #[.int .i64 0,.int .i64 0,.int .i64 0,.int .i64 0]),4,32):=by kernel_rfl
theorem st88:stB Tryz.prog 88=true:=by kernel_rfl
theorem fl88_0:fldB Tryz.prog 88 0 0=true:=by kernel_rfl
theorem Dd:(match Tryz.prog.underlying 88 with|some (.struct fs)=>(match fs[0]? with|some f=>Nat.beq f.offset 0&&(match Tryz.prog.info? f.type with|some i=>Nat.beq i.size 1|none=>false)|none=>false)|_=>false)=true:=by kernel_rfl
theorem fl88_1:fldB Tryz.prog 88 1 1=true:=by kernel_rfl
theorem fp88_1:(match Tryz.prog.underlying 88 with|some (.struct fs)=>(match fs[1]? with|some f=>Nat.beq f.offset 1&&(match Tryz.prog.info? f.type with|some i=>Nat.beq i.size 1|none=>false)|none=>false)|_=>false)=true:=by kernel_rfl
theorem fl88_2:fldB Tryz.prog 88 2 2=true:=by kernel_rfl
theorem fp88_2:(match Tryz.prog.underlying 88 with|some (.struct fs)=>(match fs[2]? with|some f=>Nat.beq f.offset 2&&(match Tryz.prog.info? f.type with|some i=>Nat.beq i.size 1|none=>false)|none=>false)|_=>false)=true:=by kernel_rfl
theorem fl88_3:fldB Tryz.prog 88 3 3=true:=by kernel_rfl
theorem fp88_3:(match Tryz.prog.underlying 88 with|some (.struct fs)=>(match fs[3]? with|some f=>Nat.beq f.offset 3&&(match Tryz.prog.info? f.type with|some i=>Nat.beq i.size 1|none=>false)|none=>false)|_=>false)=true:=by kernel_rfl
theorem ty92:tyB Tryz.prog 92 true 5=true:=by kernel_rfl
theorem in92:inZ Tryz.prog 92=some (some (.agg #[.slice none 0 0,.int .i64 0,.int .i64 0,.slice none 0 0,.bool false]),5,72):=by kernel_rfl
theorem st92:stB Tryz.prog 92=true:=by kernel_rfl
theorem fl92_0:fldB Tryz.prog 92 0 0=true:=by kernel_rfl
theorem fl92_1:fldB Tryz.prog 92 1 1=true:=by kernel_rfl
theorem fl92_2:fldB Tryz.prog 92 2 2=true:=by kernel_rfl
theorem fl92_3:fldB Tryz.prog 92 3 3=true:=by kernel_rfl
theorem fl92_4:fldB Tryz.prog 92 4 4=true:=by kernel_rfl
theorem ty104:tyB Tryz.prog 104 false 1=true:=by kernel_rfl
theorem ty116:tyB Tryz.prog 116 false 1=true:=by kernel_rfl
theorem in118:inZ Tryz.prog 118=some (some (.agg #[.slice none 0 0,.slice none 0 0,.int .i64 0,.slice none 0 0,.slice none 0 0,.int .i64 0,.slice none 0 0,.map none]),8,144):=by kernel_rfl
theorem st118:stB Tryz.prog 118=true:=by kernel_rfl
theorem fl118_0:fldB Tryz.prog 118 0 0=true:=by kernel_rfl
theorem fp118_0:(match Tryz.prog.underlying 118 with|some (.struct fs)=>(match fs[0]? with|some f=>Nat.beq f.offset 0&&(match Tryz.prog.info? f.type with|some i=>Nat.beq i.size 2|none=>false)|none=>false)|_=>false)=true:=by kernel_rfl
theorem fl118_1:fldB Tryz.prog 118 1 2=true:=by kernel_rfl
theorem fp118_1:(match Tryz.prog.underlying 118 with|some (.struct fs)=>(match fs[1]? with|some f=>Nat.beq f.offset 2&&(match Tryz.prog.info? f.type with|some i=>Nat.beq i.size 3|none=>false)|none=>false)|_=>false)=true:=by kernel_rfl
theorem fl118_2:fldB Tryz.prog 118 2 5=true:=by kernel_rfl
theorem fp118_2:(match Tryz.prog.underlying 118 with|some (.struct fs)=>(match fs[2]? with|some f=>Nat.beq f.offset 5&&(match Tryz.prog.info? f.type with|some i=>Nat.beq i.size 1|none=>false)|none=>false)|_=>false)=true:=by kernel_rfl
theorem fl118_3:fldB Tryz.prog 118 3 6=true:=by kernel_rfl
theorem fp118_3:(match Tryz.prog.underlying 118 with|some (.struct fs)=>(match fs[3]? with|some f=>Nat.beq f.offset 6&&(match Tryz.prog.info? f.type with|some i=>Nat.beq i.size 1|none=>false)|none=>false)|_=>false)=true:=by kernel_rfl
theorem fl118_4:fldB Tryz.prog 118 4 7=true:=by kernel_rfl
theorem fp118_4:(match Tryz.prog.underlying 118 with|some (.struct fs)=>(match fs[4]? with|some f=>Nat.beq f.offset 7&&(match Tryz.prog.info? f.type with|some i=>Nat.beq i.size 1|none=>false)|none=>false)|_=>false)=true:=by kernel_rfl
theorem Dw:tyB Tryz.prog 121 true 3=true:=by kernel_rfl
theorem in121:inZ Tryz.prog 121=some (some (.agg #[.int .i64 0,.int .i64 0,.int .i64 0]),3,24):=by kernel_rfl
theorem st121:stB Tryz.prog 121=true:=by kernel_rfl
theorem fl121_0:fldB Tryz.prog 121 0 0=true:=by kernel_rfl
theorem fp121_0:(match Tryz.prog.underlying 121 with|some (.struct fs)=>(match fs[0]? with|some f=>Nat.beq f.offset 0&&(match Tryz.prog.info? f.type with|some i=>Nat.beq i.size 1|none=>false)|none=>false)|_=>false)=true:=by kernel_rfl
theorem fl121_1:fldB Tryz.prog 121 1 1=true:=by kernel_rfl
theorem fp121_1:(match Tryz.prog.underlying 121 with|some (.struct fs)=>(match fs[1]? with|some f=>Nat.beq f.offset 1&&(match Tryz.prog.info? f.type with|some i=>Nat.beq i.size 1|none=>false)|none=>false)|_=>false)=true:=by kernel_rfl
theorem fl121_2:fldB Tryz.prog 121 2 2=true:=by kernel_rfl
theorem fp121_2:(match Tryz.prog.underlying 121 with|some (.struct fs)=>(match fs[2]? with|some f=>Nat.beq f.offset 2&&(match Tryz.prog.info? f.type with|some i=>Nat.beq i.size 1|none=>false)|none=>false)|_=>false)=true:=by kernel_rfl
theorem ty131:tyB Tryz.prog 131 false 1=true:=by kernel_rfl
theorem in131:inZ Tryz.prog 131=some (some (.slice none 0 0),1,24):=by kernel_rfl
theorem C9:tyB Tryz.prog 160 true 3=true:=by kernel_rfl
theorem in160:inZ Tryz.prog 160=some (some (.agg #[.bool false,.int .i64 0,.int .i64 0]),3,24):=by kernel_rfl
theorem st160:stB Tryz.prog 160=true:=by kernel_rfl
theorem fl160_0:fldB Tryz.prog 160 0 0=true:=by kernel_rfl
theorem fp160_0:(match Tryz.prog.underlying 160 with|some (.struct fs)=>(match fs[0]? with|some f=>Nat.beq f.offset 0&&(match Tryz.prog.info? f.type with|some i=>Nat.beq i.size 1|none=>false)|none=>false)|_=>false)=true:=by kernel_rfl
theorem fl160_1:fldB Tryz.prog 160 1 1=true:=by kernel_rfl
theorem fp160_1:(match Tryz.prog.underlying 160 with|some (.struct fs)=>(match fs[1]? with|some f=>Nat.beq f.offset 1&&(match Tryz.prog.info? f.type with|some i=>Nat.beq i.size 1|none=>false)|none=>false)|_=>false)=true:=by kernel_rfl
theorem Dm:fldB Tryz.prog 160 2 2=true:=by kernel_rfl
theorem fp160_2:(match Tryz.prog.underlying 160 with|some (.struct fs)=>(match fs[2]? with|some f=>Nat.beq f.offset 2&&(match Tryz.prog.info? f.type with|some i=>Nat.beq i.size 1|none=>false)|none=>false)|_=>false)=true:=by kernel_rfl
theorem ty175:tyB Tryz.prog 175 false 1=true:=by kernel_rfl
theorem in175:inZ Tryz.prog 175=some (some (.slice none 0 0),1,24):=by kernel_rfl
theorem ty178:tyB Tryz.prog 178 true 4=true:=by kernel_rfl
theorem in178:inZ Tryz.prog 178=some (some (.agg #[.int .i64 0,.bool false,.int .i64 0,.int .i64 0]),4,32):=by kernel_rfl
theorem st178:stB Tryz.prog 178=true:=by kernel_rfl
theorem fp178_0:(match Tryz.prog.underlying 178 with|some (.struct fs)=>(match fs[0]? with|some f=>Nat.beq f.offset 0&&(match Tryz.prog.info? f.type with|some i=>Nat.beq i.size 2|none=>false)|none=>false)|_=>false)=true:=by kernel_rfl
theorem fl178_1:fldB Tryz.prog 178 1 2=true:=by kernel_rfl
theorem fp178_1:(match Tryz.prog.underlying 178 with|some (.struct fs)=>(match fs[1]? with|some f=>Nat.beq f.offset 2&&(match Tryz.prog.info? f.type with|some i=>Nat.beq i.size 1|none=>false)|none=>false)|_=>false)=true:=by kernel_rfl
theorem fl178_2:fldB Tryz.prog 178 2 3=true:=by kernel_rfl
theorem fp178_2:(match Tryz.prog.underlying 178 with|some (.struct fs)=>(match fs[2]? with|some f=>Nat.beq f.offset 3&&(match Tryz.prog.info? f.type with|some i=>Nat.beq i.size 1|none=>false)|none=>false)|_=>false)=true:=by kernel_rfl
theorem De:tyB Tryz.prog 201 true 4=true:=by kernel_rfl
theorem in201:inZ Tryz.prog 201=some (some (.agg #[.int .i64 0,.int .i64 0,.int .i64 0,.int .i64 0]),4,32):=by kernel_rfl
theorem st201:stB Tryz.prog 201=true:=by kernel_rfl
theorem Ds:fldB Tryz.prog 201 0 0=true:=by kernel_rfl
theorem fp201_0:(match Tryz.prog.underlying 201 with|some (.struct fs)=>(match fs[0]? with|some f=>Nat.beq f.offset 0&&(match Tryz.prog.info? f.type with|some i=>Nat.beq i.size 1|none=>false)|none=>false)|_=>false)=true:=by kernel_rfl
theorem fl201_1:fldB Tryz.prog 201 1 1=true:=by kernel_rfl
theorem fp201_1:(match Tryz.prog.underlying 201 with|some (.struct fs)=>(match fs[1]? with|some f=>Nat.beq f.offset 1&&(match Tryz.prog.info? f.type with|some i=>Nat.beq i.size 1|none=>false)|none=>false)|_=>false)=true:=by kernel_rfl
theorem fl201_2:fldB Tryz.prog 201 2 2=true:=by kernel_rfl
theorem fp201_2:(match Tryz.prog.underlying 201 with|some (.struct fs)=>(match fs[2]? with|some f=>Nat.beq f.offset 2&&(match Tryz.prog.info? f.type with|some i=>Nat.beq i.size 1|none=>false)|none=>false)|_=>false)=true:=by kernel_rfl
theorem fl201_3:fldB Tryz.prog 201 3 3=true:=by kernel_rfl
theorem fp201_3:(match Tryz.prog.underlying 201 with|some (.struct fs)=>(match fs[3]? with|some f=>Nat.beq f.offset 3&&(match Tryz.prog.info? f.type with|some i=>Nat.beq i.size 1|none=>false)|none=>false)|_=>false)=true:=by kernel_rfl
end Go.Proofs.YtbecibmlbiebeaaGreat
namespace Go.Proofs.YtbecibmlbiebeaaGreat
open Go.RowKit Go.Q Go.D
end Go.Proofs.YtbecibmlbiebeaaGreat
namespace Go.Q
open Go.RowKit Go.ChangeShapes Go.WideShapes Go.Deep Go.D
def OpensT {α:Type} (c:α→List T) (P:Program) (t:TypeId):Prop:=
 ∀ {H:Type} {enc:TypeId×Value→H} {w:World} {base:Nat} {spare:Nat→Bool} {held:Bool} {fuel:Nat} {cs:List Value} {x:DataW H×List MemPlace},
  DataW.trod enc P w base spare held fuel t cs=some x→∃ (a:α) (F:List Nat),Cs false w (c a) cs F
theorem Cs_one {o:Bool} {w:World} {t:T} {v:Value} {F:List Nat} (h:C o w t v F):Cs o w [t] [v] F:=by
 unfold Cs
 exact⟨v,[],F,[],rfl,h,by unfold Cs;exact⟨rfl,rfl⟩,by simp⟩
theorem Cs_one_inv {o:Bool} {w:World} {t:T} {v:Value} {F:List Nat} (h:Cs o w [t] [v] F):C o w t v F:=by
 simp only [Cs] at h
 obtain⟨c,cr,G1,G2,h1,h2,⟨rfl,rfl⟩,rfl⟩:=h
 cases h1
 simpa using h2
theorem rws_build {α:Type} {c:α→List T} {w:World} {b k:Nat} (hc:∀ a,(c a).length=k):∀ (l:List α) (css:List (List Value)) (Fs:List (List Nat)) (off:Nat),css.length=l.length→Fs.length=l.length→
 (∀ (i:Nat) (x:α) (cs:List Value) (f:List Nat),l[i]?=some x→css[i]?=some cs→Fs[i]?=some f→Cs false w (c x) cs f)→
 (∀ (i:Nat) (cs:List Value) (j:Nat) (u:Value),css[i]?=some cs→cs[j]?=some u→w.cell? ⟨b,off+i*k+j,none⟩=some u)→Rws false w b k off (l.map c) Fs.flatten
 | [],css,Fs,off,h1,h2,h3,h4=>by
  have:Fs=[]:=List.eq_nil_of_length_eq_zero (by simpa using h2)
  subst this
  simp only [List.map_nil,List.flatten_nil]
  unfold Rws
  rfl
 | a::l,css,Fs,off,h1,h2,h3,h4=>by
  match css,Fs,h1,h2 with
  | cs::css,f::Fs,h1,h2=>
   have ih:=rws_build hc l css Fs (off+k) (by simpa using h1) (by simpa using h2) (fun i x cs' f' hx hcs hf=>h3 (i+1) x cs' f' (by simpa using hx) (by simpa using hcs) (by simpa using hf)) (fun i cs' j u hcs hu=>by
    have:=h4 (i+1) cs' j u (by simpa using hcs) hu
    rwa [show off+(i+1)*k+j=off+k+i*k+j by rw [Nat.succ_mul];omega] at this)
   rw [List.map_cons,List.flatten_cons]
   unfold Rws
   refine⟨f,Fs.flatten,hc a,Ms.of (h3 0 a cs f rfl rfl rfl) fun j u hj=>?_,ih,rfl⟩
   have:=h4 0 cs j u rfl hj
   simpa using this
theorem opensTSlice {α:Type} {c:α→List T} {k:Nat} {P:Program} {t e:TypeId} (ht:P.underlying t=some (.slice e)) (hk:P.cellsOf e=k) (hpos:0<k) (hc:∀ a,(c a).length=k) (he:OpensT c P e):OpensT (fun (l:List α)=>[T.sl k (l.map c)]) P t:=by
 intro H enc w base spare held fuel cs x h
 rcases open_slice ht h with ⟨rfl,_⟩|⟨a,len,cap,m,n,D,Pl,rfl,hb,hl,hm,hmm,_,hi⟩
 · refine⟨[],[],Cs_one ?_⟩
   unfold C
   exact⟨none,0,0,rfl,rfl,Nat.le_refl _,Nat.zero_le _,.inl ⟨rfl,rfl,fun h=>by cases h⟩⟩
 have hlm:len≤m:=by rw [hmm];split<;>omega
 have key:∀ q,q≤len→∃ (css:List (List Value)) (l:List α) (Fs:List (List Nat)),css.length=q∧l.length=q∧Fs.length=q∧
  (∀ (i:Nat) (x:α) (cs:List Value) (f:List Nat),l[i]?=some x→css[i]?=some cs→Fs[i]?=some f→Cs false w (c x) cs f)∧
  (∀ (i:Nat) (cs:List Value),css[i]?=some cs→w.cells? base (a.add (i*P.cellsOf e)) (P.cellsOf e)=some cs):=by
  intro q
  induction q with
  | zero=>intro _;exact⟨[],[],[],rfl,rfl,rfl,by simp,by simp⟩
  | succ q ih=>
   intro hq
   obtain⟨css,l,Fs,h1,h2,h3,h4,h5⟩:=ih (by omega)
   obtain⟨cs',hc,htr⟩:=hi q (by omega)
   obtain⟨y,f,hr⟩:=he htr
   refine⟨css++[cs'],l++[y],Fs++[f],by simp [h1],by simp [h2],by simp [h3],fun i x cs f' hx hcs hf=>?_,fun i cs hcs=>?_⟩
   · rcases Nat.lt_trichotomy i q with hlt|rfl|hgt
     · rw [List.getElem?_append_left (by omega)] at hx hcs hf
       exact h4 i x cs f' hx hcs hf
     · rw [List.getElem?_append_right (by omega),h2] at hx
       rw [List.getElem?_append_right (by omega),h1] at hcs
       rw [List.getElem?_append_right (by omega),h3] at hf
       simp at hx hcs hf
       subst hx;subst hcs;subst hf;exact hr
     rw [List.getElem?_eq_none (by simp;omega)] at hx
     cases hx
   rcases Nat.lt_trichotomy i q with hlt|rfl|hgt
   · rw [List.getElem?_append_left (by omega)] at hcs
     exact h5 i cs hcs
   · rw [List.getElem?_append_right (by omega),h1] at hcs
     simp at hcs
     subst hcs;exact hc
   rw [List.getElem?_eq_none (by simp;omega)] at hcs
   cases hcs
 obtain⟨css,l,Fs,h1,h2,h3,h4,h5⟩:=key len (Nat.le_refl _)
 by_cases h0:len=0
 · refine⟨l,[],Cs_one ?_⟩
   unfold C
   exact⟨some a,len,cap,rfl,by simpa using h2,hl,hm,.inl ⟨h0,rfl,fun h=>by cases h⟩⟩
 obtain⟨b,off,spot⟩:=a
 obtain⟨_,hlen0,hat0⟩:=World.cells?_some (h5 0 _ (List.getElem?_eq_getElem (by omega)))
 have c0:=hat0 0 (by omega)
 rw [List.getElem?_eq_getElem (by omega)] at c0
 have hlt:b<w.heap.size:=by
  have:=World.block_lt_of_cell? w _ c0
  simpa [Addr.add] using this
 have hspot:spot=none:=by
  have:=World.cell?_spot c0
  simpa [Addr.add] using this
 subst hspot
 refine⟨l,b::Fs.flatten,Cs_one ?_⟩
 unfold C
 refine⟨some ⟨b,off,none⟩,len,cap,rfl,by simpa using h2,hl,hm,.inr ⟨b,off,Fs.flatten,rfl,rfl,hlt,(by simp),rws_build hc l css Fs off (by omega) (by omega) h4 fun i cs j u hcs hu=>?_⟩⟩
 obtain⟨_,hlen',hat⟩:=World.cells?_some (h5 i cs hcs)
 have hj:j<cs.length:=(List.getElem?_eq_some_iff.1 hu).1
 have:=hat j (by omega)
 rw [hu] at this
 rw [←this,←hk]
 congr 1
 unfold Addr.add
 split<;>split<;>simp_all<;>omega
theorem OpensT.vl {α:Type} {c:α→List T} {P:Program} {t:TypeId} {v:Value} {H:Type} {enc:TypeId×Value→H} {w:World} {base:Nat} {spare:Nat→Bool} {held:Bool} {d:DataW H} {p:List MemPlace} (h:OpensT c P t)
 (hv:DataW.Trod enc P w base spare held t v d p):∃ (a:α) (F:List Nat),Cs false w (c a) v.cells.toList F:=by
 obtain⟨fuel,hf⟩:=hv
 exact h hf
end Go.Q
namespace Go.Q
open Go.RowKit Go.ChangeShapes Go.WideShapes Go.Deep Go.D
def cByte (n:Fin 256):List T:=[.v (.int .u8 (n.val:Int))]
theorem opensTByte {P:Program} {t:TypeId} (ht:P.underlying t=some (.int .u8)):OpensT cByte P t:=by
 intro H enc w base spare held fuel cs x h
 obtain⟨n,rfl,_,hw⟩:=DataW.trod_int ht h
 have hr:0≤n∧n<256:=by
  simp [Lit.wf,IntKind.min,IntKind.max] at hw
  have h1:IntKind.u8.bits=8:=rfl
  simp [IntKind.signed,h1] at hw
  omega
 obtain⟨k,rfl⟩:∃ k:Nat,n=(k:Int):=⟨n.toNat,by omega⟩
 exact⟨⟨k,by omega⟩,[],Cs_one (by unfold C;exact⟨rfl,rfl,rfl⟩)⟩
theorem byR_fin (l:List (Fin 256)):byR (l.map fun n=>(n.val:Int))=l.map cByte:=by
 unfold byR;rw [List.map_map];rfl
theorem C_fin {w:World} {l:List (Fin 256)} {v:Value} {F:List Nat} (h:C false w (.sl 1 (l.map cByte)) v F):C false w (.sl 1 (byR (l.map fun n=>(n.val:Int)))) v F:=by rw [byR_fin];exact h
theorem fin_range (l:List (Fin 256)):∀ n∈l.map (fun n=>(n.val:Int)),0≤n∧n<256:=fun n hn=>by
 obtain⟨k,_,rfl⟩:=List.mem_map.1 hn
 have:=k.isLt
 omega
end Go.Q
namespace Go.Proofs.YtbecibmlbiebeaaGreat
open Go.RowKit Go.Q Go.D
theorem lawsbig (bs:List Int):FnT Tryz.prog 7 [.one (.sl 1 (byR bs))] (.a (.one (.v (.bool (decide (1048576<bs.length)))))):=by
 refine A7 Tryz.func7 U (by kernel_rfl) Tryz.ntmps7 U fun hlen w0=>?_
 try simp [cPair,cToken,cExpr,cEdge,cGraph,cStep,cWalk,cChange,cBatch,cHistory,cPositions,cAutomaton,cProductStep,cPathAtom,cConjunction,cView,cDelta,cRegistered,cRegistry] at hlen
 refine Af (Ak ?_);refine Aa (Af (Ab ?_));refine Be (.t) Tryz.underlying22 ?_;refine AWl.gc ?_;refine Ag ?_;refine Aa (Am (Bp U U ?_))
 simp [byR];omega
end Go.Proofs.YtbecibmlbiebeaaGreat
