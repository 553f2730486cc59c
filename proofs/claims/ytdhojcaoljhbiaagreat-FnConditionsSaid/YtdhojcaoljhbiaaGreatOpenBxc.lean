import Derived.Test.YtdhojcaoljhbiaaGreatAbs12xc
import Derived.Test.YtdhojcaoljhbiaaGreatProg
import Derived.Deep.Slices
set_option linter.unusedVariables false
set_option linter.unusedSimpArgs false
open Go.Proofs.Tryz renaming prog->Z9,underlying58->Aat,underlying22->Aay,func5->Aaz,ntmps5->Aba
open Nat renaming beq->ZA,blt->ZB,ble->ZD,le_of_ble_eq_true->ZM,eq_of_beq_eq_true->Aad,zero_add->Aae,succ_mul->Aai,add_zero->Aam,le_refl->Aau,lt_trichotomy->Aav
open List renaming all_eq_true->ZC,mem_append->ZE,toArray->ZF,mem_cons->ZG,getElem?_eq_some_iff->ZH,length_append->ZI,getElem?_eq_getElem->ZJ,nodup_append->ZK,getElem?_append_right->ZN,length_take->ZO,getElem?_append_left->ZP,map_cons->ZS,take_append_drop->ZU,append_assoc->ZV,drop_left'->ZW,nodup_cons->ZX,mem_cons_of_mem->ZY,drop_eq_getElem_cons->Aac,drop_drop->Aaf,mem_of_getElem?->Aag,flatten_cons->Aah,mem_of_mem_take->Aaj,length_drop->Aak,nodup_nil->Aap,mem_map->Aas,getElem?_eq_none->Aaw
open Go.Value renaming int->ZL
open Go.World renaming setRow->ZQ,cell?_of_block->ZZ,cell?->Aal,cells?_some->Aax
open BitVec renaming ofInt->ZR,toNat_ofInt->Aan
open Bool renaming and_eq_true->ZT,not_eq_true'->Aao
open Array renaming getElem?_eq_some_iff->Aab,getD_eq_getD_getElem?->Aaq,getElem?_append->Aar
namespace Go.Q
open Go.RowKit
section
variable {P:Program} {ops:Array Oper} {o:Oper} {σ:St} {q:Bool}
def E.puv (id:Nat):E→E
 | .vw i x=>bif ZA i id then .no else .vw i x
 | .sb i k p q=>bif ZA i id then .no else .sb i k p q
 | e=>e
def A.puv (id:Nat):A→A
 | .one e=>.one (e.puv id)
 | .agg l=>.agg (l.map (E.puv id))
def S.puv (id:Nat):S→S
 | .a x=>.a (x.puv id)
 | .tup l=>.tup (l.map (A.puv id))
def R.puv (id:Nat):R→R
 | .row k rows=>.row k rows
 | .box cs=>.box (cs.map (E.puv id))
 | .hdr j x=>.hdr j x
 | .blk j b=>.blk j b
 | .kept K=>.kept K
 | .opq=>.opq
 | .cur g=>.cur g
 | .mp b f=>.mp b f
def St.upd (σ:St) (id:Nat) (r:R):St:={ σ with slots:=σ.slots.map (fun x=>(x.1,(x.2.1,x.2.2.puv id))),res:=FA (σ.res.map fun x=>(x.1,x.2.puv id)) id r }
theorem VE.puv {I:Ip} {w w':World} {id:Nat} {G:List Nat} (hc:Chg w w' (I.F id)) (hZ:∀ b,I.Z b→b∉I.F id) (hv:∀ i,i≠id→∀ b∈I.F i,b∉I.F id) {e:E} {c:Value} (h:VE I w e c) :
 VE (I.set id G (I.hd id) (I.B id)) w' (e.puv id) c:=by
 have hhd:∀ i,(I.set id G (I.hd id) (I.B id)).hd i=I.hd i:=fun i=>by simp only [Ip.set];split;(rename_i e;rw [e]);rfl
 have hB:∀ i,(I.set id G (I.hd id) (I.B id)).B i=I.B i:=fun i=>by simp only [Ip.set];split;(rename_i e;rw [e]);rfl
 cases e with
 | t x=>obtain⟨G,h1,h2⟩:=h;exact⟨G,h1.congr fun b hb=>hc.block b (h1.lt b hb) (hZ b (h2 b hb)),h2⟩
 | no=>trivial
 | rf i=>simp only [E.puv,VE,hhd] at h ⊢;exact h
 | tl i k j=>simp only [E.puv,VE,hhd] at h ⊢;exact h
 | pf i k j=>simp only [E.puv,VE,hhd] at h ⊢;exact h
 | vw i x=>
  simp only [E.puv]
  cases e:ZA i id with
  | true=>trivial
  | false=>
   obtain⟨G',h1,h2⟩:=h
   simp only [cond_false,VE,Ip.set,if_neg (BT e)]
   exact⟨G',h1.congr fun b hb=>hc.block b (h1.lt b hb) (hv i (BT e) b (h2 b hb)),h2⟩
 | pr i k p q=>simp only [E.puv,VE,hhd] at h ⊢;exact h
 | sb i k p q=>
  simp only [E.puv]
  cases e:ZA i id with
  | true=>trivial
  | false=>
   obtain⟨g,n,m,h1,h2,h3,h4⟩:=h
   have hb':=hc.block g h3 (hv i (BT e) g h2)
   simp only [cond_false,VE,Ip.set,if_neg (BT e)]
   exact⟨g,n,m,h1,h2,Ij hb' h3,(ZZ (a:=⟨g,_,none⟩) hb').trans h4⟩
 | pp i o=>simp only [E.puv,VE,hB] at h ⊢;exact h
theorem VEs.puv {I:Ip} {w w':World} {id:Nat} {G:List Nat} (hc:Chg w w' (I.F id)) (hZ:∀ b,I.Z b→b∉I.F id) (hv:∀ i,i≠id→∀ b∈I.F i,b∉I.F id):∀ {l:List E} {cs:List Value},VEs I w l cs→
 VEs (I.set id G (I.hd id) (I.B id)) w' (l.map (E.puv id)) cs
 | [],_,h=>h
 | _::_,_,⟨c,cr,h1,h2,h3⟩=>⟨c,cr,h1,h2.puv hc hZ hv,h3.puv hc hZ hv⟩
theorem VA.puv {I:Ip} {w w':World} {id:Nat} {G:List Nat} (hc:Chg w w' (I.F id)) (hZ:∀ b,I.Z b→b∉I.F id) (hv:∀ i,i≠id→∀ b∈I.F i,b∉I.F id) {x:A} {v:Value} (h:VA I w x v) :
 VA (I.set id G (I.hd id) (I.B id)) w' (x.puv id) v:=by
 cases x with
 | one e=>exact VE.puv hc hZ hv h
 | agg l=>obtain⟨cs,h1,h2⟩:=h;exact⟨cs,h1,h2.puv hc hZ hv⟩
theorem VAs.puv {I:Ip} {w w':World} {id:Nat} {G:List Nat} (hc:Chg w w' (I.F id)) (hZ:∀ b,I.Z b→b∉I.F id) (hv:∀ i,i≠id→∀ b∈I.F i,b∉I.F id):∀ {l:List A} {cs:List Value},VAs I w l cs→
 VAs (I.set id G (I.hd id) (I.B id)) w' (l.map (A.puv id)) cs
 | [],_,h=>h
 | _::_,_,⟨c,cr,h1,h2,h3⟩=>⟨c,cr,h1,h2.puv hc hZ hv,h3.puv hc hZ hv⟩
theorem VS.puv {I:Ip} {w w':World} {id:Nat} {G:List Nat} (hc:Chg w w' (I.F id)) (hZ:∀ b,I.Z b→b∉I.F id) (hv:∀ i,i≠id→∀ b∈I.F i,b∉I.F id) {x:Bool×S} {v:Value} (h:VS I w x v) :
 VS (I.set id G (I.hd id) (I.B id)) w' (x.1,x.2.puv id) v:=by
 obtain⟨p,x⟩:=x
 cases p
 · exact h
 cases x with
 | a x=>exact VA.puv hc hZ hv h
 | tup l=>obtain⟨vs,h1,h2⟩:=h;exact⟨vs,h1,h2.puv hc hZ hv⟩
theorem AU.upd {I:Ip} {w0:BB} {w w':World} {σ:St} {a:Act} (h:AU I w0 σ a w) {id:Nat} {r0:R} (h0:look σ.res id=some r0) (hc:Chg w w' (I.F id)) {G:List Nat} {r:R}
 (hG:G.Nodup∧∀ b∈G,w0.own b∧b<w'.heap.size∧DJ w' b∧(b∈I.F id∨w.heap.size≤b∨EK I w0 w b)) (hr:RR (I.set id G (I.hd id) (I.B id)) w' id r):AU (I.set id G (I.hd id) (I.B id)) w0 (σ.upd id r) a w':=by
 have base:=h.chg h0 hc hG hr
 have hZ:∀ b,I.Z b→b∉I.F id:=fun b hz hb=>(h.lt id b hb).2 hz
 have hv:∀ i,i≠id→∀ b∈I.F i,b∉I.F id:=fun i hi=>h.apart i id hi
 have key:∀ i r',look (σ.upd id r).res i=some r'→(i=id∧r'=r)∨(i≠id∧∃ y,look σ.res i=some y∧r'=y.puv id):=by
  intro i r' hi
  rcases HA _ _ _ _ _ hi with ⟨h1,h2,_⟩|⟨h1,h2⟩
  · exact .inl ⟨h1,h2⟩
  refine .inr ⟨h1,?_⟩
  rw [DY] at h2
  obtain⟨y,hy,e⟩:=Option.map_eq_some_iff.1 h2
  exact⟨y,hy,e.symm⟩
 have Foth:∀ i,i≠id→(I.set id G (I.hd id) (I.B id)).F i=I.F i:=fun i hi=>by simp [Ip.set,hi]
 have Fid:(I.set id G (I.hd id) (I.B id)).F id=G:=by simp [Ip.set]
 refine⟨base.ext,base.defers,h.size,fun i x hi=>?_,fun i r' hi=>?_,base.old,base.lt,fun i r' hi=>?_,base.apart⟩
 · have hi':look (σ.slots.map fun x=>(x.1,(x.2.1,x.2.2.puv id))) i=some x:=hi
   rw [DY (fun x:Bool×S=>(x.1,x.2.puv id))] at hi'
   obtain⟨y,hy,rfl⟩:=Option.map_eq_some_iff.1 hi'
   exact (h.slots i y hy).puv hc hZ hv
 · rcases key i r' hi with ⟨rfl,rfl⟩|⟨e,y,hy,rfl⟩
   · exact hr
   have:=h.res i y hy
   cases y with
   | row k rows=>
    have this:C true w (.sl k rows) (I.hd i) (I.F i):=this
    show C true w' (.sl k rows) _ _
    simp only [Ip.set,if_neg e]
    exact this.congr fun b hb=>hc.block b (this.lt b hb) (hv i e b hb)
   | box cs=>
    obtain⟨h1,vs,t,h2,h3⟩:=this
    refine⟨by simpa only [Ip.set,if_neg e] using h1,vs,t,?_,h3.puv hc hZ hv⟩
    simp only [Ip.set,if_neg e]
    exact (hc.block _ (Aab.1 h2).1 (hv i e _ (by rw [h1];simp))).trans h2
   | opq=>trivial
   | cur g=>
    have this:I.F i=[g.1]∧I.B i=g.1∧CuB I.Z w g:=this
    refine⟨by simpa only [Ip.set,if_neg e] using this.1,by simpa only [Ip.set,if_neg e] using this.2.1,?_⟩
    exact this.2.2.congr (hc.block _ this.2.2.lt (hv i e _ (by rw [this.1];simp))) fun b hb hz=>⟨hz,hc.block b hb (hZ b hz)⟩
   | mp b f=>
    have this:I.F i=[b]∧FL w b f:=this
    exact⟨by simpa only [Ip.set,if_neg e] using this.1,this.2.congr (hc.block _ this.2.lt (hv i e _ (by rw [this.1];simp)))⟩
   | kept K=>exact⟨by simp only [Ip.set,if_neg e];exact this.1,fun x hx=>⟨(hc.block x.1 (h.old _ (this.2 x hx).2) (hZ _ (this.2 x hx).2)).trans (this.2 x hx).1,(this.2 x hx).2⟩⟩
   | hdr j x=>
    refine⟨by simp only [Ip.set,if_neg e];exact this.1,fun k hk=>?_⟩
    have:=this.2 k hk
    simp only [Ip.set]
    split
    · rename_i e';rw [←e'];exact this
    exact this
   | blk j b=>
    refine⟨by simp only [Ip.set,if_neg e];exact this.1,fun k hk=>?_⟩
    have:=this.2 k hk
    simp only [Ip.set]
    split
    · rename_i e';rw [←e'];exact this
    exact this
 rcases key i r' hi with ⟨rfl,rfl⟩|⟨e,y,hy,rfl⟩
 · rw [Fid];exact⟨hG.1,fun b hb=>⟨(hG.2 b hb).1,(hG.2 b hb).2.2.1⟩⟩
 rw [Foth i e]
 exact⟨(h.own i y hy).1,fun b hb=>⟨((h.own i y hy).2 b hb).1,((h.own i y hy).2 b hb).2.chg hc (hv i e b hb)⟩⟩
theorem FD {α:Type} {l:List α} {i:Nat} {x:α} (y:α) (h:l[i]?=some x):l=l.take i++x::l.drop (i+1)∧l.set i y=l.take i++y::l.drop (i+1):=by
 obtain⟨hi,rfl⟩:=ZH.1 h
 refine⟨?_,List.set_eq_take_append_cons_drop .. |>.trans (if_pos hi)⟩
 rw [←Aac hi,ZU]
theorem C0 {id k i p:Nat} {t:TypeId} {x y:Operand} {rows:List (List T)} {row:List T} {A0:A} {σ':St} {ts:List T} {ag:Bool} {n:Nat} (ho:o.op=.store t x y) (hg:o.guard=none) (hdn:o.dst=none) (hy:Get σ true y A0) (ha:absorb σ (BK A0)=some (σ',ts))
 (hx:Get σ' true x (.one (.pr id k i p))) (hs:look σ'.res id=some (.row k rows)) (hi:rows[i]?=some row) (ht:tyB P t ag n=true) (he:(BK A0).all E.cell1=true) (hl:ZA (BK A0).length n=true) (hn:ZD (p+n) row.length=true) (hold:((row.drop p).take n).all T.isV=true) :
 Op1 P ops o σ (σ'.upd id (.row k (rows.set i (row.take p++ts++row.drop (p+n))))):=
 .skip hg fun w0 a w ⟨I,hr⟩=>by
  obtain⟨ds,hd1,hd2,hd3⟩:=(hy.va hr rfl).cells he
  have hdl:=FR hd2
  obtain⟨I',G,r1,r2,r3,r4,_⟩:=AU.absorb ha hr hd2
  obtain⟨g,n',m',hg1,hv⟩:VE I' w (.pr id k i p) (a.eval x):=hx.va r1 rfl
  have hC:C true w (.sl k rows) _ _:=r1.res id _ hs
  have own:=r1.own id _ hs
  have hlt:=r1.lt id
  simp only [C] at hC
  obtain⟨a0,len,cap,g1,g2,g3,g4,g5⟩:=hC
  have hlti:i<rows.length:=(ZH.1 hi).1
  have hn':=ZM hn
  have hl':=Aad hl
  rcases g5 with ⟨g5,_⟩|⟨b,off,Gr,rfl,hF,g6,g7,g8⟩
  · omega
  obtain⟨rfl,cur,e,hcur,hcs⟩:=g7 trivial
  rw [hg1] at g1
  cases g1
  rw [hF] at own hlt
  obtain⟨u1,xs,u2,u3,u4⟩:=g8.flat
  simp only [Aae] at u4
  obtain⟨s1,s2⟩:=FD (row.take p++ts++row.drop (p+n)) hi
  have hrow:row=row.take p++((row.drop p).take n++row.drop (p+n)):=by
   rw [←Aaf,ZU,ZU]
  have hrk:row.length=k:=u1 row (Aag hi)
  have e1:rows.flatten=((rows.take i).flatten++row.take p)++((row.drop p).take n++(row.drop (p+n)++(rows.drop (i+1)).flatten)):=by
   conv=>lhs;rw [s1,hrow]
   simp
  rw [e1] at u2
  obtain⟨x1,x23,F1,F23,rfl,rfl,v1,v2,v3⟩:=u2.split
  obtain⟨x2,x3,F2,F3,rfl,rfl,v4,v5,v6⟩:=v2.split
  obtain⟨_,rfl⟩:=ED (o':=true) (w':=w) hold v4
  have hfl:((rows.take i).flatten).length=i*k:=by
   have key:∀ (l:List (List T)),(∀ r∈l,r.length=k)→l.flatten.length=l.length*k:=by
    intro l
    induction l with
    | nil=>intro _;simp
    | cons r l ih=>intro h;rw [Aah,ZI,ih fun r hr=>h r (by simp [hr]),h r (by simp),List.length_cons,Aai];omega
   rw [key _ fun r hr=>u1 r (Aaj hr),ZO,Nat.min_eq_left (Nat.le_of_lt hlti)]
  have lx1:x1.length=i*k+p:=by rw [v3,ZI,hfl,ZO];omega
  have lx2:x2.length=n:=by rw [v6,ZO,Aak];omega
  have hdn':ds.length=n:=hdl.trans hl'
  have htot:(i*k+p)+n+x3.length=rows.length*k:=by
   have:=u3
   simp only [ZI] at this
   omega
  have hcurl:cur.toList=x1++(x2++x3)++cur.toList.drop (x1++(x2++x3)).length:=by
   apply List.ext_getElem?;intro j
   by_cases hj:j<(x1++(x2++x3)).length
   · have:=u4 j _ (ZJ hj)
     simp only [Aal,hcur] at this
     rw [ZP hj,ZJ hj]
     simpa using this
   rw [ZN (by omega),List.getElem?_drop]
   congr 1
   omega
  have hst:=run_storeCells_at P g (i*k+p) e ds 0 cur w hcur (by rw [hcs];have:=Nat.mul_le_mul_right k g3;rw [←g2] at this;simp;omega) hd3
  simp only [Aam] at hst
  have hnew:cur.toList.take (i*k+p)++ds++cur.toList.drop (i*k+p+ds.length)=x1++(ds++x3)++cur.toList.drop (x1++(x2++x3)).length:=by
   rw [hcurl]
   generalize cur.toList.drop (x1++(x2++x3)).length=tl
   have t1:(x1++(x2++x3)++tl).take (i*k+p)=x1:=by rw [ZV,←lx1,List.take_left' rfl]
   have t2:(x1++(x2++x3)++tl).drop (i*k+p+ds.length)=x3++tl:=by
    rw [←Aaf,ZV,←lx1,ZW rfl,ZV,hdn',←lx2,ZW rfl]
   rw [t1,t2]
   have t3:(x1++(x2++x3)++tl).drop (x1++(x2++x3)).length=tl:=ZW rfl
   simp
  rw [hnew] at hst
  generalize htl:cur.toList.drop (x1++(x2++x3)).length=tl at hst
  have hb:g∈I'.F id:=by rw [hF];simp
  have hgG:∀ c∈G,c≠g:=fun c hc e=>(r4 c hc).2.2.2.2 id (e▸hb)
  have hgF:∀ c∈F1++([]++F3),c≠g:=fun c hc e=>(ZX.1 own.1).1 (e▸hc)
  have hch:Chg w (w.setRow g (x1++(ds++x3)++tl).toArray) (I'.F id):=
   ⟨rfl,rfl,rfl,by simp [ZQ],fun c _ hk=>setRow_other w g c _ (fun e=>hk (by rw [hF,e];simp))⟩
  have hset:=setRow_heap w g cur (x1++(ds++x3)++tl).toArray e (0,0) hcur
  have hoth:∀ c,c≠g→(w.setRow g (x1++(ds++x3)++tl).toArray).heap[c]?=w.heap[c]?:=fun c hc=>setRow_other w g c _ hc
  have hsz:(w.setRow g (x1++(ds++x3)++tl).toArray).heap.size=w.heap.size:=by simp [ZQ]
  refine⟨w.setRow g (x1++(ds++x3)++tl).toArray,?_,I'.set id (g::(F1++(G++F3))) (I'.hd id) (I'.B id),?_⟩
  · have hsz':(a.eval y).cells.size=n:=by rw [hd1];simpa using hdn'
    simp [execOp,ho,hv,Instr.storeAt,Instr.sureAddr,storeVar,E6 ht,hd1,hst]
    omega
  rw [hdn]
  refine r1.upd hs hch ⟨ZX.2 ⟨fun hm=>?_,?_⟩,fun c hc=>?_⟩ ?_
  · rcases ZE.1 hm with hm|hm
    · exact hgF g (by simp [hm]) rfl
    rcases ZE.1 hm with hm|hm
    · exact hgG g hm rfl
    exact hgF g (by simp [hm]) rfl
  · have hnd:=(ZX.1 own.1).2
    rw [List.nil_append] at hnd
    obtain⟨d1,d2,d3⟩:=ZK.1 hnd
    have hGF:∀ c∈G,c∉F1∧c∉F3:=fun c hc=>⟨fun h=>(r4 c hc).2.2.2.2 id (by rw [hF];simp [h]),fun h=>(r4 c hc).2.2.2.2 id (by rw [hF];simp [h])⟩
    refine ZK.2 ⟨d1,ZK.2 ⟨r3,d2,fun c hc d hd e=>(hGF c hc).2 (e▸hd)⟩,fun c hc d hd e=>?_⟩
    rcases ZE.1 hd with hd|hd
    · exact (hGF d hd).1 (e▸hc)
    exact d3 c hc d hd e
  · by_cases hcg:c=g
    · subst hcg
      exact⟨(own.2 c (by simp)).1,by rw [hsz];exact g6,⟨.inl _,e,hset⟩,.inl hb⟩
    have hold':c∈F1++([]++F3)→w0.own c∧c<(w.setRow g (x1++(ds++x3)++tl).toArray).heap.size∧DJ (w.setRow g (x1++(ds++x3)++tl).toArray) c∧(c∈I'.F id∨w.heap.size≤c∨EK I' w0 w c):=fun hm=>by
     obtain⟨o1,cc,ee,o2⟩:=own.2 c (ZY _ hm)
     exact⟨o1,by rw [hsz];exact (hlt c (ZY _ hm)).1,⟨cc,ee,(hoth c hcg).trans o2⟩,.inl (by rw [hF];exact ZY _ hm)⟩
    rcases ZG.1 hc with hc|hc
    · exact absurd hc hcg
    rcases ZE.1 hc with hc|hc
    · exact hold' (by simp [hc])
    rcases ZE.1 hc with hc|hc
    · obtain⟨f1,f2,⟨cc,ee,f3⟩,f4⟩:=r4 c hc
      exact⟨f1,by rw [hsz];exact f2,⟨cc,ee,(hoth c hcg).trans f3⟩,.inr (.inr ⟨f1,f2,⟨cc,ee,f3⟩,f4⟩)⟩
    exact hold' (by simp [hc])
  show C true _ _ _ _
  simp only [Ip.set,if_true]
  unfold C
  refine⟨_,_,_,hg1,by simpa using g2,g3,g4,.inr ⟨g,0,F1++(G++F3),rfl,rfl,by rw [hsz];exact g6,fun _=>⟨rfl,_,e,hset,?_⟩,Rws.of (xs:=x1++(ds++x3)) (fun r hm=>?_) ?_ fun j u hj=>?_⟩⟩
  · rw [←hcs]
    have:=congrArg List.length hcurl
    rw [htl] at this
    simp only [ZI,Array.length_toList] at this
    simp only [List.size_toArray,ZI]
    omega
  · rcases List.mem_or_eq_of_mem_set hm with hm|rfl
    · exact u1 r hm
    have:=Cs.len r2
    simp only [ZI,ZO,Aak]
    omega
  · rw [s2]
    have ef:(rows.take i++(row.take p++ts++row.drop (p+n))::rows.drop (i+1)).flatten=((rows.take i).flatten++row.take p)++(ts++(row.drop (p+n)++(rows.drop (i+1)).flatten)):=by simp
    rw [ef]
    exact (v1.congr fun c hc=>hoth c (hgF c (by simp [hc]))).append ((r2.congr fun c hc=>hoth c (hgG c hc)).append (v5.congr fun c hc=>hoth c (hgF c (by simp [hc]))))
  simp only [Aal,hset,Aae]
  simp only [Option.isSome_none,Bool.false_eq_true,if_false,List.getElem?_toArray]
  rw [ZP (ZH.1 hj).1]
  exact hj
theorem YI {t t':TypeId} {x y:Operand} {n:Int} {m:Int} (ho:o.op=.binOp .shl t x y t') (hg:Grd ops o σ q) (hd:o.dst.all (fun d=>ZB d σ.n)=true) (hx:Get σ q x (.one (.t (.v (.int .i64 n))))) (hy:Get σ q y (.one (.t (.v (.int .i64 m)))))
 (hb:q=true→0≤m∧m≤63∧0≤n∧n*2^m.toNat≤9223372036854775807):Op1 P ops o σ (σ.put o.dst (q,.a (.one (.t (.v (.int .i64 (n*2^m.toNat))))))):=
 D9 ho hg hd hx hy CP (h:=fun hq w=>by
  obtain⟨h1,h2,h3,h4⟩:=hb hq
  have e1:min m.toNat IntKind.i64.bits=m.toNat:=by simp [IntKind.bits];omega
  have h5:0≤n*2^m.toNat:=Int.mul_nonneg h3 (Int.pow_nonneg (by omega))
  simp only [binOp,Op.shift,e1]
  rw [if_neg (by omega),Gn ⟨by omega,h4⟩]
  rfl)
theorem HN {t t':TypeId} {x y:Operand} {n m:Int} (ho:o.op=.binOp .or t x y t') (hg:Grd ops o σ q) (hd:o.dst.all (fun d=>ZB d σ.n)=true) (hx:Get σ q x (.one (.t (.v (.int .i64 n))))) (hy:Get σ q y (.one (.t (.v (.int .i64 m)))))
 (hb:q=true→0≤n∧n≤9223372036854775807∧0≤m∧m≤9223372036854775807):Op1 P ops o σ (σ.put o.dst (q,.a (.one (.t (.v (.int .i64 ((n.toNat|||m.toNat:Nat):Int))))))):=
 D9 ho hg hd hx hy CP (h:=fun hq w=>by
  obtain⟨h1,h2,h3,h4⟩:=hb hq
  have b1:n.toNat<2^63:=by omega
  have b2:m.toNat<2^63:=by omega
  have b3:=Nat.or_lt_two_pow b1 b2
  have e1:(ZR 64 n|||ZR 64 m).toNat=(n.toNat|||m.toNat):=by
   rw [BitVec.toNat_or,Aan,Aan]
   congr 1
   · omega
   omega
  simp only [binOp,Op.intBits]
  simp only [ne_eq,not_true_eq_false,if_false]
  show (pure (ZL .i64 (IntKind.i64.wrap ((ZR 64 n|||ZR 64 m).toNat:Int))):Sem Value).run P w=_
  rw [e1,Gn ⟨by omega,by omega⟩]
  rfl)
end
section
variable {P:Program} {ops:Array Oper} {o:Oper} {σ':St} {w0:BB} {Q:Exit→St→Prop} {n:Nat} {sl:List (Nat×(Bool×S))} {rs:List (Nat×R)} {l:List Oper}
theorem LW {σ:St} {rl:List (Nat×R)} (h:∀ z∈rl,σ.has z.1=false):(rl.all fun x=>!σ.has x.1)=true:=by
 rw [ZC]
 intro x hx
 rw [h x hx]
 rfl
theorem Dd {σ:St} {q p:Bool} {t:Nat} {x:List A} (ho:o.op=.move (.tmp t)) (hg:Grd ops o σ q) (hd:o.dst.all (fun d=>ZB d σ.n)=true) (hx:look σ.slots t=some (p,.tup x)) (hp:q=true→p=true):Op1 P ops o σ (σ.put o.dst (q,.tup x)):=
 .val hg hd fun I w0 a w hr hq=>by
  have:=hr.slots _ _ hx
  rw [hp hq] at this
  exact⟨a.eval (.tmp t),by simp [execOp,ho],this⟩
theorem Bp {d id:Nat} {r:R} {x:Bool×S} (ho:Op1 P ops o ⟨n,sl,rs⟩ ((σ'.add id r).put o.dst x)) (hd:o.dst=some d) (h:AWl P w0 ops Q l ⟨σ'.n,(d,x)::σ'.slots,(id,r)::σ'.res⟩):AWl P w0 ops Q (o::l) ⟨n,sl,rs⟩:=
 AWl.op ho (by rw [hd];exact h)
def S8 (id:Nat) (sl:List (Nat×(Bool×S))):List (Nat×(Bool×S)):=sl.map fun x=>(x.1,(x.2.1,x.2.2.puv id))
def So (id:Nat) (r:R) (rs:List (Nat×R)):List (Nat×R):=FA (rs.map fun x=>(x.1,x.2.puv id)) id r
theorem Cu {id:Nat} {r:R} (ho:Op1 P ops o ⟨n,sl,rs⟩ (σ'.upd id r)) (h:AWl P w0 ops Q l ⟨σ'.n,S8 id σ'.slots,So id r σ'.res⟩):AWl P w0 ops Q (o::l) ⟨n,sl,rs⟩:=AWl.op ho h
theorem Dv {d id:Nat} {r:R} {x:Bool×S} (ho:Op1 P ops o ⟨n,sl,rs⟩ ((σ'.chg id r).put o.dst x)) (hd:o.dst=some d) (h:AWl P w0 ops Q l ⟨σ'.n,(d,x)::WV id σ'.slots,X7 id r σ'.res⟩):AWl P w0 ops Q (o::l) ⟨n,sl,rs⟩:=
 AWl.op ho (by rw [hd];exact h)
end
def E.nv (id:Nat):E→Bool
 | .vw i _=>!(ZA i id)
 | .sb i _ _ _=>!(ZA i id)
 | _=>true
def A.nv (id:Nat):A→Bool
 | .one e=>e.nv id
 | .agg l=>l.all (E.nv id)
def S.nv (id:Nat):S→Bool
 | .a x=>x.nv id
 | .tup l=>l.all (A.nv id)
def R.nv (id:Nat):R→Bool
 | .row _ _=>true
 | .box cs=>cs.all (E.nv id)
 | .hdr _ _=>true
 | .blk _ _=>true
 | .kept _=>true
 | .opq=>true
 | .cur _=>true
 | .mp _ _=>true
def nvB (id:Nat) (sl:List (Nat×(Bool×S))) (rs:List (Nat×R)):Bool:=sl.all (fun x=>x.2.2.nv id)&&rs.all (fun x=>x.2.nv id)
theorem E.puv_nv {id:Nat} {e:E} (h:e.nv id=true):e.puv id=e:=by
 cases e with
 | vw i x=>simp only [E.nv,Aao] at h;simp only [E.puv,h,cond_false]
 | sb i k p q=>simp only [E.nv,Aao] at h;simp only [E.puv,h,cond_false]
 | _=>rfl
theorem EH {α:Type} {f:α→α}:∀ {l:List α},(∀ x∈l,f x=x)→l.map f=l
 | [],_=>rfl
 | x::l,h=>by rw [ZS,h x (by simp),EH fun y hy=>h y (by simp [hy])]
theorem A.puv_nv {id:Nat} {x:A} (h:x.nv id=true):x.puv id=x:=by
 cases x with
 | one e=>simp only [A.puv,E.puv_nv h]
 | agg l=>simp only [A.puv];rw [EH fun e he=>E.puv_nv (ZC.1 h e he)]
theorem S.puv_nv {id:Nat} {x:S} (h:x.nv id=true):x.puv id=x:=by
 cases x with
 | a x=>simp only [S.puv,A.puv_nv h]
 | tup l=>simp only [S.puv];rw [EH fun e he=>A.puv_nv (ZC.1 h e he)]
theorem R.puv_nv {id:Nat} {x:R} (h:x.nv id=true):x.puv id=x:=by
 cases x with
 | row k rows=>rfl
 | box cs=>simp only [R.puv];rw [EH fun e he=>E.puv_nv (ZC.1 h e he)]
 | hdr j x=>rfl
 | blk j b=>rfl
 | kept K=>rfl
 | opq=>rfl
 | cur g=>rfl
 | mp b f=>rfl
def T5:List E→List E→List E
 | [],cs=>cs
 | e::l,cs=>e::T5 l (cs.drop 1)
def Us:List E→Nat→List E→List E
 | cs,0,l=>T5 l cs
 | [],_+1,l=>l
 | c::cs,p+1,l=>c::Us cs p l
theorem Rj:∀ (l cs:List E),T5 l cs=l++cs.drop l.length
 | [],cs=>rfl
 | e::l,cs=>by rw [T5,Rj l];simp
theorem Tz:∀ (cs:List E) (p:Nat) (l:List E),p≤cs.length→Us cs p l=MC cs p l
 | cs,0,l,_=>by unfold Us;rw [Rj];simp [MC]
 | [],p+1,l,h=>by simp at h
 | c::cs,p+1,l,h=>by rw [Us,Tz cs p l (by simpa using h)];simp [MC,Nat.succ_add]
section
variable {P:Program} {ops:Array Oper} {o:Oper} {σ:St} {q:Bool}
theorem Sn {id:Nat} {r:R} (h:nvB id σ.slots σ.res=true):σ.upd id r=⟨σ.n,σ.slots,FA σ.res id r⟩:=by
 simp only [nvB,ZT,ZC] at h
 unfold St.upd
 rw [EH fun x hx=>?_,EH fun x hx=>?_]
 · rw [R.puv_nv (h.2 x hx)]
 rw [S.puv_nv (h.1 x hx)]
theorem Oy {id p:Nat} {t:TypeId} {x y:Operand} {cs:List E} {A0:A} {ag:Bool} {n:Nat} (ho:o.op=.store t x y) (hg:o.guard=none) (hdn:o.dst=none) (hx:Get σ true x (.one (.pp id p))) (hy:Get σ true y A0) (hs:look σ.res id=some (.box cs)) (ht:tyB P t ag n=true)
 (he:(BK A0).all E.cell1=true) (hl:ZA (BK A0).length n=true) (hn:ZD (p+n) cs.length=true) (hv1:nvB id σ.slots σ.res=true) (hv2:(BK A0).all (E.nv id)=true):Op1 P ops o σ ⟨σ.n,σ.slots,FA σ.res id (.box (Us cs p (BK A0)))⟩:=
 .skip hg fun w0 a w ⟨I,hr⟩=>by
  have hv:a.eval x=.pointer (some ⟨I.B id,p,none⟩):=hx.va hr rfl
  obtain⟨ds,h1,h2,h3⟩:=(hy.va hr rfl).cells he
  obtain⟨hF,vs,ty,g1,g2⟩:=hr.res id _ hs
  have hn':=ZM hn
  have hl':=Aad hl
  have e1:=FR h2
  have e2:=FR g2
  have hst:=run_storeCells_at P (I.B id) p ty ds 0 vs.toArray w g1 (by simp;omega) h3
  simp only [Aam] at hst
  have hsz:(a.eval y).cells.size=n:=by rw [h1];simp;omega
  have hc:Chg w (w.setRow (I.B id) (vs.take p++ds++vs.drop (p+ds.length)).toArray) (I.F id):=
   ⟨rfl,rfl,rfl,by simp [ZQ],fun k _ hk=>setRow_other w (I.B id) k _ (fun e=>hk (by rw [hF,e];simp))⟩
  refine⟨w.setRow (I.B id) (vs.take p++ds++vs.drop (p+ds.length)).toArray,?_,I.set id [I.B id] (I.hd id) (I.B id),?_⟩
  · simp [execOp,ho,hv,Instr.storeAt,Instr.sureAddr,storeVar,E6 ht,h1,hst]
    omega
  rw [hdn]
  have hcs:cs.all (E.nv id)=true:=by
   have key:∀ (l:List (Nat×R)),(l.all fun x=>x.2.nv id)=true→look l id=some (.box cs)→cs.all (E.nv id)=true:=by
    intro l
    induction l with
    | nil=>intro _ h;cases h
    | cons y l ih=>
     obtain⟨j,y⟩:=y
     intro ha hk
     simp only [List.all_cons,ZT] at ha
     rw [AF] at hk
     split at hk
     · cases hk;exact ha.1
     exact ih ha.2 hk
   simp only [nvB,ZT] at hv1
   exact key _ hv1.2 hs
  have hall:∀ e∈MC cs p (BK A0),e.puv id=e:=by
   intro e hm
   simp only [MC,ZE] at hm
   rcases hm with (hm|hm)|hm
   · exact E.puv_nv (ZC.1 hcs e (Aaj hm))
   · exact E.puv_nv (ZC.1 hv2 e hm)
   exact E.puv_nv (ZC.1 hcs e (List.mem_of_mem_drop hm))
  rw [←Sn hv1,Tz cs p _ (by omega)]
  refine hr.upd hs hc ⟨by simp,fun b hb=>?_⟩ ⟨by simp [Ip.set],_,ty,by simp only [Ip.set,if_true];exact setRow_heap w (I.B id) vs.toArray _ ty (0,0) g1,?_⟩
  · simp only [List.mem_singleton] at hb
    subst hb
    exact⟨((hr.own id _ hs).2 _ (by rw [hF];simp)).1,by simp [ZQ];exact (Aab.1 g1).1,⟨.inl _,ty,setRow_heap w (I.B id) vs.toArray _ ty (0,0) g1⟩,.inl (by rw [hF];simp)⟩
  have hlist:VEs I w (MC cs p (BK A0)) (vs.take p++ds++vs.drop (p+ds.length)):=by
   rw [MC,←e1]
   exact Fj (Fj (HL p g2) h2) (GW _ g2)
  have:=hlist.puv (G:=[I.B id]) hc (fun b hz hb=>(hr.lt id b hb).2 hz) (fun i hi=>hr.apart i id hi)
  rwa [EH hall] at this
variable {w0:BB} {Q:Exit→St→Prop} {n:Nat} {sl:List (Nat×(Bool×S))} {rs:List (Nat×R)} {l:List Oper}
theorem AWl.chgb {rs':List (Nat×R)} (ho:Op1 P ops o ⟨n,sl,rs⟩ ⟨n,sl,rs'⟩) (h:AWl P w0 ops Q l ⟨n,sl,rs'⟩):AWl P w0 ops Q (o::l) ⟨n,sl,rs⟩:=AWl.op ho h
end
section
variable {P:Program} {ops:Array Oper} {o:Oper} {σ:St} {q:Bool}
def W2 (w:World) (x':V0) (u v:Value) (F:List Nat) (e:Ending) (w':World):Prop:=
 e=.returned u∧∃ F',V0r true w' x' v F'∧F'.Nodup∧(∀ b∈F',(w.heap.size≤b∨b∈F)∧DJ w' b)∧Chg w w' F
def FnM (P:Program) (f:FuncId) (x:V0) (k:Value) (x':V0) (u:Value):Prop:=
 Ek P f∧u.oneCell'=true∧∀ w v F,Good w F→V0r true w x v F→F.Nodup→(∀ b∈F,DJ w b)→Calls P f (ZF [v,k]) w (W2 w x' u v F)
def E.puvL (ids:List Nat):E→E
 | .vw i x=>bif BI ids i then .no else .vw i x
 | .sb i k p q=>bif BI ids i then .no else .sb i k p q
 | e=>e
def A.puvL (ids:List Nat):A→A
 | .one e=>.one (e.puvL ids)
 | .agg l=>.agg (l.map (E.puvL ids))
def S.puvL (ids:List Nat):S→S
 | .a x=>.a (x.puvL ids)
 | .tup l=>.tup (l.map (A.puvL ids))
def R.puvL (ids:List Nat):R→R
 | .row k rows=>.row k rows
 | .box cs=>.box (cs.map (E.puvL ids))
 | .hdr j x=>.hdr j x
 | .blk j b=>.blk j b
 | .kept K=>.kept K
 | .opq=>.opq
 | .cur g=>.cur g
 | .mp b f=>.mp b f
def Ip.newF (I:Ip) (ids:List Nat) (NF:Nat→List Nat):Ip:=⟨I.Z,fun i=>bif BI ids i then NF i else I.F i,I.hd,I.B⟩
section
variable {I:Ip} {w w':World} {ids:List Nat} {NF:Nat→List Nat} {FF:List Nat}
theorem VE.puvL (hc:Chg w w' FF) (hZ:∀ b,I.Z b→b∉FF) (hv:∀ i,BI ids i=false→∀ b∈I.F i,b∉FF) {e:E} {c:Value} (h:VE I w e c):VE (I.newF ids NF) w' (e.puvL ids) c:=by
 cases e with
 | t x=>obtain⟨G,h1,h2⟩:=h;exact⟨G,h1.congr fun b hb=>hc.block b (h1.lt b hb) (hZ b (h2 b hb)),h2⟩
 | no=>trivial
 | rf i=>exact h
 | tl i k j=>exact h
 | pf i k j=>exact h
 | vw i x=>
  simp only [E.puvL]
  cases e:BI ids i with
  | true=>trivial
  | false=>
   obtain⟨G',h1,h2⟩:=h
   refine⟨G',h1.congr fun b hb=>hc.block b (h1.lt b hb) (hv i e b (h2 b hb)),fun b hb=>?_⟩
   show b∈(bif BI ids i then NF i else I.F i)
   rw [e];exact h2 b hb
 | pr i k p q=>exact h
 | sb i k p q=>
  simp only [E.puvL]
  cases e:BI ids i with
  | true=>trivial
  | false=>
   obtain⟨g,n,m,h1,h2,h3,h4⟩:=h
   have hb':=hc.block g h3 (hv i e g h2)
   refine⟨g,n,m,h1,?_,Ij hb' h3,(ZZ (a:=⟨g,_,none⟩) hb').trans h4⟩
   show g∈(bif BI ids i then NF i else I.F i)
   rw [e];exact h2
 | pp i o=>exact h
theorem VEs.puvL (hc:Chg w w' FF) (hZ:∀ b,I.Z b→b∉FF) (hv:∀ i,BI ids i=false→∀ b∈I.F i,b∉FF):∀ {l:List E} {cs:List Value},VEs I w l cs→VEs (I.newF ids NF) w' (l.map (E.puvL ids)) cs
 | [],_,h=>h
 | _::_,_,⟨c,cr,h1,h2,h3⟩=>⟨c,cr,h1,h2.puvL hc hZ hv,h3.puvL hc hZ hv⟩
theorem VA.puvL (hc:Chg w w' FF) (hZ:∀ b,I.Z b→b∉FF) (hv:∀ i,BI ids i=false→∀ b∈I.F i,b∉FF) {x:A} {v:Value} (h:VA I w x v):VA (I.newF ids NF) w' (x.puvL ids) v:=by
 cases x with
 | one e=>exact VE.puvL hc hZ hv h
 | agg l=>obtain⟨cs,h1,h2⟩:=h;exact⟨cs,h1,h2.puvL hc hZ hv⟩
theorem VAs.puvL (hc:Chg w w' FF) (hZ:∀ b,I.Z b→b∉FF) (hv:∀ i,BI ids i=false→∀ b∈I.F i,b∉FF):∀ {l:List A} {cs:List Value},VAs I w l cs→VAs (I.newF ids NF) w' (l.map (A.puvL ids)) cs
 | [],_,h=>h
 | _::_,_,⟨c,cr,h1,h2,h3⟩=>⟨c,cr,h1,h2.puvL hc hZ hv,h3.puvL hc hZ hv⟩
theorem VS.puvL (hc:Chg w w' FF) (hZ:∀ b,I.Z b→b∉FF) (hv:∀ i,BI ids i=false→∀ b∈I.F i,b∉FF) {x:Bool×S} {v:Value} (h:VS I w x v):VS (I.newF ids NF) w' (x.1,x.2.puvL ids) v:=by
 obtain⟨p,x⟩:=x
 cases p
 · exact h
 cases x with
 | a x=>exact VA.puvL hc hZ hv h
 | tup l=>obtain⟨vs,h1,h2⟩:=h;exact⟨vs,h1,h2.puvL hc hZ hv⟩
end
theorem SE {ids:List Nat} {i:Nat}:BI ids i=false↔i∉ids:=by
 rw [←CK];cases BI ids i<;>simp
theorem Kk {L:List (Nat×R)} {i:Nat} (h:look L i=none):i∉L.map (·.1):=by
 induction L with
 | nil=>simp
 | cons x L ih=>
  obtain⟨j,y⟩:=x
  rw [AF] at h
  by_cases e:j=i
  · rw [if_pos e] at h;cases h
  rw [if_neg e] at h
  have:=ih h
  simp only [ZS,ZG,not_or]
  exact⟨fun h=>e h.symm,this⟩
inductive MkL (σ:St):List E→List T→List T→List (Nat×R)→Prop where
 | nil:MkL σ [] [] [] []
 | v {x:Value} {es:List E} {ts ts':List T} {L:List (Nat×R)} (h:MkL σ es ts ts' L):MkL σ (.t (.v x)::es) (.v x::ts) (.v x::ts') L
 | rf {id k:Nat} {rows rows':List (List T)} {es:List E} {ts ts':List T} {L:List (Nat×R)} (hs:look σ.res id=some (.row k rows)) (hn:look L id=none) (h:MkL σ es ts ts' L):MkL σ (.rf id::es) (.sl k rows::ts) (.sl k rows'::ts') ((id,.row k rows')::L)
theorem MkL.own {I:Ip} {w0:BB} {w:World} {a:Act} (hr:AU I w0 σ a w) {es:List E} {ts ts':List T} {L:List (Nat×R)} (h:MkL σ es ts ts' L):∀ {cs:List Value},VEs I w es cs→
 ∃ F,Cs true w ts cs F∧F.Nodup∧(∀ b∈F,DJ w b)∧(∀ b,b∈F↔∃ i∈L.map (·.1),b∈I.F i)∧(∀ i∈L.map (·.1),∃ r0,look σ.res i=some r0):=by
 induction h with
 | nil=>intro cs hv;exact⟨[],by unfold Cs;exact⟨hv,rfl⟩,Aap,by simp,by simp,by simp⟩
 | v h ih=>
  rintro cs ⟨c,cr,rfl,h1,h2⟩
  obtain⟨F,g1,g2,g3,g4,g5⟩:=ih h2
  obtain⟨G,k1,_⟩:=h1
  simp only [C] at k1
  obtain⟨k1,rfl,k2⟩:=k1
  exact⟨F,by unfold Cs;exact⟨c,cr,[],F,rfl,by unfold C;exact⟨k1,rfl,k2⟩,g1,rfl⟩,g2,g3,g4,g5⟩
 | @rf id k rows rows' es ts ts' L hs hn h ih=>
  rintro cs ⟨c,cr,rfl,h1,h2⟩
  obtain⟨F,g1,g2,g3,g4,g5⟩:=ih h2
  have hC:C true w (.sl k rows) (I.hd id) (I.F id):=hr.res id _ hs
  have hc:c=I.hd id:=h1.1
  have own:=hr.own id _ hs
  have hni:=Kk hn
  refine⟨I.F id++F,by unfold Cs;exact⟨c,cr,_,_,rfl,hc▸hC,g1,rfl⟩,ZK.2 ⟨own.1,g2,fun x hx y hy e=>?_⟩,fun b hb=>?_,fun b=>?_,fun i hi=>?_⟩
  · subst e
    obtain⟨j,hj,hb⟩:=(g4 x).1 hy
    exact hr.apart id j (fun e=>hni (e▸hj)) x hx hb
  · rcases ZE.1 hb with hb|hb
    · exact (own.2 b hb).2
    exact g3 b hb
  · simp only [ZE,g4,ZS,ZG]
    constructor
    · rintro (hb|⟨j,hj,hb⟩)
      · exact⟨id,.inl rfl,hb⟩
      exact⟨j,.inr hj,hb⟩
    rintro⟨j,rfl|hj,hb⟩
    · exact .inl hb
    exact .inr ⟨j,hj,hb⟩
  rcases ZG.1 hi with rfl|hi
  · exact⟨_,hs⟩
  exact g5 i hi
theorem MkL.back {I:Ip} {w0:BB} {w w':World} {a:Act} (hr:AU I w0 σ a w) {es:List E} {ts ts':List T} {L:List (Nat×R)} (h:MkL σ es ts ts' L):∀ {cs:List Value} {F':List Nat},VEs I w es cs→Cs true w' ts' cs F'→F'.Nodup→
 ∃ NF:Nat→List Nat,(∀ i∈L.map (·.1),(NF i).Nodup∧∀ b∈NF i,b∈F')∧(∀ i∈L.map (·.1),∀ j∈L.map (·.1),i≠j→∀ b∈NF i,b∉NF j)∧∀ i r,look L i=some r→∃ k rows,r=.row k rows∧C true w' (.sl k rows) (I.hd i) (NF i):=by
 induction h with
 | nil=>intro cs F' _ _ _;exact⟨fun _=>[],by simp,by simp,fun i r h=>by cases h⟩
 | v h ih=>
  rintro cs F' ⟨c,cr,rfl,h1,h2⟩ hC hN
  simp only [Cs] at hC
  obtain⟨c',cr',G1,G2,e,k1,k2,rfl⟩:=hC
  cases e
  simp only [C] at k1
  obtain⟨_,rfl,_⟩:=k1
  exact ih h2 k2 hN
 | @rf id k rows rows' es ts ts' L hs hn h ih=>
  rintro cs F' ⟨c,cr,rfl,h1,h2⟩ hC hN
  rw [Cs] at hC
  obtain⟨c',cr',G1,G2,e,k1,k2,rfl⟩:=hC
  cases e
  obtain⟨n1,n2,n3⟩:=ZK.1 hN
  obtain⟨NF,g1,g2,g3⟩:=ih h2 k2 n2
  have hc:c=I.hd id:=h1.1
  have hni:=Kk hn
  have hself:∀ i∈L.map (·.1),i≠id:=fun i hi e=>hni (e▸hi)
  refine⟨fun i=>if i=id then G1 else NF i,fun i hi=>?_,fun i hi j hj hne b hb hb'=>?_,fun i r hl=>?_⟩
  · rcases ZG.1 hi with hi1|hi1
    · have hi1:i=id:=hi1
      simp only [if_pos hi1];exact⟨n1,fun b hb=>by simp [hb]⟩
    simp only [if_neg (hself i hi1)]
    exact⟨(g1 i hi1).1,fun b hb=>by simp [(g1 i hi1).2 b hb]⟩
  · rcases ZG.1 hi with hi1|hi1
    · have hi1:i=id:=hi1
      rcases ZG.1 hj with hj1|hj1
      · have hj1:j=id:=hj1
        exact hne (hi1.trans hj1.symm)
      simp only [if_pos hi1] at hb
      simp only [if_neg (hself j hj1)] at hb'
      exact n3 b hb b ((g1 j hj1).2 b hb') rfl
    simp only [if_neg (hself i hi1)] at hb
    rcases ZG.1 hj with hj1|hj1
    · have hj1:j=id:=hj1
      simp only [if_pos hj1] at hb'
      exact n3 b hb' b ((g1 i hi1).2 b hb) rfl
    simp only [if_neg (hself j hj1)] at hb'
    exact g2 i hi1 j hj1 hne b hb hb'
  rw [AF] at hl
  by_cases e:id=i
  · subst e
    rw [if_pos rfl] at hl
    cases hl
    exact⟨k,rows',rfl,by simp only [if_true];rw [←hc];exact k1⟩
  rw [if_neg e] at hl
  obtain⟨k',rows1,rfl,h4⟩:=g3 i r hl
  exact⟨k',rows1,rfl,by simp only [if_neg (fun h=>e h.symm:¬ i=id)];exact h4⟩
def Tg:A→List T→V0
 | .one _,ts=>.one (ts.headD (.v undef))
 | .agg _,ts=>.agg ts
theorem Tf {I:Ip} {w:World} {A0:A} {v:Value} (hv:VA I w A0 v):∃ cs,VEs I w (BK A0) cs∧∀ {oo:Bool} {w':World} {ts:List T} {F:List Nat},ts.length=(BK A0).length→(V0r oo w' (Tg A0 ts) v F↔Cs oo w' ts cs F):=by
 cases A0 with
 | one e=>
  refine⟨[v],⟨v,[],rfl,hv,rfl⟩,fun {oo w' ts F} hl=>?_⟩
  match ts,hl with
  | [t],_=>
   show C oo w' t v F↔_
   constructor
   · intro h;unfold Cs;exact⟨v,[],F,[],rfl,h,by unfold Cs;exact⟨rfl,rfl⟩,by simp⟩
   intro h
   rw [Cs] at h
   obtain⟨c,cr,G1,G2,e,h1,h2,rfl⟩:=h
   cases e
   rw [Cs] at h2
   obtain⟨_,rfl⟩:=h2
   simpa using h1
 | agg l=>
  obtain⟨cs,rfl,h2⟩:=hv
  refine⟨cs,h2,fun {oo w' ts F} hl=>?_⟩
  show (∃ cs',(Value.agg (ZF cs))=.agg (ZF cs')∧Cs oo w' ts cs' F)↔_
  constructor
  · rintro⟨cs',e,h⟩
    have:cs=cs':=by simpa using e
    subst this;exact h
  intro h;exact⟨cs,rfl,h⟩
theorem MkL.len {es:List E} {ts ts':List T} {L:List (Nat×R)} (h:MkL σ es ts ts' L):ts.length=es.length∧ts'.length=es.length:=by
 induction h with
 | nil=>simp
 | v _ ih=>simp [ih.1,ih.2]
 | rf _ _ _ ih=>simp [ih.1,ih.2]
def VB (hd:Nat→Value) (rs:List (Nat×R)):List (Nat×R):=rs.map fun x=>(x.1-500,.hdr (some x.1) (hd x.1))
theorem My {α:Type}:∀ (l m:List (Nat×α)) (i:Nat),look (l++m) i=match look l i with|some x=>some x|none=>look m i
 | [],_,_=>rfl
 | (j,y)::l,m,i=>by
  rw [List.cons_append,AF,AF]
  by_cases e:j=i
  · rw [if_pos e,if_pos e]
  rw [if_neg e,if_neg e];exact My l m i
theorem AU.heads {I:Ip} {w0:BB} {w:World} {a:Act} (h:AU I w0 σ a w) {hds:List (Nat×R)} (hh:∀ i r,look hds i=some r→I.F i=[]∧∃ j x,r=.hdr j x∧∀ m,j=some m→I.hd m=x):AU I w0 ⟨σ.n,σ.slots,σ.res++hds⟩ a w:=by
 have key:∀ i r,look (σ.res++hds) i=some r→look σ.res i=some r∨look hds i=some r:=fun i r hi=>by
  rw [My] at hi
  split at hi
  · rename_i x hx;rw [hx];exact .inl hi
  exact .inr hi
 refine⟨h.ext,h.defers,h.size,h.slots,fun i r hi=>?_,h.old,h.lt,fun i r hi=>?_,h.apart⟩
 · rcases key i r hi with hi|hi
   · exact h.res i r hi
   obtain⟨g1,j,x,rfl,g2⟩:=hh i r hi;exact⟨g1,g2⟩
 rcases key i r hi with hi|hi
 · exact h.own i r hi
 rw [(hh i r hi).1];simp
inductive MQ (hd:Nat→Value) (σ:St):List Nat→List E→List T→Prop where
 | nil:MQ hd σ [] [] []
 | v {x:Value} {ids:List Nat} {es:List E} {ts:List T} (h:MQ hd σ ids es ts):MQ hd σ ids (.t (.v x)::es) (.v x::ts)
 | rf {id k:Nat} {rows:List (List T)} {ids:List Nat} {es:List E} {ts:List T} (hs:look σ.res id=some (.row k rows)) (hh:look σ.res (id-500)=some (.hdr (some id) (hd id))) (hn:BI ids id=false) (h:MQ hd σ ids es ts):MQ hd σ (id::ids) (.rf id::es) (.sl k rows::ts)
theorem MQ.ok {hd:Nat→Value} {I:Ip} {w0:BB} {w:World} {a:Act} (hr:AU I w0 σ a w) {ids:List Nat} {es:List E} {ts:List T} (h:MQ hd σ ids es ts):∀ {I0:Ip} {w1:World} {cs:List Value},I0.hd=hd→VEs I0 w1 es cs→
 ∃ F,Cs true w ts cs F∧F.Nodup∧∀ b∈F,∃ i∈ids,∃ r,look σ.res i=some r∧b∈I.F i:=by
 induction h with
 | nil=>intro I0 w1 cs _ hv;exact⟨[],by unfold Cs;exact⟨hv,rfl⟩,Aap,by simp⟩
 | v h ih=>
  rintro I0 w1 cs e ⟨c,cr,rfl,h1,h2⟩
  obtain⟨F,g1,g2,g3⟩:=ih e h2
  obtain⟨G,k1,_⟩:=h1
  simp only [C] at k1
  obtain⟨k1,rfl,k2⟩:=k1
  exact⟨F,by unfold Cs;exact⟨c,cr,[],F,rfl,by unfold C;exact⟨k1,rfl,k2⟩,g1,rfl⟩,g2,g3⟩
 | @rf id k rows ids es ts hs hh hn h ih=>
  rintro I0 w1 cs e ⟨c,cr,rfl,h1,h2⟩
  obtain⟨F,g1,g2,g3⟩:=ih e h2
  have hC:C true w (.sl k rows) (I.hd id) (I.F id):=hr.res id _ hs
  have hhd:I.hd id=hd id:=(hr.res _ _ hh).2 id rfl
  have hc:c=I.hd id:=by rw [hhd,←e];exact h1.1
  refine⟨I.F id++F,by unfold Cs;exact⟨c,cr,_,_,rfl,hc▸hC,g1,rfl⟩,ZK.2 ⟨(hr.own id _ hs).1,g2,fun x hx y hy e=>?_⟩,fun b hb=>?_⟩
  · subst e
    obtain⟨j,hj,_,_,hb⟩:=g3 x hy
    exact hr.apart id j (fun e=>SE.1 hn (e▸hj)) x hx hb
  rcases ZE.1 hb with hb|hb
  · exact⟨id,by simp,_,hs,hb⟩
  obtain⟨j,hj,r,h3,h4⟩:=g3 b hb;exact⟨j,by simp [hj],r,h3,h4⟩
def Zi (P:Program) (fn:Func) (hd:Nat→Value) (y:A) (ts:List T) (u:Value):Exit→St→Prop
 | .normal,σ=>Res P fn false (.a (.one (.v u))) σ∧∃ ids,MQ hd σ ids (BK y) ts
 | .ret,σ=>Res P fn false (.a (.one (.v u))) σ∧∃ ids,MQ hd σ ids (BK y) ts
 | _,_=>False
theorem FnM.walk {n:Nat} {f:FuncId} {fn:Func} {c:Code} {x x':V0} {k u:Value} {y:A} {ts:List T} {rs:List (Nat×R)} {R0:(Nat→Value)→List (Nat×R)} (hf:P.funcs[f]?=some fn) (hb:fn.body=some c) (hname:(fn.name == "runtime.NumGoroutine")=false) (hnt:fn.ntmps=n) (hn:ZD 2 n=true)
 (hk:k.oneCell'=true) (hu:u.oneCell'=true) (hy:Pi 1000 x=some (y,rs)) (hR:(fun hd=>Ee rs []++VB hd rs)=R0) (hx':Tg y ts=x') (hl:ts.length=(BK y).length) (hids:rs.all (fun x=>ZD 1000 x.1&&ZD x.1 1400)=true)
 (h:Ly [x]→∀ w0 hd,AW P w0 c (Zi P fn hd y ts u) ⟨n,[(0,(true,.a y)),(1,(true,.a (.one (.t (.v k)))))],R0 hd⟩):FnM P f x k x' u:=by
 subst hnt hR hx'
 refine⟨⟨fn,hf,hname,by rw [hb];rfl⟩,hu,fun w v F hG hv hnd hth=>?_⟩
 have hlen:Ly [x]:=V0s.lenV (w:=w) (vs:=[v]) (F:=F) ⟨v,[],F,[],rfl,hv.read,⟨rfl,rfl⟩,by simp⟩
 have hn':2≤fn.ntmps:=ZM hn
 have hlt:∀ b∈F,b<w.heap.size:=V0r.lt hv
 let a0:Act:=⟨(ZF [v,k])++Array.replicate (fn.ntmps-(ZF [v,k]).size) undef,[]⟩
 have hsz:a0.tmps.size=fn.ntmps:=by simp [a0];omega
 have h1v:a0.tmps.getD 1 undef=k:=by simp [a0,Aaq,Aar]
 have h0v:a0.tmps.getD 0 undef=v:=by simp [a0,Aaq,Aar]
 let I0:Ip:=⟨fun b=>b<w.heap.size∧b∉F,fun _=>[],fun _=>undef,fun _=>0⟩
 have hr0:AU I0 ⟨w,F,hG⟩ ⟨fn.ntmps,[(1,(true,.a (.one (.t (.v k)))))],[]⟩ a0 w:=by
  refine⟨Chg.refl w F,rfl,hsz,fun i z hi=>?_,fun id r hi=>(by cases hi),fun b hb=>hb.1,fun id b hb=>(by cases hb),fun id r hi=>(by cases hi),fun i j _ b hb=>(by cases hb)⟩
  rw [AF] at hi
  by_cases e:1=i
  · subst e
    rw [if_pos rfl] at hi
    cases hi
    rw [h1v]
    exact⟨[],by unfold C;exact⟨rfl,rfl,hk⟩,by simp⟩
  rw [if_neg e] at hi;cases hi
 have hfree:∀ b∈F,EK I0 ⟨w,F,hG⟩ w b:=fun b hb=>⟨.inr hb,hlt b hb,hth b hb,fun hz=>hz.2 hb,fun i hi=>by cases hi⟩
 obtain⟨I1,r1,r2,r3,_⟩:=NG hy (by
  rw [ZC] at hids ⊢
  intro z hz
  have h1:=hids z hz
  rfl) hr0 hv hnd hfree
 rw [I6] at r1
 have r1':=r1.heads (hds:=VB I1.hd rs) fun i r hi=>by
  have hm:=HB hi
  obtain⟨z,hz,e⟩:=Aas.1 hm
  obtain⟨rfl,rfl⟩:=Prod.mk.inj e
  have h1:=ZC.1 hids z hz
  simp only [ZT] at h1
  have h2:=ZM h1.1
  have h3:=ZM h1.2
  exact⟨(r3.2 _ (by omega)).1,_,_,rfl,fun m hm=>by cases hm;rfl⟩
 have r2':AU I1 ⟨w,F,hG⟩ ⟨fn.ntmps,[(0,(true,.a y)),(1,(true,.a (.one (.t (.v k)))))],Ee rs []++VB I1.hd rs⟩ a0 w:=by
  refine⟨r1'.ext,r1'.defers,r1'.size,fun i z hi=>?_,r1'.res,r1'.old,r1'.lt,r1'.own,r1'.apart⟩
  rw [AF] at hi
  by_cases e:0=i
  · subst e
    rw [if_pos rfl] at hi
    cases hi
    rw [h0v];exact r2
  rw [if_neg e] at hi;exact r1'.slots i z hi
 refine calls_of_wp hf hb (Code.wp_mono ?_ (h hlen ⟨w,F,hG⟩ I1.hd _ _ ⟨_,r2'⟩))
 rintro e a' w' ⟨σ,h1,I,hI⟩
 have key:(Res P fn false (.a (.one (.v u))) σ∧∃ ids,MQ I1.hd σ ids (BK y) ts)→a'.defers=[]∧∃ v',(results fn a'.tmps).run P w'=.ok v' w'∧W2 w (Tg y ts) u v F (.returned v') w':=fun ⟨h1,ids,h2⟩=>by
  obtain⟨v',F',g1,g2,_⟩:=h1 I ⟨w,F,hG⟩ a' w' hI
  have hv':v'=u:=by unfold Vr V0r C at g2;exact g2.1
  subst hv'
  obtain⟨cs,hes,hcs⟩:=Tf r2
  obtain⟨F2,k1,k2,k3⟩:=h2.ok hI rfl hes
  refine⟨hI.defers,_,g1,rfl,F2,(hcs hl).2 k1,k2,fun b hb=>?_,hI.ext⟩
  obtain⟨i,_,r,h3,h4⟩:=k3 b hb
  exact (hI.own i r h3).2 b h4
 cases e with
 | normal=>exact key h1
 | ret=>exact key h1
 | exit id=>exact h1.elim
 | goto l=>exact h1.elim
 | panic c=>exact h1.elim
 | outgrown=>exact h1.elim
variable {w0:BB} {Q:Exit→St→Prop} {n:Nat} {sl:List (Nat×(Bool×S))} {rs:List (Nat×R)} {l:List Oper}
theorem AWl.updput {d id:Nat} {r:R} {x:Bool×S} (ho:Op1 P ops o ⟨n,sl,rs⟩ ((St.upd ⟨n,sl,rs⟩ id r).put o.dst x)) (hd:o.dst=some d) (h:AWl P w0 ops Q l ⟨n,(d,x)::S8 id sl,So id r rs⟩):AWl P w0 ops Q (o::l) ⟨n,sl,rs⟩:=
 AWl.op ho (by rw [hd];exact h)
theorem Zi.mk {fn:Func} {hd:Nat→Value} {y:A} {ts:List T} {u:Value} {ids:List Nat} (h1:Res P fn false (.a (.one (.v u))) σ) (h2:MQ hd σ ids (BK y) ts):Res P fn false (.a (.one (.v u))) σ∧∃ ids,MQ hd σ ids (BK y) ts:=⟨h1,ids,h2⟩
end
theorem CO {α:Type} {l:List α} {i:Nat} {x:α} (h:l[i]?=some x):l.take (i+1)=l.take i++[x]:=by
 obtain⟨hi,rfl⟩:=ZH.1 h
 exact List.take_succ_eq_append_getElem hi
theorem MX {α:Type} {l:List α} {i:Nat} {x:α} (h:l[i]?=some x):l.drop i=x::l.drop (i+1):=by
 obtain⟨hi,rfl⟩:=ZH.1 h
 exact Aac hi
theorem BP {α:Type} {l:List α} {i:Nat} {x:α} (y:α) (h:l[i]?=some x):(l.set i y)[i]?=some y:=by
 obtain⟨hi,_⟩:=ZH.1 h
 rw [List.getElem?_set_self hi]
end Go.Q
namespace Go.D
open Go.Q
def AQ (x:Int):List T:=[.v (.int .i64 x)]
def Ey (x:Bool):List T:=[.v (.bool x)]
def DV (x:List Int):List T:=[.sl 1 (x.map AQ)]
structure CU where
 From:Int
 To:Int
 deriving DecidableEq
def BC (x:CU):List T:=[.v (.int .i64 x.From),.v (.int .i64 x.To)]
structure BD where
 Kind:Int
 Letter:Int
 Low:Int
 High:Int
 deriving DecidableEq
def AS (x:BD):List T:=[.v (.int .i64 x.Kind),.v (.int .i64 x.Letter),.v (.int .i64 x.Low),.v (.int .i64 x.High)]
structure EW where
 Tokens:(List BD)
 deriving DecidableEq
def BH (x:EW):List T:=[.sl 4 (x.Tokens.map AS)]
structure DL where
 ID:Int
 From:Int
 To:Int
 Label:Int
 deriving DecidableEq
def AP (x:DL):List T:=[.v (.int .i64 x.ID),.v (.int .i64 x.From),.v (.int .i64 x.To),.v (.int .i64 x.Label)]
structure AC where
 Values:(List Int)
 Edges:(List DL)
 deriving DecidableEq
def AG (x:AC):List T:=[.sl 1 (x.Values.map AQ),.sl 4 (x.Edges.map AP)]
structure DK where
 Edge:Int
 Inverse:Bool
 deriving DecidableEq
def BG (x:DK):List T:=[.v (.int .i64 x.Edge),.v (.bool x.Inverse)]
structure EV where
 Start:Int
 Steps:(List DK)
 deriving DecidableEq
def BO (x:EV):List T:=[.v (.int .i64 x.Start),.sl 2 (x.Steps.map BG)]
structure Ub where
 Insert:Bool
 Edge:DL
 deriving DecidableEq
def CF (x:Ub):List T:=[.v (.bool x.Insert),.v (.int .i64 x.Edge.ID),.v (.int .i64 x.Edge.From),.v (.int .i64 x.Edge.To),.v (.int .i64 x.Edge.Label)]
structure YF where
 Changes:(List Ub)
 deriving DecidableEq
def DE (x:YF):List T:=[.sl 5 (x.Changes.map CF)]
structure Wt where
 First:Int
 Graphs:(List AC)
 deriving DecidableEq
def BW (x:Wt):List T:=[.v (.int .i64 x.First),.sl 2 (x.Graphs.map AG)]
structure Fl where
 Letters:(List Int)
 First:Int
 Last:Int
 Follow:(List Int)
 Nullable:Bool
 deriving DecidableEq
def BA (x:Fl):List T:=[.sl 1 (x.Letters.map AQ),.v (.int .i64 x.First),.v (.int .i64 x.Last),.sl 1 (x.Follow.map AQ),.v (.bool x.Nullable)]
structure AA where
 Start:Int
 Accept:(List Bool)
 Next:(List (List Int))
 deriving DecidableEq
def AE (x:AA):List T:=[.v (.int .i64 x.Start),.sl 1 (x.Accept.map Ey),.sl 1 (x.Next.map DV)]
structure E3 where
 Step:DK
 Node:Int
 State:Int
 deriving DecidableEq
def AK (x:E3):List T:=[.v (.int .i64 x.Step.Edge),.v (.bool x.Step.Inverse),.v (.int .i64 x.Node),.v (.int .i64 x.State)]
structure PB where
 From:Int
 To:Int
 Expr:EW
 deriving DecidableEq
def BJ (x:PB):List T:=[.v (.int .i64 x.From),.v (.int .i64 x.To),.sl 4 (x.Expr.Tokens.map AS)]
structure Q3 where
 VariableCount:Int
 Atoms:(List PB)
 deriving DecidableEq
def AT (x:Q3):List T:=[.v (.int .i64 x.VariableCount),.sl 3 (x.Atoms.map BJ)]
structure Zg where
 Automaton:AA
 Source:Int
 Ranks:(List Int)
 Supports:(List Int)
 deriving DecidableEq
def Em (x:Zg):List T:=[.v (.int .i64 x.Automaton.Start),.sl 1 (x.Automaton.Accept.map Ey),.sl 1 (x.Automaton.Next.map DV),.v (.int .i64 x.Source),.sl 1 (x.Ranks.map AQ),.sl 1 (x.Supports.map AQ)]
structure YE where
 Added:(List CU)
 Removed:(List CU)
 deriving DecidableEq
def DD (x:YE):List T:=[.sl 2 (x.Added.map BC),.sl 2 (x.Removed.map BC)]
structure M4 where
 ID:Int
 Expr:EW
 Shared:Int
 deriving DecidableEq
def AZ (x:M4):List T:=[.v (.int .i64 x.ID),.sl 4 (x.Expr.Tokens.map AS),.v (.int .i64 x.Shared)]
structure UJ where
 Automata:(List AA)
 Queries:(List M4)
 deriving DecidableEq
def BN (x:UJ):List T:=[.sl 3 (x.Automata.map AE),.sl 3 (x.Queries.map AZ)]
end Go.D
namespace Go.Q
section
def inB (x a b:Int):Bool:=decide (a≤x)&&decide (x≤b)
theorem DN {α:Type} {p:α→Bool} {l:List α} {k:Nat} {x:α} (h:∀ j y,j<k→l[j]?=some y→p y=true) (hx:l[k]?=some x) (hp:p x=true):∀ j y,j<k+1→l[j]?=some y→p y=true:=fun j y hj hy=>by
 rcases Nat.lt_or_eq_of_le (Nat.le_of_lt_succ hj) with h1|rfl
 · exact h j y h1 hy
 rw [hx] at hy;cases hy;exact hp
theorem GS {α:Type} {p:α→Bool} {l:List α} {k:Nat} (h:∀ j y,j<k→l[j]?=some y→p y=true) (hk:l.length≤k):l.all p=true:=by
 rw [ZC]
 intro x hx
 obtain⟨j,hj,rfl⟩:=List.getElem_of_mem hx
 exact h j _ (by omega) (ZJ hj)
theorem Gq {α:Type} {p:α→Bool} {l:List α} {k:Nat} {x:α} (hx:l[k]?=some x) (hp:p x=false):l.all p=false:=by
 rw [List.all_eq_false]
 exact⟨x,Aag hx,by rw [hp];simp⟩
def GQ {α:Type} (p:α→Bool):List α→Nat→Int
 | [],_=> -1
 | x::r,k=>if p x then (k:Int) else GQ p r (k+1)
theorem Jo {α:Type} {p:α→Bool}:∀ {l:List α} {m k:Nat} {x:α},(∀ j y,j<k→l[j]?=some y→(!p y)=true)→l[k]?=some x→p x=true→GQ p l m=((m+k:Nat):Int)
 | [],_,_,_,_,h,_=>by simp at h
 | y::l,m,0,x,_,h,hp=>by simp at h;subst h;simp [GQ,hp]
 | y::l,m,k+1,x,hn,h,hp=>by
  have h0:=hn 0 y (by omega) rfl
  have h0':p y=false:=by simpa using h0
  rw [GQ,h0',if_neg (by simp),Jo (k:=k) (fun j z hj hz=>hn (j+1) z (by omega) (by simpa using hz)) (by simpa using h) hp]
  omega
theorem It {α:Type} {p:α→Bool}:∀ {l:List α} {m k:Nat},(∀ j y,j<k→l[j]?=some y→(!p y)=true)→l.length≤k→GQ p l m=-1
 | [],_,_,_,_=>rfl
 | y::l,m,0,_,h=>by simp at h
 | y::l,m,k+1,hn,h=>by
  have h0:=hn 0 y (by omega) rfl
  have h0':p y=false:=by simpa using h0
  rw [GQ,h0',if_neg (by simp)]
  exact It (k:=k) (fun j z hj hz=>hn (j+1) z (by omega) (by simpa using hz)) (by simpa using h)
theorem Oe {α:Type} {p:α→Bool}:∀ {l:List α} {m:Nat},GQ p l m=-1∨∃ k x,l[k]?=some x∧p x=true∧GQ p l m=((m+k:Nat):Int)
 | [],_=>.inl rfl
 | y::l,m=>by
  rw [GQ]
  split
  · exact .inr ⟨0,y,rfl,by assumption,rfl⟩
  rcases Oe (p:=p) (l:=l) (m:=m+1) with h|⟨k,x,h1,h2,h3⟩
  · exact .inl h
  exact .inr ⟨k+1,x,by simpa using h1,h2,by rw [h3];omega⟩
theorem FN {α:Type} {d:α} {l:List α} {k:Nat} (h:k<l.length):l[k]?=some (l[k]?.getD d):=by rw [ZJ h];rfl
section
open Go.RowKit
variable {P:Program} {ops:Array Oper} {o:Oper} {σ:St} {q:Bool}
theorem Di {α:Type} {f:α→List T} {l:List α} {x:Operand} {t:TypeId} {A0:A} {k:Nat} (ho:o.op=.call { callee:=.builtin .len,args:=#[x],argTypes:=#[t] }) (hg:Grd ops o σ q) (hd:o.dst.all (fun d=>ZB d σ.n)=true)
 (hx:Get σ q x A0) (hs:Sq σ A0 k (l.map f)) {e:TypeId} (hu:P.underlying t=some (.slice e)):Op1 P ops o σ (σ.put o.dst (q,.a (.one (.t (.v (.int .i64 l.length)))))):=by
 have:=Ye ho hg hd hx hs hu
 rwa [List.length_map] at this
variable {w0:BB} {Q:Exit→St→Prop} {n:Nat} {sl:List (Nat×(Bool×S))} {rs:List (Nat×R)} {ls:List Oper}
theorem Aj {d i:Nat} {t:TypeId} {cs:List T} {ag:Bool} {m:Nat} (ht:tyB P t ag m=true) (h:AWl P w0 ops Q ls ⟨n,(d,(true,.a (mkA ag ((cs.take m).map .t))))::sl,rs⟩) (ho:o.op=.load t (.tmp i):=by exact rfl) (hx:look sl i=some (true,.a (.one (.t (.ad cs)))):=by exact rfl) (hn:ZD m cs.length=true:=by exact rfl) (h1:(ag||ZA m 1)=true:=by exact rfl) (hg:o.guard=none:=by exact rfl) (hd:o.dst.all (fun d=>ZB d n)=true:=by exact rfl) (he:o.dst=some d:=by exact rfl):AWl P w0 ops Q (o::ls) ⟨n,sl,rs⟩:=Ac (Br ho (.no hg) hd (.tm hx) ht hn h1) he h
theorem By {P:Program} {w0:BB} {Q:Exit→St→Prop} {ops:Array Oper} {o:Oper} {l:List Oper} {n:Nat} {sl:List (Nat×(Bool×S))} {rs:List (Nat×R)} {d:Nat} {f:FuncId} {xs:List Operand} {tys:Array TypeId} {ins:List V0} {out:V} (hf:FnT P f ins out) (h:AWl P w0 ops Q l ⟨n,(d,(true,inS out))::sl,rs⟩) (ho:o.op=.call { callee:=.value (.func f),args:=xs.toArray,argTypes:=tys }:=by exact rfl) (hg:o.guard=none:=by exact rfl) (hd:o.dst.all (fun d=>ZB d n)=true:=by exact rfl) (ha:L0 ⟨n,sl,rs⟩ true xs ins:=by repeat first|exact .nil|refine .cons (.tm rfl) rfl ?_|refine .cons (.const rfl) rfl ?_) (he:o.dst=some d:=by exact rfl):AWl P w0 ops Q (o::l) ⟨n,sl,rs⟩:=Ac (Bc hf.fr ho (.no hg) hd ha) he h
theorem Cm {P:Program} {w0:BB} {Q:Exit→St→Prop} {ops:Array Oper} {o:Oper} {l:List Oper} {n:Nat} {sl:List (Nat×(Bool×S))} {rs:List (Nat×R)} {d i:Nat} {j g:Nat} {b:Bool} {x:A}  (h:AWl P w0 ops Q l ⟨n,(d,(b,.a (x)))::sl,rs⟩) (ho:o.op=.move (.tmp i):=by exact rfl) (hg:o.guard=some (j,true):=by exact rfl) (hj:(ops[j]?).bind (·.dst)=some g:=by exact rfl) (hb:look sl g=some (true,.a (.one (.t (.v (.bool b))))):=by exact rfl) (hgn:ZB g n=true:=by exact rfl) (hx:look sl i=some (true,.a x):=by exact rfl) (hd:o.dst.all (fun d=>ZB d n)=true:=by exact rfl) (he:o.dst=some d:=by exact rfl):AWl P w0 ops Q (o::l) ⟨n,sl,rs⟩:=Ac (Bh ho (.yes1 hg hj hb hgn) hd (.tmp hx fun _=>rfl)) he h
theorem Dy {P:Program} {w0:BB} {Q:Exit→St→Prop} {ops:Array Oper} {o:Oper} {l:List Oper} {n:Nat} {sl:List (Nat×(Bool×S))} {rs:List (Nat×R)} {d i:Nat} {j g:Nat} {b:Bool} {t:TypeId} {cs:List T} {ag:Bool} {m:Nat} (ht:tyB P t ag m=true) (h:AWl P w0 ops Q l ⟨n,(d,(b,.a (mkA ag ((cs.take m).map .t))))::sl,rs⟩) (ho:o.op=.load t (.tmp i):=by exact rfl) (hg:o.guard=some (j,true):=by exact rfl) (hj:(ops[j]?).bind (·.dst)=some g:=by exact rfl) (hb:look sl g=some (true,.a (.one (.t (.v (.bool b))))):=by exact rfl) (hgn:ZB g n=true:=by exact rfl) (hx:look sl i=some (b,.a (.one (.t (.ad cs)))):=by exact rfl) (hn:ZD m cs.length=true:=by exact rfl) (h1:(ag||ZA m 1)=true:=by exact rfl) (hd:o.dst.all (fun d=>ZB d n)=true:=by exact rfl) (he:o.dst=some d:=by exact rfl):AWl P w0 ops Q (o::l) ⟨n,sl,rs⟩:=Ac (Br ho (.yes1 hg hj hb hgn) hd (.tmp hx id) ht hn h1) he h
theorem Eb {P:Program} {w0:BB} {Q:Exit→St→Prop} {ops:Array Oper} {o:Oper} {l:List Oper} {n:Nat} {sl:List (Nat×(Bool×S))} {rs:List (Nat×R)} {d i:Nat} {j g:Nat} {b:Bool} {t:TypeId} {k off:Nat} {cs:List T} (hf:DG P t k off=true) (h:AWl P w0 ops Q l ⟨n,(d,(b,.a (.one (.t (.ad (cs.drop off))))))::sl,rs⟩) (ho:o.op=.fieldAddr t (.tmp i) k:=by exact rfl) (hg:o.guard=some (j,true):=by exact rfl) (hj:(ops[j]?).bind (·.dst)=some g:=by exact rfl) (hb:look sl g=some (true,.a (.one (.t (.v (.bool b))))):=by exact rfl) (hgn:ZB g n=true:=by exact rfl) (hx:look sl i=some (true,.a (.one (.t (.ad cs)))):=by exact rfl) (hd:o.dst.all (fun d=>ZB d n)=true:=by exact rfl) (he:o.dst=some d:=by exact rfl):AWl P w0 ops Q (o::l) ⟨n,sl,rs⟩:=Ac (Bu ho (.yes1 hg hj hb hgn) hd (.tmp hx fun _=>rfl) hf) he h
theorem AWl.mw {P:Program} {w0:BB} {Q:Exit→St→Prop} {ops:Array Oper} {o:Oper} {l:List Oper} {n:Nat} {sl:List (Nat×(Bool×S))} {rs:List (Nat×R)} {d i:Nat} {j g:Nat} {b:Bool} {x:A}  (h:AWl P w0 ops Q l ⟨n,(d,(!b,.a (x)))::sl,rs⟩) (ho:o.op=.move (.tmp i):=by exact rfl) (hg:o.guard=some (j,false):=by exact rfl) (hj:(ops[j]?).bind (·.dst)=some g:=by exact rfl) (hb:look sl g=some (true,.a (.one (.t (.v (.bool b))))):=by exact rfl) (hgn:ZB g n=true:=by exact rfl) (hx:look sl i=some (true,.a x):=by exact rfl) (hd:o.dst.all (fun d=>ZB d n)=true:=by exact rfl) (he:o.dst=some d:=by exact rfl):AWl P w0 ops Q (o::l) ⟨n,sl,rs⟩:=Ac (Bh ho (.not1 hg hj hb hgn) hd (.tmp hx fun _=>rfl)) he h
theorem C4 {P:Program} {w0:BB} {Q:Exit→St→Prop} {ops:Array Oper} {o:Oper} {l:List Oper} {n:Nat} {sl:List (Nat×(Bool×S))} {rs:List (Nat×R)} {d i:Nat} {j g:Nat} {b:Bool} {t:TypeId} {cs:List T} {ag:Bool} {m:Nat} (ht:tyB P t ag m=true) (h:AWl P w0 ops Q l ⟨n,(d,(!b,.a (mkA ag ((cs.take m).map .t))))::sl,rs⟩) (ho:o.op=.load t (.tmp i):=by exact rfl) (hg:o.guard=some (j,false):=by exact rfl) (hj:(ops[j]?).bind (·.dst)=some g:=by exact rfl) (hb:look sl g=some (true,.a (.one (.t (.v (.bool b))))):=by exact rfl) (hgn:ZB g n=true:=by exact rfl) (hx:look sl i=some (!b,.a (.one (.t (.ad cs)))):=by exact rfl) (hn:ZD m cs.length=true:=by exact rfl) (h1:(ag||ZA m 1)=true:=by exact rfl) (hd:o.dst.all (fun d=>ZB d n)=true:=by exact rfl) (he:o.dst=some d:=by exact rfl):AWl P w0 ops Q (o::l) ⟨n,sl,rs⟩:=Ac (Br ho (.not1 hg hj hb hgn) hd (.tmp hx id) ht hn h1) he h
theorem C5 {P:Program} {w0:BB} {Q:Exit→St→Prop} {ops:Array Oper} {o:Oper} {l:List Oper} {n:Nat} {sl:List (Nat×(Bool×S))} {rs:List (Nat×R)} {d i:Nat} {j g:Nat} {b:Bool} {t:TypeId} {k off:Nat} {cs:List T} (hf:DG P t k off=true) (h:AWl P w0 ops Q l ⟨n,(d,(!b,.a (.one (.t (.ad (cs.drop off))))))::sl,rs⟩) (ho:o.op=.fieldAddr t (.tmp i) k:=by exact rfl) (hg:o.guard=some (j,false):=by exact rfl) (hj:(ops[j]?).bind (·.dst)=some g:=by exact rfl) (hb:look sl g=some (true,.a (.one (.t (.v (.bool b))))):=by exact rfl) (hgn:ZB g n=true:=by exact rfl) (hx:look sl i=some (true,.a (.one (.t (.ad cs)))):=by exact rfl) (hd:o.dst.all (fun d=>ZB d n)=true:=by exact rfl) (he:o.dst=some d:=by exact rfl):AWl P w0 ops Q (o::l) ⟨n,sl,rs⟩:=Ac (Bu ho (.not1 hg hj hb hgn) hd (.tmp hx fun _=>rfl) hf) he h
theorem Cn {P:Program} {w0:BB} {Q:Exit→St→Prop} {ops:Array Oper} {o:Oper} {l:List Oper} {n:Nat} {sl:List (Nat×(Bool×S))} {rs:List (Nat×R)} {d i:Nat} {j:Nat} {b b':Bool}  (h:AWl P w0 ops Q l ⟨n,(d,(true,.a (.one (.t (.v (.bool (b&&b')))))))::sl,rs⟩) (ho:o.op=.pick (.tmp i) (.tmp j) (.const (.bool false)):=by exact rfl) (hg:o.guard=none:=by exact rfl) (hx:look sl i=some (true,.a (.one (.t (.v (.bool b))))):=by exact rfl) (hy:look sl j=some (b,.a (.one (.t (.v (.bool b'))))):=by exact rfl) (hd:o.dst.all (fun d=>ZB d n)=true:=by exact rfl) (he:o.dst=some d:=by exact rfl):AWl P w0 ops Q (o::l) ⟨n,sl,rs⟩:=Ac (IJ ho (.no hg) hd (.tm hx) (.tmp hy id)) he h
theorem Co {P:Program} {w0:BB} {Q:Exit→St→Prop} {ops:Array Oper} {o:Oper} {l:List Oper} {n:Nat} {sl:List (Nat×(Bool×S))} {rs:List (Nat×R)} {d i:Nat} {j:Nat} {b b':Bool}  (h:AWl P w0 ops Q l ⟨n,(d,(true,.a (.one (.t (.v (.bool (b||b')))))))::sl,rs⟩) (ho:o.op=.pick (.tmp i) (.const (.bool true)) (.tmp j):=by exact rfl) (hg:o.guard=none:=by exact rfl) (hx:look sl i=some (true,.a (.one (.t (.v (.bool b))))):=by exact rfl) (hy:look sl j=some (!b,.a (.one (.t (.v (.bool b'))))):=by exact rfl) (hd:o.dst.all (fun d=>ZB d n)=true:=by exact rfl) (he:o.dst=some d:=by exact rfl):AWl P w0 ops Q (o::l) ⟨n,sl,rs⟩:=Ac (OK ho (.no hg) hd (.tm hx) (.tmp hy id)) he h
theorem Cy {P:Program} {w0:BB} {Q:Exit→St→Prop} {ops:Array Oper} {o:Oper} {l:List Oper} {n:Nat} {sl:List (Nat×(Bool×S))} {rs:List (Nat×R)} {d i:Nat} {t:TypeId} {b:Bool}  (h:AWl P w0 ops Q l ⟨n,(d,(true,.a (.one (.t (.v (.bool !b))))))::sl,rs⟩) (ho:o.op=.unOp .not t (.tmp i):=by exact rfl) (hg:o.guard=none:=by exact rfl) (hx:look sl i=some (true,.a (.one (.t (.v (.bool b))))):=by exact rfl) (hd:o.dst.all (fun d=>ZB d n)=true:=by exact rfl) (he:o.dst=some d:=by exact rfl):AWl P w0 ops Q (o::l) ⟨n,sl,rs⟩:=Ac (Du ho (.no hg) hd (.tm hx)) he h
theorem Bw {P:Program} {w0:BB} {Q:Exit→St→Prop} {ops:Array Oper} {o:Oper} {l:List Oper} {n:Nat} {sl:List (Nat×(Bool×S))} {rs:List (Nat×R)} {d i:Nat} {t t':TypeId} {k:IntKind} {c m:Int}  (h:AWl P w0 ops Q l ⟨n,(d,(true,.a (.one (.t (.v (.bool (decide (c=m))))))))::sl,rs⟩) (ho:o.op=.binOp .eql t (.tmp i) (.const (.int k m)) t':=by exact rfl) (hg:o.guard=none:=by exact rfl) (hx:look sl i=some (true,.a (.one (.t (.v (.int k c))))):=by exact rfl) (hc:(ZL k m).oneCell'=true:=by exact rfl) (hd:o.dst.all (fun d=>ZB d n)=true:=by exact rfl) (he:o.dst=some d:=by exact rfl):AWl P w0 ops Q (o::l) ⟨n,sl,rs⟩:=Ac (Kc ho (.no hg) hd (.tm hx) (.const hc)) he h
theorem AWl.nc {P:Program} {w0:BB} {Q:Exit→St→Prop} {ops:Array Oper} {o:Oper} {l:List Oper} {n:Nat} {sl:List (Nat×(Bool×S))} {rs:List (Nat×R)} {d i:Nat} {t t':TypeId} {k:IntKind} {c m:Int}  (h:AWl P w0 ops Q l ⟨n,(d,(true,.a (.one (.t (.v (.bool (!decide (c=m))))))))::sl,rs⟩) (ho:o.op=.binOp .neq t (.tmp i) (.const (.int k m)) t':=by exact rfl) (hg:o.guard=none:=by exact rfl) (hx:look sl i=some (true,.a (.one (.t (.v (.int k c))))):=by exact rfl) (hc:(ZL k m).oneCell'=true:=by exact rfl) (hd:o.dst.all (fun d=>ZB d n)=true:=by exact rfl) (he:o.dst=some d:=by exact rfl):AWl P w0 ops Q (o::l) ⟨n,sl,rs⟩:=Ac (GX ho (.no hg) hd (.tm hx) (.const hc)) he h
theorem D7 {P:Program} {w0:BB} {Q:Exit→St→Prop} {ops:Array Oper} {o:Oper} {l:List Oper} {n:Nat} {sl:List (Nat×(Bool×S))} {rs:List (Nat×R)} {d i:Nat} {t t':TypeId} {k:IntKind} {c m:Int}  (h:AWl P w0 ops Q l ⟨n,(d,(true,.a (.one (.t (.v (.bool (decide (c<m))))))))::sl,rs⟩) (ho:o.op=.binOp .lss t (.tmp i) (.const (.int k m)) t':=by exact rfl) (hg:o.guard=none:=by exact rfl) (hx:look sl i=some (true,.a (.one (.t (.v (.int k c))))):=by exact rfl) (hc:(ZL k m).oneCell'=true:=by exact rfl) (hd:o.dst.all (fun d=>ZB d n)=true:=by exact rfl) (he:o.dst=some d:=by exact rfl):AWl P w0 ops Q (o::l) ⟨n,sl,rs⟩:=Ac (Wv ho (.no hg) hd (.tm hx) (.const hc)) he h
theorem AWl.gc {P:Program} {w0:BB} {Q:Exit→St→Prop} {ops:Array Oper} {o:Oper} {l:List Oper} {n:Nat} {sl:List (Nat×(Bool×S))} {rs:List (Nat×R)} {d i:Nat} {t t':TypeId} {k:IntKind} {c m:Int}  (h:AWl P w0 ops Q l ⟨n,(d,(true,.a (.one (.t (.v (.bool (decide (m<c))))))))::sl,rs⟩) (ho:o.op=.binOp .gtr t (.tmp i) (.const (.int k m)) t':=by exact rfl) (hg:o.guard=none:=by exact rfl) (hx:look sl i=some (true,.a (.one (.t (.v (.int k c))))):=by exact rfl) (hc:(ZL k m).oneCell'=true:=by exact rfl) (hd:o.dst.all (fun d=>ZB d n)=true:=by exact rfl) (he:o.dst=some d:=by exact rfl):AWl P w0 ops Q (o::l) ⟨n,sl,rs⟩:=Ac (MO ho (.no hg) hd (.tm hx) (.const hc)) he h
theorem AWl.gd {P:Program} {w0:BB} {Q:Exit→St→Prop} {ops:Array Oper} {o:Oper} {l:List Oper} {n:Nat} {sl:List (Nat×(Bool×S))} {rs:List (Nat×R)} {d i:Nat} {t t':TypeId} {k:IntKind} {c m:Int}  (h:AWl P w0 ops Q l ⟨n,(d,(true,.a (.one (.t (.v (.bool (decide (m≤c))))))))::sl,rs⟩) (ho:o.op=.binOp .geq t (.tmp i) (.const (.int k m)) t':=by exact rfl) (hg:o.guard=none:=by exact rfl) (hx:look sl i=some (true,.a (.one (.t (.v (.int k c))))):=by exact rfl) (hc:(ZL k m).oneCell'=true:=by exact rfl) (hd:o.dst.all (fun d=>ZB d n)=true:=by exact rfl) (he:o.dst=some d:=by exact rfl):AWl P w0 ops Q (o::l) ⟨n,sl,rs⟩:=Ac (O0 ho (.no hg) hd (.tm hx) (.const hc)) he h
theorem C9 {P:Program} {w0:BB} {Q:Exit→St→Prop} {ops:Array Oper} {o:Oper} {l:List Oper} {n:Nat} {sl:List (Nat×(Bool×S))} {rs:List (Nat×R)} {d i:Nat} {t t':TypeId} {c m:Int}  (h:AWl P w0 ops Q l ⟨n,(d,(true,.a (.one (.t (.v (.int .i64 (c-m)))))))::sl,rs⟩) (ho:o.op=.binOp .sub t (.tmp i) (.const (.int .i64 m)) t':=by exact rfl) (hg:o.guard=none:=by exact rfl) (hx:look sl i=some (true,.a (.one (.t (.v (.int .i64 c))))):=by exact rfl) (hb:-9223372036854775808≤c-m∧c-m≤9223372036854775807:=by omega) (hd:o.dst.all (fun d=>ZB d n)=true:=by exact rfl) (he:o.dst=some d:=by exact rfl):AWl P w0 ops Q (o::l) ⟨n,sl,rs⟩:=Ac (D8 ho (.no hg) hd (.tm hx) (.const rfl) fun _=>hb) he h
theorem Bb {d i:Nat} {id p:Nat} {t:TypeId} {cs:List E} {ag:Bool} {m:Nat} (ht:tyB P t ag m=true) (h:AWl P w0 ops Q ls ⟨n,(d,(true,.a (mkA ag ((cs.drop p).take m))))::sl,rs⟩) (ho:o.op=.load t (.tmp i):=by exact rfl) (hx:look sl i=some (true,.a (.one (.pp id p))):=by exact rfl) (hs:look rs id=some (.box cs):=by exact rfl) (hn:ZD (p+m) cs.length=true:=by exact rfl) (h1:(ag||ZA m 1)=true:=by exact rfl) (hg:o.guard=none:=by exact rfl) (hd:o.dst.all (fun d=>ZB d n)=true:=by exact rfl) (he:o.dst=some d:=by exact rfl):AWl P w0 ops Q (o::ls) ⟨n,sl,rs⟩:=Ac (Be ho (.no hg) hd (.tm hx) hs ht hn h1) he h
theorem A7 {d i:Nat} {t:TypeId} {j off:Nat} {cs:List T} (hf:DG P t j off=true) (h:AWl P w0 ops Q ls ⟨n,(d,(true,.a (.one (.t (.ad (cs.drop off))))))::sl,rs⟩) (ho:o.op=.fieldAddr t (.tmp i) j:=by exact rfl) (hx:look sl i=some (true,.a (.one (.t (.ad cs)))):=by exact rfl) (hg:o.guard=none:=by exact rfl) (hd:o.dst.all (fun d=>ZB d n)=true:=by exact rfl) (he:o.dst=some d:=by exact rfl):AWl P w0 ops Q (o::ls) ⟨n,sl,rs⟩:=Ac (Bu ho (.no hg) hd (.tm hx) hf) he h
theorem Bq {d i:Nat} {id p:Nat} {t:TypeId} {j off:Nat} (hf:DG P t j off=true) (h:AWl P w0 ops Q ls ⟨n,(d,(true,.a (.one (.pp id (p+off)))))::sl,rs⟩) (ho:o.op=.fieldAddr t (.tmp i) j:=by exact rfl) (hx:look sl i=some (true,.a (.one (.pp id p))):=by exact rfl) (hg:o.guard=none:=by exact rfl) (hd:o.dst.all (fun d=>ZB d n)=true:=by exact rfl) (he:o.dst=some d:=by exact rfl):AWl P w0 ops Q (o::ls) ⟨n,sl,rs⟩:=Ac (Bj ho (.no hg) hd (.tm hx) hf) he h
theorem A9 {d i:Nat} {t t':TypeId} {c m:Int}  (h:AWl P w0 ops Q ls ⟨n,(d,(true,.a (.one (.t (.v (.int .i64 (c+m)))))))::sl,rs⟩) (ho:o.op=.binOp .add t (.tmp i) (.const (.int .i64 m)) t':=by exact rfl) (hx:look sl i=some (true,.a (.one (.t (.v (.int .i64 c))))):=by exact rfl) (hb:-9223372036854775808≤c+m∧c+m≤9223372036854775807:=by omega) (hg:o.guard=none:=by exact rfl) (hd:o.dst.all (fun d=>ZB d n)=true:=by exact rfl) (he:o.dst=some d:=by exact rfl):AWl P w0 ops Q (o::ls) ⟨n,sl,rs⟩:=Ac (Dn ho (.no hg) hd (.tm hx) (.const rfl) fun _=>hb) he h
theorem AWl.lt {d i:Nat} {j:Nat} {t t':TypeId} {k:IntKind} {c m:Int}  (h:AWl P w0 ops Q ls ⟨n,(d,(true,.a (.one (.t (.v (.bool (decide (c<m))))))))::sl,rs⟩) (ho:o.op=.binOp .lss t (.tmp i) (.tmp j) t':=by exact rfl) (hx:look sl i=some (true,.a (.one (.t (.v (.int k c))))):=by exact rfl) (hy:look sl j=some (true,.a (.one (.t (.v (.int k m))))):=by exact rfl) (hg:o.guard=none:=by exact rfl) (hd:o.dst.all (fun d=>ZB d n)=true:=by exact rfl) (he:o.dst=some d:=by exact rfl):AWl P w0 ops Q (o::ls) ⟨n,sl,rs⟩:=Ac (Wv ho (.no hg) hd (.tm hx) (.tm hy)) he h
theorem AWl.eq {d i:Nat} {j:Nat} {t t':TypeId} {k:IntKind} {c m:Int}  (h:AWl P w0 ops Q ls ⟨n,(d,(true,.a (.one (.t (.v (.bool (decide (c=m))))))))::sl,rs⟩) (ho:o.op=.binOp .eql t (.tmp i) (.tmp j) t':=by exact rfl) (hx:look sl i=some (true,.a (.one (.t (.v (.int k c))))):=by exact rfl) (hy:look sl j=some (true,.a (.one (.t (.v (.int k m))))):=by exact rfl) (hg:o.guard=none:=by exact rfl) (hd:o.dst.all (fun d=>ZB d n)=true:=by exact rfl) (he:o.dst=some d:=by exact rfl):AWl P w0 ops Q (o::ls) ⟨n,sl,rs⟩:=Ac (Kc ho (.no hg) hd (.tm hx) (.tm hy)) he h
theorem Bi {d i:Nat} {α:Type} {f:α→List T} {a:List α} {t:TypeId} {A0:A} {k:Nat} {e:TypeId} (hs:Sq ⟨n,sl,rs⟩ A0 k (a.map f)) (hu:P.underlying t=some (.slice e)) (h:AWl P w0 ops Q ls ⟨n,(d,(true,.a (.one (.t (.v (.int .i64 a.length))))))::sl,rs⟩) (ho:o.op=.call { callee:=.builtin .len,args:=#[.tmp i],argTypes:=#[t] }:=by exact rfl) (hx:look sl i=some (true,.a A0):=by exact rfl) (hg:o.guard=none:=by exact rfl) (hd:o.dst.all (fun d=>ZB d n)=true:=by exact rfl) (he:o.dst=some d:=by exact rfl):AWl P w0 ops Q (o::ls) ⟨n,sl,rs⟩:=Ac (Di ho (.no hg) hd (.tm hx) hs hu) he h
theorem A4 {id p i j:Nat} {t:TypeId} {cs:List E} {A0:A} {ag:Bool} {m:Nat} (ht:tyB P t ag m=true) (h:AWl P w0 ops Q ls ⟨n,sl,FA rs id (.box (Us cs p (BK A0)))⟩) (ho:o.op=.store t (.tmp i) (.tmp j):=by exact rfl) (hg:o.guard=none:=by exact rfl) (hdn:o.dst=none:=by exact rfl) (hx:look sl i=some (true,.a (.one (.pp id p))):=by exact rfl) (hy:look sl j=some (true,.a A0):=by exact rfl) (hs:look rs id=some (.box cs):=by exact rfl) (he:(BK A0).all E.cell1=true:=by exact rfl) (hl:ZA (BK A0).length m=true:=by exact rfl) (hn:ZD (p+m) cs.length=true:=by exact rfl) (hv1:nvB id sl rs=true:=by kernel_rfl) (hv2:(BK A0).all (E.nv id)=true:=by exact rfl):AWl P w0 ops Q (o::ls) ⟨n,sl,rs⟩:=AWl.chgb (Oy (σ:=⟨n,sl,rs⟩) ho hg hdn (.tm hx) (.tm hy) hs ht he hl hn hv1 hv2) h
end
end
open Go.RowKit
theorem ty3:tyB Z9 3 false 1=true:=by kernel_rfl
theorem in3:inZ Z9 3=some (some (.int .i64 0),1,8):=by kernel_rfl
theorem ty4:tyB Z9 4 false 1=true:=by kernel_rfl
theorem in4:inZ Z9 4=some (some (.bool false),1,1):=by kernel_rfl
theorem in5:inZ Z9 5=some (some (.int .u8 0),1,1):=by kernel_rfl
theorem ty9:tyB Z9 9 false 1=true:=by kernel_rfl
theorem in9:inZ Z9 9=some (some (.string .empty),1,16):=by kernel_rfl
theorem HR:tyB Z9 24 false 1=true:=by kernel_rfl
theorem Ck:tyB Z9 26 true 1=true:=by kernel_rfl
theorem Dw:inZ Z9 26=some (some (.agg #[.slice none 0 0]),1,24):=by kernel_rfl
theorem L3:stB Z9 26=true:=by kernel_rfl
theorem Dx:DG Z9 26 0 0=true:=by kernel_rfl
theorem Qj:(match Z9.underlying 26 with|some (.struct fs)=>(match fs[0]? with|some f=>ZA f.offset 0&&(match Z9.info? f.type with|some i=>ZA i.size 1|none=>false)|none=>false)|_=>false)=true:=by kernel_rfl
theorem FU:tyB Z9 33 false 1=true:=by kernel_rfl
theorem Gh:tyB Z9 34 false 1=true:=by kernel_rfl
theorem B6:tyB Z9 36 true 3=true:=by kernel_rfl
theorem JZ:inZ Z9 36=some (some (.agg #[.int .i64 0,.slice none 0 0,.slice none 0 0]),3,56):=by kernel_rfl
theorem Yv:stB Z9 36=true:=by kernel_rfl
theorem Jn:DG Z9 36 0 0=true:=by kernel_rfl
theorem Y3:(match Z9.underlying 36 with|some (.struct fs)=>(match fs[0]? with|some f=>ZA f.offset 0&&(match Z9.info? f.type with|some i=>ZA i.size 1|none=>false)|none=>false)|_=>false)=true:=by kernel_rfl
theorem Db:DG Z9 36 1 1=true:=by kernel_rfl
theorem Da:DG Z9 36 2 2=true:=by kernel_rfl
theorem Cc:tyB Z9 40 false 1=true:=by kernel_rfl
theorem U5:inZ Z9 40=some (some (.slice none 0 0),1,24):=by kernel_rfl
theorem D0:tyB Z9 43 false 1=true:=by kernel_rfl
theorem B7:tyB Z9 45 true 2=true:=by kernel_rfl
theorem OF:inZ Z9 45=some (some (.agg #[.slice none 0 0,.slice none 0 0]),2,48):=by kernel_rfl
theorem Z0:stB Z9 45=true:=by kernel_rfl
theorem Ci:DG Z9 45 0 0=true:=by kernel_rfl
theorem Ct:DG Z9 45 1 1=true:=by kernel_rfl
theorem FT:tyB Z9 52 false 1=true:=by kernel_rfl
theorem D6:tyB Z9 54 true 2=true:=by kernel_rfl
theorem Ha:inZ Z9 54=some (some (.agg #[.int .i64 0,.slice none 0 0]),2,32):=by kernel_rfl
theorem Um:stB Z9 54=true:=by kernel_rfl
theorem GP:DG Z9 54 0 0=true:=by kernel_rfl
theorem Y2:(match Z9.underlying 54 with|some (.struct fs)=>(match fs[0]? with|some f=>ZA f.offset 0&&(match Z9.info? f.type with|some i=>ZA i.size 1|none=>false)|none=>false)|_=>false)=true:=by kernel_rfl
theorem C8:DG Z9 54 1 1=true:=by kernel_rfl
theorem Y1:(match Z9.underlying 54 with|some (.struct fs)=>(match fs[1]? with|some f=>ZA f.offset 1&&(match Z9.info? f.type with|some i=>ZA i.size 1|none=>false)|none=>false)|_=>false)=true:=by kernel_rfl
theorem Dq:tyB Z9 58 true 2=true:=by kernel_rfl
theorem NS:inZ Z9 58=some (some (.agg #[.int .i64 0,.int .i64 0]),2,16):=by kernel_rfl
theorem Yu:stB Z9 58=true:=by kernel_rfl
theorem XX (x0:Int) (x1:Int) (y0:Int) (y1:Int) (w:World):(binOp .eql 58 (.agg (ZF [.int .i64 x0,.int .i64 x1])) (.agg (ZF [.int .i64 y0,.int .i64 y1]))).run Z9 w=.ok (.bool ((decide (x0=y0)&&decide (x1=y1)))) w:=by
 have hs:Z9.stoodInHeld 58=false:=by kernel_rfl
 simp [go_sem,hs,Aat]
 repeat' split
 all_goals simp [*]
theorem YY (x0:Int) (x1:Int) (y0:Int) (y1:Int) (w:World):(binOp .neq 58 (.agg (ZF [.int .i64 x0,.int .i64 x1])) (.agg (ZF [.int .i64 y0,.int .i64 y1]))).run Z9 w=.ok (.bool (!(decide (x0=y0)&&decide (x1=y1)))) w:=by
 have hs:Z9.stoodInHeld 58=false:=by kernel_rfl
 simp [go_sem,hs,Aat]
 repeat' split
 all_goals simp [*]
theorem Ir:DG Z9 58 0 0=true:=by kernel_rfl
theorem SS:(match Z9.underlying 58 with|some (.struct fs)=>(match fs[0]? with|some f=>ZA f.offset 0&&(match Z9.info? f.type with|some i=>ZA i.size 1|none=>false)|none=>false)|_=>false)=true:=by kernel_rfl
theorem K9:DG Z9 58 1 1=true:=by kernel_rfl
theorem SR:(match Z9.underlying 58 with|some (.struct fs)=>(match fs[1]? with|some f=>ZA f.offset 1&&(match Z9.info? f.type with|some i=>ZA i.size 1|none=>false)|none=>false)|_=>false)=true:=by kernel_rfl
theorem C6:tyB Z9 71 true 4=true:=by kernel_rfl
theorem D1:inZ Z9 71=some (some (.agg #[.int .i64 0,.int .i64 0,.int .i64 0,.int .i64 0]),4,32):=by kernel_rfl
theorem Hr:stB Z9 71=true:=by kernel_rfl
theorem LO:DG Z9 71 0 0=true:=by kernel_rfl
theorem Dp:(match Z9.underlying 71 with|some (.struct fs)=>(match fs[0]? with|some f=>ZA f.offset 0&&(match Z9.info? f.type with|some i=>ZA i.size 1|none=>false)|none=>false)|_=>false)=true:=by kernel_rfl
theorem Hw:DG Z9 71 1 1=true:=by kernel_rfl
theorem VK:(match Z9.underlying 71 with|some (.struct fs)=>(match fs[1]? with|some f=>ZA f.offset 1&&(match Z9.info? f.type with|some i=>ZA i.size 1|none=>false)|none=>false)|_=>false)=true:=by kernel_rfl
theorem Iq:DG Z9 71 2 2=true:=by kernel_rfl
theorem VJ:(match Z9.underlying 71 with|some (.struct fs)=>(match fs[2]? with|some f=>ZA f.offset 2&&(match Z9.info? f.type with|some i=>ZA i.size 1|none=>false)|none=>false)|_=>false)=true:=by kernel_rfl
theorem GO:DG Z9 71 3 3=true:=by kernel_rfl
theorem VI:(match Z9.underlying 71 with|some (.struct fs)=>(match fs[3]? with|some f=>ZA f.offset 3&&(match Z9.info? f.type with|some i=>ZA i.size 1|none=>false)|none=>false)|_=>false)=true:=by kernel_rfl
theorem KM:tyB Z9 75 true 5=true:=by kernel_rfl
theorem U4:inZ Z9 75=some (some (.agg #[.slice none 0 0,.int .i64 0,.int .i64 0,.slice none 0 0,.bool false]),5,72):=by kernel_rfl
theorem Yt:stB Z9 75=true:=by kernel_rfl
theorem Hv:DG Z9 75 0 0=true:=by kernel_rfl
theorem VO:DG Z9 75 1 1=true:=by kernel_rfl
theorem VN:DG Z9 75 2 2=true:=by kernel_rfl
theorem K8:DG Z9 75 3 3=true:=by kernel_rfl
theorem VM:DG Z9 75 4 4=true:=by kernel_rfl
theorem Yo:tyB Z9 88 false 1=true:=by kernel_rfl
theorem Ds:tyB Z9 95 true 2=true:=by kernel_rfl
theorem HE:inZ Z9 95=some (some (.agg #[.int .i64 0,.bool false]),2,16):=by kernel_rfl
theorem Ul:stB Z9 95=true:=by kernel_rfl
theorem Io:DG Z9 95 0 0=true:=by kernel_rfl
theorem LN:(match Z9.underlying 95 with|some (.struct fs)=>(match fs[0]? with|some f=>ZA f.offset 0&&(match Z9.info? f.type with|some i=>ZA i.size 1|none=>false)|none=>false)|_=>false)=true:=by kernel_rfl
theorem Im:DG Z9 95 1 1=true:=by kernel_rfl
theorem Qi:(match Z9.underlying 95 with|some (.struct fs)=>(match fs[1]? with|some f=>ZA f.offset 1&&(match Z9.info? f.type with|some i=>ZA i.size 1|none=>false)|none=>false)|_=>false)=true:=by kernel_rfl
theorem IK:tyB Z9 97 true 5=true:=by kernel_rfl
theorem V7:inZ Z9 97=some (some (.agg #[.int .i64 0,.int .i64 0,.int .i64 0,.int .i64 0,.bool false]),5,40):=by kernel_rfl
theorem YU:stB Z9 97=true:=by kernel_rfl
theorem Il:DG Z9 97 0 0=true:=by kernel_rfl
theorem VH:(match Z9.underlying 97 with|some (.struct fs)=>(match fs[0]? with|some f=>ZA f.offset 0&&(match Z9.info? f.type with|some i=>ZA i.size 1|none=>false)|none=>false)|_=>false)=true:=by kernel_rfl
theorem Qk:DG Z9 97 1 1=true:=by kernel_rfl
theorem VG:(match Z9.underlying 97 with|some (.struct fs)=>(match fs[1]? with|some f=>ZA f.offset 1&&(match Z9.info? f.type with|some i=>ZA i.size 1|none=>false)|none=>false)|_=>false)=true:=by kernel_rfl
theorem VL:DG Z9 97 2 2=true:=by kernel_rfl
theorem VF:(match Z9.underlying 97 with|some (.struct fs)=>(match fs[2]? with|some f=>ZA f.offset 2&&(match Z9.info? f.type with|some i=>ZA i.size 1|none=>false)|none=>false)|_=>false)=true:=by kernel_rfl
theorem SU:DG Z9 97 3 3=true:=by kernel_rfl
theorem Y0:(match Z9.underlying 97 with|some (.struct fs)=>(match fs[3]? with|some f=>ZA f.offset 3&&(match Z9.info? f.type with|some i=>ZA i.size 2|none=>false)|none=>false)|_=>false)=true:=by kernel_rfl
theorem OQ:tyB Z9 103 false 1=true:=by kernel_rfl
theorem Za:inZ Z9 105=some (some (.agg #[.slice none 0 0,.slice none 0 0,.int .i64 0,.slice none 0 0,.slice none 0 0,.int .i64 0,.slice none 0 0,.map none]),8,144):=by kernel_rfl
theorem YW:stB Z9 105=true:=by kernel_rfl
theorem TO:DG Z9 105 0 0=true:=by kernel_rfl
theorem Xv:(match Z9.underlying 105 with|some (.struct fs)=>(match fs[0]? with|some f=>ZA f.offset 0&&(match Z9.info? f.type with|some i=>ZA i.size 2|none=>false)|none=>false)|_=>false)=true:=by kernel_rfl
theorem Qp:DG Z9 105 1 2=true:=by kernel_rfl
theorem Xu:(match Z9.underlying 105 with|some (.struct fs)=>(match fs[1]? with|some f=>ZA f.offset 2&&(match Z9.info? f.type with|some i=>ZA i.size 3|none=>false)|none=>false)|_=>false)=true:=by kernel_rfl
theorem Xz:DG Z9 105 2 5=true:=by kernel_rfl
theorem Xt:(match Z9.underlying 105 with|some (.struct fs)=>(match fs[2]? with|some f=>ZA f.offset 5&&(match Z9.info? f.type with|some i=>ZA i.size 1|none=>false)|none=>false)|_=>false)=true:=by kernel_rfl
theorem Qo:DG Z9 105 3 6=true:=by kernel_rfl
theorem Xs:(match Z9.underlying 105 with|some (.struct fs)=>(match fs[3]? with|some f=>ZA f.offset 6&&(match Z9.info? f.type with|some i=>ZA i.size 1|none=>false)|none=>false)|_=>false)=true:=by kernel_rfl
theorem JM:DG Z9 105 4 7=true:=by kernel_rfl
theorem Xr:(match Z9.underlying 105 with|some (.struct fs)=>(match fs[4]? with|some f=>ZA f.offset 7&&(match Z9.info? f.type with|some i=>ZA i.size 1|none=>false)|none=>false)|_=>false)=true:=by kernel_rfl
theorem Dt:tyB Z9 108 true 3=true:=by kernel_rfl
theorem Ry:inZ Z9 108=some (some (.agg #[.int .i64 0,.int .i64 0,.int .i64 0]),3,24):=by kernel_rfl
theorem XQ:stB Z9 108=true:=by kernel_rfl
theorem Ll:DG Z9 108 0 0=true:=by kernel_rfl
theorem TM:(match Z9.underlying 108 with|some (.struct fs)=>(match fs[0]? with|some f=>ZA f.offset 0&&(match Z9.info? f.type with|some i=>ZA i.size 1|none=>false)|none=>false)|_=>false)=true:=by kernel_rfl
theorem Qn:DG Z9 108 1 1=true:=by kernel_rfl
theorem TL:(match Z9.underlying 108 with|some (.struct fs)=>(match fs[1]? with|some f=>ZA f.offset 1&&(match Z9.info? f.type with|some i=>ZA i.size 1|none=>false)|none=>false)|_=>false)=true:=by kernel_rfl
theorem Qm:DG Z9 108 2 2=true:=by kernel_rfl
theorem TK:(match Z9.underlying 108 with|some (.struct fs)=>(match fs[2]? with|some f=>ZA f.offset 2&&(match Z9.info? f.type with|some i=>ZA i.size 1|none=>false)|none=>false)|_=>false)=true:=by kernel_rfl
theorem Dl:tyB Z9 132 true 3=true:=by kernel_rfl
theorem Hh:inZ Z9 132=some (some (.agg #[.bool false,.int .i64 0,.int .i64 0]),3,24):=by kernel_rfl
theorem OT:stB Z9 132=true:=by kernel_rfl
theorem Hk:DG Z9 132 0 0=true:=by kernel_rfl
theorem MW:(match Z9.underlying 132 with|some (.struct fs)=>(match fs[0]? with|some f=>ZA f.offset 0&&(match Z9.info? f.type with|some i=>ZA i.size 1|none=>false)|none=>false)|_=>false)=true:=by kernel_rfl
theorem FP:DG Z9 132 1 1=true:=by kernel_rfl
theorem MV:(match Z9.underlying 132 with|some (.struct fs)=>(match fs[1]? with|some f=>ZA f.offset 1&&(match Z9.info? f.type with|some i=>ZA i.size 1|none=>false)|none=>false)|_=>false)=true:=by kernel_rfl
theorem D3:DG Z9 132 2 2=true:=by kernel_rfl
theorem MU:(match Z9.underlying 132 with|some (.struct fs)=>(match fs[2]? with|some f=>ZA f.offset 2&&(match Z9.info? f.type with|some i=>ZA i.size 1|none=>false)|none=>false)|_=>false)=true:=by kernel_rfl
theorem Df:tyB Z9 148 false 1=true:=by kernel_rfl
theorem YZ:inZ Z9 148=some (some (.slice none 0 0),1,24):=by kernel_rfl
theorem D5:tyB Z9 151 true 4=true:=by kernel_rfl
theorem Jk:inZ Z9 151=some (some (.agg #[.int .i64 0,.bool false,.int .i64 0,.int .i64 0]),4,32):=by kernel_rfl
theorem XP:stB Z9 151=true:=by kernel_rfl
theorem Xy:DG Z9 151 0 0=true:=by kernel_rfl
theorem TJ:(match Z9.underlying 151 with|some (.struct fs)=>(match fs[0]? with|some f=>ZA f.offset 0&&(match Z9.info? f.type with|some i=>ZA i.size 2|none=>false)|none=>false)|_=>false)=true:=by kernel_rfl
theorem TN:DG Z9 151 1 2=true:=by kernel_rfl
theorem TI:(match Z9.underlying 151 with|some (.struct fs)=>(match fs[1]? with|some f=>ZA f.offset 2&&(match Z9.info? f.type with|some i=>ZA i.size 1|none=>false)|none=>false)|_=>false)=true:=by kernel_rfl
theorem Ql:DG Z9 151 2 3=true:=by kernel_rfl
theorem TH:(match Z9.underlying 151 with|some (.struct fs)=>(match fs[2]? with|some f=>ZA f.offset 3&&(match Z9.info? f.type with|some i=>ZA i.size 1|none=>false)|none=>false)|_=>false)=true:=by kernel_rfl
theorem Cq:tyB Z9 182 true 4=true:=by kernel_rfl
theorem HF:inZ Z9 182=some (some (.agg #[.int .i64 0,.int .i64 0,.int .i64 0,.int .i64 0]),4,32):=by kernel_rfl
theorem UW:stB Z9 182=true:=by kernel_rfl
theorem D2:DG Z9 182 0 0=true:=by kernel_rfl
theorem TG:(match Z9.underlying 182 with|some (.struct fs)=>(match fs[0]? with|some f=>ZA f.offset 0&&(match Z9.info? f.type with|some i=>ZA i.size 1|none=>false)|none=>false)|_=>false)=true:=by kernel_rfl
theorem FO:DG Z9 182 1 1=true:=by kernel_rfl
theorem TF:(match Z9.underlying 182 with|some (.struct fs)=>(match fs[1]? with|some f=>ZA f.offset 1&&(match Z9.info? f.type with|some i=>ZA i.size 1|none=>false)|none=>false)|_=>false)=true:=by kernel_rfl
theorem F7:DG Z9 182 2 2=true:=by kernel_rfl
theorem TE:(match Z9.underlying 182 with|some (.struct fs)=>(match fs[2]? with|some f=>ZA f.offset 2&&(match Z9.info? f.type with|some i=>ZA i.size 1|none=>false)|none=>false)|_=>false)=true:=by kernel_rfl
theorem JL:DG Z9 182 3 3=true:=by kernel_rfl
theorem TD:(match Z9.underlying 182 with|some (.struct fs)=>(match fs[3]? with|some f=>ZA f.offset 3&&(match Z9.info? f.type with|some i=>ZA i.size 1|none=>false)|none=>false)|_=>false)=true:=by kernel_rfl
theorem US:tyB Z9 194 true 4=true:=by kernel_rfl
theorem V8:inZ Z9 194=some (some (.agg #[.int .i64 0,.bool false,.int .i64 0,.int .i64 0]),4,32):=by kernel_rfl
theorem YV:stB Z9 194=true:=by kernel_rfl
theorem Xq:(match Z9.underlying 194 with|some (.struct fs)=>(match fs[0]? with|some f=>ZA f.offset 0&&(match Z9.info? f.type with|some i=>ZA i.size 2|none=>false)|none=>false)|_=>false)=true:=by kernel_rfl
theorem Xx:DG Z9 194 1 2=true:=by kernel_rfl
theorem Xp:(match Z9.underlying 194 with|some (.struct fs)=>(match fs[1]? with|some f=>ZA f.offset 2&&(match Z9.info? f.type with|some i=>ZA i.size 1|none=>false)|none=>false)|_=>false)=true:=by kernel_rfl
theorem Xw:DG Z9 194 2 3=true:=by kernel_rfl
theorem Xo:(match Z9.underlying 194 with|some (.struct fs)=>(match fs[2]? with|some f=>ZA f.offset 3&&(match Z9.info? f.type with|some i=>ZA i.size 1|none=>false)|none=>false)|_=>false)=true:=by kernel_rfl
open Go.D
open Go.ChangeShapes Go.WideShapes Go.Deep
def J6 {α:Type} (c:α→List T) (P:Program) (t:TypeId):Prop:=
 ∀ {H:Type} {enc:TypeId×Value→H} {w:World} {base:Nat} {spare:Nat→Bool} {held:Bool} {fuel:Nat} {cs:List Value} {x:DataW H×List MemPlace},
  DataW.trod enc P w base spare held fuel t cs=some x→∃ (a:α) (F:List Nat),Cs false w (c a) cs F
theorem Q9 {o:Bool} {w:World} {t:T} {v:Value} {F:List Nat} (h:C o w t v F):Cs o w [t] [v] F:=by
 unfold Cs
 exact⟨v,[],F,[],rfl,h,by unfold Cs;exact⟨rfl,rfl⟩,by simp⟩
theorem Tm {o:Bool} {w:World} {t:T} {v:Value} {F:List Nat} (h:Cs o w [t] [v] F):C o w t v F:=by
 simp only [Cs] at h
 obtain⟨c,cr,G1,G2,h1,h2,⟨rfl,rfl⟩,rfl⟩:=h
 cases h1
 simpa using h2
theorem OX {α:Type} {c:α→List T} {w:World} {b k:Nat} (hc:∀ a,(c a).length=k):∀ (l:List α) (css:List (List Value)) (Fs:List (List Nat)) (off:Nat),css.length=l.length→Fs.length=l.length→
 (∀ (i:Nat) (x:α) (cs:List Value) (f:List Nat),l[i]?=some x→css[i]?=some cs→Fs[i]?=some f→Cs false w (c x) cs f)→
 (∀ (i:Nat) (cs:List Value) (j:Nat) (u:Value),css[i]?=some cs→cs[j]?=some u→w.cell? ⟨b,off+i*k+j,none⟩=some u)→Rws false w b k off (l.map c) Fs.flatten
 | [],css,Fs,off,h1,h2,h3,h4=>by
  have:Fs=[]:=List.eq_nil_of_length_eq_zero (by simpa using h2)
  subst this
  simp only [List.map_nil,List.flatten_nil]
  unfold Rws
  rfl
 | a::l,css,Fs,off,h1,h2,h3,h4=>by
  match css,Fs,h1,h2 with
  | cs::css,f::Fs,h1,h2=>
   have ih:=OX hc l css Fs (off+k) (by simpa using h1) (by simpa using h2) (fun i x cs' f' hx hcs hf=>h3 (i+1) x cs' f' (by simpa using hx) (by simpa using hcs) (by simpa using hf)) (fun i cs' j u hcs hu=>by
    have:=h4 (i+1) cs' j u (by simpa using hcs) hu
    rwa [show off+(i+1)*k+j=off+k+i*k+j by rw [Aai];omega] at this)
   rw [ZS,Aah]
   unfold Rws
   refine⟨f,Fs.flatten,hc a,Ms.of (h3 0 a cs f rfl rfl rfl) fun j u hj=>?_,ih,rfl⟩
   have:=h4 0 cs j u rfl hj
   simpa using this
theorem Rl {α:Type} {c:α→List T} {k:Nat} {P:Program} {t e:TypeId} (ht:P.underlying t=some (.slice e)) (hk:P.cellsOf e=k) (hpos:0<k) (hc:∀ a,(c a).length=k) (he:J6 c P e):J6 (fun (l:List α)=>[T.sl k (l.map c)]) P t:=by
 intro H enc w base spare held fuel cs x h
 rcases open_slice ht h with ⟨rfl,_⟩|⟨a,len,cap,m,n,D,Pl,rfl,hb,hl,hm,hmm,_,hi⟩
 · refine⟨[],[],Q9 ?_⟩
   unfold C
   exact⟨none,0,0,rfl,rfl,Aau _,Nat.zero_le _,.inl ⟨rfl,rfl,fun h=>by cases h⟩⟩
 have hlm:len≤m:=by rw [hmm];split<;>omega
 have key:∀ q,q≤len→∃ (css:List (List Value)) (l:List α) (Fs:List (List Nat)),css.length=q∧l.length=q∧Fs.length=q∧
  (∀ (i:Nat) (x:α) (cs:List Value) (f:List Nat),l[i]?=some x→css[i]?=some cs→Fs[i]?=some f→Cs false w (c x) cs f)∧
  (∀ (i:Nat) (cs:List Value),css[i]?=some cs→w.cells? base (a.add (i*P.cellsOf e)) (P.cellsOf e)=some cs):=by
  intro q
  induction q with
  | zero=>intro _;exact⟨[],[],[],rfl,rfl,rfl,by simp,by simp⟩
  | succ q ih=>
   intro hq
   obtain⟨css,l,Fs,h1,h2,h3,h4,h5⟩:=ih (by omega)
   obtain⟨cs',hc,htr⟩:=hi q (by omega)
   obtain⟨y,f,hr⟩:=he htr
   refine⟨css++[cs'],l++[y],Fs++[f],by simp [h1],by simp [h2],by simp [h3],fun i x cs f' hx hcs hf=>?_,fun i cs hcs=>?_⟩
   · rcases Aav i q with hlt|rfl|hgt
     · rw [ZP (by omega)] at hx hcs hf
       exact h4 i x cs f' hx hcs hf
     · rw [ZN (by omega),h2] at hx
       rw [ZN (by omega),h1] at hcs
       rw [ZN (by omega),h3] at hf
       simp at hx hcs hf
       subst hx;subst hcs;subst hf;exact hr
     rw [Aaw (by simp;omega)] at hx
     cases hx
   rcases Aav i q with hlt|rfl|hgt
   · rw [ZP (by omega)] at hcs
     exact h5 i cs hcs
   · rw [ZN (by omega),h1] at hcs
     simp at hcs
     subst hcs;exact hc
   rw [Aaw (by simp;omega)] at hcs
   cases hcs
 obtain⟨css,l,Fs,h1,h2,h3,h4,h5⟩:=key len (Aau _)
 by_cases h0:len=0
 · refine⟨l,[],Q9 ?_⟩
   unfold C
   exact⟨some a,len,cap,rfl,by simpa using h2,hl,hm,.inl ⟨h0,rfl,fun h=>by cases h⟩⟩
 obtain⟨b,off,spot⟩:=a
 obtain⟨_,hlen0,hat0⟩:=Aax (h5 0 _ (ZJ (by omega)))
 have c0:=hat0 0 (by omega)
 rw [ZJ (by omega)] at c0
 have hlt:b<w.heap.size:=by
  have:=World.block_lt_of_cell? w _ c0
  simpa [Addr.add] using this
 have hspot:spot=none:=by
  have:=World.cell?_spot c0
  simpa [Addr.add] using this
 subst hspot
 refine⟨l,b::Fs.flatten,Q9 ?_⟩
 unfold C
 refine⟨some ⟨b,off,none⟩,len,cap,rfl,by simpa using h2,hl,hm,.inr ⟨b,off,Fs.flatten,rfl,rfl,hlt,(by simp),OX hc l css Fs off (by omega) (by omega) h4 fun i cs j u hcs hu=>?_⟩⟩
 obtain⟨_,hlen',hat⟩:=Aax (h5 i cs hcs)
 have hj:j<cs.length:=(ZH.1 hu).1
 have:=hat j (by omega)
 rw [hu] at this
 rw [←this,←hk]
 congr 1
 unfold Addr.add
 split<;>split<;>simp_all<;>omega
theorem J6.vl {α:Type} {c:α→List T} {P:Program} {t:TypeId} {v:Value} {H:Type} {enc:TypeId×Value→H} {w:World} {base:Nat} {spare:Nat→Bool} {held:Bool} {d:DataW H} {p:List MemPlace} (h:J6 c P t)
 (hv:DataW.Trod enc P w base spare held t v d p):∃ (a:α) (F:List Nat),Cs false w (c a) v.cells.toList F:=by
 obtain⟨fuel,hf⟩:=hv
 exact h hf
def P1 (n:Fin 256):List T:=[.v (.int .u8 (n.val:Int))]
theorem SA {P:Program} {t:TypeId} (ht:P.underlying t=some (.int .u8)):J6 P1 P t:=by
 intro H enc w base spare held fuel cs x h
 obtain⟨n,rfl,_,hw⟩:=DataW.trod_int ht h
 have hr:0≤n∧n<256:=by
  simp [Lit.wf,IntKind.min,IntKind.max] at hw
  have h1:IntKind.u8.bits=8:=rfl
  simp [IntKind.signed,h1] at hw
  omega
 obtain⟨k,rfl⟩:∃ k:Nat,n=(k:Int):=⟨n.toNat,by omega⟩
 exact⟨⟨k,by omega⟩,[],Q9 (by unfold C;exact⟨rfl,rfl,rfl⟩)⟩
theorem X9 (l:List (Fin 256)):byR (l.map fun n=>(n.val:Int))=l.map P1:=by
 unfold byR;rw [List.map_map];rfl
theorem Zv {w:World} {l:List (Fin 256)} {v:Value} {F:List Nat} (h:C false w (.sl 1 (l.map P1)) v F):C false w (.sl 1 (byR (l.map fun n=>(n.val:Int)))) v F:=by rw [X9];exact h
theorem UC (l:List (Fin 256)):∀ n∈l.map (fun n=>(n.val:Int)),0≤n∧n<256:=fun n hn=>by
 obtain⟨k,_,rfl⟩:=Aas.1 hn
 have:=k.isLt
 omega
theorem Xi (bs:List Int):FnT Z9 5 [.one (.sl 1 (byR bs))] (.a (.one (.v (.bool (decide (1048576<bs.length)))))):=by
 refine A8 Aaz U (by kernel_rfl) Aba U fun hlen w0=>?_
 try simp [BC,AS,BH,AP,AG,BG,BO,CF,DE,BW,BA,AE,AK,BJ,AT,Em,DD,AZ,BN] at hlen
 refine Af (An ?_);refine Aa (Af (Ab ?_));refine Ac ((by first|exact Di U (.no U) U (.tm U) (by first|exact .t|exact .rf U|exact .vw|exact .nil) Aay|exact Ye U (.no U) U (.tm U) (by first|exact .t|exact .rf U|exact .vw|exact .nil) Aay)) U ?_;refine AWl.gc ?_;refine Ah ?_;refine Aa (Aq (Bl U U ?_))
 simp [byR];omega
end Go.Q
