import Derived.Test.YtdhojcaoljhbiaaGreatB67xc
import Derived.Test.YtdhojcaoljhbiaaGreatB18xc
set_option linter.unusedVariables false
set_option linter.unusedSimpArgs false
set_option maxHeartbeats 1000000
set_option maxRecDepth 100000
open List renaming mem_map->Z9,getElem?_eq_some_iff->ZA,mem_filter->ZB,mem_append->ZC,mem_singleton->ZE,mem_of_getElem?->ZF,getElem?_append_left->ZG,replicate->ZI,map_append->ZK,mem_range->ZL,mem_flatMap->ZM,foldl_cons->ZO,mem_cons->ZQ,take_of_length_le->ZR,getElem?_of_mem->ZS,length_map->ZT,foldl_append->ZU,append_assoc->ZV,any_eq_true->ZW,foldl->ZZ,pairwise_map->Aaa,range->Aab,pairwise_append->Aae,append_nil->Aaf,length_replicate->Aag,find?_eq_some_iff_append->Aak,take_append_of_le_length->Aal,getElem?_eq_getElem->Aam,getElem?_take->Aap
open Int renaming toNat_of_nonneg->ZD,natCast_mul->Aah,natCast_add->Aai,toNat_natCast->Aaj
open Nat renaming le_refl->ZH,lt_or_ge->ZN,succ_mul->Aac,le_trans->Aad,eq_zero_or_pos->Aan,strongRecOn->Aao
open Prod.mk renaming injEq->ZJ
open Bool renaming and_eq_true->ZP,or_eq_true->ZX,not_eq_true->ZY
namespace Go.Q
open Go.D Go.Proofs.YtdhojcaoljhbiaaGreat
structure TNd where
 node:Int
 set:Nat
 from_:Int
 step:DK
def cNd (x:TNd):List T:=[.v (.int .i64 x.node),.v (.int .i64 (x.set:Int)),.v (.int .i64 x.from_),.v (.int .i64 x.step.Edge),.v (.bool x.step.Inverse)]
def Jj (x:TNd):Int×Nat:=(x.node,x.set)
def EU (g:AC) (a:AA) (d:TNd) (y:DB):Nat:=DX a d.set (AL g d.node) y.letter
def IC (g:AC) (a:AA) (c:Int) (d:TNd) (y:DB):Bool:=decide (EU g a d y=0)||!CZ c (AL g d.node) (AL g y.to)
def Mr (u:Int) (m:Nat) (e:TNd):Bool:=decide (e.node=u)&&decide (e.set=m)
def F8 (g:AC) (a:AA) (c:Int) (k:Nat) (d:TNd) (L:List TNd) (y:DB):List TNd:=
 if IC g a c d y||L.any (Mr y.to (EU g a d y)) then L else L++[⟨y.to,EU g a d y,(k:Int),y.step⟩]
def expN (g:AC) (a:AA) (c:Int) (k:Nat) (d:TNd) (j:Nat) (L:List TNd):List TNd:=((AV g d.node).take j).foldl (F8 g a c k d) L
def IS (a:AA) (x:Int):TNd:=⟨x,2^a.Start.toNat,-1,⟨0,false⟩⟩
def BQ (g:AC) (a:AA) (c x:Int):Nat→List TNd
 | 0=>[IS a x]
 | k+1=>match (BQ g a c x k)[k]? with
  | none=>BQ g a c x k
  | some d=>expN g a c k d (AV g d.node).length (BQ g a c x k)
theorem Er {g:AC} {a:AA} {c:Int} {k:Nat} {d:TNd} {j:Nat} {y:DB} (h:(AV g d.node)[j]?=some y) (L:List TNd):expN g a c k d (j+1) L=F8 g a c k d (expN g a c k d j L) y:=by
 unfold expN;rw [CO h,ZU];rfl
theorem SZ {g:AC} {a:AA} {c x:Int} {k:Nat} (h:(BQ g a c x k).length≤k):∀ m,k≤m→BQ g a c x m=BQ g a c x k:=by
 intro m hm
 obtain⟨d,rfl⟩:=Nat.le.dest hm
 clear hm
 induction d with
 | zero=>rfl
 | succ d ih=>
  show BQ g a c x (k+d+1)=_
  rw [BQ]
  rw [ih]
  rw [List.getElem?_eq_none (by omega)]
theorem Wm (g:AC) (a:AA) (c:Int) (k:Nat) (d:TNd) (L:List TNd) (y:DB):∃ r,F8 g a c k d L y=L++r:=by
 unfold F8
 split
 · exact⟨[],by simp⟩
 exact⟨_,rfl⟩
theorem Jq (g:AC) (a:AA) (c:Int) (k:Nat) (d:TNd) (L:List TNd):∀ l:List DB,∃ r,l.foldl (F8 g a c k d) L=L++r:=by
 intro l
 induction l generalizing L with
 | nil=>exact⟨[],by simp⟩
 | cons y l ih=>
  obtain⟨r1,h1⟩:=Wm g a c k d L y
  obtain⟨r2,h2⟩:=ih (F8 g a c k d L y)
  exact⟨r1++r2,by rw [ZO,h2,h1,ZV]⟩
theorem HH {g:AC} {a:AA} {c:Int} {k:Nat} {d:TNd} {j i:Nat} {L:List TNd} (hi:i<L.length):(expN g a c k d j L)[i]?=L[i]?:=by
 obtain⟨r,h⟩:=Jq g a c k d L ((AV g d.node).take j)
 unfold expN
 rw [h,ZG hi]
structure ExI (g:AC) (a:AA) (c x:Int) (L:List TNd):Prop where
 rch:∀ d∈L,J0 g a c x d.node d.set
 nod:(L.map Jj).Nodup
theorem RQ {L:List TNd} {u:Int} {m:Nat}:L.any (Mr u m)=true↔(u,m)∈L.map Jj:=by
 rw [ZW]
 unfold Mr Jj
 simp only [ZP,decide_eq_true_eq,Z9,ZJ]
theorem MR {g:AC} {a:AA} {c:Int} {d:TNd} {y:DB} (hy:y∈AV g d.node):IC g a c d y=false↔y∈CB g c d.node∧EU g a d y≠0:=by
 unfold IC CB
 rw [Bool.or_eq_false_iff,ZB]
 simp only [decide_eq_false_iff_not,Bool.not_eq_false',ne_eq]
 exact⟨fun h=>⟨⟨hy,h.2⟩,h.1⟩,fun h=>⟨h.2,h.1.2⟩⟩
theorem ExI.add {g:AC} {a:AA} {c x:Int} {L:List TNd} (h:ExI g a c x L) {k:Nat} {d:TNd} (hd:J0 g a c x d.node d.set) {y:DB} (hy:y∈AV g d.node):ExI g a c x (F8 g a c k d L y):=by
 unfold F8
 split
 · exact h
 rename_i hc
 simp only [ZX,not_or,ZY] at hc
 have h1:=(MR hy).1 hc.1
 refine⟨fun e he=>?_,?_⟩
 · rcases ZC.1 he with he|he
   · exact h.rch e he
   rw [ZE] at he
   subst he;exact .step hd h1.1 h1.2
 rw [ZK,List.nodup_append]
 refine⟨h.nod,by simp,fun z hz w hw e=>?_⟩
 rw [List.map_singleton,ZE] at hw
 subst hw;subst e
 have:L.any (Mr y.to (EU g a d y))=true:=RQ.2 hz
 rw [hc.2] at this;cases this
theorem ExI.adds {g:AC} {a:AA} {c x:Int} {k:Nat} {d:TNd} (hd:J0 g a c x d.node d.set):∀ {l:List DB} {L:List TNd},(∀ y∈l,y∈AV g d.node)→ExI g a c x L→ExI g a c x (l.foldl (F8 g a c k d) L)
 | [],_,_,h=>h
 | y::l,L,hl,h=>ExI.adds hd (l:=l) (fun z hz=>hl z (by simp [hz])) (h.add hd (hl y (by simp)))
theorem ExI.expN {g:AC} {a:AA} {c x:Int} {k:Nat} {d:TNd} (hd:J0 g a c x d.node d.set) (j:Nat) {L:List TNd} (h:ExI g a c x L):ExI g a c x (Go.Q.expN g a c k d j L):=ExI.adds hd (fun y hy=>List.mem_of_mem_take hy) h
theorem ExI.at (g:AC) (a:AA) (c x:Int):∀ k,ExI g a c x (BQ g a c x k)
 | 0=>⟨fun d hd=>by rw [BQ,ZE] at hd;subst hd;exact .start,by simp [BQ]⟩
 | k+1=>by
  rw [BQ]
  have ih:=ExI.at g a c x k
  split
  · exact ih
  rename_i d hd
  exact ih.expN (ih.rch d (ZF hd)) _
def MM (g:AC) (a:AA) (c:Int) (L:List TNd) (d:TNd) (l:List DB):Prop:=∀ y∈l,IC g a c d y=false→(y.to,EU g a d y)∈L.map Jj
theorem MM.more {g:AC} {a:AA} {c:Int} {L r:List TNd} {d:TNd} {l:List DB} (h:MM g a c L d l):MM g a c (L++r) d l:=fun y hy hs=>by
 rw [ZK];exact ZC.2 (.inl (h y hy hs))
theorem VZ (g:AC) (a:AA) (c:Int) (k:Nat) (d:TNd) (L:List TNd) (y:DB) (hs:IC g a c d y=false):(y.to,EU g a d y)∈(F8 g a c k d L y).map Jj:=by
 unfold F8
 rw [hs,Bool.false_or]
 split
 · rename_i h;exact RQ.1 h
 rw [ZK];exact ZC.2 (.inr (by simp [Jj]))
theorem LR {g:AC} {a:AA} {c:Int} {k:Nat} {d:TNd}:∀ (l:List DB) (L:List TNd),MM g a c (l.foldl (F8 g a c k d) L) d l
 | [],_=>fun y hy=>by cases hy
 | z::l,L=>fun y hy hs=>by
  rw [ZO]
  rcases ZQ.1 hy with rfl|hy
  · have h1:=VZ g a c k d L y hs
    obtain⟨r,h2⟩:=Jq g a c k d (F8 g a c k d L y) l
    rw [h2,ZK]
    exact ZC.2 (.inl h1)
  exact LR l _ y hy hs
theorem Na {g:AC} {a:AA} {c x:Int}:∀ {k i:Nat} {d:TNd},i<k→(BQ g a c x k)[i]?=some d→MM g a c (BQ g a c x k) d (AV g d.node)
 | k+1,i,d,hi,hd=>by
  rw [BQ] at hd ⊢
  split at hd
  · rename_i h
    have hik:i<k:=by
     have:=(ZA.1 hd).1
     have:=List.getElem?_eq_none_iff.1 h
     omega
    exact Na hik hd
  rename_i e he
  have hk:=(ZA.1 he).1
  rw [HH (by omega)] at hd
  by_cases hik:i=k
  · subst hik
    rw [he] at hd
    cases hd
    unfold expN
    rw [ZR (ZH _)]
    exact LR _ _
  have h1:=Na (k:=k) (i:=i) (by omega) hd
  obtain⟨r,h2⟩:=Jq g a c k e (BQ g a c x k) ((AV g e.node).take (AV g e.node).length)
  show MM g a c (ZZ _ _ _) d _
  rw [h2]
  exact h1.more
theorem TP {g:AC} {a:AA} {c x:Int} {k:Nat} (h:(BQ g a c x k).length≤k) {u:Int} {m:Nat} (hr:J0 g a c x u m):(u,m)∈(BQ g a c x k).map Jj:=by
 induction hr with
 | start=>
  have:∀ k,(BQ g a c x k)[0]?=some (IS a x):=by
   intro k
   induction k with
   | zero=>rfl
   | succ k ih=>
    rw [BQ]
    split
    · exact ih
    rw [HH (by have:=(ZA.1 ih).1;omega)];exact ih
  exact Z9.2 ⟨_,ZF (this k),rfl⟩
 | @step u m y _ hy hn ih=>
  obtain⟨d,hd,e⟩:=Z9.1 ih
  unfold Jj at e
  cases e
  obtain⟨i,hi⟩:=ZS hd
  have hil:=(ZA.1 hi).1
  have hya:=(ZB.1 hy).1
  exact Na (by omega) hi y hya ((MR hya).2 ⟨hy,hn⟩)
theorem ExI.len {g:AC} {a:AA} (ha:AJ a=true) (hg:AI g=true) {c x:Int} (hx:0≤x∧x<g.Values.length) {L:List TNd} (h:ExI g a c x L):L.length≤20480:=by
 have hG:=CA hg
 have hP:=DC ha
 have h1:((L.map Jj).map fun p:Int×Nat=>p.1.toNat*2^a.Accept.length+p.2).Nodup:=by
  refine Aaa.2 (List.Pairwise.imp_of_mem ?_ h.nod);intro p q hp hq hne e;refine hne ?_
  obtain⟨d,hd,rfl⟩:=Z9.1 hp
  obtain⟨d',hd',rfl⟩:=Z9.1 hq
  have r1:=(h.rch d hd).rng ha hg hx
  have r2:=(h.rch d' hd').rng ha hg hx
  have i1:=FQ (x:=d.node.toNat) r1.2
  have i2:=FQ (x:=d'.node.toNat) r2.2
  have e:d.node.toNat*2^a.Accept.length+d.set=d'.node.toNat*2^a.Accept.length+d'.set:=e
  have e1:d.node.toNat=d'.node.toNat:=by rw [←i1.1,←i2.1,e]
  have e2:d.set=d'.set:=by rw [←i1.2,←i2.2,e]
  unfold Jj
  rw [ZJ]
  exact⟨by omega,e2⟩
 have h2:=Ro (r:=Aab (g.Values.length*2^a.Accept.length)) h1 (fun z hz=>by
  obtain⟨p,hp,rfl⟩:=Z9.1 hz
  obtain⟨d,hd,rfl⟩:=Z9.1 hp
  have r1:=(h.rch d hd).rng ha hg hx
  refine ZL.2 ?_
  show d.node.toNat*2^a.Accept.length+d.set<_
  have h3:(d.node.toNat+1)*2^a.Accept.length≤g.Values.length*2^a.Accept.length:=Nat.mul_le_mul_right _ (by omega)
  rw [Aac] at h3
  omega)
 rw [ZT,ZT,List.length_range] at h2
 have h4:g.Values.length*2^a.Accept.length≤5*4096:=Nat.mul_le_mul hG.2.1 hP
 omega
def E8 (g:AC) (a:AA) (c x:Int):List TNd:=BQ g a c x (20480+x.toNat)
theorem X0 {g:AC} {a:AA} {c x:Int} {k:Nat} (hk:k≤20480) (h:(BQ g a c x k).length≤k):E8 g a c x=BQ g a c x k:=by unfold E8;exact SZ h _ (by omega)
theorem VP {g:AC} {a:AA} (ha:AJ a=true) (hg:AI g=true) {c x:Int} (hx:0≤x∧x<g.Values.length) {u:Int} {m K:Nat} (hK:20480≤K):(u,m)∈(BQ g a c x K).map Jj↔J0 g a c x u m:=by
 have hI:=ExI.at g a c x K
 constructor
 · intro h
   obtain⟨d,hd,e⟩:=Z9.1 h
   unfold Jj at e
   cases e
   exact hI.rch d hd
 exact fun h=>TP (Aad (hI.len ha hg hx) hK) h
theorem Jr {g:AC} {a:AA} (ha:AJ a=true) (hg:AI g=true) {c x:Int} (hx:0≤x∧x<g.Values.length) {u:Int} {m:Nat}:(u,m)∈(E8 g a c x).map Jj↔J0 g a c x u m:=by
 unfold E8
 exact VP ha hg hx (Nat.le_add_right _ _)
theorem Ln {g:AC} {a:AA} (ha:AJ a=true) (hg:AI g=true) {c x:Int} (hx:0≤x∧x<g.Values.length):(E8 g a c x).length≤20480:=by
 unfold E8
 exact (ExI.at g a c x _).len ha hg hx
def Iu (g:AC) (a:AA) (d:TNd):Bool:=Hy a d.set (AL g d.node)
def GT (g:AC) (a:AA) (c x:Int) (k:Nat):List CU:=(((E8 g a c x).take k).filter (Iu g a)).map fun d=>⟨x,d.node⟩
theorem HI {g:AC} {a:AA} {c x:Int} {k:Nat} {d:TNd} (h:(E8 g a c x)[k]?=some d):GT g a c x (k+1)=GT g a c x k++if Iu g a d then [⟨x,d.node⟩] else []:=by
 unfold GT
 rw [CO h,List.filter_append,ZK]
 refine congrArg (((((E8 g a c x).take k).filter (Iu g a)).map fun d=>(⟨x,d.node⟩:CU))++·) ?_
 cases hb:Iu g a d<;>simp [hb]
def MK (g:AC) (a:AA) (c:Int) (i:Nat):List CU:=(Aab i).flatMap fun (x:Nat)=>GT g a c x (E8 g a c x).length
theorem JO (g:AC) (a:AA) (c:Int) (i:Nat):MK g a c (i+1)=MK g a c i++GT g a c i (E8 g a c i).length:=by
 unfold MK;rw [List.range_succ,List.flatMap_append];simp
theorem Px (g:AC) (a:AA) (c x:Int) (k:Nat):(GT g a c x k).length≤(E8 g a c x).length:=by
 unfold GT
 rw [ZT]
 exact Aad (List.length_filter_le _ _) (by simp;omega)
theorem RD {g:AC} {a:AA} (ha:AJ a=true) (hg:AI g=true) (c:Int):∀ i,i≤g.Values.length→(MK g a c i).length≤i*20480
 | 0,_=>by simp [MK]
 | i+1,h=>by
  rw [JO,List.length_append,Aac]
  have h1:=RD ha hg c i (by omega)
  have h2:=Px g a c i (E8 g a c i).length
  have h4:=Ln ha hg (c:=c) (x:=(i:Int)) (by omega)
  omega
theorem Kp (g:AC) (a:AA) (c:Int):∀ i,EB El (EJ g a c i):=by
 intro i
 induction i with
 | zero=>unfold EJ;exact List.Pairwise.nil
 | succ i ih=>
  rw [Gd]
  refine Aae.2 ⟨ih,?_,?_⟩
  · unfold Ei
    rw [Aaa]
    refine List.Pairwise.filter _ (List.Pairwise.imp ?_ List.pairwise_lt_range);intro p q h
    unfold El
    simp;omega
  intro p hp q hq
  unfold EJ at hp
  obtain⟨x,hx,hp⟩:=ZM.1 hp
  have hx:=ZL.1 hx
  unfold Ei at hp hq
  obtain⟨y,_,rfl⟩:=Z9.1 hp
  obtain⟨z,_,rfl⟩:=Z9.1 hq
  unfold El
  simp;omega
theorem Y7 {g:AC} {a:AA} (ha:AJ a=true) (hg:AI g=true) (c:Int):H4 El (MK g a c g.Values.length)=EJ g a c g.Values.length:=by
 refine HT Lb (IX Lb _) (Kp g a c _) fun p=>?_
 rw [Rt]
 unfold MK EJ
 rw [ZM,ZM]
 refine exists_congr fun x=>and_congr_right fun hx=>?_
 have hx:=ZL.1 hx
 have hxr:0≤(x:Int)∧(x:Int)<g.Values.length:=by omega
 unfold GT Ei
 rw [ZR (ZH _),Z9,Z9]
 constructor
 · rintro⟨d,hd,rfl⟩
   obtain⟨hd1,hd2⟩:=ZB.1 hd
   have hr:=(Jr ha hg (c:=c) hxr).1 (Z9.2 ⟨d,hd1,rfl⟩)
   have hrr:=hr.rng ha hg hxr
   refine⟨d.node.toNat,ZB.2 ⟨ZL.2 (by omega),?_⟩,by rw [ZD hrr.1.1]⟩
   rw [ZD hrr.1.1]
   exact (LQ ha hg hxr hrr.1).2 ⟨d.set,hr,hd2⟩
 rintro⟨y,hy,rfl⟩
 obtain⟨hy1,hy2⟩:=ZB.1 hy
 have hy1:=ZL.1 hy1
 obtain⟨m,hr,hm⟩:=(LQ ha hg hxr (y:=(y:Int)) (by omega)).1 hy2
 obtain⟨d,hd,e⟩:=Z9.1 ((Jr ha hg (c:=c) hxr).2 hr)
 unfold Jj at e
 rw [ZJ] at e
 refine⟨d,ZB.2 ⟨hd,?_⟩,by rw [e.1]⟩
 unfold Iu;rw [e.1,e.2];exact hm
structure Tn (nx:Nat→List Int) (S:Int→Prop) (out qu:List Int):Prop where
 vis:∀ q∈qu,DI out q
 srt:qu.Pairwise fun p q=>atI out p≤atI out q
 top:∀ p∈qu,∀ j,DI out j→atI out j≤atI out p+1
 cls:∀ p,DI out p→p∈qu∨∀ k∈nx p.toNat,DI out k∧atI out k≤atI out p+1
 ex:∀ j,DI out j→0<atI out j→∃ q,DI out q∧j∈nx q.toNat∧atI out j=atI out q+1
 z0:∀ j,DI out j→(atI out j=0↔S j)
structure QA (nx:Nat→List Int) (S:Int→Prop) (q:Int) (l out r:List Int):Prop where
 qv:DI out q
 vis:∀ p∈r,DI out p
 srt:r.Pairwise fun p q=>atI out p≤atI out q
 lo:∀ p∈r,atI out q≤atI out p
 top:∀ j,DI out j→atI out j≤atI out q+1
 cls:∀ p,DI out p→p∈r∨p=q∨∀ k∈nx p.toNat,DI out k∧atI out k≤atI out p+1
 dn:∀ k∈l,DI out k
 ex:∀ j,DI out j→0<atI out j→∃ q,DI out q∧j∈nx q.toNat∧atI out j=atI out q+1
 z0:∀ j,DI out j→(atI out j=0↔S j)
theorem QA.step {nx:Nat→List Int} {S:Int→Prop} {q:Int} {l out r:List Int} (hS:∀ j,S j→DI out j) (h:QA nx S q l out r) {k:Int} (hk:0≤k∧k<out.length) (hkn:k∈nx q.toNat):QA nx S q (l++[k]) (rlx q (out,r) k).1 (rlx q (out,r) k).2:=by
 have hvis:∀ j,DI (rlx q (out,r) k).1 j↔DI out j∨j=k:=fun j=>MS h.qv hk
 by_cases hneg:atI out k<0
 · have e:rlx q (out,r) k=(out.set k.toNat (atI out q+1),r++[k]):=by unfold rlx;rw [if_pos hneg]
   rw [e] at hvis ⊢
   dsimp only at hvis ⊢
   have hnv:¬ DI out k:=fun hv=>by have:=hv.2.2;omega
   have hold:∀ j,DI out j→atI (out.set k.toNat (atI out q+1)) j=atI out j:=fun j hj=>by
    rw [Lt hk hj.1,if_neg (fun e=>hnv (by rw [←e];exact hj))]
   have hnew:atI (out.set k.toNat (atI out q+1)) k=atI out q+1:=by rw [Lt hk hk.1,if_pos rfl]
   have hq0:=h.qv.2.2
   refine⟨(hvis q).2 (.inl h.qv),fun p hp=>?_,?_,fun p hp=>?_,fun j hj=>?_,fun p hp=>?_,fun x hx=>?_,fun j hj h0=>?_,fun j hj=>?_⟩
   · rcases ZC.1 hp with hp|hp
     · exact (hvis p).2 (.inl (h.vis p hp))
     rw [ZE] at hp;exact (hvis p).2 (.inr hp)
   · refine Aae.2 ⟨h.srt.imp_of_mem fun {a b} ha hb hab=>?_,List.pairwise_singleton _ _,fun a ha b hb=>?_⟩
     · rw [hold a (h.vis a ha),hold b (h.vis b hb)];exact hab
     rw [ZE] at hb
     subst hb
     rw [hold a (h.vis a ha),hnew];exact h.top a (h.vis a ha)
   · rw [hold q h.qv]
     rcases ZC.1 hp with hp|hp
     · rw [hold p (h.vis p hp)];exact h.lo p hp
     rw [ZE] at hp;subst hp;rw [hnew];omega
   · rw [hold q h.qv]
     rcases (hvis j).1 hj with hj|rfl
     · rw [hold j hj];exact h.top j hj
     rw [hnew];omega
   · rcases (hvis p).1 hp with hp|rfl
     · rcases h.cls p hp with h1|h1|h1
       · exact .inl (ZC.2 (.inl h1))
       · exact .inr (.inl h1)
       refine .inr (.inr fun x hx=>?_)
       rw [hold p hp,hold x (h1 x hx).1]
       exact⟨(hvis x).2 (.inl (h1 x hx).1),(h1 x hx).2⟩
     exact .inl (ZC.2 (.inr (by simp)))
   · rcases ZC.1 hx with hx|hx
     · exact (hvis x).2 (.inl (h.dn x hx))
     rw [ZE] at hx;exact (hvis x).2 (.inr hx)
   · rcases (hvis j).1 hj with hj|rfl
     · rw [hold j hj] at h0 ⊢
       obtain⟨p,h1,h2,h3⟩:=h.ex j hj h0
       exact⟨p,(hvis p).2 (.inl h1),h2,by rw [hold p h1];exact h3⟩
     exact⟨q,(hvis q).2 (.inl h.qv),hkn,by rw [hnew,hold q h.qv]⟩
   rcases (hvis j).1 hj with hj|rfl
   · rw [hold j hj];exact h.z0 j hj
   rw [hnew]
   constructor
   · intro h0;omega
   intro hs;exact absurd (hS _ hs) hnv
 have e:rlx q (out,r) k=(out,r):=by unfold rlx;rw [if_neg hneg]
 rw [e]
 refine⟨h.qv,h.vis,h.srt,h.lo,h.top,h.cls,fun x hx=>?_,h.ex,h.z0⟩
 rcases ZC.1 hx with hx|hx
 · exact h.dn x hx
 rw [ZE] at hx;subst hx;exact⟨hk.1,hk.2,Int.not_lt.1 hneg⟩
theorem QA.all {nx:Nat→List Int} {S:Int→Prop} {q:Int}:∀ (l2:List Int) {l1 out r:List Int},(∀ j,S j→DI out j)→QA nx S q l1 out r→(∀ k∈l2,(0≤k∧k<out.length)∧k∈nx q.toNat)→QA nx S q (l1++l2) (relax q l2 (out,r)).1 (relax q l2 (out,r)).2
 | [],l1,out,r,_,h,_=>by rw [Aaf];exact h
 | k::l2,l1,out,r,hS,h,hl=>by
  have hk:=hl k (by simp)
  have h1:=h.step hS hk.1 hk.2
  have e:relax q (k::l2) (out,r)=relax q l2 ((rlx q (out,r) k).1,(rlx q (out,r) k).2):=rfl
  rw [e,show l1++k::l2=l1++[k]++l2 by simp]
  exact QA.all l2 (fun j hj=>(MS h.qv hk.1).2 (.inl (hS j hj))) h1 fun x hx=>by rw [T2];exact hl x (by simp [hx])
theorem Tn.next {nx:Nat→List Int} {S:Int→Prop} {q:Int} {out r:List Int} (hS:∀ j,S j→DI out j) (h:Tn nx S out (q::r)) (hn:∀ k∈nx q.toNat,0≤k∧k<out.length):Tn nx S (relax q (nx q.toNat) (out,r)).1 (relax q (nx q.toNat) (out,r)).2:=by
 have hp:=List.pairwise_cons.1 h.srt
 have h0:QA nx S q [] out r:=⟨h.vis q (by simp),fun p hp=>h.vis p (by simp [hp]),hp.2,hp.1,fun j hj=>h.top q (by simp) j hj,fun p hv=>by
  rcases h.cls p hv with h1|h1
  · rcases ZQ.1 h1 with h1|h1
    · exact .inr (.inl h1)
    exact .inl h1
  exact .inr (.inr h1),fun k hk=>(by cases hk),h.ex,h.z0⟩
 have h1:=QA.all (nx q.toNat) hS h0 fun k hk=>⟨hn k hk,hk⟩
 rw [List.nil_append] at h1
 refine⟨h1.vis,h1.srt,fun p hp j hj=>Int.le_trans (h1.top j hj) (Int.add_le_add_right (h1.lo p hp) 1),fun p hv=>?_,h1.ex,h1.z0⟩
 rcases h1.cls p hv with h2|rfl|h2
 · exact .inl h2
 · exact .inr fun k hk=>⟨h1.dn k hk,h1.top k (h1.dn k hk)⟩
 exact .inr h2
theorem XY {nx:Nat→List Int} {S:Int→Prop} {N:Nat} (hn:∀ p,p<N→∀ k∈nx p,0≤k∧k<N):∀ (f:Nat) (out qu:List Int),(∀ j,S j→DI out j)→FM N out qu→Eo out+qu.length<f→Tn nx S out qu→Tn nx S (bfs nx f out qu) []
 | 0,_,_,_,_,h,_=>by omega
 | f+1,out,[],_,_,_,h=>by rw [bfs];exact h
 | f+1,out,q::r,hS,hI,hf,h=>by
  rw [bfs]
  have hq:=hI.mem q (by simp)
  have hnq:=hn q.toNat (by omega)
  have hR:=FM.relax (N:=N) hq (l:=nx q.toNat) (st:=(out,r)) hI.tail hnq
  have h2:=hR.2.1
  simp only [List.length_cons] at hf h2
  exact XY hn f _ _ (fun j hj=>((L9 (q:=q) (j:=j) (l:=nx q.toNat) (out:=out) (r:=r) (h.vis q (by simp)) fun k hk=>by rw [hI.len];exact hnq k hk).1).2 (.inl (hS j hj))) hR.1 (by omega) (h.next hS fun k hk=>by rw [hI.len];exact hnq k hk)
theorem UX {nx:Nat→List Int} {N:Nat} (hn:∀ p,p<N→∀ k∈nx p,0≤k∧k<N) {l:List Int} (hl:∀ q∈l,0≤q∧q<(N:Int)):Tn nx (·∈l) (Es nx N l) []:=by
 have hz:∀ p,DI (CC l (ZI N (-1))) p↔p∈l:=fun p=>by
  rw [IN fun q hq=>by simpa using hl q hq]
  constructor
  · rintro (⟨h1,h3,h2⟩|h)
    · exfalso
      unfold atI at h2
      rw [Aag] at h3
      rw [List.getElem?_replicate,if_pos (by omega)] at h2;simp at h2
    exact h
  exact .inr
 have hv:∀ p,DI (CC l (ZI N (-1))) p→atI (CC l (ZI N (-1))) p=0:=fun p hp=>by
  have h1:=IP l (out:=ZI N (-1)) (fun v hv=>.inl (List.mem_replicate.1 hv).2) _ (ZF (CT (out:=CC l (ZI N (-1))) (k:=p) (by have:=hp.1;have:=hp.2.1;omega)))
  have:=hp.2.2
  omega
 have hng:=JH (CC l (ZI N (-1)))
 rw [Ew,Aag] at hng
 unfold Es
 refine XY hn _ _ _ (fun j hj=>(hz j).2 hj) (HK hl) (by omega) ⟨fun q hq=>(hz q).2 hq,?_,fun p hp j hj=>?_,fun p hp=>.inl ((hz p).1 hp),fun j hj h0=>?_,fun j hj=>⟨fun _=>(hz j).1 hj,fun _=>hv j hj⟩⟩
 · exact List.pairwise_of_forall_mem_list fun a ha b hb=>by rw [hv a ((hz a).2 ha),hv b ((hz b).2 hb)];exact Int.le_refl _
 · rw [hv j hj,hv p ((hz p).2 hp)];omega
 rw [hv j hj] at h0;omega
def XL (nx:Nat→List Int) (G:Nat→Bool):Nat→Nat→Prop
 | 0,i=>G i=true
 | r+1,i=>∃ z∈nx i,XL nx G r z.toNat
theorem E4.canN {nx:Nat→List Int} {G:Nat→Bool} {N:Nat} (hn:∀ p,p<N→∀ k∈nx p,0≤k∧k<N) {O:List Int} (h:E4 nx G N O):∀ (n i:Nat),i<N→atI O (i:Int)=n→XL nx G n i
 | 0,i,hi,e=>(h.z0 i hi).1 (by simpa using e)
 | n+1,i,hi,e=>by
  obtain⟨z,hz,h5⟩:=h.ex i hi (by omega)
  have hb:=hn i hi z hz
  exact⟨z,hz,h.canN hn n z.toNat (by omega) (by rw [ZD hb.1];omega)⟩
theorem E4.min {nx:Nat→List Int} {G:Nat→Bool} {N:Nat} (hn:∀ p,p<N→∀ k∈nx p,0≤k∧k<N) {O:List Int} (h:E4 nx G N O):∀ (n i:Nat),i<N→XL nx G n i→0≤atI O (i:Int)∧atI O (i:Int)≤n
 | 0,i,hi,hc=>by have:=(h.z0 i hi).2 hc;omega
 | n+1,i,hi,hc=>by
  obtain⟨z,hz,hc⟩:=hc
  have hb:=hn i hi z hz
  have ih:=h.min hn n z.toNat (by omega) hc
  rw [ZD hb.1] at ih
  have:=h.cl i hi z hz ih.1
  omega
theorem R9 {g:AC} {a:AA} (ha:AJ a=true) (hg:AI g=true) (c:Int) {y v:Int} (hy:0≤y∧y<g.Values.length) (hv:g.Values[y.toNat]?=some v):E4 (nxC g a c) (Eu g a y) (NP g a) (Fv g a c y v):=by
 have hnl:(CQ g a c).length=NP g a:=G7 g a c
 have htl:(CE (CQ g a c)).length=NP g a:=by rw [DU,hnl]
 have hok:∀ p,p<(CE (CQ g a c)).length→∀ k∈nxL (CE (CQ g a c)) p,0≤k∧k<(CE (CQ g a c)).length:=fun p hp k hk=>by rw [DU] at hp ⊢;exact GD p hp k hk
 have hgr:∀ q∈EZ a y v,0≤q∧q<((CE (CQ g a c)).length:Int):=by rw [htl];exact G8 ha hy
 have hlen:=(PH ha hg c hy hv).1
 have hD:Tn (nxL (CE (CQ g a c))) (·∈EZ a y v) (Fv g a c y v) []:=UX hok hgr
 have hlo:∀ x∈Fv g a c y v,-1≤x:=fun x hx=>((JB hok hgr).2 x hx).1
 have hgl:∀ i:Nat,i<NP g a→((i:Int)∈EZ a y v↔Eu g a y i=true):=fun i hi=>Pt ha hy.1 hv hi
 have hvi:∀ i:Nat,i<NP g a→0≤atI (Fv g a c y v) (i:Int)→DI (Fv g a c y v) (i:Int):=fun i hi h0=>⟨by omega,by rw [hlen];omega,h0⟩
 have htn:∀ q:Int,DI (Fv g a c y v) q→nxL (CE (CQ g a c)) q.toNat=EE (nxL (CQ g a c)) (CQ g a c).length q.toNat:=fun q hq=>GE (by have:=hq.1;have:=hq.2.1;omega)
 refine⟨hlen,hlo,fun i hi h0=>?_,fun i hi=>?_,fun i hi z hz h0=>?_⟩
 · obtain⟨q,hq,h1,h2⟩:=hD.ex i (hvi i hi (by omega)) h0
   rw [htn q hq] at h1
   obtain⟨i',hi',e,z,hz,ez⟩:=GM.1 h1
   have e:i=i':=by omega
   subst e
   rw [H8 hi] at hz
   have hb:=Je ha hg hi z hz
   have:z=q:=by have:=hq.1;omega
   subst this
   exact⟨z,hz,by omega⟩
 · constructor
   · intro h0
     exact (hgl i hi).1 ((hD.z0 i (hvi i hi (by omega))).1 h0)
   intro hG
   have h1:=(hgl i hi).2 hG
   have h2:DI (Fv g a c y v) (i:Int):=(Kz hok hgr).2 (.base h1)
   exact (hD.z0 i h2).2 h1
 have hb:=Je ha hg hi z hz
 have hz':DI (Fv g a c y v) z:=⟨hb.1,by rw [hlen];exact hb.2,h0⟩
 have h1:=(hD.cls z hz').resolve_left (by simp) (i:Int) (by
  rw [htn z hz']
  exact GM.2 ⟨i,by omega,rfl,z,by rw [H8 hi];exact hz,rfl⟩)
 exact⟨h1.1.2.2,h1.2⟩
def cwC (g:AC) (a:AA) (c y:Int):Nat→Int→Nat→Int
 | 0,u,m=>if m=0 then 0 else if u=y∧Hy a m (AL g u)=true then 1 else 0
 | r+1,u,m=>if m=0 then 0 else (CB g c u).foldl (fun n z=>min 1000000 (n+cwC g a c y r z.to (DX a m (AL g u) z.letter))) 0
def cwT (g:AC) (a:AA) (c y:Int) (r:Nat) (u:Int) (m j:Nat):Int:=((CB g c u).take j).foldl (fun n z=>min 1000000 (n+cwC g a c y r z.to (DX a m (AL g u) z.letter))) 0
theorem Y8 {g:AC} {a:AA} {c y:Int} {r:Nat} {u:Int} {m j:Nat} {z:DB} (h:(CB g c u)[j]?=some z):cwT g a c y r u m (j+1)=min 1000000 (cwT g a c y r u m j+cwC g a c y r z.to (DX a m (AL g u) z.letter)):=by
 unfold cwT;rw [CO h,ZU];rfl
theorem TQ {g:AC} {a:AA} {c y:Int} {r:Nat} {u:Int} {m j:Nat} (hm:m≠0) (h:(CB g c u).length≤j):cwT g a c y r u m j=cwC g a c y (r+1) u m:=by
 unfold cwT;rw [ZR h,cwC,if_neg hm]
theorem Lq {α:Type} {f:α→Int} (hf:∀ z,0≤f z):∀ (l:List α) {n:Int},0≤n→n≤1000000→0≤l.foldl (fun n z=>min 1000000 (n+f z)) n∧l.foldl (fun n z=>min 1000000 (n+f z)) n≤1000000∧(0<l.foldl (fun n z=>min 1000000 (n+f z)) n↔0<n∨∃ z∈l,0<f z)
 | [],n,h0,h1=>by simp [h0,h1]
 | z::l,n,h0,h1=>by
  have hz:=hf z
  have ih:=Lq hf l (n:=min 1000000 (n+f z)) (by omega) (by omega)
  refine⟨ih.1,ih.2.1,?_⟩
  rw [ZO,ih.2.2]
  simp only [ZQ,exists_eq_or_imp]
  rw [←or_assoc]
  exact or_congr (by omega) Iff.rfl
theorem Lo (g:AC) (a:AA) (c y:Int):∀ (r:Nat) (u:Int) (m:Nat),0≤cwC g a c y r u m∧cwC g a c y r u m≤1000000
 | 0,u,m=>by rw [cwC];split<;>(try split)<;>omega
 | r+1,u,m=>by
  rw [cwC]
  split
  · omega
  have:=Lq (f:=fun z:DB=>cwC g a c y r z.to (DX a m (AL g u) z.letter)) (fun z=>(Lo g a c y r _ _).1) (CB g c u) (n:=0) (by omega) (by omega)
  exact⟨this.1,this.2.1⟩
theorem X4 (g:AC) (a:AA) (c y:Int) (r:Nat) (u:Int) (m j:Nat):0≤cwT g a c y r u m j∧cwT g a c y r u m j≤1000000:=by
 have:=Lq (f:=fun z:DB=>cwC g a c y r z.to (DX a m (AL g u) z.letter)) (fun z=>(Lo g a c y r _ _).1) ((CB g c u).take j) (n:=0) (by omega) (by omega)
 exact⟨this.1,this.2.1⟩
theorem MY {g:AC} {a:AA} {c y:Int} {r:Nat} {u:Int} {m:Nat}:0<cwC g a c y (r+1) u m↔m≠0∧∃ z∈CB g c u,0<cwC g a c y r z.to (DX a m (AL g u) z.letter):=by
 rw [cwC]
 have:=(Lq (f:=fun z:DB=>cwC g a c y r z.to (DX a m (AL g u) z.letter)) (fun z=>(Lo g a c y r _ _).1) (CB g c u) (n:=0) (by omega) (by omega)).2.2
 split
 · rename_i h;simp [h]
 rename_i h
 rw [this]
 simp [h]
theorem HJ {g:AC} {a:AA} {c y:Int} {u:Int} {m:Nat}:0<cwC g a c y 0 u m↔u=y∧Hy a m (AL g u)=true:=by
 rw [cwC]
 by_cases hm:m=0
 · subst hm
   simp [Hy,DA]
 rw [if_neg hm]
 by_cases h:u=y∧Hy a m (AL g u)=true
 · rw [if_pos h];exact⟨fun _=>h,fun _=>by omega⟩
 rw [if_neg h];exact⟨fun h0=>by omega,fun h0=>absurd h0 h⟩
theorem Wo {a:AA} {m:Nat} {v:Int}:Hy a m v=true↔∃ q∈DA m,acc a (q:Nat) v=true:=by
 unfold Hy;rw [ZW]
theorem R5 {g:AC} {a:AA} {u y:Int} {q:Nat} (hu:0≤u) (hq:q<a.Accept.length):Eu g a y (vtx a u q)=true↔u=y∧acc a (q:Nat) (AL g u)=true:=by
 have hdq:=FQ (x:=u.toNat) hq
 have e1:(((u.toNat*a.Accept.length+q:Nat):Int) / (a.Accept.length:Int))=u:=by
  show (((u.toNat*a.Accept.length+q) / a.Accept.length:Nat):Int)=u
  rw [hdq.1,ZD hu]
 have e2:(((u.toNat*a.Accept.length+q:Nat):Int)%(a.Accept.length:Int))=(q:Int):=by
  show (((u.toNat*a.Accept.length+q)%a.Accept.length:Nat):Int)=q
  rw [hdq.2]
 unfold Eu vtx AL
 rw [e1,e2,ZP,decide_eq_true_eq]
theorem T6 {g:AC} {a:AA} {c u:Int} (hu:0≤u) {q:Nat} (hq:q<a.Accept.length):nxC g a c (vtx a u q)=(CB g c u).flatMap (E5 a (q:Nat) (AL g u)):=by
 have hd:=FQ (x:=u.toNat) hq
 unfold nxC vtx
 rw [hd.1,hd.2,ZD hu]
theorem Tp {a:AA} {u:Int} (h0:0≤u) (t:Nat):(u*(a.Accept.length:Int)+(t:Int)).toNat=vtx a u t:=by
 obtain⟨k,rfl⟩:=Int.eq_ofNat_of_zero_le h0
 unfold vtx
 show ((k:Int)*(a.Accept.length:Int)+(t:Int)).toNat=k*a.Accept.length+t
 rw [←Aah,←Aai,Aaj]
theorem MZ {g:AC} {a:AA} (ha:AJ a=true) (hg:AI g=true) {c y:Int}:∀ (r:Nat) (u:Int) (m:Nat),0≤u∧u<g.Values.length→m<2^a.Accept.length→(0<cwC g a c y r u m↔∃ q,m.testBit q=true∧XL (nxC g a c) (Eu g a y) r (vtx a u q))
 | 0,u,m,hu,hm=>by
  have hA:=AR ha
  rw [HJ,Wo]
  constructor
  · rintro⟨h1,q,hq,h2⟩
    exact⟨q,(Eg.1 hq).2,(R5 hu.1 (ES hm hq)).2 ⟨h1,h2⟩⟩
  rintro⟨q,hq,h⟩
  have hqn:q<a.Accept.length:=by
   cases ZN q a.Accept.length with
   | inl h=>exact h
   | inr h=>rw [Ff hm h] at hq;cases hq
  have:=(R5 hu.1 hqn).1 h
  exact⟨this.1,q,Eg.2 ⟨by omega,hq⟩,this.2⟩
 | r+1,u,m,hu,hm=>by
  have hA:=AR ha
  have hv:=CH hg hu
  rw [MY]
  constructor
  · rintro⟨_,z,hz,h⟩
    have h1:=DO hg (ZB.1 hz).1
    have hlt:=JU ha hm hv.2 (k:=z.letter) ⟨h1.1,by omega⟩
    obtain⟨t,ht,hc⟩:=(MZ ha hg r _ _ h1.2.2 hlt).1 h
    obtain⟨q,hq,h2⟩:=Jx.1 ht
    have hqn:=ES hm hq
    refine⟨q,(Eg.1 hq).2,z.to*(a.Accept.length:Int)+(t:Int),?_,?_⟩
    · rw [T6 hu.1 hqn]
      have hl1:=I5 ha hv.2 (s:=(q:Int)) (by omega) (k:=z.letter) ⟨h1.1,by omega⟩
      have htn:t<a.Accept.length:=by
       cases ZN t a.Accept.length with
       | inl h=>exact h
       | inr h=>rw [Ff hl1 h] at h2;cases h2
      exact ZM.2 ⟨z,hz,Z9.2 ⟨t,Eg.2 ⟨by omega,h2⟩,rfl⟩⟩
    rw [Tp h1.2.2.1];exact hc
  rintro⟨q,hq,x,hx,hc⟩
  have hqn:q<a.Accept.length:=by
   cases ZN q a.Accept.length with
   | inl h=>exact h
   | inr h=>rw [Ff hm h] at hq;cases hq
  rw [T6 hu.1 hqn] at hx
  obtain⟨z,hz,hx⟩:=ZM.1 hx
  obtain⟨t,ht,rfl⟩:=Z9.1 hx
  have h1:=DO hg (ZB.1 hz).1
  have hlt:=JU ha hm hv.2 (k:=z.letter) ⟨h1.1,by omega⟩
  rw [Tp h1.2.2.1] at hc
  refine⟨Wc hq,z,hz,(MZ ha hg r _ _ h1.2.2 hlt).2 ⟨t,Jx.2 ⟨q,Eg.2 ⟨by omega,hq⟩,(Eg.1 ht).2⟩,hc⟩⟩
def H7 (g:AC) (a:AA) (c y:Int) (r:Nat) (u:Int) (m:Nat):Option DB:=(CB g c u).find? fun z=>decide (0<cwC g a c y r z.to (DX a m (AL g u) z.letter))
def gwS (g:AC) (a:AA) (c y:Int):Nat→Int→Nat→List DK
 | 0,_,_=>[]
 | r+1,u,m=>match H7 g a c y r u m with
  | none=>[]
  | some z=>z.step::gwS g a c y r z.to (DX a m (AL g u) z.letter)
theorem K7 {g:AC} {a:AA} {c y:Int} {r:Nat} {u:Int} {m:Nat} {z:DB} (h:H7 g a c y r u m=some z):gwS g a c y (r+1) u m=z.step::gwS g a c y r z.to (DX a m (AL g u) z.letter):=by rw [gwS,h]
theorem LC {g:AC} {a:AA} {c y:Int} {r:Nat} {u:Int} {m:Nat} (h:0<cwC g a c y (r+1) u m):∃ z,H7 g a c y r u m=some z:=by
 obtain⟨_,z,hz,h⟩:=MY.1 h
 cases e:H7 g a c y r u m with
 | some z=>exact⟨z,rfl⟩
 | none=>
  unfold H7 at e
  rw [List.find?_eq_none] at e
  exact absurd h (by simpa using e z hz)
theorem WX {g:AC} {a:AA} {c y:Int} {r:Nat} {u:Int} {m j:Nat} {z:DB} (hz:(CB g c u)[j]?=some z) (hp:0<cwC g a c y r z.to (DX a m (AL g u) z.letter)) (hn:∀ x∈(CB g c u).take j,¬ 0<cwC g a c y r x.to (DX a m (AL g u) x.letter)):H7 g a c y r u m=some z:=by
 unfold H7
 rw [Aak]
 refine⟨by simpa using hp,(CB g c u).take j,(CB g c u).drop (j+1),?_,fun x hx=>by simpa using hn x hx⟩
 have hj:=(ZA.1 hz)
 rw [←hj.2,←List.drop_eq_getElem_cons hj.1,List.take_append_drop]
def upS (L:List TNd):Nat→Nat→List DK
 | 0,_=>[]
 | f+1,k=>match L[k]? with
  | none=>[]
  | some d=>if d.from_<0 then [] else upS L f d.from_.toNat++[d.step]
structure Z8 (g:AC) (a:AA) (c:Int) (L:List TNd) (b:Nat) (e:TNd) (f:Nat) (d:TNd) (j:Nat) (y:DB):Prop where
 hd:L[f]?=some d
 lt:f<b
 hy:(AV g d.node)[j]?=some y
 sk:IC g a c d y=false
 eq:e=⟨y.to,EU g a d y,(f:Int),y.step⟩
 pr:∀ i di,i<f→L[i]?=some di→MM g a c (L.take b) di (AV g di.node)
 cu:MM g a c (L.take b) d ((AV g d.node).take j)
def ExR (g:AC) (a:AA) (c:Int) (L:List TNd):Prop:=∀ b e,L[b]?=some e→0<b→∃ f d j y,Z8 g a c L b e f d j y
theorem ExR.app {g:AC} {a:AA} {c:Int} {L:List TNd} (h:ExR g a c L) {f j:Nat} {d:TNd} {y:DB} (hd:L[f]?=some d) (hy:(AV g d.node)[j]?=some y) (sk:IC g a c d y=false) (pr:∀ i di,i<f→L[i]?=some di→MM g a c L di (AV g di.node)) (cu:MM g a c L d ((AV g d.node).take j)):ExR g a c (L++[⟨y.to,EU g a d y,(f:Int),y.step⟩]):=by
 intro b e hb h0
 have hfl:=(ZA.1 hd).1
 rcases ZN b L.length with hbl|hbl
 · rw [ZG hbl] at hb
   obtain⟨f',d',j',y',hF⟩:=h b e hb h0
   have ht:(L++[(⟨y.to,EU g a d y,(f:Int),y.step⟩:TNd)]).take b=L.take b:=Aal (by omega)
   refine⟨f',d',j',y',⟨by rw [ZG (by have:=hF.lt;omega)];exact hF.hd,hF.lt,hF.hy,hF.sk,hF.eq,fun i di hi hdi=>?_,by rw [ht];exact hF.cu⟩⟩
   rw [ht]
   rw [ZG (by have:=hF.lt;omega)] at hdi
   exact hF.pr i di hi hdi
 have hbe:b=L.length:=by
  have:=(ZA.1 hb).1
  simp at this;omega
 subst hbe
 have ht:(L++[(⟨y.to,EU g a d y,(f:Int),y.step⟩:TNd)]).take L.length=L:=by rw [Aal (ZH _),List.take_length]
 rw [List.getElem?_append_right (ZH _),Nat.sub_self] at hb
 simp only [List.getElem?_cons_zero,Option.some.injEq] at hb
 refine⟨f,d,j,y,⟨by rw [ZG hfl];exact hd,hfl,hy,sk,hb.symm,fun i di hi hdi=>?_,by rw [ht];exact cu⟩⟩
 rw [ht]
 rw [ZG (by omega)] at hdi
 exact pr i di hi hdi
theorem ExR.expN {g:AC} {a:AA} {c:Int} {L:List TNd} (h:ExR g a c L) {k:Nat} {d:TNd} (hd:L[k]?=some d) (hcl:∀ i di,i<k→L[i]?=some di→MM g a c L di (AV g di.node)):∀ j,j≤(AV g d.node).length→ExR g a c (Go.Q.expN g a c k d j L)
 | 0,_=>h
 | j+1,hj=>by
  have ih:=ExR.expN h hd hcl j (by omega)
  have hy:(AV g d.node)[j]?=some ((AV g d.node)[j]'(by omega)):=Aam _
  have hkl:=(ZA.1 hd).1
  rw [Er hy]
  unfold F8
  split
  · exact ih
  rename_i hc
  simp only [ZX,not_or,ZY] at hc
  refine ih.app (by rw [HH hkl];exact hd) hy hc.1 (fun i di hi hdi=>?_) (LR _ _)
  rw [HH (by omega)] at hdi
  obtain⟨r,h2⟩:=Jq g a c k d L ((AV g d.node).take j)
  show MM g a c (ZZ _ _ _) di _
  rw [h2]
  exact (hcl i di hi hdi).more
theorem ExR.at (g:AC) (a:AA) (c x:Int):∀ k,ExR g a c (BQ g a c x k)
 | 0=>fun b e hb h0=>by
  have:=(ZA.1 hb).1
  simp [BQ] at this;omega
 | k+1=>by
  rw [BQ]
  have ih:=ExR.at g a c x k
  split
  · exact ih
  rename_i d hd
  exact ih.expN hd (fun i di hi hdi=>Na hi hdi) _ (ZH _)
theorem GR (g:AC) (a:AA) (c x:Int):∀ k,(BQ g a c x k)[0]?=some (IS a x)
 | 0=>rfl
 | k+1=>by
  rw [BQ]
  split
  · exact GR g a c x k
  rw [HH (by have:=(ZA.1 (GR g a c x k)).1;omega)];exact GR g a c x k
theorem Ni {g:AC} {a:AA} {c x:Int} {K:Nat} {b:Nat} {e:TNd} (he:(BQ g a c x K)[b]?=some e):(b=0∧e.from_=-1)∨(0<b∧0≤e.from_∧e.from_.toNat<b):=by
 rcases Aan b with rfl|hb
 · rw [GR] at he;cases he;exact .inl ⟨rfl,rfl⟩
 obtain⟨f,d,j,y,hF⟩:=ExR.at g a c x K b e he hb
 rw [hF.eq]
 have:=hF.lt
 refine .inr ⟨hb,?_,?_⟩
 · show 0≤(f:Int);omega
 show (f:Int).toNat<b;omega
theorem KL {L:List TNd} {f k:Nat} {d:TNd} (h:L[k]?=some d) (h0:0≤d.from_):upS L (f+1) k=upS L f d.from_.toNat++[d.step]:=by
 rw [upS,h];dsimp only;rw [if_neg (by omega)]
theorem PG {L:List TNd} {f k:Nat} {d:TNd} (h:L[k]?=some d) (h0:d.from_<0):upS L f k=[]:=by
 cases f with
 | zero=>rfl
 | succ f=>rw [upS,h];dsimp only;rw [if_pos h0]
theorem QE {g:AC} {a:AA} {c x:Int} {K:Nat}:∀ (k:Nat) {f f':Nat},k<(BQ g a c x K).length→k≤f→k≤f'→upS (BQ g a c x K) f k=upS (BQ g a c x K) f' k:=by
 intro k
 induction k using Aao with
 | ind k ih=>
  intro f f' hk hf hf'
  have hd:(BQ g a c x K)[k]?=some ((BQ g a c x K)[k]'hk):=Aam _
  rcases Ni hd with ⟨h0,h1⟩|⟨h0,h1,h2⟩
  · rw [PG hd (by omega),PG hd (by omega)]
  obtain⟨f,rfl⟩:∃ f0,f=f0+1:=⟨f-1,by omega⟩
  obtain⟨f',rfl⟩:∃ f0,f'=f0+1:=⟨f'-1,by omega⟩
  rw [KL hd h1,KL hd h1,ih _ h2 (f:=f) (f':=f') (by omega) (by omega) (by omega)]
theorem V3 {P:Nat→Prop} {n:Nat} (h:P n):∃ b,P b∧∀ k,k<b→¬ P k:=by
 induction n using Aao with
 | ind n ih=>
  by_cases hx:∃ m,m<n∧P m
  · obtain⟨m,hm,hp⟩:=hx
    exact ih m hm hp
  exact⟨n,h,fun k hk hp=>hx ⟨k,hk,hp⟩⟩
def YM (g:AC) (a:AA) (c y:Int) (L:List TNd) (r k:Nat) (d:TNd):Prop:=L[k]?=some d∧0<cwC g a c y r d.node d.set∧∀ i di,i<k→L[i]?=some di→¬ 0<cwC g a c y r di.node di.set
theorem VD {g:AC} {a:AA} (ha:AJ a=true) (hg:AI g=true) {c x y:Int} (hx:0≤x∧x<g.Values.length) {K r k:Nat} {d:TNd} (hK:(BQ g a c x K).length≤K) (hF:YM g a c y (BQ g a c x K) (r+1) k d) (hs:¬ 0<cwC g a c y r x (2^a.Start.toNat)) :
 ∃ b e z,YM g a c y (BQ g a c x K) r b e∧H7 g a c y r d.node d.set=some z∧e.node=z.to∧e.set=DX a d.set (AL g d.node) z.letter∧e.step=z.step∧e.from_=(k:Int)∧0<b:=by
 obtain⟨hd,hp,hn⟩:=hF
 obtain⟨z,hz⟩:=LC hp
 have hI:=ExI.at g a c x K
 have hr:=hI.rch d (ZF hd)
 have hz1:=hz
 unfold H7 at hz1
 unfold CB at hz1
 rw [List.find?_filter,Aak] at hz1
 obtain⟨hz2,la,lb,hz3,hz4⟩:=hz1
 simp only [ZP,decide_eq_true_eq] at hz2
 have hza:z∈AV g d.node:=by rw [hz3];simp
 have hzj:(AV g d.node)[la.length]?=some z:=by rw [hz3];simp
 have hzc:z∈CB g c d.node:=ZB.2 ⟨hza,hz2.1⟩
 have hset:DX a d.set (AL g d.node) z.letter≠0:=fun e=>by
  have h1:=hz2.2
  rw [e] at h1
  cases r with
  | zero=>rw [HJ] at h1;simp [Hy,DA] at h1
  | succ r=>exact (MY.1 h1).1 rfl
 have hskz:IC g a c d z=false:=(MR hza).2 ⟨hzc,hset⟩
 obtain⟨e0,he0,hek⟩:=Z9.1 (TP hK (.step hr hzc hset))
 obtain⟨i0,hi0⟩:=ZS he0
 unfold Jj at hek
 rw [ZJ] at hek
 obtain⟨b,⟨e,heb,hep⟩,hbm⟩:=V3 (P:=fun b=>∃ e,(BQ g a c x K)[b]?=some e∧0<cwC g a c y r e.node e.set) (n:=i0) ⟨e0,hi0,by rw [hek.1,hek.2];exact hz2.2⟩
 have hb0:0<b:=by
  rcases Aan b with rfl|h
  · rw [GR] at heb;cases heb;exact absurd hep hs
  exact h
 obtain⟨f,d',j,y',hF⟩:=ExR.at g a c x K b e heb hb0
 have hnb:∀ u m,(u,m)∈((BQ g a c x K).take b).map Jj→¬ 0<cwC g a c y r u m:=fun u m hm hc=>by
  obtain⟨e1,he1,hk1⟩:=Z9.1 hm
  obtain⟨i1,hi1⟩:=ZS he1
  unfold Jj at hk1
  rw [ZJ] at hk1
  have hil:=(ZA.1 hi1).1
  rw [List.length_take] at hil
  rw [Aap,if_pos (by omega)] at hi1
  exact hbm i1 (by omega) ⟨e1,hi1,by rw [hk1.1,hk1.2];exact hc⟩
 have hya:=ZF hF.hy
 have hys:=(MR hya).1 hF.sk
 have hyc:0<cwC g a c y r y'.to (DX a d'.set (AL g d'.node) y'.letter):=by
  have:=hep
  rw [hF.eq] at this
  exact this
 have hdp:0<cwC g a c y (r+1) d'.node d'.set:=by
  refine MY.2 ⟨fun e=>?_,y',hys.1,hyc⟩
  have:=hys.2
  unfold EU at this
  rw [e] at this
  exact this (by unfold DX;rw [show DA 0=[] from List.filter_eq_nil_iff.2 fun x _=>by simp];rfl)
 have hfk:k≤f:=by
  rcases ZN f k with h|h
  · exact absurd hdp (hn f d' h hF.hd)
  exact h
 have hkf:f=k:=by
  rcases Nat.eq_or_lt_of_le hfk with h|h
  · exact h.symm
  exact absurd hz2.2 (hnb _ _ (hF.pr k d h hd z hza hskz))
 subst hkf
 have hdd:d'=d:=by have:=hF.hd;rw [hd] at this;cases this;rfl
 subst hdd
 have hjz:y'=z:=by
  have hjl:=(ZA.1 hF.hy).1
  rcases Nat.lt_trichotomy j la.length with h|h|h
  · exfalso
    have h1:=hF.hy
    rw [hz3,ZG h] at h1
    have h2:=hz4 y' (ZF h1)
    have h3:=(ZB.1 hys.1).2
    simp [h3,hyc] at h2
  · subst h;have:=hF.hy;rw [hzj] at this;cases this;rfl
  exfalso
  refine hnb _ _ (hF.cu z ?_ hskz) hz2.2;refine ZF (i:=la.length) ?_
  rw [Aap,if_pos h];exact hzj
 subst hjz
 refine⟨b,e,y',⟨heb,hep,fun i di hi hdi hc=>hbm i hi ⟨di,hdi,hc⟩⟩,hz,?_,?_,?_,?_,hb0⟩
 · rw [hF.eq]
 · rw [hF.eq];rfl
 · rw [hF.eq]
 rw [hF.eq]
theorem TC {g:AC} {a:AA} (ha:AJ a=true) (hg:AI g=true) {c x y:Int} (hx:0≤x∧x<g.Values.length) {K:Nat} (hK:(BQ g a c x K).length≤K) {D:Nat} (h0:0<cwC g a c y D x (2^a.Start.toNat)) (hmin:∀ r,r<D→¬ 0<cwC g a c y r x (2^a.Start.toNat)) :
 ∀ i r,i+r=D→∃ k d,YM g a c y (BQ g a c x K) r k d∧upS (BQ g a c x K) k k++gwS g a c y r d.node d.set=gwS g a c y D x (2^a.Start.toNat)
 | 0,r,e=>by
  have:r=D:=by omega
  subst this
  exact⟨0,IS a x,⟨GR g a c x K,h0,fun i _ hi=>absurd hi (by omega)⟩,rfl⟩
 | i+1,r,e=>by
  obtain⟨k,d,hF,hw⟩:=TC ha hg hx hK h0 hmin i (r+1) (by omega)
  obtain⟨b,e,z,hF',hz,h1,h2,h3,h4,hb0⟩:=VD ha hg hx hK hF (hmin r (by omega))
  refine⟨b,e,hF',?_⟩
  have hfr:=Ni hF'.1
  have hk:k<b:=by omega
  obtain⟨b',rfl⟩:∃ b',b=b'+1:=⟨b-1,by omega⟩
  rw [KL hF'.1 (by omega),h4,Aaj,QE k (f':=k) (by have:=(ZA.1 hF.1).1;omega) (by omega) (ZH _),h1,h2,h3,ZV,List.singleton_append,←K7 hz]
  exact hw
def Ed (g:AC) (a:AA) (c x y:Int):Int:=atI (Fv g a c y (AL g y)) (x*(a.Accept.length:Int)+a.Start)
theorem LP {g:AC} {a:AA} (ha:AJ a=true) (hg:AI g=true) {c x y:Int} (hx:0≤x∧x<g.Values.length) (hy:0≤y∧y<g.Values.length):(0≤Ed g a c x y→0<cwC g a c y (Ed g a c x y).toNat x (2^a.Start.toNat))∧∀ r,0<cwC g a c y r x (2^a.Start.toNat)→0≤Ed g a c x y∧Ed g a c x y≤r:=by
 have hA:=AR ha
 have hvy:=CH hg hy
 have hI:=R9 ha hg c hy hvy.1
 have hs:=FV (g:=g) ha hx
 have e:x*(a.Accept.length:Int)+a.Start=((vtx a x a.Start.toNat:Nat):Int):=by
  unfold vtx;rw [Aai,Aah,ZD hx.1,ZD hA.2.2.2.1]
 have hNn:((NP g a:Nat):Int)=((a.Accept.length*g.Values.length:Nat):Int):=rfl
 have hi:vtx a x a.Start.toNat<NP g a:=by omega
 have hm:2^a.Start.toNat<2^a.Accept.length:=Nat.pow_lt_pow_right (by omega) (by omega)
 have hd:Ed g a c x y=atI (Fv g a c y (AL g y)) ((vtx a x a.Start.toNat:Nat):Int):=by unfold Ed;rw [e]
 constructor
 · intro h0
   exact (MZ ha hg _ x _ hx hm).2 ⟨a.Start.toNat,by simp,hI.canN (fun p hp=>Je ha hg hp) _ _ hi (by rw [←hd,ZD h0])⟩
 intro r hr
 obtain⟨q,hq,hc⟩:=(MZ ha hg r x _ hx hm).1 hr
 rw [Nat.testBit_two_pow,decide_eq_true_eq] at hq
 subst hq
 rw [hd]
 exact hI.min (fun p hp=>Je ha hg hp) r _ hi hc
theorem Og {g:AC} {a:AA} (ha:AJ a=true) (hg:AI g=true) {c x y:Int} (hx:0≤x∧x<g.Values.length) (hy:0≤y∧y<g.Values.length):Ed g a c x y≤60:=by
 have hN:=La ha hg
 have hnl:(CQ g a c).length=NP g a:=G7 g a c
 have htl:(CE (CQ g a c)).length=NP g a:=by rw [DU,hnl]
 have hNP:NP g a=a.Accept.length*g.Values.length:=rfl
 have hl:=(PH ha hg c hy (CH hg hy).1).1
 have hs:=FV (g:=g) ha hx
 have h:=(JB (nx:=nxL (CE (CQ g a c))) (N:=(CE (CQ g a c)).length) (fun p hp k hk=>by rw [DU] at hp ⊢;exact GD p hp k hk) (l:=EZ a y (AL g y)) (by rw [htl];exact G8 ha hy)).2 _ (ZF (CT (out:=Fv g a c y (AL g y)) (k:=x*(a.Accept.length:Int)+a.Start) (by omega)))
 have:Ed g a c x y≤((CE (CQ g a c)).length:Int):=by
  exact h.2
 omega
theorem QC {g:AC} {a:AA} (ha:AJ a=true) (hg:AI g=true) {c x y:Int} (hx:0≤x∧x<g.Values.length) (hy:0≤y∧y<g.Values.length) (h:0≤Ed g a c x y):∃ k d,(E8 g a c x)[k]?=some d∧(d.node=y∧Iu g a d=true)∧(∀ i di,i<k→(E8 g a c x)[i]?=some di→¬ (di.node=y∧Iu g a di=true))∧upS (E8 g a c x) k k=gwS g a c y (Ed g a c x y).toNat x (2^a.Start.toNat):=by
 have hc:=LP ha hg (c:=c) hx hy
 have hl:=Ln ha hg (c:=c) hx
 obtain⟨k,d,hF,hw⟩:=TC ha hg hx (K:=20480+x.toNat) (c:=c) (y:=y) (by unfold E8 at hl;omega) (hc.1 h) (fun r hr hp=>by have:=(hc.2 r hp).2;omega) _ 0 rfl
 obtain⟨h1,h2,h3⟩:=hF
 refine⟨k,d,h1,?_,fun i di hi hdi hp=>h3 i di hi hdi (HJ.2 hp),?_⟩
 · exact HJ.1 h2
 unfold E8;rw [←hw,gwS,Aaf]
theorem UQ {g:AC} {a:AA} (ha:AJ a=true) (hg:AI g=true) {c x y:Int} (hx:0≤x∧x<g.Values.length) (hy:0≤y∧y<g.Values.length) (h:Ed g a c x y<0):∀ d∈E8 g a c x,¬ (d.node=y∧Iu g a d=true):=by
 rintro d hd ⟨h1,h2⟩
 have hr:=(Jr ha hg (c:=c) hx).1 (Z9.2 ⟨d,hd,rfl⟩)
 subst h1
 have:=(LQ ha hg hx hy).2 ⟨d.set,hr,h2⟩
 unfold IH at this
 simp only [decide_eq_true_eq] at this
 unfold Ed at h
 omega
end Go.Q
