import Derived.Test.YtdhojcaoljhbiaaGreatB18xc
import Derived.Test.YtdhojcaoljhbiaaGreatB08xc
set_option linter.unusedVariables false
set_option linter.unusedSimpArgs false
set_option maxHeartbeats 1000000
set_option maxRecDepth 100000
open Nat renaming beq->Z9,zero_add->ZI,eq_of_beq_eq_true->ZK,beq_refl->ZM,sub_self->Aad,zero_le->Aaj,not_lt_zero->Aao,le_trans->Aap
open List renaming mem_cons->ZA,all_eq_true->ZD,getElem?_eq_some_iff->ZG,map_cons->ZH,mem_range->ZJ,mem_cons_of_mem->ZL,mem_map->ZN,reverse_cons->ZP,pairwise_cons->ZQ,any_cons->ZR,any_eq_true->ZS,range->ZT,mem_of_getElem?->ZU,getElem?_eq_getElem->ZW,all_map->ZY,any_eq_false->ZZ,getElem?_append_left->Aaa,getElem?_append_right->Aab,length_reverse->Aac,take_of_length_le->Aae,reverse_reverse->Aaf,append_nil->Aag,contains_iff_mem->Aah,foldl_cons->Aan,filter_append->Aaq,foldl_append->Aar
open Go.Proofs.Tryz renaming underlying48->ZB,prog->ZX,func123->Aat,ntmps123->Aau,func61->Aav,ntmps61->Aaw,func124->Aax,ntmps124->Aay,func62->Aaz,ntmps62->Aba
open Bool renaming and_eq_true->ZC,or_eq_true->ZE,or_eq_false_iff->ZF,not_eq_true'->ZV,not_eq_true->Aak,not_true->Aal,false_or->Aam
open Option renaming map_some->ZO
open Array renaming replicate->Aai
namespace Go.Q
open Go.RowKit
section
variable {P:Program} {ops:Array Oper} {o:Oper} {σ:St} {q:Bool}
structure Eff where
 d:Nat
 x:Bool×S
 o:Option (Nat×R)
 ch:Bool
 ad:List (Nat×R)
def Eff.run (y:Eff) (σ:St):St:=match y.o with
 | some (id,r)=>bif y.ch then ⟨σ.n,(y.d,y.x)::(σ.pur id).slots,(id,r)::(σ.pur id).res⟩ else ⟨σ.n,(y.d,y.x)::σ.slots,(id,r)::σ.res⟩
 | none=>⟨σ.n,(y.d,y.x)::σ.slots,Ee y.ad σ.res⟩
theorem Eff.run_n (y:Eff) (σ:St):(y.run σ).n=σ.n:=by
 unfold Eff.run
 split
 · cases y.ch<;>rfl
 rfl
def Eff.has (y:Eff) (id:Nat):Bool:=y.x.2.has id||match y.o with|some (j,r)=>Z9 j id||r.has id|none=>y.ad.any fun z=>Z9 z.1 id||z.2.has id
def Gx (P:Program) (ops:Array Oper) (o:Oper) (σ:St) (y:Eff):Prop:=∀ σ',Sup σ σ'→(∀ id r,y.o=some (id,r)→y.ch=false→σ'.has id=false)→(y.o=none→∀ z∈y.ad,σ'.has z.1=false)→Op1 P ops o σ' (y.run σ')
theorem Op1.look {σ' σ2:St} (h:Op1 P ops o σ σ') (hn:σ2.n=σ'.n) (hs:∀ i x,look σ2.slots i=some x→look σ'.slots i=some x) (hr:∀ i x,look σ2.res i=some x→look σ'.res i=some x):Op1 P ops o σ σ2:=fun w0 a w hr0 K Q hK=>
 h w0 a w hr0 K Q fun a' w' h'=>hK a' w' (Rel.of_look h' hn hs hr)
theorem Gx.of {d:Nat} {x:Bool×S} (hd:o.dst=some d) (h:∀ σ',Sup σ σ'→Op1 P ops o σ' (σ'.put o.dst x)):Gx P ops o σ ⟨d,x,none,false,[]⟩:=fun σ' hs _ _=>by
 have:=h σ' hs
 rw [hd] at this
 exact this
theorem Gx.of1 {d id:Nat} {r:R} {x:Bool×S} (hd:o.dst=some d) (h:∀ σ',Sup σ σ'→σ'.has id=false→Op1 P ops o σ' ((σ'.add id r).put o.dst x)):Gx P ops o σ ⟨d,x,some (id,r),false,[]⟩:=fun σ' hs hf _=>by
 have:=h σ' hs (hf id r rfl rfl)
 rw [hd] at this
 exact this
theorem Gx.ofs {d:Nat} {rl:List (Nat×R)} {x:Bool×S} (hd:o.dst=some d) (h:∀ σ',Sup σ σ'→(∀ z∈rl,σ'.has z.1=false)→Op1 P ops o σ' ((σ'.adds rl).put o.dst x)):Gx P ops o σ ⟨d,x,none,false,rl⟩:=fun σ' hs _ hf=>by
 have:=h σ' hs (hf rfl)
 rw [hd,I6] at this
 exact this
theorem Pn {x:Nat×R}:∀ {l rs:List (Nat×R)},x∈Ee l rs→x∈l∨x∈rs
 | [],_,h=>.inr h
 | y::l,rs,h=>by
  rcases Pn (l:=l) h with h|h
  · exact .inl (ZL _ h)
  rcases ZA.1 h with rfl|h
  · exact .inl (by simp)
  exact .inr h
theorem NM {t:Nat} {x:R}:∀ {l rs:List (Nat×R)},look (Ee l rs) t=some x→(t,x)∈l∨look rs t=some x
 | [],_,h=>.inr h
 | (i,r)::l,rs,h=>by
  rcases NM (l:=l) h with h|h
  · exact .inl (ZL _ h)
  rw [AF] at h
  by_cases e:i=t
  · rw [if_pos e] at h;cases h;subst e;exact .inl (by simp)
  rw [if_neg e] at h;exact .inr h
theorem Fc {t:Nat}:∀ {l rs:List (Nat×R)},(∀ z∈l,z.1≠t)→look (Ee l rs) t=look rs t
 | [],_,_=>rfl
 | (i,r)::l,rs,h=>by
  rw [Ee,Fc fun z hz=>h z (by simp [hz]),AF,if_neg (h (i,r) (by simp))]
theorem Kl {t:Nat} {x:R}:∀ {l rs:List (Nat×R)},Iv (l.map (·.1))=true→(t,x)∈l→look (Ee l rs) t=some x
 | (i,r)::l,rs,hd,h=>by
  simp only [ZH,Iv,ZC,ZY,ZD] at hd
  rw [Ee]
  rcases ZA.1 h with e|h
  · cases e
    rw [Fc fun z hz e=>by have:=hd.1 z hz;simp [e] at this,AF,if_pos rfl]
  exact Kl hd.2 h
theorem Ur {l:List (Nat×R)} {id:Nat} {r y:R} (h:look l id=some y):look (FA l id r) id=some r:=by
 induction l with
 | nil=>cases h
 | cons z l ih=>
  obtain⟨j,z⟩:=z
  rw [FA]
  by_cases e:j=id
  · subst e;simp only [ZM,cond_true];rw [AF,if_pos rfl]
  rw [Ta e,cond_false,AF,if_neg e]
  rw [AF,if_neg e] at h
  exact ih h
theorem WK {l:List (Nat×R)} {id i:Nat} {r:R} (h:i≠id):look (FA l id r) i=look l i:=by
 induction l with
 | nil=>rfl
 | cons z l ih=>
  obtain⟨j,z⟩:=z
  rw [FA]
  by_cases e:j=id
  · subst e;simp only [ZM,cond_true];rw [AF,AF,if_neg (fun e=>h e.symm),if_neg (fun e=>h e.symm)]
  rw [Ta e,cond_false,AF,AF,ih]
theorem Gx.ofc {d id:Nat} {r r0:R} {x:Bool×S} (hd:o.dst=some d) (h0:look σ.res id=some r0) (h:∀ σ',Sup σ σ'→Op1 P ops o σ' ((σ'.chg id r).put o.dst x)):Gx P ops o σ ⟨d,x,some (id,r),true,[]⟩:=fun σ' hs _ _=>by
 have:=h σ' hs
 rw [hd] at this
 refine this.look rfl (fun i x h=>h) fun i x hx=>?_
 have hx:look ((id,r)::(σ'.pur id).res) i=some x:=hx
 show look (FA (σ'.pur id).res id r) i=some x
 rw [AF] at hx
 by_cases e:id=i
 · subst e
   rw [if_pos rfl] at hx
   rw [←hx]
   have h1:look (σ'.pur id).res id=(look σ'.res id).map (R.pur id):=DY (R.pur id) _ _
   rw [hs.res _ _ h0] at h1
   exact Ur h1
 rw [if_neg e] at hx
 rw [WK (fun e'=>e e'.symm)];exact hx
def F4 (ys:List Eff):List Nat→St→St
 | [],σ=>σ
 | i::π,σ=>match ys[i]? with|some y=>y.run (F4 ys π σ)|none=>F4 ys π σ
inductive Vd (B:Nat→List Nat) (N:Nat):List Nat→Prop where
 | nil:Vd B N []
 | cons {i:Nat} {π:List Nat} (h:Vd B N π) (hB:∀ j∈B i,j∈π) (hi:i∉π) (hN:i<N):Vd B N (i::π)
theorem Vd.closed {B:Nat→List Nat} {N:Nat} {π:List Nat} (h:Vd B N π):∀ b∈π,∀ j∈B b,j∈π:=by
 induction h with
 | nil=>intro b hb;cases hb
 | cons h hB hi hN ih=>
  intro b hb j hj
  rcases ZA.1 hb with rfl|hb
  · exact ZL _ (hB j hj)
  exact ZL _ (ih b hb j hj)
def chs:Nat→List Eff→List (Nat×Nat)
 | _,[]=>[]
 | k,y::r=>match y.o with
  | some (id,_)=>bif y.ch then (k,id)::chs (k+1) r else chs (k+1) r
  | none=>chs (k+1) r
theorem JP:∀ {ys:List Eff} {k b:Nat} {y:Eff} {id:Nat} {r:R},ys[b]?=some y→y.o=some (id,r)→y.ch=true→(k+b,id)∈chs k ys
 | [],_,b,_,_,_,h,_,_=>by simp at h
 | z::ys,k,0,y,id,r,h,h1,h2=>by
  simp at h
  subst h
  rw [chs,h1]
  simp [h2]
 | z::ys,k,b+1,y,id,r,h,h1,h2=>by
  have:=JP (k:=k+1) (ys:=ys) (b:=b) (by simpa using h) h1 h2
  rw [show k+1+b=k+(b+1) by omega] at this
  rw [chs]
  split
  · cases z.ch
    · exact this
    exact ZL _ this
  exact this
theorem E.pur_has {id:Nat} {e:E} (h:e.has id=false):e.pur id=e:=by
 cases e<;>simp_all [E.has,E.pur]
theorem Qc {id:Nat}:∀ {l:List E},l.any (E.has id)=false→l.map (E.pur id)=l
 | [],_=>rfl
 | e::l,h=>by
  simp only [ZR,ZF] at h
  rw [ZH,E.pur_has h.1,Qc h.2]
theorem A.pur_has {id:Nat} {x:A} (h:x.has id=false):x.pur id=x:=by
 cases x with
 | one e=>simp only [A.pur];rw [E.pur_has h]
 | agg l=>simp only [A.pur];rw [Qc h]
theorem S.pur_has {id:Nat} {x:S} (h:x.has id=false):x.pur id=x:=by
 cases x with
 | a x=>simp only [S.pur];rw [A.pur_has h]
 | tup l=>
  simp only [S.pur]
  have key:∀ l:List A,l.any (A.has id)=false→l.map (A.pur id)=l:=by
   intro l
   induction l with
   | nil=>intro _;rfl
   | cons e l ih=>intro h;simp only [ZR,ZF] at h;rw [ZH,A.pur_has h.1,ih h.2]
  rw [key l h]
theorem R.pur_has {id:Nat} {x:R} (h:x.has id=false):x.pur id=x:=by
 cases x with
 | row k rows=>rfl
 | box cs=>simp only [R.pur];rw [Qc h]
 | hdr j x=>
  cases j with
  | none=>rfl
  | some j=>simp only [R.has] at h;simp only [R.pur,h,cond_false]
 | blk j x=>
  cases j with
  | none=>rfl
  | some j=>simp only [R.has] at h;simp only [R.pur,h,cond_false]
 | kept K=>rfl
 | opq=>rfl
 | cur g=>rfl
 | mp b f=>rfl
theorem E.has_pur {id j:Nat} {e:E} (h:e.has id=false):(e.pur j).has id=false:=by
 cases e with
 | t x=>rfl
 | rf i=>simp only [E.pur];cases Z9 i j;exact h;rfl
 | vw i x=>simp only [E.pur];cases Z9 i j;exact h;rfl
 | pp i o=>exact h
 | pr i k a b=>simp only [E.pur];cases Z9 i j;exact h;rfl
 | sb i k a b=>simp only [E.pur];cases Z9 i j;exact h;rfl
 | tl i k a=>simp only [E.pur];cases Z9 i j;exact h;rfl
 | pf i k a=>simp only [E.pur];cases Z9 i j;exact h;rfl
 | no=>rfl
theorem Qx {id j:Nat}:∀ {l:List E},l.any (E.has id)=false→(l.map (E.pur j)).any (E.has id)=false
 | [],_=>rfl
 | e::l,h=>by
  simp only [ZR,ZF,ZH] at h ⊢
  exact⟨E.has_pur h.1,Qx h.2⟩
theorem A.has_pur {id j:Nat} {x:A} (h:x.has id=false):(x.pur j).has id=false:=by
 cases x with
 | one e=>exact E.has_pur h
 | agg l=>exact Qx h
theorem S.has_pur {id j:Nat} {x:S} (h:x.has id=false):(x.pur j).has id=false:=by
 cases x with
 | a x=>exact A.has_pur h
 | tup l=>
  have key:∀ l:List A,l.any (A.has id)=false→(l.map (A.pur j)).any (A.has id)=false:=by
   intro l
   induction l with
   | nil=>intro _;rfl
   | cons e l ih=>intro h;simp only [ZR,ZF,ZH] at h ⊢;exact⟨A.has_pur h.1,ih h.2⟩
  exact key l h
theorem R.has_pur {id j:Nat} {x:R} (h:x.has id=false):(x.pur j).has id=false:=by
 cases x with
 | row k rows=>rfl
 | box cs=>exact Qx h
 | hdr i x=>
  cases i with
  | none=>rfl
  | some i=>simp only [R.has] at h;simp only [R.pur];cases Z9 i j<;>simp [R.has,h]
 | blk i x=>
  cases i with
  | none=>rfl
  | some i=>simp only [R.has] at h;simp only [R.pur];cases Z9 i j<;>simp [R.has,h]
 | kept K=>rfl
 | opq=>rfl
 | cur g=>rfl
 | mp b f=>rfl
theorem St.has_iff {σ:St} {id:Nat}:σ.has id=false↔(∀ x∈σ.slots,x.2.2.has id=false)∧∀ x∈σ.res,Z9 x.1 id=false∧x.2.has id=false:=by
 simp only [St.has,ZF,ZZ,ZE,not_or,Aak]
theorem WO {y:Eff} {σ:St} {id:Nat} (h:σ.has id=false) (hy:y.has id=false):(y.run σ).has id=false:=by
 unfold Eff.has at hy
 simp only [ZF] at hy
 obtain⟨h1,h2⟩:=St.has_iff.1 h
 have hp:∀ j,(∀ x∈(σ.pur j).slots,x.2.2.has id=false)∧∀ x∈(σ.pur j).res,Z9 x.1 id=false∧x.2.has id=false:=fun j=>by
  refine⟨fun x hx=>?_,fun x hx=>?_⟩
  · obtain⟨z,hz,rfl⟩:=ZN.1 hx
    exact S.has_pur (h1 z hz)
  obtain⟨z,hz,rfl⟩:=ZN.1 hx
  exact⟨(h2 z hz).1,R.has_pur (h2 z hz).2⟩
 unfold Eff.run
 split
 · rename_i j r ho
   rw [ho] at hy
   simp only [ZF] at hy
   cases y.ch with
   | false=>
    refine St.has_iff.2 ⟨fun x hx=>?_,fun x hx=>?_⟩
    · rcases ZA.1 hx with rfl|hx
      · exact hy.1
      exact h1 x hx
    rcases ZA.1 hx with rfl|hx
    · exact hy.2
    exact h2 x hx
   | true=>
    refine St.has_iff.2 ⟨fun x hx=>?_,fun x hx=>?_⟩
    · rcases ZA.1 hx with rfl|hx
      · exact hy.1
      exact (hp j).1 x hx
    rcases ZA.1 hx with rfl|hx
    · exact hy.2
    exact (hp j).2 x hx
 rename_i ho
 rw [ho] at hy
 refine St.has_iff.2 ⟨fun x hx=>?_,fun x hx=>?_⟩
 · rcases ZA.1 hx with rfl|hx
   · exact hy.1
   exact h1 x hx
 rcases Pn hx with hx|hx
 · have:=ZZ.1 hy.2 x hx
   simpa only [ZE,not_or,Aak] using this
 exact h2 x hx
theorem S4 (ys:List Eff):∀ (π:List Nat) (σ:St),(F4 ys π σ).n=σ.n
 | [],_=>rfl
 | i::π,σ=>by
  rw [F4]
  split
  · rw [Eff.run_n,S4 ys π]
  exact S4 ys π σ
theorem N7 {ys:List Eff} {id:Nat}:∀ {π:List Nat} {σ:St},σ.has id=false→(∀ b∈π,∀ y,ys[b]?=some y→y.has id=false)→(F4 ys π σ).has id=false
 | [],_,h,_=>h
 | i::π,σ,h,h'=>by
  rw [F4]
  have ih:=N7 (π:=π) h fun b hb=>h' b (by simp [hb])
  split
  · rename_i y hy
    exact WO ih (h' i (by simp) y hy)
  exact ih
section
variable {ys:List Eff} {B:Nat→List Nat} {N:Nat}
theorem Ve (hd:∀ (i j:Nat) (y z:Eff),ys[i]?=some y→ys[j]?=some z→y.d=z.d→i=j) {π:List Nat} (hV:Vd B N π) :
 ∀ {b:Nat} {y:Eff},b∈π→ys[b]?=some y→(∀ c∈chs 0 ys,c.1∈π→y.x.2.has c.2=true→c.1=b∨c.1∈B b)→look (F4 ys π σ).slots y.d=some y.x:=by
 induction hV with
 | nil=>intro b y hb;cases hb
 | @cons i π h hB hi hN ih=>
  intro b y hb hy hc
  rw [F4]
  by_cases e:b=i
  · subst e
    rw [hy]
    unfold Eff.run
    simp only
    split
    · cases y.ch<;>(show look ((y.d,y.x)::_) y.d=_;rw [AF,if_pos rfl])
    show look ((y.d,y.x)::_) y.d=_;rw [AF,if_pos rfl]
  have hbp:b∈π:=by rcases ZA.1 hb with h1|h1;exact absurd h1 e;exact h1
  have ih':=ih hbp hy fun c hcm hcp hch=>hc c hcm (by simp [hcp]) hch
  split
  · rename_i z hz
    have hne:z.d≠y.d:=fun he=>e (hd b i y z hy hz he.symm)
    unfold Eff.run
    split
    · rename_i id r ho
      cases hch:z.ch with
      | false=>show look ((z.d,z.x)::_) y.d=_;rw [AF,if_neg hne];exact ih'
      | true=>
       show look ((z.d,z.x)::(St.pur _ id).slots) y.d=_
       rw [AF,if_neg hne]
       have h1:look (St.pur (F4 ys π σ) id).slots y.d=(look (F4 ys π σ).slots y.d).map fun x=>(x.1,x.2.pur id):=DY (fun x:Bool×S=>(x.1,x.2.pur id)) _ _
       rw [h1,ih']
       have hhas:y.x.2.has id=false:=by
        cases hh:y.x.2.has id with
        | false=>rfl
        | true=>
         have hm:=JP (k:=0) hz ho hch
         rw [ZI] at hm
         rcases hc _ hm (by simp) hh with h2|h2
         · exact absurd h2.symm e
         exact absurd (h.closed b hbp i h2) hi
       simp only [ZO,S.pur_has hhas]
    show look ((z.d,z.x)::_) y.d=_;rw [AF,if_neg hne];exact ih'
  exact ih'
theorem Ut {π:List Nat}:∀ {t:Nat} {x:Bool×S},look σ.slots t=some x→(∀ b∈π,∀ y,ys[b]?=some y→y.d≠t)→(∀ c∈chs 0 ys,c.1∈π→x.2.has c.2=false)→look (F4 ys π σ).slots t=some x:=by
 induction π with
 | nil=>intro t x h _ _;exact h
 | cons i π ih=>
  intro t x h hd hc
  have ih':=ih h (fun b hb=>hd b (by simp [hb])) fun c hcm hcp=>hc c hcm (by simp [hcp])
  rw [F4]
  split
  · rename_i z hz
    have hne:z.d≠t:=hd i (by simp) z hz
    unfold Eff.run
    split
    · rename_i id r ho
      cases hch:z.ch with
      | false=>show look ((z.d,z.x)::_) t=_;rw [AF,if_neg hne];exact ih'
      | true=>
       show look ((z.d,z.x)::(St.pur _ id).slots) t=_
       rw [AF,if_neg hne]
       have h1:look (St.pur (F4 ys π σ) id).slots t=(look (F4 ys π σ).slots t).map fun x=>(x.1,x.2.pur id):=DY (fun x:Bool×S=>(x.1,x.2.pur id)) _ _
       have hm:=JP (k:=0) hz ho hch
       rw [ZI] at hm
       rw [h1,ih']
       simp only [ZO,S.pur_has (hc _ hm (by simp))]
    show look ((z.d,z.x)::_) t=_;rw [AF,if_neg hne];exact ih'
  exact ih'
theorem WN (hu:∀ (i j:Nat) (y z:Eff) (id:Nat) (r r':R),ys[i]?=some y→ys[j]?=some z→y.o=some (id,r)→z.o=some (id,r')→z.ch=false→i=j∨j∈B i) (ha:∀ (i j:Nat) (y z:Eff) (id:Nat),i≠j→ys[i]?=some y→ys[j]?=some z→y.has id=true→z.o=none→id∈z.ad.map (·.1)→j∈B i) {π:List Nat} (hV:Vd B N π) :
 ∀ {b:Nat} {y:Eff} {id:Nat} {r:R},b∈π→ys[b]?=some y→y.o=some (id,r)→(∀ c∈chs 0 ys,c.1∈π→(Z9 id c.2||r.has c.2)=true→c.1=b∨c.1∈B b)→look (F4 ys π σ).res id=some r:=by
 induction hV with
 | nil=>intro b y id r hb;cases hb
 | @cons i π h hB hi hN ih=>
  intro b y id r hb hy ho hc
  rw [F4]
  by_cases e:b=i
  · subst e
    rw [hy]
    unfold Eff.run
    simp only [ho]
    cases y.ch<;>(show look ((id,r)::_) id=_;rw [AF,if_pos rfl])
  have hbp:b∈π:=by rcases ZA.1 hb with h1|h1;exact absurd h1 e;exact h1
  have ih':=ih hbp hy ho fun c hcm hcp hch=>hc c hcm (by simp [hcp]) hch
  split
  · rename_i z hz
    unfold Eff.run
    split
    · rename_i j r' ho'
      cases hch:z.ch with
      | false=>
       have hne:j≠id:=fun he=>by
        subst he
        rcases hu b i y z j r r' hy hz ho ho' hch with h1|h1
        · exact e h1
        exact hi (h.closed b hbp i h1)
       show look ((j,r')::_) id=_;rw [AF,if_neg hne];exact ih'
      | true=>
       have hm:=JP (k:=0) hz ho' hch
       rw [ZI] at hm
       have hno:(Z9 id j||r.has j)=false:=by
        cases hh:(Z9 id j||r.has j) with
        | false=>rfl
        | true=>
         rcases hc _ hm (by simp) hh with h2|h2
         · exact absurd h2.symm e
         exact absurd (h.closed b hbp i h2) hi
       simp only [ZF] at hno
       have hne:j≠id:=fun he=>BT hno.1 he.symm
       show look ((j,r')::(St.pur _ j).res) id=_
       rw [AF,if_neg hne]
       have h1:look (St.pur (F4 ys π σ) j).res id=(look (F4 ys π σ).res id).map (R.pur j):=DY (R.pur j) _ _
       rw [h1,ih']
       simp only [ZO,R.pur_has hno.2]
    rename_i hz0
    show look (Ee z.ad _) id=_
    rw [Fc fun v hv e'=>?_]
    · exact ih'
    exact hi (h.closed b hbp i (ha b i y z id e hy hz (by simp [Eff.has,ho,ZM]) hz0 (ZN.2 ⟨v,hv,e'⟩)))
  exact ih'
theorem Vf (hu:∀ (i j:Nat) (y z:Eff) (id:Nat) (r':R),i≠j→ys[i]?=some y→ys[j]?=some z→y.has id=true→z.o=some (id,r')→z.ch=false→j∈B i) (ha:∀ (i j:Nat) (y z:Eff) (id:Nat),i≠j→ys[i]?=some y→ys[j]?=some z→y.has id=true→z.o=none→id∈z.ad.map (·.1)→j∈B i) {π:List Nat} (hV:Vd B N π) :
 ∀ {b:Nat} {y:Eff} {id:Nat} {r:R},b∈π→ys[b]?=some y→y.o=none→Iv (y.ad.map (·.1))=true→(id,r)∈y.ad→(∀ c∈chs 0 ys,c.1∈π→(Z9 id c.2||r.has c.2)=true→c.1=b∨c.1∈B b)→look (F4 ys π σ).res id=some r:=by
 induction hV with
 | nil=>intro b y id r hb;cases hb
 | @cons i π h hB hi hN ih=>
  intro b y id r hb hy ho hda hmm hc
  have hhas:y.has id=true:=by
   unfold Eff.has
   rw [ho]
   simp only [ZE,ZS]
   exact .inr ⟨_,hmm,.inl (ZM id)⟩
  rw [F4]
  by_cases e:b=i
  · subst e
    rw [hy]
    unfold Eff.run
    simp only [ho]
    exact Kl hda hmm
  have hbp:b∈π:=by rcases ZA.1 hb with h1|h1;exact absurd h1 e;exact h1
  have ih':=ih hbp hy ho hda hmm fun c hcm hcp hch=>hc c hcm (by simp [hcp]) hch
  split
  · rename_i z hz
    unfold Eff.run
    split
    · rename_i j r' ho'
      cases hch:z.ch with
      | false=>
       have hne:j≠id:=fun he=>by
        subst he;exact hi (h.closed b hbp i (hu b i y z j r' e hy hz hhas ho' hch))
       show look ((j,r')::_) id=_;rw [AF,if_neg hne];exact ih'
      | true=>
       have hm:=JP (k:=0) hz ho' hch
       rw [ZI] at hm
       have hno:(Z9 id j||r.has j)=false:=by
        cases hh:(Z9 id j||r.has j) with
        | false=>rfl
        | true=>
         rcases hc _ hm (by simp) hh with h2|h2
         · exact absurd h2.symm e
         exact absurd (h.closed b hbp i h2) hi
       simp only [ZF] at hno
       have hne:j≠id:=fun he=>BT hno.1 he.symm
       show look ((j,r')::(St.pur _ j).res) id=_
       rw [AF,if_neg hne]
       have h1:look (St.pur (F4 ys π σ) j).res id=(look (F4 ys π σ).res id).map (R.pur j):=DY (R.pur j) _ _
       rw [h1,ih']
       simp only [ZO,R.pur_has hno.2]
    rename_i hz0
    show look (Ee z.ad _) id=_
    rw [Fc fun v hv e'=>?_]
    · exact ih'
    exact hi (h.closed b hbp i (ha b i y z id e hy hz hhas hz0 (ZN.2 ⟨v,hv,e'⟩)))
  exact ih'
theorem Vg {π:List Nat}:∀ {id:Nat} {r:R},look σ.res id=some r→(∀ b∈π,∀ y j r',ys[b]?=some y→y.o=some (j,r')→y.ch=false→j≠id)→(∀ b∈π,∀ y,ys[b]?=some y→y.o=none→∀ z∈y.ad,z.1≠id)→(∀ c∈chs 0 ys,c.1∈π→(Z9 id c.2||r.has c.2)=false)→look (F4 ys π σ).res id=some r:=by
 induction π with
 | nil=>intro id r h _ _ _;exact h
 | cons i π ih=>
  intro id r h hd hd2 hc
  have ih':=ih h (fun b hb=>hd b (by simp [hb])) (fun b hb=>hd2 b (by simp [hb])) fun c hcm hcp=>hc c hcm (by simp [hcp])
  rw [F4]
  split
  · rename_i z hz
    unfold Eff.run
    split
    · rename_i j r' ho'
      cases hch:z.ch with
      | false=>
       show look ((j,r')::_) id=_;rw [AF,if_neg (hd i (by simp) z j r' hz ho' hch)];exact ih'
      | true=>
       have hm:=JP (k:=0) hz ho' hch
       rw [ZI] at hm
       have hno:=hc _ hm (by simp)
       simp only [ZF] at hno
       have hne:j≠id:=fun he=>BT hno.1 he.symm
       show look ((j,r')::(St.pur _ j).res) id=_
       rw [AF,if_neg hne]
       have h1:look (St.pur (F4 ys π σ) j).res id=(look (F4 ys π σ).res id).map (R.pur j):=DY (R.pur j) _ _
       rw [h1,ih']
       simp only [ZO,R.pur_has hno.2]
    rename_i hz0
    show look (Ee z.ad _) id=_
    rw [Fc (hd2 i (by simp) z hz hz0)]
    exact ih'
  exact ih'
end
def Ix (B:Nat→List Nat) (C:List (Nat×Nat)) (b:Option Nat) (i:Nat) (h:Nat→Bool):Bool:=C.all fun c=>!(h c.2)||(Z9 c.1 i||BI (B c.1) i)||(match b with|some b=>Z9 c.1 b||BI (B b) c.1|none=>false)
def knw (B:Nat→List Nat) (C:List (Nat×Nat)) (M:Nat→Bool) (i:Nat):Nat→List Eff→St→St
 | k,y::r,σ=>let σ':=knw B C M i (k-1) r σ
  bif M (k-1) then ⟨σ'.n,bif Ix B C (some (k-1)) i (fun j=>y.x.2.has j) then (y.d,y.x)::σ'.slots else σ'.slots,match y.o with|some (id,r)=>bif Ix B C (some (k-1)) i (fun j=>Z9 id j||r.has j) then (id,r)::σ'.res else σ'.res|none=>Ee (y.ad.filter fun z=>Ix B C (some (k-1)) i fun j=>Z9 z.1 j||z.2.has j) σ'.res⟩ else σ'
 | _,[],σ=>⟨σ.n,σ.slots.filter fun x=>Ix B C none i fun j=>x.2.2.has j,σ.res.filter fun x=>Ix B C none i fun j=>Z9 x.1 j||x.2.has j⟩
theorem Hg {α:Type} {p:Nat×α→Bool} {t:Nat} {x:α}:∀ {l:List (Nat×α)},Iv (l.map (·.1))=true→look (l.filter p) t=some x→look l t=some x∧p (t,x)=true
 | [],_,h=>by cases h
 | (k,v)::l,hd,h=>by
  simp only [ZH,Iv,ZC,ZY,ZD] at hd
  rw [List.filter_cons] at h
  split at h
  · rename_i hp
    rw [AF] at h ⊢
    by_cases e:k=t
    · rw [if_pos e] at h ⊢;cases h;subst e;exact⟨rfl,hp⟩
    rw [if_neg e] at h ⊢;exact Hg hd.2 h
  obtain⟨h1,h2⟩:=Hg hd.2 h
  have hm:=HB h1
  have hne:k≠t:=fun e=>by have:=hd.1 _ hm;simp [e] at this
  exact⟨by rw [AF,if_neg hne];exact h1,h2⟩
section
variable {B:Nat→List Nat} {C:List (Nat×Nat)} {M:Nat→Bool} {N:Nat}
theorem XV {i:Nat}:∀ (acc:List Eff) (k:Nat) (σ:St),(knw B C M i k acc σ).n=σ.n
 | [],k,σ=>by cases k<;>rfl
 | y::r,k,σ=>by
  rw [knw]
  have:=XV (i:=i) r (k-1) σ
  cases M (k-1)
  · exact this
  exact this
theorem Ru {i:Nat}:∀ {acc:List Eff} {k:Nat} {σ:St} {t:Nat} {x:Bool×S},acc.length=k→Iv (σ.slots.map (·.1))=true→look (knw B C M i k acc σ).slots t=some x→
 (∃ b y,acc.reverse[b]?=some y∧M b=true∧Ix B C (some b) i (fun j=>x.2.has j)=true∧y.d=t∧y.x=x)∨(look σ.slots t=some x∧Ix B C none i (fun j=>x.2.has j)=true)
 | [],k,σ,t,x,hl,hd,h=>by
  have h:look (σ.slots.filter fun x=>Ix B C none i fun j=>x.2.2.has j) t=some x:=by cases k<;>exact h
  exact .inr (Hg hd h)
 | y::r,k,σ,t,x,hl,hd,h=>by
  have hk:r.length=k-1:=by simp at hl;omega
  have ih:=fun h=>Ru (i:=i) (acc:=r) (σ:=σ) (t:=t) (x:=x) hk hd h
  have up:(∃ b y,r.reverse[b]?=some y∧M b=true∧Ix B C (some b) i (fun j=>x.2.has j)=true∧y.d=t∧y.x=x)→∃ b y',(y::r).reverse[b]?=some y'∧M b=true∧Ix B C (some b) i (fun j=>x.2.has j)=true∧y'.d=t∧y'.x=x:=by
   rintro⟨b,z,h1,h2⟩
   refine⟨b,z,?_,h2⟩
   rw [ZP,Aaa (ZG.1 h1).1]
   exact h1
  rw [knw] at h
  cases hM:M (k-1) with
  | false=>
   rw [hM] at h
   rcases ih h with h1|h1
   · exact .inl (up h1)
   exact .inr h1
  | true=>
   rw [hM] at h
   simp only [cond_true] at h
   cases hc:Ix B C (some (k-1)) i (fun j=>y.x.2.has j) with
   | false=>
    rw [hc] at h
    rcases ih h with h1|h1
    · exact .inl (up h1)
    exact .inr h1
   | true=>
    rw [hc] at h
    simp only [cond_true] at h
    rw [AF] at h
    by_cases e:y.d=t
    · rw [if_pos e] at h
      cases h
      refine .inl ⟨k-1,y,?_,hM,hc,e,rfl⟩
      rw [ZP,Aab (by simp [hk]),Aac,hk,Aad];rfl
    rw [if_neg e] at h
    rcases ih h with h1|h1
    · exact .inl (up h1)
    exact .inr h1
theorem TA {i:Nat}:∀ {acc:List Eff} {k:Nat} {σ:St} {t:Nat} {x:R},acc.length=k→Iv (σ.res.map (·.1))=true→look (knw B C M i k acc σ).res t=some x→
 (∃ b y,acc.reverse[b]?=some y∧M b=true∧Ix B C (some b) i (fun j=>Z9 t j||x.has j)=true∧(y.o=some (t,x)∨y.o=none∧(t,x)∈y.ad))∨(look σ.res t=some x∧Ix B C none i (fun j=>Z9 t j||x.has j)=true)
 | [],k,σ,t,x,hl,hd,h=>by
  have h:look (σ.res.filter fun x=>Ix B C none i fun j=>Z9 x.1 j||x.2.has j) t=some x:=by cases k<;>exact h
  exact .inr (Hg hd h)
 | y::r,k,σ,t,x,hl,hd,h=>by
  have hk:r.length=k-1:=by simp at hl;omega
  have ih:=fun h=>TA (i:=i) (acc:=r) (σ:=σ) (t:=t) (x:=x) hk hd h
  have up:(∃ b y,r.reverse[b]?=some y∧M b=true∧Ix B C (some b) i (fun j=>Z9 t j||x.has j)=true∧(y.o=some (t,x)∨y.o=none∧(t,x)∈y.ad))→∃ b y',(y::r).reverse[b]?=some y'∧M b=true∧Ix B C (some b) i (fun j=>Z9 t j||x.has j)=true∧(y'.o=some (t,x)∨y'.o=none∧(t,x)∈y'.ad):=by
   rintro⟨b,z,h1,h2⟩
   refine⟨b,z,?_,h2⟩
   rw [ZP,Aaa (ZG.1 h1).1]
   exact h1
  rw [knw] at h
  cases hM:M (k-1) with
  | false=>
   rw [hM] at h
   rcases ih h with h1|h1
   · exact .inl (up h1)
   exact .inr h1
  | true=>
   rw [hM] at h
   simp only [cond_true] at h
   split at h
   · rename_i id r' ho
     cases hc:Ix B C (some (k-1)) i (fun j=>Z9 id j||r'.has j) with
     | false=>
      rw [hc] at h
      rcases ih h with h1|h1
      · exact .inl (up h1)
      exact .inr h1
     | true=>
      rw [hc] at h
      simp only [cond_true] at h
      rw [AF] at h
      by_cases e:id=t
      · rw [if_pos e] at h
        cases h
        subst e;refine .inl ⟨k-1,y,?_,hM,hc,.inl ho⟩
        rw [ZP,Aab (by simp [hk]),Aac,hk,Aad];rfl
      rw [if_neg e] at h
      rcases ih h with h1|h1
      · exact .inl (up h1)
      exact .inr h1
   rename_i ho
   rcases NM h with hm|h
   · obtain⟨h1,h2⟩:=List.mem_filter.1 hm
     refine .inl ⟨k-1,y,?_,hM,h2,.inr ⟨ho,h1⟩⟩
     rw [ZP,Aab (by simp [hk]),Aac,hk,Aad];rfl
   rcases ih h with h1|h1
   · exact .inl (up h1)
   exact .inr h1
def Qq (B:Nat→List Nat) (N:Nat) (σ:St) (ys:List Eff):Bool:=
 ys.all (fun y=>(look σ.slots y.d).isNone)&&Iv (ys.map (·.d))&&Iv (σ.slots.map (·.1))&&Iv (σ.res.map (·.1))&&((ZT N).all fun j=>!(BI (B j) N))&&
 (ZT ys.length).all fun i=>match ys[i]? with
  | some ⟨_,_,some (id,_),false,_⟩=>!σ.has id&&(ZT ys.length).all fun b=>Z9 b i||(match ys[b]? with|some z=>!(z.has id)||BI (B b) i|none=>true)
  | some ⟨_,_,none,_,ad⟩=>Iv (ad.map (·.1))&&ad.all fun v=>!σ.has v.1&&(ZT ys.length).all fun b=>Z9 b i||(match ys[b]? with|some z=>!(z.has v.1)||BI (B b) i|none=>true)
  | _=>true
theorem Zb:∀ {ys:List Eff},Iv (ys.map (·.d))=true→∀ (i j:Nat) (y z:Eff),ys[i]?=some y→ys[j]?=some z→y.d=z.d→i=j
 | [],_,i,j,y,z,h,_,_=>by simp at h
 | u::r,h,i,j,y,z,h1,h2,e=>by
  simp only [ZH,Iv,ZC,ZY,ZD] at h
  have key:∀ v∈r,u.d≠v.d:=fun v hv e=>by have:=h.1 v hv;simp [e] at this
  match i,j,h1,h2 with
  | 0,0,_,_=>rfl
  | 0,j+1,h1,h2=>simp at h1 h2;subst h1;exact absurd e (key z (ZU h2))
  | i+1,0,h1,h2=>simp at h1 h2;subst h2;exact absurd e.symm (key y (ZU h1))
  | i+1,j+1,h1,h2=>rw [Zb h.2 i j y z (by simpa using h1) (by simpa using h2) e]
theorem KB {ys:List Eff} (h:Qq B N σ ys=true) {i:Nat} {y:Eff} {id:Nat} {r:R} (hy:ys[i]?=some y) (ho:y.o=some (id,r)) (hc:y.ch=false):σ.has id=false∧∀ b z,b≠i→ys[b]?=some z→z.has id=true→i∈B b:=by
 simp only [Qq,ZC] at h
 have h1:=ZD.1 h.2 i (ZJ.2 (ZG.1 hy).1)
 obtain⟨d,x,o',ch,ad⟩:=y
 dsimp only at ho hc
 subst ho hc
 rw [hy] at h1
 simp only [ZC,ZV] at h1
 refine⟨h1.1,fun b z hb hz hh=>?_⟩
 have h2:=ZD.1 h1.2 b (ZJ.2 (ZG.1 hz).1)
 rw [hz] at h2
 simp only [ZE,ZV] at h2
 rcases h2 with h2|h2|h2
 · exact absurd (ZK h2) hb
 · rw [hh] at h2;cases h2
 exact CK.1 h2
theorem Hl {ys:List Eff} (h:Qq B N σ ys=true) {i:Nat} {y:Eff} (hy:ys[i]?=some y) (ho:y.o=none):Iv (y.ad.map (·.1))=true∧∀ v∈y.ad,σ.has v.1=false∧∀ b z,b≠i→ys[b]?=some z→z.has v.1=true→i∈B b:=by
 simp only [Qq,ZC] at h
 have h1:=ZD.1 h.2 i (ZJ.2 (ZG.1 hy).1)
 obtain⟨d,x,o',ch,ad⟩:=y
 dsimp only at ho
 subst ho
 rw [hy] at h1
 simp only [ZC] at h1
 refine⟨h1.1,fun v hv=>?_⟩
 have h3:=ZD.1 h1.2 v hv
 simp only [ZC,ZV] at h3
 refine⟨h3.1,fun b z hb hz hh=>?_⟩
 have h2:=ZD.1 h3.2 b (ZJ.2 (ZG.1 hz).1)
 rw [hz] at h2
 simp only [ZE,ZV] at h2
 rcases h2 with h2|h2|h2
 · exact absurd (ZK h2) hb
 · rw [hh] at h2;cases h2
 exact CK.1 h2
theorem T9 {ys acc more:List Eff} {i k:Nat} (he:Qq B N σ ys=true) (hys:ys=acc.reverse++more) (hk:acc.length=k) {π:List Nat} (hV:Vd B N π) (hM:∀ b,M b=true→b<k→b∈π) (hi:∀ j∈π,i∉B j) (hin:i∉π) :
 Sup (knw B (chs 0 ys) M i k acc σ) (F4 ys π σ):=by
 have he':=he
 simp only [Qq,ZC] at he'
 obtain⟨⟨⟨⟨⟨e1,e2⟩,e3⟩,e4⟩,e5⟩,e6⟩:=he'
 have hd:=fun i j y z=>Zb e2 i j y z
 have toY:∀ {b:Nat} {y:Eff},acc.reverse[b]?=some y→ys[b]?=some y∧b<k:=fun {b y} h=>by
  have hb:=(ZG.1 h).1
  refine⟨by rw [hys,Aaa hb];exact h,by simpa [hk] using hb⟩
 have ok1:∀ {b:Nat} {h:Nat→Bool},Ix B (chs 0 ys) (some b) i h=true→∀ c∈chs 0 ys,c.1∈π→h c.2=true→c.1=b∨c.1∈B b:=fun {b h} hc c hcm hcp hh=>by
  have:=ZD.1 hc c hcm
  simp only [hh,Aal,Aam,ZE] at this
  rcases this with (h1|h1)|h1|h1
  · exact absurd hcp (by rw [ZK h1];exact hin)
  · exact absurd (CK.1 h1) (hi _ hcp)
  · exact .inl (ZK h1)
  exact .inr (CK.1 h1)
 have ok0:∀ {h:Nat→Bool},Ix B (chs 0 ys) none i h=true→∀ c∈chs 0 ys,c.1∈π→h c.2=false:=fun {h} hc c hcm hcp=>by
  cases hh:h c.2 with
  | false=>rfl
  | true=>
   have:=ZD.1 hc c hcm
   simp only [hh,Aal,Aam,ZE] at this
   rcases this with (h1|h1)|h1
   · exact absurd hcp (by rw [ZK h1];exact hin)
   · exact absurd (CK.1 h1) (hi _ hcp)
   cases h1
 refine⟨by rw [S4,XV],fun t x h=>?_,fun t x h=>?_⟩
 · rcases Ru hk e3 h with ⟨b,y,h1,h2,h3,h4,h5⟩|⟨h1,h2⟩
   · obtain⟨g1,g2⟩:=toY h1
     subst h4 h5;exact Ve hd hV (hM b h2 g2) g1 (ok1 h3)
   refine Ut h1 (fun b _ y hy e=>?_) (ok0 h2)
   have:=ZD.1 e1 y (ZU hy)
   rw [e,h1] at this
   cases this
 have hA:∀ (i j:Nat) (y z:Eff) (id:Nat),i≠j→ys[i]?=some y→ys[j]?=some z→y.has id=true→z.o=none→id∈z.ad.map (·.1)→j∈B i:=fun i j y z id hne hi hj hh hz0 hm=>by
  obtain⟨v,hv,rfl⟩:=ZN.1 hm
  exact ((Hl he hj hz0).2 v hv).2 i y hne hi hh
 have hU:∀ (i j:Nat) (y z:Eff) (id:Nat) (r':R),i≠j→ys[i]?=some y→ys[j]?=some z→y.has id=true→z.o=some (id,r')→z.ch=false→j∈B i:=fun i j y z id r' hne hi hj hh ho' hch=>(KB he hj ho' hch).2 i y hne hi hh
 rcases TA hk e4 h with ⟨b,y,h1,h2,h3,h4⟩|⟨h1,h2⟩
 · obtain⟨g1,g2⟩:=toY h1
   rcases h4 with h4|⟨h4,h5⟩
   · refine WN (fun i j y z id r r' hi hj ho ho' hch=>?_) hA hV (hM b h2 g2) g1 h4 (ok1 h3)
     by_cases e:i=j
     · exact .inl e
     exact .inr (hU i j y z id r' e hi hj (by simp [Eff.has,ho,ZM]) ho' hch)
   exact Vf hU hA hV (hM b h2 g2) g1 h4 (Hl he g1 h4).1 h5 (ok1 h3)
 refine Vg h1 (fun b _ y j r' hy ho hch e=>?_) (fun b _ y hy ho v hv e=>?_) (ok0 h2)
 · subst e
   have:=(KB he hy ho hch).1
   exact (St.has_res this h1).1 rfl
 subst e
 have:=((Hl he hy ho).2 v hv).1
 exact (St.has_res this h1).1 rfl
end
def LY (P:Program) (ops:Array Oper) (B:Nat→List Nat) (C:List (Nat×Nat)) (ys:List Eff) (σ:St):Nat→List Oper→List Eff→Prop
 | i,o::l,y::r=>Gx P ops o (knw B C (BI (B i)) i i (ys.take i).reverse σ) y∧LY P ops B C ys σ (i+1) l r
 | _,_,_=>True
theorem LY.at {ops:Array Oper} {B:Nat→List Nat} {C:List (Nat×Nat)} {ys:List Eff} {σ:St}:∀ (l:List Oper) (r:List Eff) (k:Nat),LY P ops B C ys σ k l r→∀ i o y,l[i]?=some o→r[i]?=some y→Gx P ops o (knw B C (BI (B (k+i))) (k+i) (k+i) (ys.take (k+i)).reverse σ) y
 | [],r,k,h,i,o,y,hl,hr=>by simp at hl
 | o'::l,[],k,h,i,o,y,hl,hr=>by simp at hr
 | o'::l,y'::r,k,h,0,o,y,hl,hr=>by simp at hl hr;subst hl;subst hr;exact h.1
 | o'::l,y'::r,k,h,i+1,o,y,hl,hr=>by
  have:=LY.at l r (k+1) h.2 i o y (by simpa using hl) (by simpa using hr)
  rwa [show k+1+i=k+(i+1) by omega] at this
structure Fx (P:Program) (w0:BB) (Q:Exit→St→Prop) (N:Nat) (B:Nat→List Nat) (C:List (Nat×Nat)) (l:List Oper) (n:Nat) (sl:List (Nat×(Bool×S))) (rs:List (Nat×R)) (acc:List Eff) (k:Nat) (rest:List Oper):Prop where
 pf:acc.length=k→rest=l.drop k→∃ more:List Eff,(acc.reverse++more).length=N∧
  LY P l.toArray B C (acc.reverse++more) ⟨n,sl,rs⟩ k rest more∧Qq B N ⟨n,sl,rs⟩ (acc.reverse++more)=true∧chs 0 (acc.reverse++more)=C∧
  AWl P w0 l.toArray Q (l.drop N) (knw B C (fun _=>true) N N (acc.reverse++more).reverse ⟨n,sl,rs⟩)
variable {w0:BB} {Q:Exit→St→Prop} {N:Nat} {B:Nat→List Nat} {C:List (Nat×Nat)} {l:List Oper} {n:Nat} {sl:List (Nat×(Bool×S))} {rs:List (Nat×R)} {acc:List Eff} {k:Nat} {rest:List Oper}
theorem Fx.step {y:Eff} (hl:Gx P l.toArray o (knw B C (BI (B k)) k k acc ⟨n,sl,rs⟩) y) (h:Fx P w0 Q N B C l n sl rs (y::acc) (k+1) rest):Fx P w0 Q N B C l n sl rs acc k (o::rest):=⟨fun ha hr=>by
 have hd:rest=l.drop (k+1):=by
  have:=congrArg (List.drop 1) hr
  simpa using this
 obtain⟨more,h1,h2,h3,h4,h5⟩:=h.pf (by simp [ha]) hd
 have e:(y::acc).reverse++more=acc.reverse++(y::more):=by simp
 rw [e] at h1 h2 h3 h4 h5
 refine⟨y::more,h1,⟨?_,h2⟩,h3,h4,h5⟩
 have:((acc.reverse++(y::more)).take k).reverse=acc:=by
  rw [List.take_append_of_le_length (by simp [ha]),Aae (by simp [ha]),Aaf]
 rw [this]
 exact hl⟩
theorem Fx.fin (hk:Z9 k N=true) (hU:Qq B N ⟨n,sl,rs⟩ acc.reverse=true) (hC:chs 0 acc.reverse=C) (h:AWl P w0 l.toArray Q rest (knw B C (fun _=>true) N k acc ⟨n,sl,rs⟩)):Fx P w0 Q N B C l n sl rs acc k rest:=⟨fun ha hr=>by
 have hk':=ZK hk
 subst hk'
 refine⟨[],by simp [ha],by unfold LY;split<;>first|trivial|(rename_i h;cases h),by rw [Aag];exact hU,by rw [Aag];exact hC,?_⟩
 rw [Aag,Aaf,←hr]
 exact h⟩
theorem AW.drawK {id:Nat} (N:Nat) (B:Nat→List Nat) (C:List (Nat×Nat)) (hm:P.follows .mixedOrders=true) (hB:E7 l.toArray N=true) (hO:Uz l B N=true) (h:Fx P w0 Q N B C l n sl rs [] 0 l):AW P w0 (.region id l.toArray true) Q ⟨n,sl,rs⟩:=by
 obtain⟨ys,hl,hsteps,he,hC,hfin⟩:=h.pf rfl rfl
 simp only [List.reverse_nil,List.nil_append] at hl hsteps he hC hfin
 subst hC
 generalize hσ:(⟨n,sl,rs⟩:St)=σ at hsteps he hfin
 intro a w hr;refine wp_region_any hm ?_
 have hlN:N≤l.length:=by
  simp only [E7,ZC,decide_eq_true_eq] at hB
  simpa using hB.1.1.1
 have inB:∀ (listed:Array Bool),HeadInv .any l.toArray N listed→∀ i o,i<N→l[i]?=some o→(∀ j∈Gu o,listed.getD j false=true)→∀ j∈B i,listed.getD j false=true:=by
  intro listed inv i o hi ho hd
  have hOi:=ZD.1 hO i (ZJ.2 hi)
  rw [ho] at hOi
  have hOi':=ZD.1 hOi
  have key:∀ d j,N-j≤d→j∈B i→listed.getD j false=true:=by
   intro d
   induction d with
   | zero=>
    intro j hj hm
    have:=hOi' j hm
    simp only [ZE,Aah,ZS,ZC,decide_eq_true_eq] at this
    rcases this with h|⟨m,hmB,⟨h1,h2⟩,h3⟩
    · exact hd j h
    omega
   | succ d ih=>
    intro j hj hm
    have:=hOi' j hm
    simp only [ZE,Aah,ZS,ZC,decide_eq_true_eq] at this
    rcases this with h|⟨m,hmB,⟨h1,h2⟩,h3⟩
    · exact hd j h
    have hml:=ih m (by omega) hmB
    cases hom:l[m]? with
    | none=>rw [hom] at h3;cases h3
    | some om=>
     rw [hom] at h3
     simp only [Aah] at h3
     obtain⟨e,he,hb,rfl⟩:=H9.1 h3
     exact inv.closed m om (by simpa using hom) hml e he hb
  exact fun j hm=>key (N-j) j (Nat.le_refl _) hm
 have H:=Gz (P:=P) (N:=N) (Q:=lift w0 Q) (J:=fun listed a w=>∃ π,Vd B N π∧(∀ j,j∈π↔j<N∧listed.getD j false=true)∧Rel w0 (F4 ys π σ) a w) hB (fun i o1 hi ho1 listed a w inv hd hu hJ=>?_) (fun listed a w hall hJ=>?_)
  (unl N (Aai l.toArray.size false)) (Aai l.toArray.size false) a { w with drawn:=w.drawn+1 } rfl
  ⟨by simp,fun j oj _ hl=>(by rw [getD_replicate_false] at hl;cases hl),fun t _ ht=>getD_in (by simpa using ht) (getD_replicate_false _ _)⟩ ?_
 · have hu:unl N (Aai l.toArray.size false)=N:=by
    unfold unl
    rw [List.countP_eq_length.2 (fun j _=>by rw [getD_replicate_false];rfl),List.length_range]
   rw [hu,show N+(l.toArray.size-N)=l.toArray.size by simp;omega] at H
   exact H
 · -- one step
   have ho':l[i]?=some o1:=by simpa using ho1
   have hBL:=inB listed inv i o1 hi ho' hd
   have hget:∀ j,(listed.setIfInBounds i true).getD j false=if j=i then true else listed.getD j false:=by
    intro j
    by_cases e:j=i
    · subst e
      have:j<listed.size:=by rw [inv.size];simp;omega
      simp [this]
    rw [if_neg e];exact getD_set_ne false (fun h=>e h.symm)
   intro K Q' hK
   obtain⟨π,hV,hπ,hR⟩:=hJ
   have hin:i∉π:=fun hm=>by have:=((hπ i).1 hm).2;rw [hu] at this;cases this
   have hni:∀ j∈π,i∉B j:=fun j hj hm=>hin (hV.closed j hj i hm)
   obtain⟨y,hy⟩:∃ y,ys[i]?=some y:=⟨ys[i]'(by omega),ZW _⟩
   have hloc:=hsteps.at l ys 0 i o1 y ho' hy
   rw [ZI] at hloc
   have hBi:∀ j,j∈B i→j<i→j∈π:=fun j hj hlt=>(hπ j).2 ⟨by omega,hBL j hj⟩
   have hsup:=T9 (M:=BI (B i)) (i:=i) (k:=i) (acc:=(ys.take i).reverse) (more:=ys.drop i) he (by rw [Aaf,List.take_append_drop]) (by simp;omega) hV (fun b hb hlt=>hBi b (CK.1 hb) hlt) hni hin
   have hBN:∀ j∈B i,j∈π∨¬ j<N:=fun j hj=>by
    by_cases hlt:j<N
    · exact .inl ((hπ j).2 ⟨hlt,hBL j hj⟩)
    exact .inr hlt
   have hBall:∀ j∈B i,j∈π:=fun j hj=>by
    rcases hBN j hj with h1|h1
    · exact h1
    exfalso
    have h2:=hBL j hj
    have h3:=inv.tail j (by omega)
    by_cases hjs:j<l.toArray.size
    · have h4:=h3 hjs
      have hjl:j<listed.size:=by rw [inv.size];exact hjs
      simp [hjl] at h2 h4
      rw [h2] at h4;cases h4
    have hjl:¬ j<listed.size:=by rw [inv.size];exact hjs
    simp [hjl] at h2
   refine hloc _ hsup (fun id r ho hc=>?_) (fun ho v hv=>?_) w0 a w hR K Q' fun a' w' hr'=>hK a' w' ⟨i::π,.cons hV hBall hin hi,fun j=>?_,?_⟩
   · obtain⟨f1,f2⟩:=KB he hy ho hc
     refine N7 f1 fun b hb z hz=>?_
     cases hh:z.has id with
     | false=>rfl
     | true=>exact absurd (f2 b z (fun e=>hin (e▸hb)) hz hh) (hni b hb)
   · obtain⟨f1,f2⟩:=(Hl he hy ho).2 v hv
     refine N7 f1 fun b hb z hz=>?_
     cases hh:z.has v.1 with
     | false=>rfl
     | true=>exact absurd (f2 b z (fun e=>hin (e▸hb)) hz hh) (hni b hb)
   · rw [hget]
     by_cases e:j=i
     · subst e;simp [hi]
     rw [if_neg e,ZA,hπ];simp [e]
   rw [F4,hy];exact hr'
 · -- behind them
   obtain⟨π,hV,hπ,hR⟩:=hJ
   have hall':∀ b,b<N→b∈π:=fun b hb=>(hπ b).2 ⟨hb,hall b hb⟩
   have hNB:∀ j∈π,N∉B j:=fun j hj hm=>by
    simp only [Qq,ZC] at he
    have:=ZD.1 he.1.2 j (ZJ.2 ((hπ j).1 hj).1)
    rw [CK.2 hm] at this
    cases this
   have hsup:=T9 (M:=fun _=>true) (i:=N) (k:=N) (acc:=ys.reverse) (more:=[]) he (by simp) (by simp;omega) hV (fun b _ hlt=>hall' b hlt) hNB (fun hm=>by have:=((hπ N).1 hm).1;omega)
   have H:=hfin a w (Rel.of_look hR hsup.n.symm hsup.slots hsup.res)
   simpa using H
 -- the start
 subst hσ
 obtain⟨I,hI⟩:=hr
 refine⟨[],.nil,fun j=>?_,I,hI.later (Ext.refl w).drawn⟩
 rw [getD_replicate_false]
 simp
end
open Go.D
structure SO {α:Type} (lt:α→α→Bool):Prop where
 irr:∀ x,lt x x=false
 tra:∀ x y z,lt x y=true→lt y z=true→lt x z=true
 tri:∀ x y,lt x y=true∨x=y∨lt y x=true
def GL {α:Type} [DecidableEq α] (lt:α→α→Bool):List α→α→List α
 | [],p=>[p]
 | x::l,p=>if lt x p then x::GL lt l p else if x=p then x::l else p::x::l
def EB {α:Type} (lt:α→α→Bool) (l:List α):Prop:=l.Pairwise fun a b=>lt a b=true
section
variable {α:Type} {lt:α→α→Bool}
theorem HT (ho:SO lt):∀ {l r:List α},EB lt l→EB lt r→(∀ x,x∈l↔x∈r)→l=r
 | [],[],_,_,_=>rfl
 | [],y::r,_,_,h=>by have:=(h y).2 (by simp);cases this
 | x::l,[],_,_,h=>by have:=(h x).1 (by simp);cases this
 | x::l,y::r,hl,hr,h=>by
  have hl':=ZQ.1 hl
  have hr':=ZQ.1 hr
  have e:x=y:=by
   rcases ZA.1 ((h x).1 (by simp)) with h1|h1
   · exact h1
   rcases ZA.1 ((h y).2 (by simp)) with h2|h2
   · exact h2.symm
   have h3:=hr'.1 x h1
   have h4:=hl'.1 y h2
   have:=ho.tra _ _ _ h3 h4
   rw [ho.irr] at this;cases this
  subst e
  congr 1
  refine HT ho hl'.2 hr'.2 fun z=>⟨fun hz=>?_,fun hz=>?_⟩
  · rcases ZA.1 ((h z).1 (by simp [hz])) with h1|h1
    · subst h1;have:=hl'.1 z hz;rw [ho.irr] at this;cases this
    exact h1
  rcases ZA.1 ((h z).2 (by simp [hz])) with h1|h1
  · subst h1;have:=hr'.1 z hz;rw [ho.irr] at this;cases this
  exact h1
end
section
variable {α:Type} [DecidableEq α] {lt:α→α→Bool}
theorem NI {x p:α}:∀ {l:List α},x∈GL lt l p↔x∈l∨x=p
 | []=>by simp [GL]
 | y::l=>by
  rw [GL]
  split
  · simp [NI (l:=l),or_assoc]
  split
  · rename_i h;subst h;simp;intro h;exact .inl h
  simp;constructor
  · rintro (h|h|h)<;>simp [h]
  rintro ((h|h)|h)<;>simp [h]
theorem Mv (ho:SO lt) {p:α}:∀ {l:List α},EB lt l→EB lt (GL lt l p)
 | [],_=>by simp [GL,EB]
 | y::l,h=>by
  have h':=ZQ.1 h
  rw [GL]
  split
  · rename_i hy
    refine ZQ.2 ⟨fun x hx=>?_,Mv ho h'.2⟩
    rcases NI.1 hx with hx|rfl
    · exact h'.1 x hx
    exact hy
  rename_i hy
  split
  · exact h
  rename_i hne
  have hlt:lt p y=true:=by
   rcases ho.tri y p with h1|h1|h1
   · exact absurd h1 hy
   · exact absurd h1 hne
   exact h1
  refine ZQ.2 ⟨fun x hx=>?_,h⟩
  rcases ZA.1 hx with rfl|hx
  · exact hlt
  exact ho.tra _ _ _ hlt (h'.1 x hx)
def H4 (lt:α→α→Bool) (l:List α):List α:=l.foldl (GL lt) []
theorem Lj (ho:SO lt):∀ {l acc:List α},EB lt acc→EB lt (l.foldl (GL lt) acc)
 | [],_,h=>h
 | x::l,acc,h=>Lj ho (l:=l) (Mv ho h)
theorem Pk {x:α}:∀ {l acc:List α},x∈l.foldl (GL lt) acc↔x∈acc∨x∈l
 | [],acc=>by simp
 | y::l,acc=>by
  rw [Aan,Pk,NI,ZA,or_assoc]
theorem IX (ho:SO lt) (l:List α):EB lt (H4 lt l):=Lj ho List.Pairwise.nil
theorem Rt {x:α} {l:List α}:x∈H4 lt l↔x∈l:=by unfold H4;rw [Pk];simp
theorem Ri (p:α):∀ l:List α,(GL lt l p).length≤l.length+1
 | []=>by simp [GL]
 | x::l=>by
  rw [GL]
  have:=Ri p l
  split
  · simp;omega
  split<;>simp
theorem N5 (l:List α):(H4 lt l).length≤l.length:=by
 have key:∀ (l acc:List α),(l.foldl (GL lt) acc).length≤acc.length+l.length:=by
  intro l
  induction l with
  | nil=>intro acc;simp
  | cons x l ih=>intro acc;rw [Aan];have:=ih (GL lt acc x);have:=Ri (lt:=lt) x acc;simp;omega
 have:=key l []
 simpa [H4] using this
theorem PW:∀ {l:List α} {k:Nat} {p:α},(∀ j y,j<k→l[j]?=some y→lt y p=true)→(∀ y,l[k]?=some y→lt y p=false)→k≤l.length→GL lt l p=if l[k]?=some p then l else l.take k++[p]++l.drop k
 | [],k,p,_,_,hk=>by
  have:k=0:=by simpa using hk
  subst this;simp [GL]
 | x::l,0,p,_,h2,_=>by
  have:=h2 x rfl
  rw [GL,if_neg (by rw [this];simp)]
  simp
 | x::l,k+1,p,h1,h2,hk=>by
  have hx:=h1 0 x (by omega) rfl
  rw [GL,if_pos hx,PW (k:=k) (fun j y hj hy=>h1 (j+1) y (by omega) (by simpa using hy)) (fun y hy=>h2 y (by simpa using hy)) (by simpa using hk)]
  simp only [List.getElem?_cons_succ,List.take_succ_cons,List.drop_succ_cons,List.cons_append]
  split<;>rfl
end
instance:Inhabited CU:=⟨⟨0,0⟩⟩
def El (a b:CU):Bool:=decide (a.From<b.From)||decide (a.From=b.From)&&decide (a.To<b.To)
theorem Lb:SO El:=by
 refine⟨fun x=>by simp [El],fun x y z=>?_,fun x y=>?_⟩
 · unfold El
   simp only [ZE,ZC,decide_eq_true_eq]
   omega
 unfold El
 simp only [ZE,ZC,decide_eq_true_eq]
 have:x=y↔x.From=y.From∧x.To=y.To:=by cases x;cases y;simp
 rw [this];omega
def WW (a b:List CU):List CU:=H4 El (a.filter fun p=>!decide (p∈b))
theorem Ux {l:List CU} {k:Nat} {p d:CU} (h1:∀ j y,j<k→l[j]?=some y→El y p=true) (hk:k<l.length) (he:l[k]?.getD d=p):GL El l p=l:=by
 have hg:l[k]?=some p:=by rw [FN (d:=d) hk,he]
 rw [PW h1 (fun y hy=>by rw [hg] at hy;cases hy;exact Lb.irr p) (by omega),if_pos hg]
theorem WU {l:List CU} {k:Nat} {p d:CU} (h1:∀ j y,j<k→l[j]?=some y→El y p=true) (hk:k≤l.length) (hn:k<l.length→El (l[k]?.getD d) p=false) (hne:k<l.length→l[k]?.getD d≠p):GL El l p=l.take k++[p]++l.drop k:=by
 rw [PW h1 (fun y hy=>by have hlt:=(ZG.1 hy).1;have:=hn hlt;rwa [hy] at this) hk,if_neg (fun hy=>by have hlt:=(ZG.1 hy).1;have:=hne hlt;rw [hy] at this;exact this rfl)]
theorem XD {α:Type} {p:α→Bool} {l:List α} {k:Nat} (h:∀ j y,j<k→l[j]?=some y→(!p y)=true) (hk:l.length≤k):l.any p=false:=by
 rw [ZZ]
 intro x hx
 obtain⟨j,hj,rfl⟩:=List.getElem_of_mem hx
 have:=h j _ (by omega) (ZW hj)
 simpa using this
theorem JF {x y:CU}:x=y↔x.From=y.From∧x.To=y.To:=by cases x;cases y;simp
theorem QS (x y:CU):FnT ZX 123 [.agg (BC x),.agg (BC y)] (.a (.one (.v (.bool (El x y))))):=by
 refine A8 Aat U (by kernel_rfl) Aau U fun hlen w0=>?_
 try simp [BC] at hlen
 refine Af (Ac (Bg U U U (.tm U) (ts:=_) (by rfl)) U ?_);refine Ac (Bg U U U (.tm U) (ts:=_) (by rfl)) U ?_;refine An ?_;refine Aa (Af (A7 Ir ?_));refine Aj ty3 ?_;refine A7 Ir ?_;refine Aj ty3 ?_;refine AWl.lt ?_;refine Ab ?_;refine C5 Ir ?_;refine C4 ty3 ?_;refine C5 Ir ?_;refine C4 ty3 ?_;refine Ac (Kc U (by exact .not1 U U U U) U (.tmp U (by exact id)) (.tmp U (by exact id))) U ?_;refine Ac (Bh U (by exact .not1 U U U U) U (.tmp U (by exact id))) U ?_;refine Ac (Bu U (by exact .yes U U U U) U (.tmp U (by exact fun _=>rfl)) K9) U ?_;refine Ac (Br U (by exact .yes U U U U) U (.tmp U (by exact id)) ty3 U U) U ?_;refine Ac (Bu U (by exact .yes U U U U) U (.tmp U (by exact fun _=>rfl)) K9) U ?_;refine Ac (Br U (by exact .yes U U U U) U (.tmp U (by exact id)) ty3 U U) U ?_
 refine Ac (Wv U (by exact .yes U U U U) U (.tmp U (by exact id)) (.tmp U (by exact id))) U ?_;refine Ac (IJ U (by exact .not1 U U U U) U (.tmp U (by exact id)) (.tmp U (by exact id))) U ?_;refine Co ?_;refine Ah ?_;refine Aa (Aq (Bl U U ?_))
 rfl
theorem Ny (l:List CU) (p:CU) (hl:l.length≤1099511627776):FnC ZX 61 [(true,.one (.sl 2 (l.map BC))),(false,.agg (BC p))] (.a (.one (.sl 2 ((GL El l p).map BC)))):=by
 refine FnC.walk Aav rfl (by kernel_rfl) Aaw rfl (by rfl) fun w0=>?_
 refine As (Ay [0,1] [1000]) ?_
 try simp [BC] at hlen
 refine Af (Ac (Bg U U U (.tm U) (ts:=_) (by rfl)) U ?_);refine An ?_;refine Ch (i:=4) 20001 2 U U ?_;refine Aa (Af (An ?_));refine Aa (Ae (AW.block (B9 (fun (k:Nat)=>(k≤l.length∧∀ j y,j<k→l[j]?=some y→El y p=true)∧True) (fun (k:Nat)=>⟨_,[(5,(true,.a (.one (.t (.v (.int .i64 (k:Nat))))))),(0,_),(3,_),(4,_)],[(1000,.row 2 (l.map BC))]⟩) (fun (k:Nat)=>l.length-k) (0) ⟨⟨Aaj _,fun j y hj=>absurd hj (Aao j)⟩,Y⟩ Aw ?_)))
 rintro k ⟨hk,he⟩
 refine Ae (Ae (Bx 12 (DM [[],[],[1],[0,1,2],[0,1,2,3],[0,1,2,3,4],[0,1,2,3,4],[0,1,2,3,4,5,6],[0,1,2,3,4,5,6,7],[0,1,2,3,4],[0,1,2,3,4,5,6,7,8,9],[0,1,2,3,4,5,6,7,8,9,10]]) (by kernel_rfl) (by kernel_rfl) (by kernel_rfl) ?_));refine Az ?_;refine Az ?_;refine AB.s (fun _ hs=>(by exact Di U (.no U) (Ag hs U) (hs.tm U) (by exact .rf (hs.res _ _ U)) ZB)) ?_;refine AB.s (fun _ hs=>Wv U (.no U) (Ag hs U) (hs.tm U) (hs.tm U)) ?_;refine Az ?_;refine AB.s (fun _ hs=>Bh U (by exact hs.y1) (Ag hs U) (hs.tm U)) ?_;refine AB.s (fun _ hs=>Bh U (by exact hs.y1) (Ag hs U) (hs.tm U)) ?_;refine AB.s (fun _ hs=>(by exact A3 U (by exact hs.y1) (Ag hs U) (hs.ti U) (hs.res _ _ U) (hs.ti U) ZB Dq (fun hq=>by simp at hq;exact⟨by omega,Ao (l:=l) (x:=l[k]?.getD default) (FN (by omega))⟩))) ?_
 refine AB.s (fun _ hs=>(by exact Oz U (by exact hs.y1) (Ag hs U) (hs.ti U) (hs.res _ _ U) (fun hq=>by simp at hq;exact Ao (l:=l) (x:=l[k]?.getD default) (FN (by omega))) Dq U U)) ?_;refine AB.s (fun _ hs=>(by exact Br U (by exact hs.y1) (Ag hs U) (hs.tm U) Dq U U)) ?_;refine AB.s (fun _ hs=>Cw U (by exact hs.y1) (Ag hs U) (.cons (hs.ti U) (AD hs U) (.cons (hs.ti U) (AD hs U) .nil)) fun hq=>FnT.fr (QS (l[k]?.getD default) p)) ?_;refine AB.s (fun _ hs=>IJ U (.no U) (Ag hs U) (hs.tm U) (hs.ti U)) ?_;refine Bs U U ?_;refine Aa (Ai (.tm U) (fun h17=>?_) (fun h17=>?_))
 · try simp at h17
   refine Am (AW.block (As (Ay [0,3,4,5] [1000]) ?_));refine Ad (Ab ?_);refine A9 ?_;refine Ah ?_;refine Aa ?_
   repeat (with_reducible refine Av ?_)
   refine BF.next (k+1) ⟨⟨by omega,DN hk.2 (FN (d:=default) (by omega)) h17.2⟩,Y⟩ (by omega) (Au rfl ⟨rfl,rfl,rfl,rfl,Y⟩ ⟨(by rfl),Y⟩)
 try simp at h17
 refine Bf (Ae (Ae (As (Ay [0,3,4,5] [1000]) ?_)));refine Bx 12 (DM [[],[],[1],[0,1,2],[0,1,2,3],[0,1,2,3,4],[0,1,2,3,4],[0,1,2,3,4,5,6],[0,1,2,3,4,5,6,7],[0,1,2,3,4],[0,1,2,3,4,5,6,7,8,9],[0,1,2,3,4,5,6,7,8,9,10]]) (by kernel_rfl) (by kernel_rfl) (by kernel_rfl) ?_;refine Az ?_;refine Az ?_;refine AB.s (fun _ hs=>(by exact Di U (.no U) (Ag hs U) (hs.tm U) (by exact .rf (hs.res _ _ U)) ZB)) ?_;refine AB.s (fun _ hs=>Wv U (.no U) (Ag hs U) (hs.tm U) (hs.tm U)) ?_;refine Az ?_;refine AB.s (fun _ hs=>Bh U (by exact hs.y1) (Ag hs U) (hs.tm U)) ?_;refine AB.s (fun _ hs=>Bh U (by exact hs.y1) (Ag hs U) (hs.tm U)) ?_;refine AB.s (fun _ hs=>(by exact A3 U (by exact hs.y1) (Ag hs U) (hs.ti U) (hs.res _ _ U) (hs.ti U) ZB Dq (fun hq=>by simp at hq;exact⟨by omega,Ao (l:=l) (x:=l[k]?.getD default) (FN (by omega))⟩))) ?_
 refine AB.s (fun _ hs=>(by exact Oz U (by exact hs.y1) (Ag hs U) (hs.ti U) (hs.res _ _ U) (fun hq=>by simp at hq;exact Ao (l:=l) (x:=l[k]?.getD default) (FN (by omega))) Dq U U)) ?_;refine AB.s (fun _ hs=>(by exact Br U (by exact hs.y1) (Ag hs U) (hs.tm U) Dq U U)) ?_;refine AB.s (fun _ hs=>Wx U (by exact hs.y1) (Ag hs U) (hs.ti U) (hs.ti U) U U (by kernel_rfl) (XX _ _ _ _)) ?_;refine AB.s (fun _ hs=>IJ U (.no U) (Ag hs U) (hs.tm U) (hs.ti U)) ?_;refine Bs U U ?_;refine Aa (Ai (.tm U) (fun h31=>?_) (fun h31=>?_))
 · try simp at h31
   refine Ae (As (Ay [0,3,4,5] [1000]) ?_);refine Ad (Ab ?_);refine Ah ?_;refine Aa (Aq (Res.one U (.tmp U .nil) U ?_))
   rw [Ux hk.2 h31.1 (JF.2 h31.2)];rfl
 try simp at h31
 refine Am (Ae (As (Ay [0,3,4,5] [1000]) ?_));refine As (Ay [0,3,5] [1000]) ?_;refine AW.drawK 13 (DM [[],[],[],[1,2],[0,1,2,3],[],[5],[0,1,2,3,4,5,6],[],[],[8,9],[0,1,2,3,4,5,6,7,8,9,10],[0,1,2,3,4,5,6,7,8,9,10,11]]) [(4,33),(7,33),(11,33)] (by kernel_rfl) (by kernel_rfl) (by kernel_rfl) ?_;refine Fx.step (Gx.of1 U fun σ' hs hf=>C7 33 U U (Ag hs U) ZB Dq hf) ?_;refine Fx.step (Gx.of U fun σ' hs=>Bh U (.no U) (Ag hs U) (hs.tm U)) ?_;refine Fx.step (Gx.of U fun σ' hs=>Bh U (.no U) (Ag hs U) (hs.tm U)) ?_;refine Fx.step (Gx.of U fun σ' hs=>C3 (m:=k) U (.no U) (Ag hs U) (hs.tm U) (hs.res _ _ U) .no (.yes (hs.tm U) (fun _=>by first|rfl|omega|(simp<;>omega))) ZB Dq (fun _=>⟨by omega,by first|omega|(simp;omega)⟩)) ?_
 refine Fx.step (Gx.ofc U U fun σ' hs=>B8 (id:=33) U U (Ag hs U) (hs.tm U) (hs.res _ _ U) (hs.tm U) (by exact .vw) (by exact Li (fun _=>rfl) _ _ _) ZB NS U (by (simp [AH];omega)) (by (unfold maxLen;simp [AH];omega))) ?_;refine Fx.step (Gx.of U fun σ' hs=>(by exact Br U (.no U) (Ag hs U) (hs.tm U) Dq U U)) ?_;refine Fx.step (Gx.of1 U fun σ' hs hf=>Ce (xs:=[.tmp 38]) 39 U U (Ag hs U) (.cons (hs.tm U) U U .nil) ZB NS U U U hf) ?_;refine Fx.step (Gx.ofc U U fun σ' hs=>B8 (id:=33) U U (Ag hs U) (hs.tm U) (hs.res _ _ U) (hs.tm U) (by exact .rf (hs.res _ _ U)) (by rfl) ZB NS U (by (simp [AH];omega)) (by (unfold maxLen;simp [AH];omega))) ?_;refine Fx.step (Gx.of U fun σ' hs=>Bh U (.no U) (Ag hs U) (hs.tm U)) ?_;refine Fx.step (Gx.of U fun σ' hs=>Bh U (.no U) (Ag hs U) (hs.tm U)) ?_
 refine Fx.step (Gx.of U fun σ' hs=>C3 (n:=k) U (.no U) (Ag hs U) (hs.tm U) (hs.res _ _ U) (.yes (hs.tm U) (fun _=>by first|rfl|omega|(simp<;>omega))) .no ZB Dq (fun _=>⟨by simp;omega,by simp⟩)) ?_;refine Fx.step (Gx.ofc U U fun σ' hs=>B8 (id:=33) U U (Ag hs U) (hs.tm U) (hs.res _ _ U) (hs.tm U) (by exact .vw) (by exact Li (fun _=>rfl) _ _ _) ZB NS U (by (simp [AH];omega)) (by (unfold maxLen;simp [AH];omega))) ?_;refine Fx.step (Gx.of U fun σ' hs=>Cl U (.no U) (Ag hs U) (hs.tm U)) ?_;refine Fx.fin U U U ?_;refine Bv (Ay [0,3,4,5] [1000,33,39]) ?_;refine Aa (Aq (Res.one U (.tmp U .nil) U ?_))
 rw [WU hk.2 hk.1 h17 (fun hl he=>h31 hl (JF.1 he).1 (JF.1 he).2)];refine congrArg (fun r=>[V0.one (T.sl 2 r)]) ?_;simp [AH,BC,List.map_take,List.map_drop,Aae (show (List.map BC l).length≤l.length by simp)]
theorem SX (l:List CU) (p:CU):l.any (fun x=>decide (x=p))=decide (p∈l):=by
 rw [Bool.eq_iff_iff,ZS]
 simp
theorem S2 (l:List CU) (p:CU):FnT ZX 124 [.one (.sl 2 (l.map BC)),.agg (BC p)] (.a (.one (.v (.bool (decide (p∈l)))))):=by
 refine A8 Aax U (by kernel_rfl) Aay U fun hlen w0=>?_
 try simp [BC] at hlen
 refine Af (Ac (Bg U U U (.tm U) (ts:=_) (by rfl)) U ?_);refine An ?_;refine Aa (Ae (Af (An ?_)));refine Aa (AW.block (B9 (fun (k:Nat)=>(k≤l.length∧∀ j y,j<k→l[j]?=some y→(!decide (y=p))=true)∧True) (fun (k:Nat)=>⟨_,[(5,(true,.a (.one (.t (.v (.int .i64 (k:Nat))))))),(0,_),(3,_)],[]⟩) (fun (k:Nat)=>l.length-k) (0) ⟨⟨Aaj _,fun j y hj=>absurd hj (Aao j)⟩,Y⟩ (Au U ⟨U,U,U,Y⟩ trivial) ?_))
 rintro k ⟨hk,he⟩
 refine Ae (Af (Ab ?_));refine Ab ?_;refine Bi (.t) ZB ?_;refine AWl.lt ?_;refine Aa (Ai (.tm U) (fun h9=>?_) (fun h9=>?_))
 · try simp at h9
   obtain⟨x,hx⟩:∃ ξ,l[k]?=some ξ:=⟨_,ZW (by omega)⟩
   refine Am (Ae (AW.block (Ae (Bx 6 (DM [[],[],[0,1],[0,1,2],[],[0,1,2,3,4]]) (by kernel_rfl) (by kernel_rfl) (by kernel_rfl) ?_))));refine Az ?_;refine Az ?_;refine AB.s (fun _ hs=>(by exact Ak U (.no U) (Ag hs U) (hs.tm U) (hs.tm U) ZB Dq (fun _=>⟨by omega,Ao hx⟩))) ?_;refine A5 Dq ?_;refine A5 Dq ?_;refine AB.s (fun _ hs=>Wx U (.no U) (Ag hs U) (hs.tm U) (hs.tm U) U U (by kernel_rfl) (XX _ _ _ _)) ?_;refine Bs U U ?_;refine Aa (Ai (.tm U) (fun h17=>?_) (fun h17=>?_))
   · try simp at h17
     refine Ae (As (Ay [0,3,5] []) ?_);refine Ad (An ?_);refine Aa (Aq (Bl U U ?_))
     rw [decide_eq_true (show p∈l by rw [←JF.2 h17];exact ZU hx)]
   try simp at h17
   refine Am (As (Ay [0,3,5] []) ?_);refine Ad (Ab ?_);refine A9 ?_;refine Ah ?_;refine Aa ?_
   repeat (with_reducible refine Av ?_)
   refine BF.next (k+1) ⟨⟨by omega,DN hk.2 hx (by rw [decide_eq_false (fun e=>h17 (JF.1 e).1 (JF.1 e).2)];rfl)⟩,Y⟩ (by omega) (Au rfl ⟨rfl,rfl,rfl,Y⟩ trivial)
 try simp at h9
 refine Bf (Af (An ?_));refine Aa (Aq (Bl U U ?_))
 rw [←SX,XD hk.2 (by omega)]
theorem KV (a b:List CU) (ha:a.length≤1073741824):FnT ZX 62 [.one (.sl 2 (a.map BC)),.one (.sl 2 (b.map BC))] (.a (.one (.sl 2 ((WW a b).map BC)))):=by
 refine A8 Aaz U (by kernel_rfl) Aba U fun hlen w0=>?_
 try simp [BC] at hlen
 refine Af (An ?_);refine Ch (i:=4) 20001 2 U U ?_;refine Aa (Af (A6 (C7 7 U U U ZB Dq U) U ?_));refine Ah ?_;refine Aa (Ae (Af (An ?_)));refine Aa (AW.block (B9 (fun (k:Nat)=>(k≤a.length)∧True) (fun (k:Nat)=>⟨_,[(6,(true,.a (.one (.t (.v (.int .i64 (k:Nat))))))),(5,(true,.a (.one (.rf 7)))),(0,_),(1,_),(4,_)],[(7,.row 2 ((H4 El ((a.take k).filter fun p=>!decide (p∈b))).map BC))]⟩) (fun (k:Nat)=>a.length-k) (0) ⟨Aaj _,Y⟩ Aw ?_))
 rintro k ⟨hk,he⟩
 refine Ae (Af (Ab ?_));refine Ab ?_;refine Bi (.t) ZB ?_;refine AWl.lt ?_;refine Aa (Ai (.tm U) (fun h11=>?_) (fun h11=>?_))
 · try simp at h11
   obtain⟨x,hx⟩:∃ ξ,a[k]?=some ξ:=⟨_,ZW (by omega)⟩
   refine Am (Ae (AW.block (Af (Ab ?_))));refine Ab ?_;refine Ab ?_;refine Ac (Ak U (.no U) U (.tm U) (.tm U) ZB Dq (fun _=>⟨by omega,Ao hx⟩)) U ?_;refine Aj Dq ?_;refine By (S2 _ _) ?_;refine Cy ?_;refine Aa (Ai (.tm U) (fun h20=>?_) (fun h20=>?_))
   · try simp at h20
     refine As (Ay [0,1,4,5,6] [7]) ?_;refine Ad (Ab ?_);refine Ab ?_;refine Ab ?_;refine Ac (Ak U (.no U) U (.tm U) (.tm U) ZB Dq (fun _=>⟨by omega,Ao hx⟩)) U ?_;refine Aj Dq ?_;apply Ec
     case ho=>
      apply G9 (xo:=.tmp 21) 7 (Ny (H4 El ((a.take k).filter fun p=>!decide (p∈b))) x (Aap (N5 _) (Aap (List.length_filter_le _ _) (by simp;omega)))) rfl rfl rfl (.tm rfl)
      case ha=>rfl
      case hargs=>exact (IM.own (FC.agg (.tm rfl) .nil))
      all_goals rfl
     case hd=>rfl
     refine Ah ?_;refine Aa (As (Ay [0,1,4,5,6] [7]) ?_);refine Ad (Ab ?_);refine A9 ?_;refine Ah ?_;refine Aa ?_
     repeat (with_reducible refine Av ?_)
     refine BF.next (k+1) ⟨by omega,Y⟩ (by omega) (Au rfl ⟨rfl,rfl,rfl,rfl,rfl,Y⟩ ⟨(by refine congrArg (fun r=>some (R.row 2 r)) ?_;simp [CO hx,Aaq,h20,H4,Aar]),Y⟩)
   try simp at h20
   refine Am (As (Ay [0,1,4,5,6] [7]) ?_);refine Ad (Ab ?_);refine A9 ?_;refine Ah ?_;refine Aa ?_
   repeat (with_reducible refine Av ?_)
   refine BF.next (k+1) ⟨by omega,Y⟩ (by omega) (Au rfl ⟨rfl,rfl,rfl,rfl,rfl,Y⟩ ⟨(by refine congrArg (fun r=>some (R.row 2 r)) ?_;simp [CO hx,Aaq,h20,H4,Aar]),Y⟩)
 try simp at h11
 refine Bf (Af (Ab ?_));refine Ah ?_;refine Aa (Aq (Res.one U (.tmp U .nil) U ?_))
 unfold WW;rw [Aae (by omega)];rfl
end Go.Q
