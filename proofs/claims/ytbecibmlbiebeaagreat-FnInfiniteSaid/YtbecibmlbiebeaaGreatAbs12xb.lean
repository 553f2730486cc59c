import Derived.Test.YtbecibmlbiebeaaGreatAbs10xb
import Derived.Test.YtbecibmlbiebeaaGreatAbs1xb
set_option linter.unusedVariables false
set_option linter.unusedSimpArgs false
namespace Go.Q
open Go.RowKit
section
variable {P:Program} {ops:Array Oper} {N:Nat}
def planC (ops:Array Oper) (N:Nat):Bool:=
 decide (N≤ops.size)&&(List.range N).all (fun i=>match ops[i]? with
  | some o=>(deps o).all (fun e=>decide (e<i))
  | none=>false)&&
 (decide (N=ops.size)||(Region.sinkB .any ops N&&Region.chainB .any ops N))&&
 Region.seqB .any ops (ops.size-N) N ((Array.range ops.size).map fun j=>decide (j<N))
theorem wpAny_inv {Q:Exit→Act→World→Prop} {J:Array Bool→Act→World→Prop} (hB:planC ops N=true)
 (hstep:∀ i o,i<N→ops[i]?=some o→∀ listed a w,HeadInv .any ops N listed→(∀ j∈deps o,listed.getD j false=true)→listed.getD i false=false→J listed a w→
  ∀ (K:Act→World→Prop) (Q':Exit→Act→World→Prop),(∀ a' w',J (listed.setIfInBounds i true) a' w'→K a' w')→if Region.wanted o (yielded ops a.tmps) then o.wp P a w K Q' else K (a.put o.dst undef) w)
 (hfin:∀ listed a w,(∀ j,j<N→listed.getD j false=true)→J listed a w→wpList P ops Q (ops.toList.drop N) a w) :
 ∀ (n:Nat) (listed:Array Bool) (a:Act) (w:World),unl N listed=n→HeadInv .any ops N listed→J listed a w→wpAny P .any ops Q (n+(ops.size-N)) listed a w:=by
 simp only [planC,Bool.and_eq_true,decide_eq_true_eq] at hB
 obtain⟨⟨⟨hN,hall⟩,htail⟩,hseq⟩:=hB
 have hop:∀ i,i<N→∃ o,ops[i]?=some o∧∀ e∈deps o,e<i:=by
  intro i hi
  have h:=List.all_eq_true.1 hall i (List.mem_range.2 hi)
  have hio:ops[i]?=some ops[i]:=Array.getElem?_eq_getElem (by omega)
  rw [hio] at h
  simp only [List.all_eq_true,decide_eq_true_eq] at h
  exact⟨_,hio,h⟩
 intro n
 induction n with
 | zero=>
  intro listed a w hn inv hJ
  have hl:∀ j,j<N→listed.getD j false=true:=by
   intro j hj
   have:=List.countP_eq_zero.1 hn j (List.mem_range.2 hj)
   simpa using this
  have hlisted:listed=(Array.range ops.size).map fun j=>decide (j<N):=by
   apply Array.ext
   · simp [inv.size]
   intro j h1 h2
   have hj:j<ops.size:=by rw [←inv.size];exact h1
   simp only [Array.getElem_map,Array.getElem_range]
   by_cases hjN:j<N
   · have:=hl j hjN
     simp [h1] at this
     simp [this,hjN]
   have:=inv.tail j (by omega) hj
   simp [h1] at this
   simp [this,hjN]
  have H:=hfin listed a w hl hJ
  have:=wpAny_of_seq (md:=.any) (Q':=Q) (ops.toList.drop N) N listed a w (fun j=>by simp [List.getElem?_drop]) (by rw [hlisted];simpa using hseq) H
  rw [Nat.zero_add]
  simpa using this
 | succ n ih=>
  intro listed a w hn inv hJ
  rw [show n+1+(ops.size-N)=(n+(ops.size-N))+1 by omega]
  have hleast:∃ i,i<N∧listed.getD i false=false∧∀ j,j<i→listed.getD j false=true:=by
   have hex:∃ i,i<N∧listed.getD i false=false:=by
    apply Classical.byContradiction;intro hno
    have:unl N listed=0:=List.countP_eq_zero.2 fun j hj=>by
     have hjN:=List.mem_range.1 hj
     cases h:listed.getD j false with
     | true=>simp
     | false=>exact absurd ⟨j,hjN,h⟩ hno
    omega
   obtain⟨i,hi,hu⟩:=hex
   induction i using Nat.strongRecOn with
   | _ i ihi=>
    by_cases hall':∀ j,j<i→listed.getD j false=true
    · exact⟨i,hi,hu,hall'⟩
    obtain⟨j,hj,hju⟩:∃ j,j<i∧listed.getD j false=false:=by
     apply Classical.byContradiction;intro hno
     exact hall' fun j hj=>by
      cases h:listed.getD j false with
      | true=>rfl
      | false=>exact absurd ⟨j,hj,h⟩ hno
    exact ihi j hj (by omega) hju
  have inL:∀ i,i<N→listed.getD i false=false→listed.getD i true=false:=fun i hi h=>getD_in (by rw [inv.size];omega) h
  obtain⟨i0,hi0,hu0,hl0⟩:=hleast
  have hr0:i0∈Region.ready .any ops listed:=by
   obtain⟨o,ho,hd⟩:=hop i0 hi0
   exact mem_ready.2 ⟨inL i0 hi0 hu0,o,ho,fun e he hb=>hl0 _ (hd _ (mem_deps.2 ⟨e,he,hb,rfl⟩))⟩
  refine⟨fun h0=>(by rw [h0] at hr0;cases hr0),fun i hi=>?_⟩
  have hiN:i<N:=by
   rcases Nat.lt_or_ge i N with h|h
   · exact h
   obtain⟨_,o,ho,_⟩:=mem_ready.1 hi
   have hisz:i<ops.size:=(Array.getElem?_eq_some_iff.1 ho).1
   simp only [Bool.or_eq_true,decide_eq_true_eq,Bool.and_eq_true] at htail
   rcases htail with htail|⟨hs,hc⟩
   · omega
   exact absurd hi (tail_waits hs hc (by omega) inv _ i0 rfl hi0 (inL i0 hi0 hu0) i h)
  obtain⟨o,ho,hd⟩:=hop i hiN
  obtain⟨hiun,o',ho',hafter⟩:=mem_ready.1 hi
  obtain rfl:o'=o:=Option.some.inj (ho'.symm.trans ho)
  have hiunf:listed.getD i false=false:=getD_both hiun
  have hdl:∀ j∈deps o',listed.getD j false=true:=fun j hj=>by
   obtain⟨e,he,hb,rfl⟩:=mem_deps.1 hj
   exact hafter e he hb
  have hun:unl N (listed.setIfInBounds i true)=n:=by
   have:=unl_set listed i hiunf (by rw [inv.size];omega) N
   rw [if_pos hiN] at this
   omega
  have H:=hstep i o' hiN ho listed a w inv hdl hiunf hJ _ Q fun a' w' hJ'=>ih _ a' w' hun (inv.set hi hiN) hJ'
  unfold wpOp
  simp only [ho]
  split
  · rename_i hw
    rw [if_pos hw] at H
    exact .inl H
  rename_i hw
  rw [if_neg hw] at H
  exact H
end
structure Sup (σ σ':St):Prop where
 n:σ'.n=σ.n
 slots:∀ i x,look σ.slots i=some x→look σ'.slots i=some x
 res:∀ i x,look σ.res i=some x→look σ'.res i=some x
section
variable {P:Program} {ops:Array Oper} {o:Oper} {σ σ':St} {q:Bool}
theorem readE0_sup (hs:Sup σ σ') {e:E} {t:T} (h:readE0 σ e=some t):readE0 σ' e=some t:=by
 cases e with
 | rf id=>
  rw [readE0] at h
  split at h
  · rename_i h0;rw [readE0,hs.res _ _ h0];exact h
  cases h
 | t x=>exact h
 | vw i x=>exact h
 | pp i x=>cases h
 | pr a b c d=>cases h
 | sb a b c d=>cases h
 | tl a b c=>cases h
 | pf a b c=>cases h
 | no=>cases h
theorem mapO_sup {f g:E→Option T} (hf:∀ e t,f e=some t→g e=some t):∀ {l:List E} {ts:List T},mapO f l=some ts→mapO g l=some ts
 | [],ts,h=>h
 | e::r,ts,h=>by
  rw [mapO] at h ⊢
  split at h
  · rename_i t h1
    split at h
    · rename_i ts' h2
      rw [hf e t h1]
      simp only [mapO_sup hf h2]
      exact h
    cases h
  cases h
theorem readE_sup (hs:Sup σ σ'):∀ (n:Nat) (e:E) (t:T),readE σ n e=some t→readE σ' n e=some t
 | 0,e,t,h=>readE0_sup hs h
 | n+1,e,t,h=>by
  rw [readE] at h ⊢
  dsimp only at h ⊢
  split at h
  · split at h
    · rename_i h0
      split at h
      · rename_i h1
        rw [hs.res _ _ h0]
        simp only [mapO_sup (readE_sup hs n) h1]
        exact h
      cases h
    cases h
  exact readE0_sup hs h
theorem readA_sup (hs:Sup σ σ') {x:A} {v:V0} (h:readA σ x=some v):readA σ' x=some v:=by
 cases x with
 | one e=>
  rw [readA] at h ⊢
  split at h
  · rename_i h1;rw [readE_sup hs 4 _ _ h1];exact h
  cases h
 | agg l=>
  rw [readA] at h ⊢
  split at h
  · rename_i h1;rw [mapO_sup (readE_sup hs 4) h1];exact h
  cases h
theorem Ah (hs:Sup σ σ') {d:Option Tmp} (h:d.all (fun d=>Nat.blt d σ.n)=true):d.all (fun d=>Nat.blt d σ'.n)=true:=by rw [hs.n];exact h
theorem Sup.tm {σ σ':St} {q:Bool} {i:Nat} {x:A} (hs:Sup σ σ') (h:look σ.slots i=some (true,.a x)):Get σ' q (.tmp i) x:=.tm (hs.slots _ _ h)
def Loc (P:Program) (ops:Array Oper) (o:Oper) (σ:St) (y:Nat×(Bool×S)×List (Nat×R)):Prop:=
 ∀ σ',Sup σ σ'→(∀ z∈y.2.2,σ'.has z.1=false)→Op1 P ops o σ' ⟨σ'.n,(y.1,y.2.1)::σ'.slots,addsR y.2.2 σ'.res⟩
theorem Loc.of {d:Nat} {x:Bool×S} (hd:o.dst=some d) (h:∀ σ',Sup σ σ'→Op1 P ops o σ' (σ'.put o.dst x)):Loc P ops o σ (d,x,[]):=fun σ' hs _=>by
 have:=h σ' hs
 rw [hd] at this
 exact this
end
abbrev Out:=Nat×(Bool×S)×List (Nat×R)
def stL (L:Nat→Bool):Nat→List Out→St→St
 | _,[],σ=>σ
 | i,y::r,σ=>stL L (i+1) r (bif L i then ⟨σ.n,(y.1,y.2.1)::σ.slots,addsR y.2.2 σ.res⟩ else σ)
theorem stL_n (L:Nat→Bool):∀ (outs:List Out) (i:Nat) (σ:St),(stL L i outs σ).n=σ.n
 | [],_,_=>rfl
 | y::r,i,σ=>by
  rw [stL,stL_n L r]
  cases L i<;>rfl
theorem look_addsR:∀ (rl:List (Nat×R)) (rs:List (Nat×R)) (i:Nat),look (addsR rl rs) i=match look rl.reverse i with|some x=>some x|none=>look rs i
 | [],rs,i=>rfl
 | y::rl,rs,i=>by
  rw [addsR,look_addsR rl]
  have key:∀ (l m:List (Nat×R)),look (l++m) i=match look l i with|some x=>some x|none=>look m i:=by
   intro l m
   induction l with
   | nil=>rfl
   | cons z l ih=>
    obtain⟨j,z⟩:=z
    rw [List.cons_append,look_cons,look_cons]
    split
    · rfl
    exact ih
  rw [List.reverse_cons,key]
  cases look rl.reverse i with
  | some x=>rfl
  | none=>
   obtain⟨j,z⟩:=y
   simp only [look]
   cases Nat.beq j i<;>rfl
theorem stL_slot_base {L:Nat→Bool} {t:Nat}:∀ (outs:List Out) (i:Nat) (σ:St),(∀ (j:Nat) (y:Out),outs[j]?=some y→L (i+j)=true→y.1≠t)→look (stL L i outs σ).slots t=look σ.slots t
 | [],_,_,_=>rfl
 | y::r,i,σ,h=>by
  rw [stL,stL_slot_base r (i+1) _ fun j z hj hL=>h (j+1) z (by simpa using hj) (by rw [show i+(j+1)=i+1+j by omega];exact hL)]
  cases hL:L i with
  | false=>rfl
  | true=>
   simp only [cond_true,look_cons]
   rw [if_neg (h 0 y rfl hL)]
theorem stL_slot {L:Nat→Bool} {t:Nat} {x:Bool×S}:∀ (outs:List Out) (i:Nat) (σ:St) (j:Nat) (y:Out),outs[j]?=some y→L (i+j)=true→y.1=t→y.2.1=x→(∀ k z,outs[k]?=some z→z.1=t→k=j)→look (stL L i outs σ).slots t=some x
 | [],_,_,j,y,h,_,_,_,_=>by simp at h
 | z::r,i,σ,0,y,h,hL,h1,h2,hu=>by
  simp at h;subst h
  rw [stL,stL_slot_base r (i+1) _ fun k u hk _ e=>by have:=hu (k+1) u (by simpa using hk) e;omega]
  have hL':L i=true:=hL
  simp only [hL',cond_true,look_cons,h1,if_true,h2]
 | z::r,i,σ,j+1,y,h,hL,h1,h2,hu=>by
  rw [stL]
  exact stL_slot r (i+1) _ j y (by simpa using h) (by rw [show i+1+j=i+(j+1) by omega];exact hL) h1 h2 fun k u hk e=>by have:=hu (k+1) u (by simpa using hk) e;omega
theorem stL_res_base {L:Nat→Bool} {t:Nat}:∀ (outs:List Out) (i:Nat) (σ:St),(∀ (j:Nat) (y:Out),outs[j]?=some y→L (i+j)=true→∀ z∈y.2.2,z.1≠t)→look (stL L i outs σ).res t=look σ.res t
 | [],_,_,_=>rfl
 | y::r,i,σ,h=>by
  rw [stL,stL_res_base r (i+1) _ fun j z hj hL=>h (j+1) z (by simpa using hj) (by rw [show i+(j+1)=i+1+j by omega];exact hL)]
  cases hL:L i with
  | false=>rfl
  | true=>
   simp only [cond_true,look_addsR]
   have:look y.2.2.reverse t=none:=by
    cases hh:look y.2.2.reverse t with
    | none=>rfl
    | some x=>exact absurd rfl (h 0 y rfl hL (t,x) (by simpa using look_mem hh))
   rw [this]
theorem stL_res {L:Nat→Bool} {t:Nat} {x:R}:∀ (outs:List Out) (i:Nat) (σ:St) (j:Nat) (y:Out),outs[j]?=some y→L (i+j)=true→look y.2.2.reverse t=some x→(∀ k z,outs[k]?=some z→(∃ u∈z.2.2,u.1=t)→k=j)→look (stL L i outs σ).res t=some x
 | [],_,_,j,y,h,_,_,_=>by simp at h
 | z::r,i,σ,0,y,h,hL,h1,hu=>by
  simp at h;subst h
  rw [stL,stL_res_base r (i+1) _ fun k u hk _ v hv e=>by have:=hu (k+1) u (by simpa using hk) ⟨v,hv,e⟩;omega]
  have hL':L i=true:=hL
  simp only [hL',cond_true,look_addsR,h1]
 | z::r,i,σ,j+1,y,h,hL,h1,hu=>by
  rw [stL]
  exact stL_res r (i+1) _ j y (by simpa using h) (by rw [show i+1+j=i+(j+1) by omega];exact hL) h1 fun k u hk e=>by have:=hu (k+1) u (by simpa using hk) e;omega
def memN:List Nat→Nat→Bool
 | [],_=>false
 | i::l,j=>bif Nat.beq i j then true else memN l j
theorem memN_iff:∀ {l:List Nat} {j:Nat},memN l j=true↔j∈l
 | [],j=>by simp [memN]
 | i::l,j=>by
  rw [memN]
  by_cases e:i=j
  · subst e;simp [Nat.beq_refl]
  have:Nat.beq i j=false:=by
   cases hb:Nat.beq i j with
   | false=>rfl
   | true=>exact absurd (Nat.eq_of_beq_eq_true hb) e
  simp only [this,cond_false,memN_iff,List.mem_cons]
  exact⟨.inr,fun h=>h.resolve_left fun h=>e h.symm⟩
def delS (ds:List Nat):List (Nat×(Bool×S))→List (Nat×(Bool×S))
 | []=>[]
 | x::l=>bif memN ds x.1 then delS ds l else x::delS ds l
theorem look_delS (ds:List Nat):∀ (l:List (Nat×(Bool×S))) (t:Nat),look (delS ds l) t=if t∈ds then none else look l t
 | [],t=>by simp [delS,look]
 | (i,x)::l,t=>by
  rw [delS]
  cases hm:memN ds i with
  | true=>
   simp only [cond_true,look_delS ds l t,look_cons]
   by_cases e:i=t
   · subst e;rw [if_pos (memN_iff.1 hm),if_pos (memN_iff.1 hm)]
   rw [if_neg e]
  | false=>
   simp only [cond_false,look_cons,look_delS ds l t]
   by_cases e:i=t
   · subst e
     have:i∉ds:=fun h=>by rw [memN_iff.2 h] at hm;cases hm
     rw [if_pos rfl,if_neg this,if_pos rfl]
   rw [if_neg e,if_neg e]
def Out.has (y:Out) (id:Nat):Bool:=y.2.1.2.has id||y.2.2.any (fun z=>Nat.beq z.1 id||z.2.has id)
def Steps (P:Program) (ops:Array Oper) (B:Nat→List Nat) (outs:List Out) (σ:St):Nat→List Oper→List Out→Prop
 | i,o::l,y::r=>Loc P ops o (stL (memN (B i)) 0 outs σ) y∧Steps P ops B outs σ (i+1) l r
 | _,_,_=>True
theorem Steps.at {P:Program} {ops:Array Oper} {B:Nat→List Nat} {outs:List Out} {σ:St}:∀ (l:List Oper) (r:List Out) (k:Nat),Steps P ops B outs σ k l r→∀ i o y,l[i]?=some o→r[i]?=some y→Loc P ops o (stL (memN (B (k+i))) 0 outs σ) y
 | [],r,k,h,i,o,y,hl,hr=>by simp at hl
 | o'::l,[],k,h,i,o,y,hl,hr=>by simp at hr
 | o'::l,y'::r,k,h,0,o,y,hl,hr=>by simp at hl hr;subst hl;subst hr;exact h.1
 | o'::l,y'::r,k,h,i+1,o,y,hl,hr=>by
  have:=Steps.at l r (k+1) h.2 i o y (by simpa using hl) (by simpa using hr)
  rwa [show k+1+i=k+(i+1) by omega] at this
def ordB (l:List Oper) (B:Nat→List Nat) (N:Nat):Bool:=(List.range N).all fun i=>match l[i]? with
 | some o=>(B i).all fun j=>(deps o).contains j||(B i).any fun m=>decide (j<m)&&decide (m<N)&&(match l[m]? with|some om=>(deps om).contains j|none=>false)
 | none=>false
def outB (B:Nat→List Nat) (σ:St) (outs:List Out):Bool:=
 (List.range outs.length).all fun i=>match outs[i]? with
  | some y=>(List.range outs.length).all (fun k=>match outs[k]? with|some z=>decide (k=i)||!(Nat.beq z.1 y.1)|none=>true)&&
   y.2.2.all fun u=>!σ.has u.1&&(List.range outs.length).all fun k=>decide (k=i)||(match outs[k]? with|some z=>(!(z.has u.1)||memN (B k) i)&&z.2.2.all (fun v=>!(Nat.beq v.1 u.1))|none=>true)
  | none=>true
theorem has_stL {L:Nat→Bool} {id:Nat}:∀ (outs:List Out) (i:Nat) (σ:St),σ.has id=false→(∀ (j:Nat) (y:Out),outs[j]?=some y→L (i+j)=true→Out.has y id=false)→(stL L i outs σ).has id=false
 | [],_,_,h,_=>h
 | y::r,i,σ,h,h'=>by
  rw [stL]
  refine has_stL r (i+1) _ ?_ fun j z hj hL=>h' (j+1) z (by simpa using hj) (by rw [show i+(j+1)=i+1+j by omega];exact hL)
  cases hL:L i with
  | false=>exact h
  | true=>
   have h1:=h' 0 y rfl hL
   simp only [Out.has,Bool.or_eq_false_iff,List.any_eq_false] at h1
   simp only [St.has,Bool.or_eq_false_iff,List.any_eq_false] at h ⊢
   refine⟨fun z hz=>?_,fun z hz=>?_⟩
   · rcases List.mem_cons.1 hz with rfl|hz
     · simpa using h1.1
     exact h.1 z hz
   have:z∈y.2.2.reverse++σ.res:=by
    have key:∀ (a b:List (Nat×R)),z∈addsR a b→z∈a.reverse++b:=by
     intro a
     induction a with
     | nil=>intro b h;exact List.mem_append.2 (.inr h)
     | cons c a ih=>intro b h;have:=ih _ h;simpa using this
    exact key _ _ hz
   rcases List.mem_append.1 this with hz|hz
   · have:=h1.2 z (by simpa using hz)
     simpa using this
   exact h.2 z hz
theorem Rel.of_look {w0:Base} {w:World} {a:Act} {σ σ':St} (h:Rel w0 σ a w) (hn:σ'.n=σ.n) (hs:∀ i x,look σ'.slots i=some x→look σ.slots i=some x) (hr:∀ i x,look σ'.res i=some x→look σ.res i=some x):Rel w0 σ' a w:=by
 obtain⟨I,h⟩:=h
 exact⟨I,h.ext,h.defers,h.size.trans hn.symm,fun i x hi=>h.slots _ _ (hs i x hi),fun i r hi=>h.res _ _ (hr i r hi),h.old,h.lt,fun i r hi=>h.own _ _ (hr i r hi),h.apart⟩
theorem beq_false {i j:Nat} (h:i≠j):Nat.beq i j=false:=by
 cases hb:Nat.beq i j with
 | false=>rfl
 | true=>exact absurd (Nat.eq_of_beq_eq_true hb) h
theorem look_none_of {α:Type}:∀ {l:List (Nat×α)} {t:Nat},(∀ x∈l,x.1≠t)→look l t=none
 | [],_,_=>rfl
 | (i,x)::l,t,h=>by rw [look_cons,if_neg (h (i,x) (by simp))];exact look_none_of fun y hy=>h y (by simp [hy])
theorem ordB_in {l:List Oper} {N:Nat} {B:Nat→List Nat} (hB:planC l.toArray N=true) (hO:ordB l B N=true) {listed:Array Bool} (inv:HeadInv .any l.toArray N listed) {i:Nat} {o:Oper} (hi:i<N) (ho:l[i]?=some o) (hd:∀ j∈deps o,listed.getD j false=true):∀ j∈B i,listed.getD j false=true:=by
 have hlN:N≤l.length:=by
  simp only [planC,Bool.and_eq_true,decide_eq_true_eq] at hB
  simpa using hB.1.1.1
 have inB:∀ (listed:Array Bool),HeadInv .any l.toArray N listed→∀ i o,i<N→l[i]?=some o→(∀ j∈deps o,listed.getD j false=true)→∀ j∈B i,listed.getD j false=true:=by
  intro listed inv i o hi ho hd
  have hOi:=List.all_eq_true.1 hO i (List.mem_range.2 hi)
  rw [ho] at hOi
  have hOi':=List.all_eq_true.1 hOi
  have key:∀ d j,N-j≤d→j∈B i→listed.getD j false=true:=by
   intro d
   induction d with
   | zero=>
    intro j hj hm
    have:=hOi' j hm
    simp only [Bool.or_eq_true,List.contains_iff_mem,List.any_eq_true,Bool.and_eq_true,decide_eq_true_eq] at this
    rcases this with h|⟨m,hmB,⟨h1,h2⟩,h3⟩
    · exact hd j h
    omega
   | succ d ih=>
    intro j hj hm
    have:=hOi' j hm
    simp only [Bool.or_eq_true,List.contains_iff_mem,List.any_eq_true,Bool.and_eq_true,decide_eq_true_eq] at this
    rcases this with h|⟨m,hmB,⟨h1,h2⟩,h3⟩
    · exact hd j h
    have hml:=ih m (by omega) hmB
    cases hom:l[m]? with
    | none=>rw [hom] at h3;cases h3
    | some om=>
     rw [hom] at h3
     simp only [List.contains_iff_mem] at h3
     obtain⟨e,he,hb,rfl⟩:=mem_deps.1 h3
     exact inv.closed m om (by simpa using hom) hml e he hb
  exact fun j hm=>key (N-j) j (Nat.le_refl _) hm
 exact inB listed inv i o hi ho hd
theorem draw_step {o:Oper} {n:Nat} {sl:List (Nat×(Bool×S))} {rs:List (Nat×R)} {l:List Oper} {N:Nat} {B:Nat→List Nat} {outs:List Out} (hB:planC l.toArray N=true) (hO:ordB l B N=true) (hl:outs.length=N) (hU:outB B ⟨n,sl,rs⟩ outs=true)
 {listed:Array Bool} {i:Nat} {y:Out} (inv:HeadInv .any l.toArray N listed) (hi:i<N) (ho':l[i]?=some o) (hd:∀ j∈deps o,listed.getD j false=true) (hu:listed.getD i false=false) (hy:outs[i]?=some y) :
 Sup (stL (memN (B i)) 0 outs ⟨n,delS (outs.map (·.1)) sl,rs⟩) (stL (fun j=>listed.getD j false) 0 outs ⟨n,sl,rs⟩)∧(∀ u∈y.2.2,(stL (fun j=>listed.getD j false) 0 outs ⟨n,sl,rs⟩).has u.1=false)∧(∀ j∈B i,listed.getD j false=true)∧
 ∀ w0 a' w',Rel w0 ⟨(stL (fun j=>listed.getD j false) 0 outs ⟨n,sl,rs⟩).n,(y.1,y.2.1)::(stL (fun j=>listed.getD j false) 0 outs ⟨n,sl,rs⟩).slots,addsR y.2.2 (stL (fun j=>listed.getD j false) 0 outs ⟨n,sl,rs⟩).res⟩ a' w'→Rel w0 (stL (fun j=>(listed.setIfInBounds i true).getD j false) 0 outs ⟨n,sl,rs⟩) a' w':=by
 have hU':=List.all_eq_true.1 hU
 have dsl:∀ (i:Nat) (y:Out),outs[i]?=some y→∀ (k:Nat) (z:Out),outs[k]?=some z→z.1=y.1→k=i:=by
  intro i y hi k z hk e
  have:=hU' i (List.mem_range.2 (List.getElem?_eq_some_iff.1 hi).1)
  rw [hi] at this
  simp only [Bool.and_eq_true] at this
  have:=List.all_eq_true.1 this.1 k (List.mem_range.2 (List.getElem?_eq_some_iff.1 hk).1)
  rw [hk] at this
  simp only [Bool.or_eq_true,decide_eq_true_eq,Bool.not_eq_true'] at this
  rcases this with h|h
  · exact h
  rw [e,Nat.beq_refl] at h;cases h
 have ids:∀ (i:Nat) (y:Out),outs[i]?=some y→∀ u∈y.2.2,St.has ⟨n,sl,rs⟩ u.1=false∧∀ (k:Nat) (z:Out),outs[k]?=some z→k=i∨((Out.has z u.1=true→i∈B k)∧∀ v∈z.2.2,v.1≠u.1):=by
  intro i y hi u hu
  have:=hU' i (List.mem_range.2 (List.getElem?_eq_some_iff.1 hi).1)
  rw [hi] at this
  simp only [Bool.and_eq_true] at this
  have:=List.all_eq_true.1 this.2 u hu
  simp only [Bool.and_eq_true,Bool.not_eq_true'] at this
  refine⟨this.1,fun k z hk=>?_⟩
  have:=List.all_eq_true.1 this.2 k (List.mem_range.2 (List.getElem?_eq_some_iff.1 hk).1)
  rw [hk] at this
  simp only [Bool.or_eq_true,decide_eq_true_eq,Bool.and_eq_true,Bool.not_eq_true',List.all_eq_true] at this
  rcases this with h|⟨h1,h2⟩
  · exact .inl h
  refine .inr ⟨fun hz=>?_,fun v hv=>beq_ne (h2 v hv)⟩
  rcases h1 with h1|h1
  · rw [hz] at h1;cases h1
  exact memN_iff.1 h1
 have hlN:N≤l.length:=by
  have hB':=hB
  simp only [planC,Bool.and_eq_true,decide_eq_true_eq] at hB'
  simpa using hB'.1.1.1
 have inB:=fun (listed:Array Bool) (inv:HeadInv .any l.toArray N listed) (i:Nat) (o:Oper) (hi:i<N) (ho:l[i]?=some o) (hd:∀ j∈deps o,listed.getD j false=true)=>ordB_in hB hO inv hi ho hd
 have hBL:=inB listed inv i o hi ho' hd
 have hsup:Sup (stL (memN (B i)) 0 outs ⟨n,delS (outs.map (·.1)) sl,rs⟩) (stL (fun j=>listed.getD j false) 0 outs ⟨n,sl,rs⟩):=by
  refine⟨by rw [stL_n,stL_n],fun t x hx=>?_,fun t x hx=>?_⟩
  · by_cases hex:∃ j z,outs[j]?=some z∧memN (B i) j=true∧z.1=t
    · obtain⟨j,z,hz,hj,rfl⟩:=hex
      have e:=stL_slot (L:=memN (B i)) (t:=z.1) outs 0 ⟨n,delS (outs.map (·.1)) sl,rs⟩ j z hz (by rw [Nat.zero_add];exact hj) rfl rfl (fun k u hk e=>dsl j z hz k u hk e)
      rw [hx] at e
      cases e
      exact stL_slot outs 0 _ j z hz (by rw [Nat.zero_add];exact hBL j (memN_iff.1 hj)) rfl rfl fun k u hk e=>dsl j z hz k u hk e
    rw [stL_slot_base outs 0 _ fun j z hz hj e=>hex ⟨j,z,hz,by rw [Nat.zero_add] at hj;exact hj,e⟩,look_delS] at hx
    split at hx
    · cases hx
    rename_i hnm
    rw [stL_slot_base outs 0 _ fun j z hz _ e=>hnm (List.mem_map.2 ⟨z,List.mem_of_getElem? hz,e⟩)]
    exact hx
  by_cases hex:∃ j z,outs[j]?=some z∧memN (B i) j=true∧∃ u∈z.2.2,u.1=t
  · obtain⟨j,z,hz,hj,u,hu,rfl⟩:=hex
    have uniq:∀ (k:Nat) (z':Out),outs[k]?=some z'→(∃ v∈z'.2.2,v.1=u.1)→k=j:=fun k z' hk ⟨v,hv,e⟩=>by
     rcases (ids j z hz u hu).2 k z' hk with h|⟨_,h⟩
     · exact h
     exact absurd e (h v hv)
    cases hlk:look z.2.2.reverse u.1 with
    | none=>
     exfalso
     have:∀ (m:List (Nat×R)),u∈m→look m u.1≠none:=by
      intro m
      induction m with
      | nil=>intro h;cases h
      | cons c m ih=>
       intro h
       obtain⟨ci,cx⟩:=c
       rw [look_cons]
       split
       · simp
       rename_i e
       rcases List.mem_cons.1 h with rfl|h
       · exact absurd rfl e
       exact ih h
     exact this _ (by simpa using hu) hlk
    | some x'=>
     have e:=stL_res (L:=memN (B i)) outs 0 ⟨n,delS (outs.map (·.1)) sl,rs⟩ j z hz (by rw [Nat.zero_add];exact hj) hlk uniq
     rw [hx] at e
     cases e
     exact stL_res outs 0 _ j z hz (by rw [Nat.zero_add];exact hBL j (memN_iff.1 hj)) hlk uniq
  rw [stL_res_base outs 0 _ fun j z hz hj u hu e=>hex ⟨j,z,hz,by rw [Nat.zero_add] at hj;exact hj,u,hu,e⟩] at hx
  rw [stL_res_base outs 0 _ fun j z hz _ u hu e=>?_]
  · exact hx
  have:=(ids j z hz u hu).1
  exact (St.has_res this (e▸hx)).1 rfl
 have hfresh:∀ u∈y.2.2,(stL (fun j=>listed.getD j false) 0 outs ⟨n,sl,rs⟩).has u.1=false:=by
  intro u hu';refine has_stL outs 0 _ (ids i y hy u hu').1 fun j z hz hL=>?_
  rw [Nat.zero_add] at hL
  cases hh:Out.has z u.1 with
  | false=>rfl
  | true=>
   rcases (ids i y hy u hu').2 j z hz with rfl|⟨h1,_⟩
   · rw [hu] at hL;cases hL
   exfalso
   have hib:=h1 hh
   have hjN:j<N:=by rw [←hl];exact (List.getElem?_eq_some_iff.1 hz).1
   have hoj:l[j]?=some (l[j]'(by omega)):=List.getElem?_eq_getElem _
   have:=inB listed inv j _ hjN hoj (fun k hk=>by
    obtain⟨e,he,hb,rfl⟩:=mem_deps.1 hk
    exact inv.closed j _ (by simp) hL e he hb) i hib
   rw [hu] at this;cases this
 refine⟨hsup,hfresh,hBL,fun w0 a' w' hr'=>?_⟩
 have hget:∀ j,(listed.setIfInBounds i true).getD j false=if j=i then true else listed.getD j false:=by
  intro j
  by_cases e:j=i
  · subst e
    have:j<listed.size:=by rw [inv.size];simp;omega
    simp [this]
  rw [if_neg e];exact getD_set_ne false (fun h=>e h.symm)
 refine Rel.of_look hr' (by rw [stL_n,stL_n]) (fun t x hx=>?_) (fun t x hx=>?_)
 · show look ((y.1,y.2.1)::_) t=some x
   rw [look_cons]
   by_cases e:y.1=t
   · rw [if_pos e]
     have:=stL_slot (L:=fun j=>(listed.setIfInBounds i true).getD j false) outs 0 ⟨n,sl,rs⟩ i y hy (by rw [Nat.zero_add];rw [hget,if_pos rfl]) e rfl fun k z hk e'=>dsl i y hy k z hk (e'.trans e.symm)
     rw [this] at hx;exact hx
   rw [if_neg e]
   by_cases hex:∃ j z,outs[j]?=some z∧listed.getD j false=true∧z.1=t
   · obtain⟨j,z,hz,hj,rfl⟩:=hex
     have e1:=stL_slot (L:=fun j=>(listed.setIfInBounds i true).getD j false) outs 0 ⟨n,sl,rs⟩ j z hz (by rw [Nat.zero_add,hget];split;rfl;exact hj) rfl rfl fun k u hk e=>dsl j z hz k u hk e
     rw [e1] at hx
     cases hx
     exact stL_slot outs 0 _ j z hz (by rw [Nat.zero_add];exact hj) rfl rfl fun k u hk e=>dsl j z hz k u hk e
   rw [stL_slot_base outs 0 _ fun j z hz hj e'=>hex ⟨j,z,hz,by rw [Nat.zero_add] at hj;exact hj,e'⟩]
   rw [stL_slot_base outs 0 _ fun j z hz hj e'=>?_] at hx
   · exact hx
   rw [Nat.zero_add,hget] at hj
   split at hj
   · rename_i e2;subst e2;rw [hy] at hz;cases hz;exact e e'
   exact hex ⟨j,z,hz,hj,e'⟩
 show look (addsR y.2.2 _) t=some x
 rw [look_addsR]
 by_cases hyt:∃ u∈y.2.2,u.1=t
 · obtain⟨u,hu',rfl⟩:=hyt
   have uniq:∀ (k:Nat) (z':Out),outs[k]?=some z'→(∃ v∈z'.2.2,v.1=u.1)→k=i:=fun k z' hk ⟨v,hv,e⟩=>by
    rcases (ids i y hy u hu').2 k z' hk with h|⟨_,h⟩
    · exact h
    exact absurd e (h v hv)
   cases hlk:look y.2.2.reverse u.1 with
   | none=>
    simp only
    rw [stL_res_base outs 0 _ fun j z hz hj v hv e'=>?_] at hx ⊢
    · exact hx
    all_goals
     have:=uniq j z hz ⟨v,hv,e'⟩
     subst this
     rw [hy] at hz;cases hz
     have hne:∀ (m:List (Nat×R)),v∈m→look m v.1≠none:=by
      intro m
      induction m with
      | nil=>intro h;cases h
      | cons c m ih=>
       intro h
       obtain⟨ci,cx⟩:=c
       rw [look_cons]
       split
       · simp
       rename_i e
       rcases List.mem_cons.1 h with rfl|h
       · exact absurd rfl e
       exact ih h
     exact hne _ (by simpa using hv) (e'▸hlk)
   | some x'=>
    have:=stL_res (L:=fun j=>(listed.setIfInBounds i true).getD j false) outs 0 ⟨n,sl,rs⟩ i y hy (by rw [Nat.zero_add];rw [hget,if_pos rfl]) hlk uniq
    rw [this] at hx
    exact hx
 have hnone:look y.2.2.reverse t=none:=look_none_of fun v hv e=>hyt ⟨v,by simpa using hv,e⟩
 rw [hnone]
 simp only
 by_cases hex:∃ j z,outs[j]?=some z∧listed.getD j false=true∧∃ u∈z.2.2,u.1=t
 · obtain⟨j,z,hz,hj,u,hu',rfl⟩:=hex
   have uniq:∀ (k:Nat) (z':Out),outs[k]?=some z'→(∃ v∈z'.2.2,v.1=u.1)→k=j:=fun k z' hk ⟨v,hv,e⟩=>by
    rcases (ids j z hz u hu').2 k z' hk with h|⟨_,h⟩
    · exact h
    exact absurd e (h v hv)
   cases hlk:look z.2.2.reverse u.1 with
   | none=>
    exfalso
    have hne:∀ (m:List (Nat×R)),u∈m→look m u.1≠none:=by
     intro m
     induction m with
     | nil=>intro h;cases h
     | cons c m ih=>
      intro h
      obtain⟨ci,cx⟩:=c
      rw [look_cons]
      split
      · simp
      rename_i e
      rcases List.mem_cons.1 h with rfl|h
      · exact absurd rfl e
      exact ih h
    exact hne _ (by simpa using hu') hlk
   | some x'=>
    have e1:=stL_res (L:=fun j=>(listed.setIfInBounds i true).getD j false) outs 0 ⟨n,sl,rs⟩ j z hz (by rw [Nat.zero_add,hget];split;rfl;exact hj) hlk uniq
    rw [e1] at hx
    cases hx
    exact stL_res outs 0 _ j z hz (by rw [Nat.zero_add];exact hj) hlk uniq
 rw [stL_res_base outs 0 _ fun j z hz hj u hu' e'=>hex ⟨j,z,hz,by rw [Nat.zero_add] at hj;exact hj,u,hu',e'⟩]
 rw [stL_res_base outs 0 _ fun j z hz hj u hu' e'=>?_] at hx
 · exact hx
 rw [Nat.zero_add,hget] at hj
 split at hj
 · rename_i e2;subst e2;rw [hy] at hz;cases hz;exact hyt ⟨u,hu',e'⟩
 exact hex ⟨j,z,hz,hj,u,hu',e'⟩
theorem AW.draw {P:Program} {w0:Base} {Q:Exit→St→Prop} {n:Nat} {sl:List (Nat×(Bool×S))} {rs:List (Nat×R)} {id:Nat} {l:List Oper} (N:Nat) (B:Nat→List Nat) (outs:List Out) (hm:P.follows .mixedOrders=true) (hB:planC l.toArray N=true) (hO:ordB l B N=true) (hl:outs.length=N)
 (hsteps:Steps P l.toArray B outs ⟨n,delS (outs.map (·.1)) sl,rs⟩ 0 l outs) (hU:outB B ⟨n,sl,rs⟩ outs=true) (hfin:AWl P w0 l.toArray Q (l.drop N) (stL (fun _=>true) 0 outs ⟨n,sl,rs⟩)):AW P w0 (.region id l.toArray true) Q ⟨n,sl,rs⟩:=by
 intro a w hr;refine wp_region_any hm ?_
 have hlN:N≤l.length:=by
  have hB':=hB
  simp only [planC,Bool.and_eq_true,decide_eq_true_eq] at hB'
  simpa using hB'.1.1.1
 have H:=wpAny_inv (P:=P) (Q:=lift w0 Q) (J:=fun listed a w=>Rel w0 (stL (fun j=>listed.getD j false) 0 outs ⟨n,sl,rs⟩) a w) hB (fun i o hi ho listed a w inv hd hu hJ=>?_) (fun listed a w hall hJ=>?_)
  (unl N (Array.replicate l.toArray.size false)) (Array.replicate l.toArray.size false) a { w with drawn:=w.drawn+1 } rfl
  ⟨by simp,fun j oj _ hl=>(by rw [getD_replicate_false] at hl;cases hl),fun t _ ht=>getD_in (by simpa using ht) (getD_replicate_false _ _)⟩ ?_
 · have hu:unl N (Array.replicate l.toArray.size false)=N:=by
    unfold unl
    rw [List.countP_eq_length.2 (fun j _=>by rw [getD_replicate_false];rfl),List.length_range]
   rw [hu,show N+(l.toArray.size-N)=l.toArray.size by simp;omega] at H
   exact H
 · -- one step
   have ho':l[i]?=some o:=by simpa using ho
   obtain⟨y,hy⟩:∃ y,outs[i]?=some y:=⟨outs[i]'(by omega),List.getElem?_eq_getElem _⟩
   have hloc:=Steps.at l outs 0 hsteps i o y ho' hy
   rw [Nat.zero_add] at hloc
   obtain⟨s1,s2,_,s4⟩:=draw_step hB hO hl hU inv hi ho' hd hu hy
   intro K Q' hK;exact hloc _ s1 s2 w0 a w hJ K Q' fun a' w' hr'=>hK a' w' (s4 w0 a' w' hr')
 · -- the end
   have e:stL (fun j=>listed.getD j false) 0 outs ⟨n,sl,rs⟩=stL (fun _=>true) 0 outs ⟨n,sl,rs⟩:=by
    have key:∀ (os:List Out) (i:Nat) (σ:St),(∀ j,j<os.length→listed.getD (i+j) false=true)→stL (fun j=>listed.getD j false) i os σ=stL (fun _=>true) i os σ:=by
     intro os
     induction os with
     | nil=>intro i σ _;rfl
     | cons y os ih=>
      intro i σ h
      rw [stL,stL]
      have h0:=h 0 (by simp)
      rw [Nat.add_zero] at h0
      simp only [h0,cond_true]
      exact ih (i+1) _ fun j hj=>by rw [show i+1+j=i+(j+1) by omega];exact h (j+1) (by simp;omega)
    exact key outs 0 _ fun j hj=>by rw [Nat.zero_add];exact hall j (by omega)
   rw [e] at hJ
   exact hfin a w hJ
 have e:stL (fun j=>(Array.replicate l.toArray.size false).getD j false) 0 outs ⟨n,sl,rs⟩=⟨n,sl,rs⟩:=by
  have key:∀ (os:List Out) (i:Nat) (σ:St),stL (fun j=>(Array.replicate l.toArray.size false).getD j false) i os σ=σ:=by
   intro os
   induction os with
   | nil=>intro i σ;rfl
   | cons y os ih=>
    intro i σ
    rw [stL,getD_replicate_false]
    exact ih (i+1) σ
  exact key outs 0 _
 show Rel w0 (stL (fun j=>(Array.replicate l.toArray.size false).getD j false) 0 outs ⟨n,sl,rs⟩) a _
 rw [e]
 obtain⟨I,hI⟩:=hr
 exact⟨I,hI.later (Ext.refl w).drawn⟩
end Go.Q
namespace Go.Q
open Go.RowKit
section
variable {P:Program} {ops:Array Oper} {o:Oper} {σ σ':St} {q:Bool}
theorem Loc.of1 {d id:Nat} {r:R} {x:Bool×S} (hd:o.dst=some d) (h:∀ σ',Sup σ σ'→σ'.has id=false→Op1 P ops o σ' ((σ'.add id r).put o.dst x)):Loc P ops o σ (d,x,[(id,r)]):=fun σ' hs hf=>by
 have:=h σ' hs (hf (id,r) (by simp))
 rw [hd] at this
 exact this
theorem adds_addsR (l:List (Nat×R)) (σ:St):St.adds σ l=⟨σ.n,σ.slots,addsR l σ.res⟩:=adds_eq l σ.n σ.slots σ.res
theorem Loc.ofs {d:Nat} {rl:List (Nat×R)} {x:Bool×S} (hd:o.dst=some d) (h:∀ σ',Sup σ σ'→(∀ z∈rl,σ'.has z.1=false)→Op1 P ops o σ' ((σ'.adds rl).put o.dst x)):Loc P ops o σ (d,x,rl):=fun σ' hs hf=>by
 have:=h σ' hs hf
 rw [hd,adds_addsR] at this
 exact this
def nthB:List (List Nat)→Nat→List Nat
 | [],_=>[]
 | x::l,i=>bif Nat.beq i 0 then x else nthB l (i-1)
def stR (L:Nat→Bool):Nat→List Out→St→St
 | k,y::r,σ=>let σ':=stR L (k-1) r σ;bif L (k-1) then ⟨σ'.n,(y.1,y.2.1)::σ'.slots,addsR y.2.2 σ'.res⟩ else σ'
 | _,[],σ=>σ
theorem stL_append (L:Nat→Bool):∀ (l1 l2:List Out) (i:Nat) (σ:St),stL L i (l1++l2) σ=stL L (i+l1.length) l2 (stL L i l1 σ)
 | [],l2,i,σ=>by simp [stL]
 | y::r,l2,i,σ=>by
  rw [List.cons_append,stL,stL_append L r l2,stL]
  congr 1
  simp;omega
theorem stR_eq (L:Nat→Bool):∀ (r:List Out) (σ:St),stR L r.length r σ=stL L 0 r.reverse σ
 | [],σ=>rfl
 | y::r,σ=>by
  rw [stR,List.reverse_cons,stL_append,show (y::r).length-1=r.length by simp,stR_eq L r σ]
  simp only [List.length_reverse,Nat.zero_add,stL]
theorem stL_false (L:Nat→Bool):∀ (l:List Out) (i:Nat) (σ:St),(∀ j,i≤j→L j=false)→stL L i l σ=σ
 | [],_,_,_=>rfl
 | y::r,i,σ,h=>by
  rw [stL,h i (Nat.le_refl _)]
  exact stL_false L r (i+1) σ fun j hj=>h j (by omega)
def dstsN (l:List Oper) (N:Nat):List Nat:=(l.take N).filterMap (·.dst)
structure DrawC (P:Program) (w0:Base) (Q:Exit→St→Prop) (N:Nat) (B:Nat→List Nat) (l:List Oper) (n:Nat) (sl:List (Nat×(Bool×S))) (rs:List (Nat×R)) (acc:List Out) (k:Nat) (rest:List Oper):Prop where
 pf:acc.length=k→rest=l.drop k→∃ more:List Out,(acc.reverse++more).length=N∧dstsN rest (N-k)=more.map (·.1)∧
  Steps P l.toArray B (acc.reverse++more) ⟨n,delS (dstsN l N) sl,rs⟩ k rest more∧outB B ⟨n,sl,rs⟩ (acc.reverse++more)=true∧AWl P w0 l.toArray Q (l.drop N) (stL (fun _=>true) 0 (acc.reverse++more) ⟨n,sl,rs⟩)
variable {w0:Base} {Q:Exit→St→Prop} {N:Nat} {B:Nat→List Nat} {l:List Oper} {n:Nat} {sl:List (Nat×(Bool×S))} {rs:List (Nat×R)} {acc:List Out} {k:Nat} {rest:List Oper}
theorem B8 {id:Nat} (N:Nat) (B:Nat→List Nat) (hm:P.follows .mixedOrders=true) (hB:planC l.toArray N=true) (hO:ordB l B N=true) (h:DrawC P w0 Q N B l n sl rs [] 0 l):AW P w0 (.region id l.toArray true) Q ⟨n,sl,rs⟩:=by
 obtain⟨more,h1,h2,h3,h4,h5⟩:=h.pf rfl rfl
 simp only [List.reverse_nil,List.nil_append,Nat.sub_zero] at h1 h2 h3 h4 h5
 rw [h2] at h3
 exact AW.draw N B more hm hB hO h1 h3 h4 h5
theorem Dv {y:Out} (hN:Nat.blt k N=true) (hlt:((B k).all fun j=>Nat.blt j k)=true) (ho:o.dst=some y.1) (hl:Loc P l.toArray o (stR (memN (B k)) k acc ⟨n,delS (dstsN l N) sl,rs⟩) y) (h:DrawC P w0 Q N B l n sl rs (y::acc) (k+1) rest):DrawC P w0 Q N B l n sl rs acc k (o::rest):=⟨fun ha hr=>by
 have hd:rest=l.drop (k+1):=by
  have:=congrArg (List.drop 1) hr
  simpa using this
 obtain⟨more,h1,h2,h3,h4,h5⟩:=h.pf (by simp [ha]) hd
 have e:(y::acc).reverse++more=acc.reverse++(y::more):=by simp
 rw [e] at h1 h3 h4 h5
 have hN':k<N:=Nat.le_of_ble_eq_true hN
 refine⟨y::more,h1,?_,⟨?_,h3⟩,h4,h5⟩
 · rw [show N-k=(N-(k+1))+1 by omega]
   simp only [dstsN,List.take_succ_cons,List.filterMap_cons,ho,List.map_cons] at h2 ⊢
   rw [h2]
 have:stL (memN (B k)) 0 (acc.reverse++(y::more)) ⟨n,delS (dstsN l N) sl,rs⟩=stR (memN (B k)) k acc ⟨n,delS (dstsN l N) sl,rs⟩:=by
  rw [stL_append,←ha,stR_eq,stL_false]
  intro j hj
  rw [List.length_reverse,Nat.zero_add,ha] at hj
  cases hm:memN (B acc.length) j with
  | false=>rfl
  | true=>
   have h1:=List.all_eq_true.1 hlt j (by rw [←ha];exact memN_iff.1 hm)
   have h2:j<k:=Nat.le_of_ble_eq_true h1
   omega
 rw [this]
 exact hl⟩
theorem DrawC.s {d:Nat} {x:Bool×S} (hl:∀ σ',Sup (stR (memN (B k)) k acc ⟨n,delS (dstsN l N) sl,rs⟩) σ'→Op1 P l.toArray o σ' (σ'.put o.dst x)) (h:DrawC P w0 Q N B l n sl rs ((d,x,[])::acc) (k+1) rest) (hN:Nat.blt k N=true:=by exact rfl) (hlt:((B k).all fun j=>Nat.blt j k)=true:=by exact rfl) (hd:o.dst=some d:=by exact rfl):DrawC P w0 Q N B l n sl rs acc k (o::rest):=Dv hN hlt hd (Loc.of hd hl) h
def finSl:List Out→List (Nat×(Bool×S))→List (Nat×(Bool×S))
 | [],sl=>sl
 | y::r,sl=>(y.1,y.2.1)::finSl r sl
def finRs:List Out→List (Nat×R)→List (Nat×R)
 | [],rs=>rs
 | y::r,rs=>addsR y.2.2 (finRs r rs)
theorem Aw {d i:Nat} {x:A}  (h:DrawC P w0 Q N B l n sl rs ((d,(true,.a (x)),[])::acc) (k+1) rest) (ho:o.op=.move (.tmp i):=by exact rfl) (hx:look (stR (memN (B k)) k acc ⟨n,delS (dstsN l N) sl,rs⟩).slots i=some (true,.a x):=by exact rfl) (hg:o.guard=none:=by exact rfl) (hN:Nat.blt k N=true:=by exact rfl) (hlt:((B k).all fun j=>Nat.blt j k)=true:=by exact rfl) (hd:o.dst=some d:=by exact rfl) (hdn:o.dst.all (fun d=>Nat.blt d (stR (memN (B k)) k acc ⟨n,delS (dstsN l N) sl,rs⟩).n)=true:=by exact rfl):DrawC P w0 Q N B l n sl rs acc k (o::rest):=Dv hN hlt hd (Loc.of hd fun σ' hs=>Bh ho (.no hg) (Ah hs hdn) (.tm (hs.slots _ _ hx))) h
theorem Bj {d i:Nat} {t:TypeId} {cs:List T} {ag:Bool} {m:Nat} (ht:tyB P t ag m=true) (h:DrawC P w0 Q N B l n sl rs ((d,(true,.a (mkA ag ((cs.take m).map .t))),[])::acc) (k+1) rest) (ho:o.op=.load t (.tmp i):=by exact rfl) (hx:look (stR (memN (B k)) k acc ⟨n,delS (dstsN l N) sl,rs⟩).slots i=some (true,.a (.one (.t (.ad cs)))):=by exact rfl) (hn:Nat.ble m cs.length=true:=by exact rfl) (h1:(ag||Nat.beq m 1)=true:=by exact rfl) (hg:o.guard=none:=by exact rfl) (hN:Nat.blt k N=true:=by exact rfl) (hlt:((B k).all fun j=>Nat.blt j k)=true:=by exact rfl) (hd:o.dst=some d:=by exact rfl) (hdn:o.dst.all (fun d=>Nat.blt d (stR (memN (B k)) k acc ⟨n,delS (dstsN l N) sl,rs⟩).n)=true:=by exact rfl):DrawC P w0 Q N B l n sl rs acc k (o::rest):=Dv hN hlt hd (Loc.of hd fun σ' hs=>Ca ho (.no hg) (Ah hs hdn) (.tm (hs.slots _ _ hx)) ht hn h1) h
theorem B9 {d i:Nat} {t:TypeId} {j off:Nat} {cs:List T} (hf:fldB P t j off=true) (h:DrawC P w0 Q N B l n sl rs ((d,(true,.a (.one (.t (.ad (cs.drop off))))),[])::acc) (k+1) rest) (ho:o.op=.fieldAddr t (.tmp i) j:=by exact rfl) (hx:look (stR (memN (B k)) k acc ⟨n,delS (dstsN l N) sl,rs⟩).slots i=some (true,.a (.one (.t (.ad cs)))):=by exact rfl) (hg:o.guard=none:=by exact rfl) (hN:Nat.blt k N=true:=by exact rfl) (hlt:((B k).all fun j=>Nat.blt j k)=true:=by exact rfl) (hd:o.dst=some d:=by exact rfl) (hdn:o.dst.all (fun d=>Nat.blt d (stR (memN (B k)) k acc ⟨n,delS (dstsN l N) sl,rs⟩).n)=true:=by exact rfl):DrawC P w0 Q N B l n sl rs acc k (o::rest):=Dv hN hlt hd (Loc.of hd fun σ' hs=>Cj ho (.no hg) (Ah hs hdn) (.tm (hs.slots _ _ hx)) hf) h
theorem fin_eq:∀ (acc:List Out) (k:Nat),stR (fun _=>true) k acc ⟨n,sl,rs⟩=⟨n,finSl acc sl,finRs acc rs⟩
 | [],k=>by cases k<;>rfl
 | y::r,k=>by rw [stR,fin_eq r];rfl
theorem DrawC.fin (hk:Nat.beq k N=true) (hU:outB B ⟨n,sl,rs⟩ acc.reverse=true) (h:AWl P w0 l.toArray Q rest ⟨n,finSl acc sl,finRs acc rs⟩):DrawC P w0 Q N B l n sl rs acc k rest:=⟨fun ha hr=>by
 have hk':=Nat.eq_of_beq_eq_true hk
 subst hk'
 refine⟨[],by simp [ha],by simp [dstsN],by unfold Steps;split<;>first|trivial|(rename_i h;cases h),by rw [List.append_nil];exact hU,?_⟩
 rw [List.append_nil,←stR_eq,fin_eq,←hr]
 exact h⟩
end
end Go.Q
namespace Go.Q
open Go.RowKit
section
variable {P:Program} {ops:Array Oper} {o:Oper} {σ:St} {q:Bool}
theorem guard_bool {op:BinOp} {t:TypeId} {x y:Operand} {n m:Bool} (w:World):(eqGuard op t x y (.bool n) (.bool m)).run P w=.ok () w:=by
 unfold eqGuard;split<;>rfl
theorem R_neb {t t':TypeId} {x y:Operand} {n m:Bool} (ho:o.op=.binOp .neq t x y t') (hg:Grd ops o σ q) (hd:o.dst.all (fun d=>Nat.blt d σ.n)=true) (hx:Get σ q x (.one (.t (.v (.bool n))))) (hy:Get σ q y (.one (.t (.v (.bool m))))) (hu:P.underlying t=some .bool) :
 Op1 P ops o σ (σ.put o.dst (q,.a (.one (.t (.v (.bool (!(n == m)))))))):=Dq ho hg hd hx hy guard_bool (h:=fun _ w=>by simp [binOp,run_equal_bool w t n m hu])
def plain:List E→Option (List Value)
 | []=>some []
 | e::r=>match e with
  | .t (.v x)=>(match plain r with|some l=>some (x::l)|none=>none)
  | _=>none
theorem Ct {x:Operand} {cs:List T} (ho:o.op=.nilCheck x) (hg:Grd ops o σ q) (hd:o.dst.all (fun d=>Nat.blt d σ.n)=true) (hx:Get σ q x (.one (.t (.ad cs)))):Op1 P ops o σ (σ.put o.dst (q,.a (.one (.t (.ad cs))))):=
 .val hg hd fun I w0 a w hr hq=>by
  have hv:=hx.va hr hq
  obtain⟨F,h1,h2⟩:=hv
  have h1':=h1
  simp only [C] at h1'
  obtain⟨b,off,G,e,_⟩:=h1'
  exact⟨_,by simp [execOp,ho,e],F,e▸h1,h2⟩
theorem Cv {x:Operand} {id p:Nat} (ho:o.op=.nilCheck x) (hg:Grd ops o σ q) (hd:o.dst.all (fun d=>Nat.blt d σ.n)=true) (hx:Get σ q x (.one (.pp id p))):Op1 P ops o σ (σ.put o.dst (q,.a (.one (.pp id p)))):=
 .val hg hd fun I w0 a w hr hq=>by
  have hv:a.eval x=.pointer (some ⟨I.B id,p,none⟩):=hx.va hr hq
  exact⟨_,by simp [execOp,ho,hv],rfl⟩
theorem R_max {x y:Operand} {tys:Array TypeId} {n m:Int} (ho:o.op=.call { callee:=.builtin .max,args:=#[x,y],argTypes:=tys }) (hg:Grd ops o σ q) (hd:o.dst.all (fun d=>Nat.blt d σ.n)=true)
 (hx:Get σ q x (.one (.t (.v (.int .i64 n))))) (hy:Get σ q y (.one (.t (.v (.int .i64 m))))):Op1 P ops o σ (σ.put o.dst (q,.a (.one (.t (.v (.int .i64 (max n m))))))):=
 .val hg hd fun I w0 a w hr hq=>⟨.int .i64 (max n m),by
  have e:(if m>n then m else n)=max n m:=by split<;>omega
  simp [execOp,ho,resolve,invoke,builtin,hx.int hr hq,hy.int hr hq,Builtin.max_,Builtin.max2,e],VS_v _⟩
theorem R_min {x y:Operand} {tys:Array TypeId} {n m:Int} (ho:o.op=.call { callee:=.builtin .min,args:=#[x,y],argTypes:=tys }) (hg:Grd ops o σ q) (hd:o.dst.all (fun d=>Nat.blt d σ.n)=true)
 (hx:Get σ q x (.one (.t (.v (.int .i64 n))))) (hy:Get σ q y (.one (.t (.v (.int .i64 m))))):Op1 P ops o σ (σ.put o.dst (q,.a (.one (.t (.v (.int .i64 (min n m))))))):=
 .val hg hd fun I w0 a w hr hq=>⟨.int .i64 (min n m),by
  have e:(if m<n then m else n)=min n m:=by split<;>omega
  simp [execOp,ho,resolve,invoke,builtin,hx.int hr hq,hy.int hr hq,Builtin.min_,Builtin.min2,e],VS_v _⟩
def GetsT (σ:St) (q:Bool):List Operand→List T→Prop
 | [],ts=>ts=[]
 | x::r,ts=>∃ t tr,ts=t::tr∧Get σ q x (.one (.t t))∧GetsT σ q r tr
theorem GetsT.ok {I:Ip} {w0:Base} {w:World} {a:Act} (hr:RelI I w0 σ a w):∀ {l:List Operand} {ts:List T},GetsT σ true l ts→∃ G,Cs false w ts (l.map a.eval) G∧∀ b∈G,I.Z b
 | [],ts,h=>by cases h;exact⟨[],by simp [Cs],by simp⟩
 | x::r,ts,⟨t,tr,e,h1,h2⟩=>by
  subst e
  obtain⟨G1,g1,g2⟩:=h1.va hr rfl
  obtain⟨G2,g3,g4⟩:=GetsT.ok hr h2
  refine⟨G1++G2,by simp only [List.map_cons,Cs];exact⟨_,_,G1,G2,rfl,g1,g3,rfl⟩,fun b hb=>?_⟩
  rcases List.mem_append.1 hb with hb|hb
  · exact g2 b hb
  exact g4 b hb
theorem GetsT.nil:GetsT σ q [] []:=rfl
theorem GetsT.cons {x:Operand} {r:List Operand} {t:T} {tr:List T} (h:Get σ q x (.one (.t t))) (hr:GetsT σ q r tr):GetsT σ q (x::r) (t::tr):=⟨t,tr,rfl,h,hr⟩
theorem R_makeFunc {f:FuncId} {l:List Operand} {ts:List T} (ho:o.op=.makeFunc (.func f) #[] l.toArray) (hg:Grd ops o σ q) (hd:o.dst.all (fun d=>Nat.blt d σ.n)=true) (hx:GetsT σ true l ts):Op1 P ops o σ (σ.put o.dst (q,.a (.one (.t (.fn (.func f) [] ts))))):=
 .val hg hd fun I w0 a w hr hq=>by
  obtain⟨G,h1,h2⟩:=hx.ok hr
  refine⟨.func (.func f) #[] (l.map a.eval).toArray,by simp [execOp,ho,Instr.makeFunc],G,?_,h2⟩
  simp only [C]
  exact⟨[],l.map a.eval,[],G,rfl,by simp [Cs],h1,rfl⟩
theorem V0s_append {o:Bool} {w:World}:∀ {l m:List V0} {vs us:List Value} {F G:List Nat},V0s o w l vs F→V0s o w m us G→V0s o w (l++m) (vs++us) (F++G)
 | [],m,vs,us,F,G,h1,h2=>by obtain⟨rfl,rfl⟩:=h1;exact h2
 | x::l,m,vs,us,F,G,⟨v,vr,G1,G2,e1,h1,h3,e2⟩,h2=>⟨v,vr++us,G1,G2++G,by rw [e1];rfl,h1,V0s_append h3 h2,by rw [e2];simp⟩
theorem V0s_of_Cs {o:Bool} {w:World}:∀ {ts:List T} {cs:List Value} {F:List Nat},Cs o w ts cs F→V0s o w (ts.map .one) cs F
 | [],cs,F,h=>by simp only [Cs] at h;exact h
 | t::r,cs,F,h=>by
  simp only [Cs] at h
  obtain⟨c,cr,G1,G2,h1,h2,h3,h4⟩:=h
  exact⟨c,cr,G1,G2,h1,h2,V0s_of_Cs h3,h4⟩
theorem R_callv {f:FuncId} {c:Operand} {l:List Operand} {tys:Array TypeId} {ins:List V0} {caps:List T} {out:V} (ho:o.op=.call { callee:=.value c,args:=l.toArray,argTypes:=tys }) (hg:Grd ops o σ q) (hd:o.dst.all (fun d=>Nat.blt d σ.n)=true)
 (hc:Get σ q c (.one (.t (.fn (.func f) [] caps)))) (ha:Args σ q l ins) (h:FrT P f (ins++caps.map .one) out):Op1 P ops o σ (σ.put o.dst (q,inS out)):=by
 rintro w0 a w ⟨I,hr⟩ K Q hK
 rw [hg.wanted hr]
 cases q with
 | false=>exact hK _ _ ⟨I,hr.put hd rfl⟩
 | true=>
  simp only [if_true]
  obtain⟨F,hF⟩:=ha.ok hr rfl
  obtain⟨Gc,hv,_⟩:=hc.va hr rfl
  simp only [C] at hv
  obtain⟨xs,ys,G1,G2,e,h1,h2,rfl⟩:=hv
  simp only [Cs] at h1
  obtain⟨rfl,rfl⟩:=h1
  have hrun:(execOp a.eval o).run P w=.ok (.enter f (l.map a.eval++ys).toArray) w:=by
   obtain⟨fn,k1,k2,k3⟩:=h.1
   have k2':¬ fn.name= "runtime.NumGoroutine":=by simpa using k2
   have k3':¬ fn.body=none:=by intro e;rw [e] at k3;cases k3
   simp [execOp,ho,resolve,e,Deferred.ofValue,invoke,callFunc,k1,k2',k3']
  unfold Oper.wp
  rw [hrun]
  refine (h.2 w _ _ hr.good (V0s_append hF (V0s_of_Cs h2))).mono fun e w' hR=>?_
  obtain⟨v,G,rfl,h1,h3,h4⟩:=hR
  have hr':=(hr.later h4).also (G:=G) fun b hb=>⟨Vr.lt h1 b hb,fun i hi=>by have:=(hr.lt i b hi).1;have:=h3 b hb;omega⟩
  exact hK _ _ ⟨_,hr'.put hd (VS_also h1 fun b hb=>.inr hb)⟩
theorem Rws.drop {oo:Bool} {w:World} {b k:Nat}:∀ {rs:List (List T)} {off:Nat} {F:List Nat},Rws oo w b k off rs F→∀ j,j≤rs.length→∃ G,Rws oo w b k (off+j*k) (rs.drop j) G∧∀ x∈G,x∈F
 | rs,off,F,h,0,_=>⟨F,by simpa using h,fun x hx=>hx⟩
 | [],off,F,h,j+1,hj=>by simp at hj
 | r::rs,off,F,h,j+1,hj=>by
  simp only [Rws] at h
  obtain⟨G1,G2,h1,h2,h3,rfl⟩:=h
  obtain⟨G,g1,g2⟩:=Rws.drop h3 j (by simpa using hj)
  refine⟨G,?_,fun x hx=>by simp [g2 x hx]⟩
  rw [show off+(j+1)*k=off+k+j*k by rw [Nat.succ_mul];omega]
  exact g1
theorem Rws.take {oo:Bool} {w:World} {b k:Nat}:∀ {rs:List (List T)} {off:Nat} {F:List Nat},Rws oo w b k off rs F→∀ j,∃ G,Rws oo w b k off (rs.take j) G∧∀ x∈G,x∈F
 | rs,off,F,h,0=>⟨[],by simp [Rws],by simp⟩
 | [],off,F,h,j+1=>⟨F,by simpa using h,fun x hx=>hx⟩
 | r::rs,off,F,h,j+1=>by
  simp only [Rws] at h
  obtain⟨G1,G2,h1,h2,h3,rfl⟩:=h
  obtain⟨G,g1,g2⟩:=Rws.take h3 j
  refine⟨G1++G,?_,fun x hx=>?_⟩
  · rw [List.take_succ_cons]
    simp only [Rws]
    exact⟨G1,G,h1,h2,g1,rfl⟩
  rcases List.mem_append.1 hx with hx|hx
  · simp [hx]
  simp [g2 x hx]
inductive Bnd (σ:St) (q:Bool):Option Operand→Nat→Nat→Prop where
 | no {d:Nat}:Bnd σ q none d d
 | yes {x:Operand} {d m:Nat} {n:Int} (h:Get σ q x (.one (.t (.v (.int .i64 n))))) (hn:q=true→n=(m:Int)):Bnd σ q (some x) d m
theorem slice_C {w:World} {t e:TypeId} {k:Nat} {ag:Bool} {rows:List (List T)} {v:Value} {F:List Nat} {lo hi:Option Value} {n m:Nat} (hu:P.underlying t=some (.slice e)) (hk:tyB P e ag k=true) (hC:C false w (.sl k rows) v F)
 (hlo:lo=none∧n=0∨lo=some (.int .i64 (n:Int))) (hhi:hi=none∧m=rows.length∨hi=some (.int .i64 (m:Int))) (hm:m≤rows.length) (hn:n≤m) :
 ∃ v' F',(Instr.sliceAt t v lo hi none).run P w=.ok v' w∧C false w (.sl k ((rows.take m).drop n)) v' F'∧∀ x∈F',x∈F:=by
 simp only [C] at hC
 obtain⟨a,len,cap,rfl,h2,h3,h4,h5⟩:=hC
 have hrun:(Instr.sliceAt t (.slice a len cap) lo hi none).run P w=.ok (.slice (if cap=n then a else a.map (·.add (n*k))) (m-n) (cap-n)) w:=by
  have b1:m≤cap:=by omega
  have b2:n≤len:=by omega
  have b4:rows.length≤cap:=by omega
  rcases hlo with ⟨rfl,rfl⟩|rfl<;>rcases hhi with ⟨rfl,rfl⟩|rfl<;>simp [Instr.sliceAt,Instr.slice,run_underlying hu,Instr.sliceBounds,Instr.sliceBound,asIntOf,tyB_size hk,b1,b2,b4,hn,h2]
 rcases h5 with ⟨h6,rfl,_⟩|⟨b,off,G,rfl,rfl,h7,_,h8⟩
 · refine⟨_,[],hrun,?_,by simp⟩
   unfold C
   refine⟨_,_,_,rfl,by simp;omega,by omega,by omega,.inl ⟨by omega,rfl,by simp⟩⟩
 by_cases hmn:m=n
 · refine⟨_,[],hrun,?_,by simp⟩
   unfold C
   refine⟨_,_,_,rfl,by simp;omega,by omega,by omega,.inl ⟨by omega,rfl,by simp⟩⟩
 obtain⟨G1,g1,g2⟩:=h8.take m
 obtain⟨G2,g3,g4⟩:=g1.drop n (by simp;omega)
 refine⟨_,b::G2,hrun,?_,fun x hx=>?_⟩
 · unfold C
   refine⟨_,_,_,rfl,by simp;omega,by omega,by omega,.inr ⟨b,off+n*k,G2,?_,rfl,h7,by simp,g3⟩⟩
   rw [if_neg (by omega)]
   simp [Addr.add_lit]
 rcases List.mem_cons.1 hx with rfl|hx
 · simp
 simp [g2 x (g4 x hx)]
theorem Bnd.val {x:Option Operand} {d n:Nat} (h:Bnd σ q x d n) {I:Ip} {w0:Base} {w:World} {a:Act} (hr:RelI I w0 σ a w) (hq:q=true):x.map a.eval=none∧n=d∨x.map a.eval=some (.int .i64 (n:Int)):=by
 cases h with
 | no=>exact .inl ⟨rfl,rfl⟩
 | yes h hn=>exact .inr (by simp [h.int hr hq,hn hq])
theorem Cf {t e:TypeId} {x:Operand} {lo hi:Option Operand} {k n m:Nat} {ag:Bool} {rows:List (List T)} (ho:o.op=.slice t x lo hi none) (hg:Grd ops o σ q) (hd:o.dst.all (fun d=>Nat.blt d σ.n)=true) (hx:Get σ q x (.one (.t (.sl k rows))))
 (hl:Bnd σ q lo 0 n) (hh:Bnd σ q hi rows.length m) (hu:P.underlying t=some (.slice e)) (hk:tyB P e ag k=true) (hb:q=true→n≤m∧m≤rows.length):Op1 P ops o σ (σ.put o.dst (q,.a (.one (.t (.sl k ((rows.take m).drop n)))))):=
 .val hg hd fun I w0 a w hr hq=>by
  obtain⟨F,h1,h2⟩:=hx.va hr hq
  obtain⟨v',F',g1,g2,g3⟩:=slice_C hu hk h1 (hl.val hr hq) (hh.val hr hq) (hb hq).2 (hb hq).1
  exact⟨v',by simp [execOp,ho,g1],F',g2,fun b hb=>h2 b (g3 b hb)⟩
end
end Go.Q
namespace Go.Q
open Go.RowKit
section
variable {P:Program} {ops:Array Oper} {o:Oper} {σ:St} {q:Bool}
theorem made_flat (zs:List Value) (hk:0<zs.length∨True):∀ n:Nat,(List.range (n*zs.length)).map (fun j=>zs.toArray[j%zs.toArray.size]!)=(List.replicate n zs).flatten
 | 0=>by simp
 | n+1=>by
  rw [Nat.succ_mul,List.range_add,List.map_append,made_flat zs hk n,List.replicate_succ',List.flatten_append]
  congr 1
  rw [List.map_map]
  apply List.ext_getElem
  · simp
  intro j h1 h2
  simp only [List.length_map,List.length_range] at h1
  simp [Nat.mod_eq_of_lt h1,h1]
theorem Cs_vals {o:Bool} {w:World}:∀ {zs:List Value},zs.all Value.oneCell'=true→Cs o w (zs.map .v) zs []
 | [],_=>by unfold Cs;exact⟨rfl,rfl⟩
 | z::zs,h=>by
  simp only [List.all_cons,Bool.and_eq_true] at h
  simp only [List.map_cons]
  unfold Cs
  exact⟨z,zs,[],[],rfl,by unfold C;exact⟨rfl,rfl,h.1⟩,Cs_vals h.2,rfl⟩
theorem flatten_replicate_map (zs:List Value):∀ n:Nat,(List.replicate n (zs.map T.v)).flatten=((List.replicate n zs).flatten).map T.v
 | 0=>rfl
 | n+1=>by rw [List.replicate_succ,List.flatten_cons,flatten_replicate_map zs n,List.replicate_succ,List.flatten_cons,List.map_append]
theorem R_makeSlice {t e:TypeId} {x:Operand} {k bytes:Nat} {n:Int} {z:Value} {zs:List Value} (id:Nat) (ho:o.op=.makeSlice t x x) (hg:o.guard=none) (hd:o.dst.all (fun d=>Nat.blt d σ.n)=true) (hx:Get σ true x (.one (.t (.v (.int .i64 n)))))
 (hu:P.underlying t=some (.slice e)) (hi:(P.info? e).map (fun i=>(i.zero,i.size,i.bytes))=some (some z,k,bytes)) (hz:z.cells=zs.toArray) (hk:Nat.beq zs.length k=true) (h1:zs.all Value.oneCell'=true) (hf:σ.has id=false)
 (hb:0≤n∧(bytes:Int)*n≤281474976710656∧n≤9223372036854775807):Op1 P ops o σ ((σ.add id (.row k (List.replicate n.toNat (zs.map .v)))).put o.dst (true,.a (.one (.rf id)))):=
 .eff hg fun w0 a w ⟨I,hr⟩=>by
  obtain⟨i,hi1,hi2,hi3,hi4⟩:=info_parts hi
  have hk':=Nat.eq_of_beq_eq_true hk
  have hrun:=run_make (P:=P) w t e i z hu hi1 hi2 .i64 .i64 n n hb.1 (Int.le_refl _) (by rw [hi4];exact hb.2.1) hb.2.2
  have hcells:madeCells z.cells (n.toNat*i.size)=((List.replicate n.toNat zs).flatten).toArray:=by
   unfold madeCells
   rw [hz,hi3,←hk',←made_flat zs (.inr trivial)]
   apply Array.ext'
   simp
  rw [hcells] at hrun
  have hone:((List.replicate n.toNat zs).flatten).all Value.oneCell'=true:=by
   rw [List.all_eq_true] at h1 ⊢
   intro v hv
   simp only [List.mem_flatten,List.mem_replicate] at hv
   obtain⟨l,⟨_,rfl⟩,hv⟩:=hv
   exact h1 v hv
  have hgn:=heap_alloc_new w (.cells ((List.replicate n.toNat zs).flatten).toArray e)
  have hsize:((List.replicate n.toNat zs).flatten).length=n.toNat*k:=by simp [hk']
  have hR:C true (w.alloc (.cells ((List.replicate n.toNat zs).flatten).toArray e)) (.sl k (List.replicate n.toNat (zs.map .v))) (.slice (some ⟨w.heap.size,0,none⟩) n.toNat n.toNat) [w.heap.size]∨n.toNat=0∧True:=by
   by_cases hn:n.toNat=0
   · exact .inr ⟨hn,trivial⟩
   refine .inl ?_
   unfold C
   refine⟨_,_,_,rfl,by simp,Nat.le_refl _,by simp [maxLen];omega,.inr ⟨w.heap.size,0,[],rfl,rfl,by simp,fun _=>⟨rfl,_,e,hgn,by simp [hk']⟩,?_⟩⟩
   refine Rws.of (xs:=(List.replicate n.toNat zs).flatten) (fun row hm=>?_) ?_ fun j u hj=>?_
   · rw [List.mem_replicate] at hm;rw [hm.2];simpa using hk'
   · rw [flatten_replicate_map];exact Cs_vals hone
   simp only [World.cell?,hgn];simpa using hj
  have hx':Ext w (w.alloc (.cells ((List.replicate n.toNat zs).flatten).toArray e)):=(Ext.refl w).alloc _
  have hrun':(execOp a.eval o).run P w=.ok (.value (.slice (some ⟨w.heap.size,0,none⟩) n.toNat n.toNat)) (w.alloc (.cells ((List.replicate n.toNat zs).flatten).toArray e)):=by
   simp [execOp,ho,hx.int hr rfl,hrun]
  rcases hR with hR|⟨hn,_⟩
  · have hr':=hr.add (id:=id) (G:=[w.heap.size]) (u:=.slice (some ⟨w.heap.size,0,none⟩) n.toNat n.toNat) (b:=0) (r:=.row k (List.replicate n.toNat (zs.map .v))) hf hx' ⟨by simp,fun b hb=>by
     simp only [List.mem_singleton] at hb
     subst hb
     exact⟨Nat.le_refl _,by simp,thaw_new⟩⟩ (by show C true _ _ _ _;simpa only [Ip.set,if_true] using hR)
    exact⟨_,_,hrun',_,hr'.put hd ⟨by simp [Ip.set],_,_,_,rfl⟩⟩
  have hr':=(hr.later hx').addF (id:=id) (G:=[]) (u:=.slice (some ⟨w.heap.size,0,none⟩) n.toNat n.toNat) (b:=0) (r:=.row k (List.replicate n.toNat (zs.map .v))) hf List.nodup_nil (by simp) (by
   show C true _ _ _ _
   simp only [Ip.set,if_true]
   unfold C
   exact⟨_,_,_,rfl,by simp,Nat.le_refl _,by rw [hn];exact Nat.zero_le _,.inl ⟨hn,rfl,fun _=>hn⟩⟩)
  exact⟨_,_,hrun',_,hr'.put hd ⟨by simp [Ip.set],_,_,_,rfl⟩⟩
def numbered:Nat→List Operand→List (Nat×Operand)
 | _,[]=>[]
 | i,x::r=>(i,x)::numbered (i+1) r
inductive Elems (σ:St) (k:Nat):List Operand→List (List E)→Prop where
 | nil:Elems σ k [] []
 | cons {x:Operand} {A0:A} {r:List Operand} {r':List (List E)} (hx:Get σ true x A0) (he:(cellsA A0).all E.cell1=true) (hn:Nat.beq (cellsA A0).length k=true) (h:Elems σ k r r'):Elems σ k (x::r) (cellsA A0::r')
theorem Elems.ok {k:Nat} {I:Ip} {w0:Base} {w:World} {a:Act} (hr:RelI I w0 σ a w):∀ {xs:List Operand} {es:List (List E)} (i:Nat) (pre rest:List Value),Elems σ k xs es→pre.length=i*k→rest.length=xs.length*k→
 ∃ cs,Instr.fill (fun i=>some (i*k,k)) (pre++rest).toArray ((numbered i xs).map fun y=>(y.1,a.eval y.2))=some (pre++cs).toArray∧VEs I w es.flatten cs∧(∀ c∈cs,c.oneCell'=true)∧cs.length=xs.length*k∧es.length=xs.length∧∀ e∈es,e.length=k
 | [],es,i,pre,rest,h,hp,hl=>by
  cases h
  have:rest=[]:=List.eq_nil_of_length_eq_zero (by simpa using hl)
  subst this
  exact⟨[],by simp [numbered,Instr.fill],rfl,by simp,by simp,rfl,by simp⟩
 | x::xs,es,i,pre,rest,h,hp,hl=>by
  cases h with
  | cons hx he hn h=>
   rename_i A0 r'
   obtain⟨ds,h1,h2,h3⟩:=(hx.va hr rfl).cells he
   have hn':=Nat.eq_of_beq_eq_true hn
   have e1:=VEs_len h2
   have hl':rest.length=xs.length*k+k:=by rw [hl,List.length_cons,Nat.succ_mul]
   obtain⟨cs,g1,g2,g3,g4,g5,g6⟩:=Elems.ok hr (i+1) (pre++ds) (rest.drop k) h (by rw [List.length_append,hp,Nat.succ_mul];omega) (by rw [List.length_drop];omega)
   refine⟨ds++cs,?_,?_,fun c hc=>?_,?_,by simp [g5],fun e hm=>?_⟩
   · simp only [numbered,List.map_cons,Instr.fill,h1]
     have hdk:ds.length=k:=e1.trans hn'
     rw [if_neg (by simp;omega)]
     have hfo:=foldl_set (i*k) ds (pre++rest) (by simp;omega)
     have e2:(pre++rest).take (i*k)++ds++(pre++rest).drop (i*k+ds.length)=pre++ds++rest.drop k:=by
      rw [←hp,List.take_left' rfl,←List.drop_drop,List.drop_left' rfl,hdk]
     rw [e2] at hfo
     rw [←List.append_assoc,←g1,←hfo]
     congr 1
     simp
   · rw [List.flatten_cons];exact VEs_append h2 g2
   · rcases List.mem_append.1 hc with hc|hc
     · exact h3 c hc
     exact g3 c hc
   · rw [List.length_append,g4,List.length_cons,Nat.succ_mul];omega
   rcases List.mem_cons.1 hm with rfl|hm
   · exact hn'
   exact g6 e hm
theorem run_buildSlice {t e:TypeId} {k bytes:Nat} {z:Value} {xs:List Operand} {es:List (List E)} {I:Ip} {w0:Base} {w:World} {a:Act} (hr:RelI I w0 σ a w) (ho:o.op=.buildSlice t xs.length (numbered 0 xs).toArray) (hel:Elems σ k xs es)
 (hu:P.underlying t=some (.slice e)) (hi:(P.info? e).map (fun i=>(i.zero,i.size,i.bytes))=some (some z,k,bytes)) (hb:Nat.ble (xs.length*k) 16777216=true) :
 ∃ cs,(execOp a.eval o).run P w=.ok (.value (.slice (some ⟨w.heap.size,0,none⟩) xs.length xs.length)) (w.alloc (.cells cs.toArray e))∧VEs I w es.flatten cs∧(∀ c∈cs,c.oneCell'=true)∧cs.length=xs.length*k∧es.length=xs.length∧∀ e∈es,e.length=k:=by
 obtain⟨i,hi1,hi2,hi3,hi4⟩:=info_parts hi
 have hb':=Nat.le_of_ble_eq_true hb
 obtain⟨cs,g1,g2⟩:=Elems.ok hr 0 [] ((Array.range (xs.length*k)).map ((if xs.length*k=0 then #[] else z.cells)[·%(if xs.length*k=0 then #[] else z.cells).size]!)).toList hel (by simp) (by simp)
 refine⟨cs,?_,g2⟩
 simp only [List.nil_append] at g1
 have hmap:((numbered 0 xs).toArray.map fun (p:Nat×Operand)=>(p.1,a.eval p.2))=((numbered 0 xs).map fun y=>(y.1,a.eval y.2)).toArray:=by simp
 have hz:∀ w:World,((if xs.length*i.size=0 then pure #[] else do pure (←zeroValue e).cells:Sem (Array Value))).run P w=.ok (if xs.length*k=0 then #[] else z.cells) w:=by
  intro w
  rw [hi3]
  by_cases h0:xs.length*k=0
  · rw [if_pos h0,if_pos h0];rfl
  rw [if_neg h0,if_neg h0];simp [zeroValue,typeInfo,hi1,hi2]
 have hne:¬ 16777216<xs.length*i.size:=by rw [hi3];omega
 subst hi3
 by_cases h0:xs.length*i.size=0
 · simp only [h0,if_true] at g1
   have e0:(Array.map (fun x=>((#[]:Array Value))[x%(#[]:Array Value).size]!) (Array.range 0)).toList.toArray=#[]:=by simp
   rw [e0] at g1
   have e1:Array.map (fun _=>(default:Value)) (Array.range 0)=#[]:=by simp [Array.range]
   simp [execOp,ho,Instr.buildSlice,run_underlying hu,sizeOf,typeInfo,hi1,h0,e1,g1,newRow]
 simp only [h0,if_false,Array.toArray_toList] at g1
 simp [execOp,ho,Instr.buildSlice,run_underlying hu,sizeOf,typeInfo,hi1,h0,hne,zeroValue,hi2,g1,newRow]
def chunk (k:Nat):Nat→List T→List (List T)
 | 0,_=>[]
 | n+1,ts=>ts.take k::chunk k n (ts.drop k)
theorem chunk_ok (k:Nat):∀ (n:Nat) (ts:List T),ts.length=n*k→(chunk k n ts).flatten=ts∧(chunk k n ts).length=n∧∀ row∈chunk k n ts,row.length=k
 | 0,ts,h=>by
  have:ts=[]:=List.eq_nil_of_length_eq_zero (by simpa using h)
  subst this
  exact⟨rfl,rfl,by simp [chunk]⟩
 | n+1,ts,h=>by
  rw [Nat.succ_mul] at h
  obtain⟨h1,h2,h3⟩:=chunk_ok k n (ts.drop k) (by simp;omega)
  refine⟨by rw [chunk,List.flatten_cons,h1,List.take_append_drop],by simp [chunk,h2],fun row hm=>?_⟩
  rw [chunk] at hm
  rcases List.mem_cons.1 hm with rfl|hm
  · simp;omega
  exact h3 row hm
theorem Ce {t e:TypeId} {k bytes:Nat} {z:Value} {xs:List Operand} {es:List (List E)} {σ':St} {ts:List T} (id:Nat) (ho:o.op=.buildSlice t xs.length (numbered 0 xs).toArray) (hg:o.guard=none) (hd:o.dst.all (fun d=>Nat.blt d σ.n)=true) (hel:Elems σ k xs es)
 (hu:P.underlying t=some (.slice e)) (hi:(P.info? e).map (fun i=>(i.zero,i.size,i.bytes))=some (some z,k,bytes)) (hb:Nat.ble (xs.length*k) 16777216=true) (hm:Nat.ble xs.length maxLen=true) (ha:absorb σ es.flatten=some (σ',ts)) (hf:σ'.has id=false) :
 Op1 P ops o σ ((σ'.add id (.row k (chunk k xs.length ts))).put o.dst (true,.a (.one (.rf id)))):=
 .eff hg fun w0 a w ⟨I,hr⟩=>by
  obtain⟨cs,hrun,g1,g2,g3,g4,g5⟩:=run_buildSlice hr ho hel hu hi hb
  obtain⟨I',G,h1,h2,h3,h4,_⟩:=RelI.absorb ha hr g1
  have hx:Ext w (w.alloc (.cells cs.toArray e)):=(Ext.refl w).alloc _
  have hgn:=heap_alloc_new w (.cells cs.toArray e)
  have hr':=h1.later hx
  have hlt:∀ b∈G,b≠w.heap.size:=fun b hb=>by have:=(h4 b hb).2.1;omega
  have htl:ts.length=xs.length*k:=by rw [←Cs.len h2];exact g3
  obtain⟨c1,c2,c3⟩:=chunk_ok k xs.length ts htl
  have hn':σ'.n=σ.n:=absorb_n ha
  have hr2:=hr'.addF (id:=id) (G:=w.heap.size::G) (u:=.slice (some ⟨w.heap.size,0,none⟩) xs.length xs.length) (b:=0) (r:=.row k (chunk k xs.length ts)) hf
   (List.nodup_cons.2 ⟨fun hm=>hlt _ hm rfl,h3⟩) (fun b hb=>by
    rcases List.mem_cons.1 hb with rfl|hb
    · exact⟨.inl hr.ext.size,by simp,⟨.inl _,e,hgn⟩,fun hz=>by have:=h1.old _ hz;omega,fun i hi=>by have:=(h1.lt i _ hi).1;omega⟩
    · exact (h4 b hb).mono hx) (by
    show C true _ _ _ _
    simp only [Ip.set,if_true]
    unfold C
    refine⟨_,_,_,rfl,c2,Nat.le_refl _,?_,.inr ⟨w.heap.size,0,G,rfl,rfl,by simp,fun _=>⟨rfl,_,e,hgn,by simpa using g3⟩,Rws.of (xs:=cs) c3 (by rw [c1];exact h2.mono hx) fun j u hj=>?_⟩⟩
    · exact Nat.le_of_ble_eq_true hm
    simp only [World.cell?,hgn];simpa using hj)
  exact⟨_,_,hrun,_,hr2.put (by rw [show (σ'.add id (.row k (chunk k xs.length ts))).n=σ'.n from rfl,hn'];exact hd) ⟨by simp [Ip.set],_,_,_,rfl⟩⟩
theorem B7 {t e:TypeId} {k bytes:Nat} {z:Value} {xs:List Operand} {es:List (List E)} {rows:List (List T)} (ho:o.op=.buildSlice t xs.length (numbered 0 xs).toArray) (hg:o.guard=none) (hd:o.dst.all (fun d=>Nat.blt d σ.n)=true) (hel:Elems σ k xs es)
 (hu:P.underlying t=some (.slice e)) (hi:(P.info? e).map (fun i=>(i.zero,i.size,i.bytes))=some (some z,k,bytes)) (hb:Nat.ble (xs.length*k) 16777216=true) (hm:Nat.ble xs.length maxLen=true) (hrows:es=rows.map fun r=>r.map .t) :
 Op1 P ops o σ (σ.put o.dst (true,.a (.one (.t (.sl k rows))))):=
 .eff hg fun w0 a w ⟨I,hr⟩=>by
  obtain⟨cs,hrun,g1,g2,g3,g4,g5⟩:=run_buildSlice hr ho hel hu hi hb
  have hx:Ext w (w.alloc (.cells cs.toArray e)):=(Ext.refl w).alloc _
  have hgn:=heap_alloc_new w (.cells cs.toArray e)
  have hr':=(hr.later hx).also (G:=[w.heap.size]) fun b hb=>by
   simp only [List.mem_singleton] at hb
   subst hb
   exact⟨by simp,fun i hi=>by have:=(hr.lt i _ hi).1;omega⟩
  have key:∀ (ts:List T) (cs:List Value),VEs I w (ts.map .t) cs→∃ G,Cs false w ts cs G∧∀ b∈G,I.Z b:=by
   intro ts
   induction ts with
   | nil=>intro cs h;exact⟨[],by unfold Cs;exact⟨h,rfl⟩,by simp⟩
   | cons t ts ih=>
    rintro cs ⟨c,cr,rfl,⟨G1,k1,k2⟩,k3⟩
    obtain⟨G2,k4,k5⟩:=ih cr k3
    refine⟨G1++G2,by unfold Cs;exact⟨c,cr,G1,G2,rfl,k1,k4,rfl⟩,fun b hb=>?_⟩
    rcases List.mem_append.1 hb with hb|hb
    · exact k2 b hb
    exact k5 b hb
  have efl:es.flatten=rows.flatten.map .t:=by rw [hrows,List.map_flatten]
  rw [efl] at g1
  obtain⟨G,q1,q2⟩:=key _ _ g1
  have hlen:rows.length=xs.length:=by rw [←g4,hrows,List.length_map]
  refine⟨_,_,hrun,_,hr'.put hd ⟨w.heap.size::G,?_,fun b hb=>?_⟩⟩
  · unfold C
    refine⟨_,_,_,rfl,hlen,Nat.le_refl _,Nat.le_of_ble_eq_true hm,.inr ⟨w.heap.size,0,G,rfl,rfl,by simp,(by simp),Rws.of (xs:=cs) (fun row hr=>?_) (q1.mono hx) fun j u hj=>?_⟩⟩
    · have:=g5 (row.map .t) (by rw [hrows];exact List.mem_map_of_mem hr)
      simpa using this
    simp only [World.cell?,hgn];simpa using hj
  rcases List.mem_cons.1 hb with rfl|hb
  · exact .inr (by simp)
  exact .inl (q2 b hb)
theorem beq_ff {i j:Nat} (h:i≠j):Nat.beq i j=false:=by
 cases hb:Nat.beq i j with
 | false=>rfl
 | true=>exact absurd (Nat.eq_of_beq_eq_true hb) h
theorem look_kill {id id2 k:Nat} {rows:List (List T)} (hne:id≠id2) (hs:look σ.res id=some (.row k rows)):look (σ.kill id2).res id=some (.row k rows):=by
 have key:∀ (l:List (Nat×R)),look l id=some (.row k rows)→look (delR (l.map fun x=>(x.1,x.2.pur id2)) id2) id=some (.row k rows):=by
  intro l
  induction l with
  | nil=>intro h;cases h
  | cons y l ih=>
   obtain⟨j,y⟩:=y
   intro h'
   rw [look_cons] at h'
   rw [List.map_cons,delR]
   by_cases e:j=id2
   · rw [if_neg (fun e'=>hne (e'.symm.trans e))] at h'
     rw [show Nat.beq (j,y).1 id2=true by show Nat.beq j id2=true;rw [e];exact Nat.beq_refl _]
     exact ih h'
   rw [show Nat.beq (j,y).1 id2=false from beq_ff e]
   show look ((j,R.pur id2 y)::_) id=_
   rw [look_cons]
   split at h'
   · rename_i e2;cases h';rw [if_pos e2];rfl
   rename_i e2;rw [if_neg e2];exact ih h'
 exact key _ hs
theorem R_append_own {t e:TypeId} {x y:Operand} {id id2 k:Nat} {rows rows2:List (List T)} {z:Value} {bytes:Nat} (ho:o.op=.call { callee:=.builtin .append,args:=#[x,y],argTypes:=#[t,t] }) (hg:o.guard=none) (hd:o.dst.all (fun d=>Nat.blt d σ.n)=true)
 (hx:Get σ true x (.one (.rf id))) (hs:look σ.res id=some (.row k rows)) (hy:Get σ true y (.one (.rf id2))) (hs2:look σ.res id2=some (.row k rows2)) (hne:Nat.beq id id2=false) (ht:P.underlying t=some (.slice e)) (hi:(P.info? e).map (fun i=>(i.zero,i.size,i.bytes))=some (some z,k,bytes)) (hzs:z.cells.size=k)
 (hb:(rows.length+rows2.length)*bytes≤140737488355328) (hm:rows.length+rows2.length≤maxLen) :
 Op1 P ops o σ (((σ.kill id2).chg id (.row k (rows++rows2))).put o.dst (true,.a (.one (.rf id)))):=
 .eff hg fun w0 a w ⟨I,hr⟩=>by
  have hne':id≠id2:=fun e=>by rw [e,Nat.beq_refl] at hne;cases hne
  have hv1:VE I w (.rf id) (a.eval x):=hx.va hr rfl
  have hv2:VE I w (.rf id2) (a.eval y):=hy.va hr rfl
  have hC:C true w (.sl k rows) (I.hd id) (I.F id):=hr.res id _ hs
  have hC2:C true w (.sl k rows2) (I.hd id2) (I.F id2):=hr.res id2 _ hs2
  obtain⟨v',w',hrun,h⟩:=run_append_T (ty:=o.type) w ht hi hzs hC hC2 hb hm
  obtain⟨k1,k2,k3⟩:=hr.kill hs2
  have hF:(I.set id2 [] (I.hd id2) (I.B id2)).F id=I.F id:=by simp [Ip.set,hne']
  have hhd:(I.set id2 [] (I.hd id2) (I.B id2)).hd id=I.hd id:=by simp [Ip.set,hne']
  have hs':=look_kill hne' hs
  refine⟨v',w',by simp [execOp,ho,resolve,invoke,builtin,hv1.1,hv2.1,hrun],?_⟩
  rcases h with ⟨rfl,rfl,rfl⟩|⟨g,cap,cur,e',G,rfl,h1,h2,h3,h4,h5,h6,h7,xs,news,h8,h9,h10,h11,h12⟩
  · have:=k1.chg hs' (Chg.refl _ _) (G:=I.F id) (u:=I.hd id) (r:=.row k (rows++[])) ⟨(hr.own id _ hs).1,fun b hb=>⟨((hr.own id _ hs).2 b hb).1,(hr.lt id b hb).1,((hr.own id _ hs).2 b hb).2,.inl (by rw [hF];exact hb)⟩⟩ (by show C true _ _ _ _;simpa [Ip.set] using hC)
    exact⟨_,this.put hd ⟨by simp [Ip.set],hv1.1▸hv1.2⟩⟩
  have h13:∀ b∈(I.F id2).drop 1,b∈I.F id2:=fun b hb=>List.mem_of_mem_drop hb
  have:=k1.append hs' h1 h2 h3 h4 h5 (by rw [hF];exact h6) (by rw [hF];exact h7) h8 h9 h10 h11 h12 (fun b hb=>k2 b (h13 b hb)) ((hr.own id2 _ hs2).1.sublist (List.drop_sublist _ _))
  exact⟨_,this.put hd ⟨by simp [Ip.set],_,_,_,rfl⟩⟩
end
end Go.Q
