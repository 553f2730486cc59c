import Derived.Test.YtdhojcaoljhbiaaGreatDoorB90xr
import Derived.Test.YtdhojcaoljhbiaaGreatDoorB92xr
set_option linter.unusedVariables false
set_option linter.unusedSimpArgs false
namespace Go.Q
open Go.RowKit
section
variable {P:Program}
theorem AW.join {w0:Base} {Q:Exit→St→Prop} {σ:St} {x y:Code} (σJ:St) (h:AW P w0 x (ThenQ (fun σ'=>Le σ' σJ) Q) σ) (h2:AW P w0 y Q σJ):AW P w0 (.seq x y) Q σ:=fun a w hr=>by
 refine wp_seq (Code.wp_mono ?_ (h a w hr))
 rintro e a' w' ⟨σ',h3,h4⟩
 cases e with
 | normal=>exact h2 a' w' (h3 w0 a' w' h4)
 | exit id=>exact⟨σ',h3,h4⟩
 | goto l=>exact⟨σ',h3,h4⟩
 | ret=>exact⟨σ',h3,h4⟩
 | panic c=>exact⟨σ',h3,h4⟩
 | outgrown=>exact⟨σ',h3,h4⟩
theorem pureStep {n:Nat} {sl:List (Nat×(Bool×S))} {rs:List (Nat×R)} {l:List Oper} {N:Nat} {B:Nat→List Nat} {outs:List Out} (hB:planC l.toArray N=true) (hO:ordB l B N=true) (hl:outs.length≤N) (hU:outB B ⟨n,sl,rs⟩ outs=true) {i:Nat} {o:Oper} {y:Out} (hi:i<N) (ho':l[i]?=some o) (hy:outs[i]?=some y)
 (hloc:Loc P l.toArray o (stL (memN (B i)) 0 outs ⟨n,delS (outs.map (·.1)) sl,rs⟩) y) {listed:Array Bool} (inv:HeadInv .any l.toArray N listed) (hd:∀ j∈deps o,listed.getD j false=true) (hu:listed.getD i false=false) {w0:Base} {a:Act} {w:World} (hJ:Rel w0 (stL (fun j=>listed.getD j false) 0 outs ⟨n,sl,rs⟩) a w) :
 ∀ (K:Act→World→Prop) (Q':Exit→Act→World→Prop),(∀ a' w',Rel w0 (stL (fun j=>(listed.setIfInBounds i true).getD j false) 0 outs ⟨n,sl,rs⟩) a' w'→K a' w')→if Region.wanted o (yielded l.toArray a.tmps) then o.wp P a w K Q' else K (a.put o.dst undef) w:=by
 have hU':=List.all_eq_true.1 hU
 have dsl:∀ (i:Nat) (y:Out),outs[i]?=some y→∀ (k:Nat) (z:Out),outs[k]?=some z→z.1=y.1→k=i:=by
  intro i y hi k z hk e
  have:=hU' i (List.mem_range.2 (List.getElem?_eq_some_iff.1 hi).1)
  rw [hi] at this
  simp only [Bool.and_eq_true] at this
  have:=List.all_eq_true.1 this.1 k (List.mem_range.2 (List.getElem?_eq_some_iff.1 hk).1)
  rw [hk] at this
  simp only [Bool.or_eq_true,decide_eq_true_eq,Bool.not_eq_true'] at this
  rcases this with h|h
  · exact h
  rw [e,Nat.beq_refl] at h;cases h
 have ids:∀ (i:Nat) (y:Out),outs[i]?=some y→∀ u∈y.2.2,St.has ⟨n,sl,rs⟩ u.1=false∧∀ (k:Nat) (z:Out),outs[k]?=some z→k=i∨((Out.has z u.1=true→i∈B k)∧∀ v∈z.2.2,v.1≠u.1):=by
  intro i y hi u hu
  have:=hU' i (List.mem_range.2 (List.getElem?_eq_some_iff.1 hi).1)
  rw [hi] at this
  simp only [Bool.and_eq_true] at this
  have:=List.all_eq_true.1 this.2 u hu
  simp only [Bool.and_eq_true,Bool.not_eq_true'] at this
  refine⟨this.1,fun k z hk=>?_⟩
  have:=List.all_eq_true.1 this.2 k (List.mem_range.2 (List.getElem?_eq_some_iff.1 hk).1)
  rw [hk] at this
  simp only [Bool.or_eq_true,decide_eq_true_eq,Bool.and_eq_true,Bool.not_eq_true',List.all_eq_true] at this
  rcases this with h|⟨h1,h2⟩
  · exact .inl h
  refine .inr ⟨fun hz=>?_,fun v hv=>beq_ne (h2 v hv)⟩
  rcases h1 with h1|h1
  · rw [hz] at h1;cases h1
  exact memN_iff.1 h1
 have hlN:N≤l.length:=by
  simp only [planC,Bool.and_eq_true,decide_eq_true_eq] at hB
  simpa using hB.1.1.1
 have inB:∀ (listed:Array Bool),HeadInv .any l.toArray N listed→∀ i o,i<N→l[i]?=some o→(∀ j∈deps o,listed.getD j false=true)→∀ j∈B i,listed.getD j false=true:=by
  intro listed inv i o hi ho hd
  have hOi:=List.all_eq_true.1 hO i (List.mem_range.2 hi)
  rw [ho] at hOi
  have hOi':=List.all_eq_true.1 hOi
  have key:∀ d j,N-j≤d→j∈B i→listed.getD j false=true:=by
   intro d
   induction d with
   | zero=>
    intro j hj hm
    have:=hOi' j hm
    simp only [Bool.or_eq_true,List.contains_iff_mem,List.any_eq_true,Bool.and_eq_true,decide_eq_true_eq] at this
    rcases this with h|⟨m,hmB,⟨h1,h2⟩,h3⟩
    · exact hd j h
    omega
   | succ d ih=>
    intro j hj hm
    have:=hOi' j hm
    simp only [Bool.or_eq_true,List.contains_iff_mem,List.any_eq_true,Bool.and_eq_true,decide_eq_true_eq] at this
    rcases this with h|⟨m,hmB,⟨h1,h2⟩,h3⟩
    · exact hd j h
    have hml:=ih m (by omega) hmB
    cases hom:l[m]? with
    | none=>rw [hom] at h3;cases h3
    | some om=>
     rw [hom] at h3
     simp only [List.contains_iff_mem] at h3
     obtain⟨e,he,hb,rfl⟩:=mem_deps.1 h3
     exact inv.closed m om (by simpa using hom) hml e he hb
  exact fun j hm=>key (N-j) j (Nat.le_refl _) hm
 have hBL:=inB listed inv i o hi ho' hd
 have hsup:Sup (stL (memN (B i)) 0 outs ⟨n,delS (outs.map (·.1)) sl,rs⟩) (stL (fun j=>listed.getD j false) 0 outs ⟨n,sl,rs⟩):=by
  refine⟨by rw [stL_n,stL_n],fun t x hx=>?_,fun t x hx=>?_⟩
  · by_cases hex:∃ j z,outs[j]?=some z∧memN (B i) j=true∧z.1=t
    · obtain⟨j,z,hz,hj,rfl⟩:=hex
      have e:=stL_slot (L:=memN (B i)) (t:=z.1) outs 0 ⟨n,delS (outs.map (·.1)) sl,rs⟩ j z hz (by rw [Nat.zero_add];exact hj) rfl rfl (fun k u hk e=>dsl j z hz k u hk e)
      rw [hx] at e
      cases e
      exact stL_slot outs 0 _ j z hz (by rw [Nat.zero_add];exact hBL j (memN_iff.1 hj)) rfl rfl fun k u hk e=>dsl j z hz k u hk e
    rw [stL_slot_base outs 0 _ fun j z hz hj e=>hex ⟨j,z,hz,by rw [Nat.zero_add] at hj;exact hj,e⟩,look_delS] at hx
    split at hx
    · cases hx
    rename_i hnm
    rw [stL_slot_base outs 0 _ fun j z hz _ e=>hnm (List.mem_map.2 ⟨z,List.mem_of_getElem? hz,e⟩)]
    exact hx
  by_cases hex:∃ j z,outs[j]?=some z∧memN (B i) j=true∧∃ u∈z.2.2,u.1=t
  · obtain⟨j,z,hz,hj,u,hu,rfl⟩:=hex
    have uniq:∀ (k:Nat) (z':Out),outs[k]?=some z'→(∃ v∈z'.2.2,v.1=u.1)→k=j:=fun k z' hk ⟨v,hv,e⟩=>by
     rcases (ids j z hz u hu).2 k z' hk with h|⟨_,h⟩
     · exact h
     exact absurd e (h v hv)
    cases hlk:look z.2.2.reverse u.1 with
    | none=>
     exfalso
     have:∀ (m:List (Nat×R)),u∈m→look m u.1≠none:=by
      intro m
      induction m with
      | nil=>intro h;cases h
      | cons c m ih=>
       intro h
       obtain⟨ci,cx⟩:=c
       rw [look_cons]
       split
       · simp
       rename_i e
       rcases List.mem_cons.1 h with rfl|h
       · exact absurd rfl e
       exact ih h
     exact this _ (by simpa using hu) hlk
    | some x'=>
     have e:=stL_res (L:=memN (B i)) outs 0 ⟨n,delS (outs.map (·.1)) sl,rs⟩ j z hz (by rw [Nat.zero_add];exact hj) hlk uniq
     rw [hx] at e
     cases e
     exact stL_res outs 0 _ j z hz (by rw [Nat.zero_add];exact hBL j (memN_iff.1 hj)) hlk uniq
  rw [stL_res_base outs 0 _ fun j z hz hj u hu e=>hex ⟨j,z,hz,by rw [Nat.zero_add] at hj;exact hj,u,hu,e⟩] at hx
  rw [stL_res_base outs 0 _ fun j z hz _ u hu e=>?_]
  · exact hx
  have:=(ids j z hz u hu).1
  exact (St.has_res this (e▸hx)).1 rfl
 have hfresh:∀ u∈y.2.2,(stL (fun j=>listed.getD j false) 0 outs ⟨n,sl,rs⟩).has u.1=false:=by
  intro u hu';refine has_stL outs 0 _ (ids i y hy u hu').1 fun j z hz hL=>?_
  rw [Nat.zero_add] at hL
  cases hh:Out.has z u.1 with
  | false=>rfl
  | true=>
   rcases (ids i y hy u hu').2 j z hz with rfl|⟨h1,_⟩
   · rw [hu] at hL;cases hL
   exfalso
   have hib:=h1 hh
   have hjN:j<N:=by have:=(List.getElem?_eq_some_iff.1 hz).1;omega
   have hoj:l[j]?=some (l[j]'(by omega)):=List.getElem?_eq_getElem _
   have:=inB listed inv j _ hjN hoj (fun k hk=>by
    obtain⟨e,he,hb,rfl⟩:=mem_deps.1 hk
    exact inv.closed j _ (by simp) hL e he hb) i hib
   rw [hu] at this;cases this
 intro K Q' hK;refine hloc _ hsup hfresh w0 a w hJ K Q' fun a' w' hr'=>hK a' w' ?_
 have hget:∀ j,(listed.setIfInBounds i true).getD j false=if j=i then true else listed.getD j false:=by
  intro j
  by_cases e:j=i
  · subst e
    have:j<listed.size:=by rw [inv.size];simp;omega
    simp [this]
  rw [if_neg e];exact getD_set_ne false (fun h=>e h.symm)
 refine Rel.of_look hr' (by rw [stL_n,stL_n]) (fun t x hx=>?_) (fun t x hx=>?_)
 · show look ((y.1,y.2.1)::_) t=some x
   rw [look_cons]
   by_cases e:y.1=t
   · rw [if_pos e]
     have:=stL_slot (L:=fun j=>(listed.setIfInBounds i true).getD j false) outs 0 ⟨n,sl,rs⟩ i y hy (by rw [Nat.zero_add];rw [hget,if_pos rfl]) e rfl fun k z hk e'=>dsl i y hy k z hk (e'.trans e.symm)
     rw [this] at hx;exact hx
   rw [if_neg e]
   by_cases hex:∃ j z,outs[j]?=some z∧listed.getD j false=true∧z.1=t
   · obtain⟨j,z,hz,hj,rfl⟩:=hex
     have e1:=stL_slot (L:=fun j=>(listed.setIfInBounds i true).getD j false) outs 0 ⟨n,sl,rs⟩ j z hz (by rw [Nat.zero_add,hget];split;rfl;exact hj) rfl rfl fun k u hk e=>dsl j z hz k u hk e
     rw [e1] at hx
     cases hx
     exact stL_slot outs 0 _ j z hz (by rw [Nat.zero_add];exact hj) rfl rfl fun k u hk e=>dsl j z hz k u hk e
   rw [stL_slot_base outs 0 _ fun j z hz hj e'=>hex ⟨j,z,hz,by rw [Nat.zero_add] at hj;exact hj,e'⟩]
   rw [stL_slot_base outs 0 _ fun j z hz hj e'=>?_] at hx
   · exact hx
   rw [Nat.zero_add,hget] at hj
   split at hj
   · rename_i e2;subst e2;rw [hy] at hz;cases hz;exact e e'
   exact hex ⟨j,z,hz,hj,e'⟩
 show look (addsR y.2.2 _) t=some x
 rw [look_addsR]
 by_cases hyt:∃ u∈y.2.2,u.1=t
 · obtain⟨u,hu',rfl⟩:=hyt
   have uniq:∀ (k:Nat) (z':Out),outs[k]?=some z'→(∃ v∈z'.2.2,v.1=u.1)→k=i:=fun k z' hk ⟨v,hv,e⟩=>by
    rcases (ids i y hy u hu').2 k z' hk with h|⟨_,h⟩
    · exact h
    exact absurd e (h v hv)
   cases hlk:look y.2.2.reverse u.1 with
   | none=>
    simp only
    rw [stL_res_base outs 0 _ fun j z hz hj v hv e'=>?_] at hx ⊢
    · exact hx
    all_goals
     have:=uniq j z hz ⟨v,hv,e'⟩
     subst this
     rw [hy] at hz;cases hz
     have hne:∀ (m:List (Nat×R)),v∈m→look m v.1≠none:=by
      intro m
      induction m with
      | nil=>intro h;cases h
      | cons c m ih=>
       intro h
       obtain⟨ci,cx⟩:=c
       rw [look_cons]
       split
       · simp
       rename_i e
       rcases List.mem_cons.1 h with rfl|h
       · exact absurd rfl e
       exact ih h
     exact hne _ (by simpa using hv) (e'▸hlk)
   | some x'=>
    have:=stL_res (L:=fun j=>(listed.setIfInBounds i true).getD j false) outs 0 ⟨n,sl,rs⟩ i y hy (by rw [Nat.zero_add];rw [hget,if_pos rfl]) hlk uniq
    rw [this] at hx
    exact hx
 have hnone:look y.2.2.reverse t=none:=look_none_of fun v hv e=>hyt ⟨v,by simpa using hv,e⟩
 rw [hnone]
 simp only
 by_cases hex:∃ j z,outs[j]?=some z∧listed.getD j false=true∧∃ u∈z.2.2,u.1=t
 · obtain⟨j,z,hz,hj,u,hu',rfl⟩:=hex
   have uniq:∀ (k:Nat) (z':Out),outs[k]?=some z'→(∃ v∈z'.2.2,v.1=u.1)→k=j:=fun k z' hk ⟨v,hv,e⟩=>by
    rcases (ids j z hz u hu').2 k z' hk with h|⟨_,h⟩
    · exact h
    exact absurd e (h v hv)
   cases hlk:look z.2.2.reverse u.1 with
   | none=>
    exfalso
    have hne:∀ (m:List (Nat×R)),u∈m→look m u.1≠none:=by
     intro m
     induction m with
     | nil=>intro h;cases h
     | cons c m ih=>
      intro h
      obtain⟨ci,cx⟩:=c
      rw [look_cons]
      split
      · simp
      rename_i e
      rcases List.mem_cons.1 h with rfl|h
      · exact absurd rfl e
      exact ih h
    exact hne _ (by simpa using hu') hlk
   | some x'=>
    have e1:=stL_res (L:=fun j=>(listed.setIfInBounds i true).getD j false) outs 0 ⟨n,sl,rs⟩ j z hz (by rw [Nat.zero_add,hget];split;rfl;exact hj) hlk uniq
    rw [e1] at hx
    cases hx
    exact stL_res outs 0 _ j z hz (by rw [Nat.zero_add];exact hj) hlk uniq
 rw [stL_res_base outs 0 _ fun j z hz hj u hu' e'=>hex ⟨j,z,hz,by rw [Nat.zero_add] at hj;exact hj,u,hu',e'⟩]
 rw [stL_res_base outs 0 _ fun j z hz hj u hu' e'=>?_] at hx
 · exact hx
 rw [Nat.zero_add,hget] at hj
 split at hj
 · rename_i e2;subst e2;rw [hy] at hz;cases hz;exact hyt ⟨u,hu',e'⟩
 exact hex ⟨j,z,hz,hj,u,hu',e'⟩
def subsN:List Nat→List (List Nat)
 | []=>[[]]
 | r::l=>(subsN l).flatMap fun S=>[S,r::S]
theorem subs_of (p:Nat→Bool):∀ R:List Nat,∃ S∈subsN R,∀ j,j∈S↔j∈R∧p j=true
 | []=>⟨[],by simp [subsN],by simp⟩
 | r::R=>by
  obtain⟨S,h1,h2⟩:=subs_of p R
  cases hp:p r with
  | true=>
   refine⟨r::S,List.mem_flatMap.2 ⟨S,h1,by simp⟩,fun j=>?_⟩
   rw [List.mem_cons,List.mem_cons,h2]
   by_cases e:j=r
   · subst e;simp [hp]
   simp [e]
  | false=>
   refine⟨S,List.mem_flatMap.2 ⟨S,h1,by simp⟩,fun j=>?_⟩
   rw [List.mem_cons,h2]
   by_cases e:j=r
   · subst e;simp [hp]
   simp [e]
def mixB (l:List Oper) (N H:Nat) (A R:List Nat) (bs:List (List Nat)) (ms:List (List Nat)) (es:List (Nat×Nat×Nat)) (k:Nat) (todo:List (Nat×List Nat)):Bool:=
 (List.range ms.length).all (fun a=>match ms[a]? with
  | none=>false
  | some m=>((List.range N).all (fun i=>memN m i||(match l[i]? with
   | none=>false
   | some o=>!((deps o).all (memN m))||es.any (fun e=>Nat.beq e.1 a&&Nat.beq e.2.1 i&&(match ms[e.2.2]? with
    | none=>false
    | some m'=>(List.range N).all fun j=>memN m' j == (Nat.beq j i||memN m j))))))&&
   (Nat.beq a k||(List.range N).any (fun i=>!(memN m i))))&&
 ((List.range N).all (fun i=>Nat.blt i H||A.all (memN (nthB bs i)))&&A.all (fun j=>Nat.blt j H)&&(List.range H).all (fun j=>memN A j||memN R j)&&R.all (fun j=>Nat.blt j H&&!(memN A j)))&&
 (subsN R).all (fun S=>todo.any fun p=>(match ms[p.1]? with|some m=>(List.range N).all fun j=>memN m j == (memN A j||memN S j)|none=>false)&&(List.range N).all fun j=>memN p.2 j == (memN A j||memN S j))
theorem stL_congrN {L L':Nat→Bool}:∀ (outs:List Out) (i:Nat) (σ:St),(∀ j,j<outs.length→L (i+j)=L' (i+j))→stL L i outs σ=stL L' i outs σ
 | [],_,_,_=>rfl
 | y::r,i,σ,h=>by
  rw [stL,stL,show L i=L' i by simpa using h 0 (by simp)]
  exact stL_congrN r (i+1) _ fun j hj=>by have:=h (j+1) (by simp;omega);rwa [show i+(j+1)=i+1+j by omega] at this
theorem AW.mix {w0:Base} {Q:Exit→St→Prop} {n:Nat} {sl:List (Nat×(Bool×S))} {rs:List (Nat×R)} {id:Nat} {l:List Oper} (N H k:Nat) (A R:List Nat) (bs:List (List Nat)) (ms:List (List Nat)) (es:List (Nat×Nat×Nat)) (todo:List (Nat×List Nat)) (st:Nat→St) (outs:List Out) (hm:P.follows .mixedOrders=true) (hB:planC l.toArray N=true) (hO:ordB l (nthB bs) N=true) (hP:mixB l N H A R bs ms es k todo=true) (hA0:A.isEmpty=false)
 (hl:outs.length=H) (hHN:H≤N) (hsteps:∀ i o y,i<H→l[i]?=some o→outs[i]?=some y→Loc P l.toArray o (stL (memN (nthB bs i)) 0 outs ⟨n,delS (outs.map (·.1)) sl,rs⟩) y) (hU:outB (nthB bs) ⟨n,sl,rs⟩ outs=true)
 (hin:∀ p∈todo,Le (stL (memN p.2) 0 outs ⟨n,sl,rs⟩) (st p.1))
 (hes:∀ e∈es,∀ o,l[e.2.1]?=some o→∀ w0,AWl P w0 l.toArray (EndQ (st e.2.2)) [o] (st e.1)) (hfin:AWl P w0 l.toArray Q (l.drop N) (st k)):AW P w0 (.region id l.toArray true) Q ⟨n,sl,rs⟩:=by
 intro a w hr;refine wp_region_any hm ?_
 simp only [mixB,Bool.and_eq_true] at hP
 obtain⟨⟨hP,⟨⟨hA1,hA2⟩,hA3⟩,hA4⟩,hsub⟩:=hP
 have hlN:N≤l.length:=by
  have hB':=hB
  simp only [planC,Bool.and_eq_true,decide_eq_true_eq] at hB'
  simpa using hB'.1.1.1
 have hdep:∀ i o,i<N→l[i]?=some o→∀ j∈deps o,j<i:=fun i o hi ho j hj=>by
  have hB':=hB
  simp only [planC,Bool.and_eq_true,decide_eq_true_eq] at hB'
  have:=List.all_eq_true.1 hB'.1.1.2 i (List.mem_range.2 hi)
  have ho':l.toArray[i]?=some o:=by simpa using ho
  rw [ho'] at this
  have:=List.all_eq_true.1 this j hj
  simpa using this
 have hat:∀ (b:Nat) (m:List Nat),ms[b]?=some m→((∀ i,i<N→memN m i=false→∀ o,l[i]?=some o→(∀ j∈deps o,memN m j=true)→∃ e∈es,e.1=b∧e.2.1=i∧∃ m',ms[e.2.2]?=some m'∧∀ j,j<N→memN m' j=(Nat.beq j i||memN m j))∧((∀ i,i<N→memN m i=true)→b=k)):=by
  intro b m hb
  have:=List.all_eq_true.1 hP b (List.mem_range.2 (List.getElem?_eq_some_iff.1 hb).1)
  rw [hb] at this
  simp only [Bool.and_eq_true] at this
  refine⟨fun i hi hu o ho hd=>?_,fun hall=>?_⟩
  · have:=List.all_eq_true.1 this.1 i (List.mem_range.2 hi)
    rw [hu,Bool.false_or,ho] at this
    simp only [Bool.or_eq_true,Bool.not_eq_true'] at this
    rcases this with h|h
    · rw [List.all_eq_true.2 hd] at h;cases h
    obtain⟨e,he,h⟩:=List.any_eq_true.1 h
    simp only [Bool.and_eq_true] at h
    obtain⟨⟨h1,h2⟩,h3⟩:=h
    refine⟨e,he,Nat.eq_of_beq_eq_true h1,Nat.eq_of_beq_eq_true h2,?_⟩
    split at h3
    · cases h3
    rename_i m' hm'
    exact⟨m',hm',fun j hj=>by simpa using List.all_eq_true.1 h3 j (List.mem_range.2 hj)⟩
  have h2:=this.2
  simp only [Bool.or_eq_true] at h2
  rcases h2 with h|h
  · exact Nat.eq_of_beq_eq_true h
  obtain⟨i,hi,h⟩:=List.any_eq_true.1 h
  rw [hall i (List.mem_range.1 hi)] at h;cases h
 have inB:∀ (listed:Array Bool),HeadInv .any l.toArray N listed→∀ i o,i<N→l[i]?=some o→(∀ j∈deps o,listed.getD j false=true)→∀ j∈nthB bs i,listed.getD j false=true:=by
  intro listed inv i o hi ho hd
  have hOi:=List.all_eq_true.1 hO i (List.mem_range.2 hi)
  rw [ho] at hOi
  have hOi':=List.all_eq_true.1 hOi
  have key:∀ d j,N-j≤d→j∈nthB bs i→listed.getD j false=true:=by
   intro d
   induction d with
   | zero=>
    intro j hj hm
    have:=hOi' j hm
    simp only [Bool.or_eq_true,List.contains_iff_mem,List.any_eq_true,Bool.and_eq_true,decide_eq_true_eq] at this
    rcases this with h|⟨m,hmB,⟨h1,h2⟩,h3⟩
    · exact hd j h
    omega
   | succ d ih=>
    intro j hj hm
    have:=hOi' j hm
    simp only [Bool.or_eq_true,List.contains_iff_mem,List.any_eq_true,Bool.and_eq_true,decide_eq_true_eq] at this
    rcases this with h|⟨m,hmB,⟨h1,h2⟩,h3⟩
    · exact hd j h
    have hml:=ih m (by omega) hmB
    cases hom:l[m]? with
    | none=>rw [hom] at h3;cases h3
    | some om=>
     rw [hom] at h3
     simp only [List.contains_iff_mem] at h3
     obtain⟨e,he,hb,rfl⟩:=mem_deps.1 h3
     exact inv.closed m om (by simpa using hom) hml e he hb
  exact fun j hm=>key (N-j) j (Nat.le_refl _) hm
 have H:=wpAny_inv (P:=P) (Q:=lift w0 Q) (J:=fun listed a w=>bif A.all (fun j=>listed.getD j false) then True=True∧∃ b m,ms[b]?=some m∧(∀ j,j<N→memN m j=listed.getD j false)∧Rel w0 (st b) a w else Rel w0 (stL (fun j=>listed.getD j false) 0 outs ⟨n,sl,rs⟩) a w) hB (fun i o hi ho listed a w inv hd hu hJ=>?_) (fun listed a w hall hJ=>?_)
  (unl N (Array.replicate l.toArray.size false)) (Array.replicate l.toArray.size false) a { w with drawn:=w.drawn+1 } rfl
  ⟨by simp,fun j oj _ hl=>(by rw [getD_replicate_false] at hl;cases hl),fun t _ ht=>getD_in (by simpa using ht) (getD_replicate_false _ _)⟩ ?_
 · have hu:unl N (Array.replicate l.toArray.size false)=N:=by
    unfold unl
    rw [List.countP_eq_length.2 (fun j _=>by rw [getD_replicate_false];rfl),List.length_range]
   rw [hu,show N+(l.toArray.size-N)=l.toArray.size by simp;omega] at H
   exact H
 · have ho0:l[i]?=some o:=by simpa using ho
   have hget:∀ j,(listed.setIfInBounds i true).getD j false=if j=i then true else listed.getD j false:=by
    intro j
    by_cases e:j=i
    · subst e
      have:j<listed.size:=by rw [inv.size];simp;omega
      simp [this]
    rw [if_neg e];exact getD_set_ne false (fun h=>e h.symm)
   cases hAl:A.all (fun j=>listed.getD j false) with
   | true=>
    rw [hAl] at hJ
    obtain⟨_,b,m,hb,hmj,hr⟩:=hJ
    obtain⟨e,he,rfl,rfl,m',hm',hj'⟩:=(hat b m hb).1 i hi (by rw [hmj i hi];exact hu) o ho0 fun j hj=>by rw [hmj j (by have:=hdep i o hi ho0 j hj;omega)];exact hd j hj
    intro K Q' hK;refine EndQ.run (hes e he o ho0) hr K Q' fun a' w' hr'=>hK a' w' ?_
    have hA':A.all (fun j=>(listed.setIfInBounds e.2.1 true).getD j false)=true:=List.all_eq_true.2 fun j hj=>by
     have:=List.all_eq_true.1 hAl j hj
     rw [hget];split
     · rfl
     exact this
    rw [hA']
    refine⟨rfl,e.2.2,m',hm',fun j hj=>?_,hr'⟩
    rw [hj' j hj,hmj j hj,hget]
    by_cases ej:j=e.2.1
    · subst ej;simp [Nat.beq_refl]
    rw [beq_false ej,Bool.false_or,if_neg ej]
   | false=>
    rw [hAl,cond_false] at hJ
    have hiH:i<H:=by
     apply Classical.byContradiction;intro hn
     have h1:=List.all_eq_true.1 hA1 i (List.mem_range.2 hi)
     simp only [Bool.or_eq_true] at h1
     rcases h1 with h1|h1
     · have h2:i<H:=Nat.le_of_ble_eq_true h1
       omega
     have h2:=inB listed inv i o hi ho0 hd
     have:A.all (fun j=>listed.getD j false)=true:=List.all_eq_true.2 fun j hj=>h2 j (memN_iff.1 (List.all_eq_true.1 h1 j hj))
     rw [this] at hAl;cases hAl
    obtain⟨y,hy⟩:∃ y,outs[i]?=some y:=⟨outs[i]'(by omega),List.getElem?_eq_getElem _⟩
    intro K Q' hK;refine pureStep hB hO (by omega) hU hi ho0 hy (hsteps i o y hiH ho0 hy) inv hd hu hJ K Q' fun a' w' hr'=>hK a' w' ?_
    cases hA':A.all (fun j=>(listed.setIfInBounds i true).getD j false) with
    | false=>rw [cond_false];exact hr'
    | true=>
     rw [cond_true]
     refine⟨rfl,?_⟩
     have hhead:∀ j,H≤j→j<N→listed.getD j false=false:=by
      intro j h1 h2
      cases hlj:listed.getD j false with
      | false=>rfl
      | true=>
       exfalso
       have h3:=List.all_eq_true.1 hA1 j (List.mem_range.2 h2)
       simp only [Bool.or_eq_true] at h3
       rcases h3 with h3|h3
       · have h4:j<H:=Nat.le_of_ble_eq_true h3
         omega
       have hoj:l[j]?=some (l[j]'(by omega)):=List.getElem?_eq_getElem _
       have h4:=inB listed inv j _ h2 hoj (fun q hq=>by
        obtain⟨e,he,hb,rfl⟩:=mem_deps.1 hq
        exact inv.closed j _ (by simp) hlj e he hb)
       have:A.all (fun j=>listed.getD j false)=true:=List.all_eq_true.2 fun q hq=>h4 q (memN_iff.1 (List.all_eq_true.1 h3 q hq))
       rw [this] at hAl;cases hAl
     obtain⟨S,hS1,hS2⟩:=subs_of (fun j=>(listed.setIfInBounds i true).getD j false) R
     obtain⟨p,hp,hpm⟩:=List.any_eq_true.1 (List.all_eq_true.1 hsub S hS1)
     simp only [Bool.and_eq_true] at hpm
     obtain⟨hp1,hp2⟩:=hpm
     have hAS:∀ j,j<N→(memN A j||memN S j)=(listed.setIfInBounds i true).getD j false:=by
      intro j hj
      by_cases hjH:j<H
      · have h1:=List.all_eq_true.1 hA3 j (List.mem_range.2 hjH)
        simp only [Bool.or_eq_true] at h1
        cases hjA:memN A j with
        | true=>rw [Bool.true_or];exact (List.all_eq_true.1 hA' j (memN_iff.1 hjA)).symm
        | false=>
         rw [hjA] at h1
         have hjR:=h1.resolve_left (by simp)
         rw [Bool.false_or]
         cases hs:memN S j with
         | true=>exact ((hS2 j).1 (memN_iff.1 hs)).2.symm
         | false=>
          cases hq:(listed.setIfInBounds i true).getD j false with
          | false=>rfl
          | true=>
           have:=memN_iff.2 ((hS2 j).2 ⟨memN_iff.1 hjR,hq⟩)
           rw [hs] at this;cases this
      have h1:memN A j=false:=by
       cases h:memN A j with
       | false=>rfl
       | true=>
        have h2:=List.all_eq_true.1 hA2 j (memN_iff.1 h)
        have h3:j<H:=Nat.le_of_ble_eq_true h2
        omega
      have h2:memN S j=false:=by
       cases h:memN S j with
       | false=>rfl
       | true=>
        have h3:=List.all_eq_true.1 hA4 j ((hS2 j).1 (memN_iff.1 h)).1
        simp only [Bool.and_eq_true] at h3
        have h4:j<H:=Nat.le_of_ble_eq_true h3.1
        omega
      rw [h1,h2,hget,if_neg (by omega),hhead j (by omega) hj];rfl
     split at hp1
     · rename_i m hmm
       refine⟨p.1,m,hmm,fun j hj=>?_,?_⟩
       · have:=List.all_eq_true.1 hp1 j (List.mem_range.2 hj)
         rw [beq_iff_eq] at this
         rw [this,hAS j hj]
       refine hin p hp w0 a' w' ?_
       have e:stL (memN p.2) 0 outs ⟨n,sl,rs⟩=stL (fun j=>(listed.setIfInBounds i true).getD j false) 0 outs ⟨n,sl,rs⟩:=stL_congrN outs 0 _ fun j hj=>by
        rw [Nat.zero_add]
        have:=List.all_eq_true.1 hp2 j (List.mem_range.2 (by omega))
        rw [beq_iff_eq] at this
        rw [this,hAS j (by omega)]
       rw [e];exact hr'
     cases hp1
 · have hAl:A.all (fun j=>listed.getD j false)=true:=List.all_eq_true.2 fun j hj=>by
    have h1:=List.all_eq_true.1 hA2 j hj
    have h2:j<H:=Nat.le_of_ble_eq_true h1
    exact hall j (by omega)
   rw [hAl] at hJ
   obtain⟨_,b,m,hb,hmj,hr⟩:=hJ
   have:=(hat b m hb).2 fun i hi=>by rw [hmj i hi];exact hall i hi
   subst this;exact hfin a w hr
 have h0:A.all (fun j=>(Array.replicate l.toArray.size false).getD j false)=false:=by
  cases A with
  | nil=>cases hA0
  | cons x A=>rw [List.all_cons,getD_replicate_false,Bool.false_and]
 have key:∀ (os:List Out) (i:Nat) (σ:St),stL (fun j=>(Array.replicate l.toArray.size false).getD j false) i os σ=σ:=by
  intro os
  induction os with
  | nil=>intro i σ;rfl
  | cons y os ih=>intro i σ;rw [stL,getD_replicate_false,cond_false];exact ih _ _
 show bif A.all (fun j=>(Array.replicate l.toArray.size false).getD j false) then _ else _
 rw [h0,cond_false,key]
 obtain⟨I,hI⟩:=hr
 exact⟨I,hI.later (Ext.refl w).drawn⟩
structure MixD (P:Program) (l:List Oper) (n:Nat) (sl:List (Nat×(Bool×S))) (rs:List (Nat×R)) (outs:List Out) (acc:List (Nat×St)) (todo:List (Nat×List Nat)) (es:List (Nat×Nat×Nat)) (Fin:(Nat→St)→Prop):Prop where
 pf:∃ st:Nat→St,(∀ k σ,look acc k=some σ→st k=σ)∧(∀ p∈todo,Le (stL (memN p.2) 0 outs ⟨n,sl,rs⟩) (st p.1))∧(∀ e∈es,∀ o,l[e.2.1]?=some o→∀ w0,AWl P w0 l.toArray (EndQ (st e.2.2)) [o] (st e.1))∧Fin st
variable {l:List Oper} {n:Nat} {sl:List (Nat×(Bool×S))} {rs:List (Nat×R)} {outs:List Out} {acc:List (Nat×St)} {todo:List (Nat×List Nat)} {es:List (Nat×Nat×Nat)} {Fin:(Nat→St)→Prop}
theorem MixD.add {b:Nat} {S:List Nat} (σ':St) (hb:look acc b=none) (hle:Le (stL (memN S) 0 outs ⟨n,sl,rs⟩) σ') (h:MixD P l n sl rs outs ((b,σ')::acc) todo es Fin):MixD P l n sl rs outs acc ((b,S)::todo) es Fin:=by
 obtain⟨st,h1,h2,h3⟩:=h.pf
 have h1':∀ k σ,look acc k=some σ→st k=σ:=fun k σ hk=>h1 k σ (by
  rw [look_cons,if_neg (fun e=>?_)]
  · exact hk
  subst e;rw [hb] at hk;cases hk)
 refine⟨st,h1',fun p hp=>?_,h3⟩
 rcases List.mem_cons.1 hp with rfl|hp
 · show Le _ (st b)
   rw [h1 b σ' (by rw [look_cons,if_pos rfl])]
   exact hle
 exact h2 p hp
theorem MixD.go (h:Dag P l acc es Fin):MixD P l n sl rs outs acc [] es Fin:=by
 obtain⟨st,h1,h2,h3⟩:=h.pf
 exact⟨st,h1,fun p hp=>(by cases hp),h2,h3⟩
def FinX (P:Program) (w0:Base) (Q:Exit→St→Prop) (N k:Nat) (B:Nat→List Nat) (es:List (Nat×Nat×Nat)) (todo:List (Nat×List Nat)) (l:List Oper) (n:Nat) (sl:List (Nat×(Bool×S))) (rs:List (Nat×R)) (outs:List Out):Prop:=
 delS (outs.map (·.1)) sl=sl∧outB B ⟨n,sl,rs⟩ outs=true∧MixD P l n sl rs outs [] todo es (fun st=>AWl P w0 l.toArray Q (l.drop N) (st k))
theorem FinX.mk {w0:Base} {Q:Exit→St→Prop} {N k:Nat} {B:Nat→List Nat} (hd:delS (outs.map (·.1)) sl=sl) (hU:outB B ⟨n,sl,rs⟩ outs=true) (h:MixD P l n sl rs outs [] todo es (fun st=>AWl P w0 l.toArray Q (l.drop N) (st k))):FinX P w0 Q N k B es todo l n sl rs outs:=⟨hd,hU,h⟩
theorem AW.mixn {w0:Base} {Q:Exit→St→Prop} {id:Nat} (N H k:Nat) (A R:List Nat) (bs:List (List Nat)) (ms:List (List Nat)) (es:List (Nat×Nat×Nat)) (todo:List (Nat×List Nat)) (hm:P.follows .mixedOrders=true) (hB:planC l.toArray N=true) (hO:ordB l (nthB bs) N=true) (hP:mixB l N H A R bs ms es k todo=true) (hA0:A.isEmpty=false) (hHN:Nat.ble H N=true)
 (h:DrawG P H (nthB bs) l n sl rs (FinX P w0 Q N k (nthB bs) es todo l n sl rs) [] 0 l):AW P w0 (.region id l.toArray true) Q ⟨n,sl,rs⟩:=by
 obtain⟨outs,hl,hsteps,hd,hU,st,_,h2,h3,h4⟩:=h.pf rfl rfl
 simp only [List.reverse_nil,List.nil_append] at hl hsteps hd hU h2
 rw [←hd] at hsteps
 exact AW.mix N H k A R bs ms es todo st outs hm hB hO hP hA0 hl (Nat.le_of_ble_eq_true hHN) (fun i o y _ h1 h2=>by have:=Steps.at l outs 0 hsteps i o y h1 h2;rwa [Nat.zero_add] at this) hU h2 h3 h4
end
end Go.Q
set_option maxHeartbeats 1000000
set_option maxRecDepth 100000
namespace Go.Q
open Go.D
theorem parseE_short {l:List UInt8} (h:(Lib.cut l [58]).2.1.length≠3):parseE l=(noE,false):=by
 unfold parseE
 rw [if_neg fun hh=>h hh.1]
def edgeX (a:List UInt8) (x0 x1 x2:UInt8):TEdge:=⟨(parseI a).1,(x0.toNat:Int)-48,(x2.toNat:Int)-48,(x1.toNat:Int)-97⟩
theorem parseE_yes {l:List UInt8} {x0 x1 x2:UInt8} (hB:(Lib.cut l [58]).2.1=[x0,x1,x2]) (h:bs (fmtEdge (edgeX (Lib.cut l [58]).1 x0 x1 x2))=bs l):parseE l=(edgeX (Lib.cut l [58]).1 x0 x1 x2,true):=by
 unfold parseE
 have e:edgeRd (Lib.cut l [58]).1 (Lib.cut l [58]).2.1=edgeX (Lib.cut l [58]).1 x0 x1 x2:=by rw [hB];rfl
 rw [e,if_pos ⟨by rw [hB];rfl,bs_inj h⟩]
theorem parseE_bad {l:List UInt8} {x0 x1 x2:UInt8} (hB:(Lib.cut l [58]).2.1=[x0,x1,x2]) (h:¬ bs (fmtEdge (edgeX (Lib.cut l [58]).1 x0 x1 x2))=bs l):parseE l=(noE,false):=by
 unfold parseE
 have e:edgeRd (Lib.cut l [58]).1 (Lib.cut l [58]).2.1=edgeX (Lib.cut l [58]).1 x0 x1 x2:=by rw [hB];rfl
 rw [e,if_neg fun hh=>h (by rw [hh.2])]
def edgeY (a:List UInt8) (x0 x1 x2:UInt8):TEdge:=⟨(parseI a).1,(x0.toNat:Int)-48,(x2.toNat:Int)-48,(letP [x1]).1 / 2⟩
theorem two_parts {p:List (List UInt8)} {a b:List UInt8} (h:p.length=2) (ha:p[0]?=some a) (hb:p[1]?=some b):p=[a,b]:=by
 match p,h with
 | [x,y],_=>simp at ha hb;rw [ha,hb]
theorem parseE_syes {l a:List UInt8} {x0 x1 x2:UInt8} (hs:splitL 58 l=[a,[x0,x1,x2]]) (h:bs (fmtEdge (edgeY a x0 x1 x2))=bs l):parseE l=(edgeY a x0 x1 x2,true):=by
 rw [spec_edge hs]
 have e:edgeSp a [x0,x1,x2]=edgeY a x0 x1 x2:=rfl
 rw [e,if_pos (bs_inj h)]
theorem parseE_sbad {l a:List UInt8} {x0 x1 x2:UInt8} (hs:splitL 58 l=[a,[x0,x1,x2]]) (h:¬ bs (fmtEdge (edgeY a x0 x1 x2))=bs l):parseE l=(noE,false):=by
 rw [spec_edge hs]
 have e:edgeSp a [x0,x1,x2]=edgeY a x0 x1 x2:=rfl
 rw [e,if_neg fun hh=>h (by rw [hh])]
theorem parseE_sno {l b:List UInt8} (h:(splitL 58 l).length=2→(splitL 58 l)[1]?=some b∧b.length≠3):parseE l=(noE,false):=
 spec_edge_no fun a c hs=>by
  rw [hs] at h
  obtain⟨h1,h2⟩:=h rfl
  simp at h1
  rw [h1];exact h2
end Go.Q
namespace Go.Proofs.YtdhojcaoljhbiaaGreatDoor
open Go.RowKit Go.Q Go.D
theorem implParseEdge (l:List UInt8) (hz:l.length≤1073741824):FnT Tryz.prog 218 [.one (.v (.string (bs l)))] (.tup [.agg (cEdge (parseE l).1),.one (.v (.bool (parseE l).2))]):=by
 have hcc:=stringsCut (bs l) [58] (by rw [bs_size];omega)
 rw [bs_list] at hcc
 refine Bb Tryz.func218 U (by kernel_rfl) Tryz.ntmps218 U fun hlen w0=>?_
 try simp [cEdge] at hlen
 have hsz:=bs_size (Lib.cut l [58]).2.1
 refine Af (Au (Az 2 U U U C0 U U U) U ?_);refine Aj ?_;refine Aa (Af (Ab ?_));refine Br (hcc) ?_;refine Ac (B7 U (.no U) U U fun _=>rfl) U ?_;refine Ac (Ao U (.no U) U U (fun _=>rfl) U) U ?_;refine Ac (Ao U (.no U) U U (fun _=>rfl) U) U ?_;refine Ac (Ao U (.no U) U U (fun _=>rfl) U) U ?_;refine Ah ?_;refine Ah ?_;refine Ah ?_;refine Aa (Ae (Ae (Ar (Av [0,2,3,4,5] [2]) ?_)));refine Ad (Ab ?_);refine Ac (C4 U (.no U) U (.tm U) Tryz.underlying9) U ?_;refine AWl.nc ?_;refine Aa (Al (.tm U) (fun h16=>?_) (fun h16=>?_))
 · try simp at h16
   refine Af (Ac (Bw (ps:=[]) U U U C0 U U st101 .nil U) U ?_);refine An Ba ?_;refine Bf (Av [0,2,3,4,5,16] [2]) ?_;refine Aj ?_;refine Aa (Ap (Bg U (.cell U U Ba U U (.tmp U .nil)) U ?_ (by simp)))
   rw [parseE_short (by omega)];rfl
 try simp at h16
 obtain⟨x0,x1,x2,hx⟩:=three_bytes (x:=(Lib.cut l [58]).2.1) (by omega)
 have hb0:x0.toNat<256:=x0.toNat_lt
 have hb1:x1.toNat<256:=x1.toNat_lt
 have hb2:x2.toNat<256:=x2.toNat_lt
 refine Am (Ae (Ar (Av [0,2,3,4,5,14,15,16] [2]) ?_));refine AW.mixn 15 14 1 [0,1,2,3,4,5,6,7,8,9,10,11,12,13] [] [[],[0],[0,1],[0,1,2],[],[4],[4,5],[4,5,6],[],[8],[8,9],[8,9,10],[0,1,2,3,4,5,6,7,8,9,10,11],[],[0,1,2,3,4,5,6,7,8,9,10,11,12,13]] [[0,1,2,3,4,5,6,7,8,9,10,11,12,13],[0,1,2,3,4,5,6,7,8,9,10,11,12,13,14]] [(0,14,1)] [(0,[0,1,2,3,4,5,6,7,8,9,10,11,12,13])] (by kernel_rfl) (by kernel_rfl) (by kernel_rfl) (by kernel_rfl) U U ?_;refine DrawG.mv ?_;refine DrawG.s (fun _ hs=>B6 U (.no U) (Ag hs U) (hs.tm U) (.const U) Tryz.underlying9 (fun _=>⟨by omega,by rw [bs_get,hx];rfl⟩)) ?_;refine DrawG.s (fun _ hs=>De U (.no U) (Ag hs U) (hs.tm U) (by rw [Tryz.underlying5];rfl) Tryz.underlying3 (fun _=>(show IntKind.i64.wrap (x0.toNat:Int)=(x0.toNat:Int) from wrapI (by omega)))) ?_;refine DrawG.s (fun _ hs=>Dl U (.no U) (Ag hs U) (hs.tm U) (.const U) (fun _=>by omega)) ?_;refine DrawG.mv ?_
 refine DrawG.s (fun _ hs=>B6 U (.no U) (Ag hs U) (hs.tm U) (.const U) Tryz.underlying9 (fun _=>⟨by omega,by rw [bs_get,hx];rfl⟩)) ?_;refine DrawG.s (fun _ hs=>De U (.no U) (Ag hs U) (hs.tm U) (by rw [Tryz.underlying5];rfl) Tryz.underlying3 (fun _=>(show IntKind.i64.wrap (x1.toNat:Int)=(x1.toNat:Int) from wrapI (by omega)))) ?_;refine DrawG.s (fun _ hs=>Dl U (.no U) (Ag hs U) (hs.tm U) (.const U) (fun _=>by omega)) ?_;refine DrawG.mv ?_;refine DrawG.s (fun _ hs=>B6 U (.no U) (Ag hs U) (hs.tm U) (.const U) Tryz.underlying9 (fun _=>⟨by omega,by rw [bs_get,hx];rfl⟩)) ?_;refine DrawG.s (fun _ hs=>De U (.no U) (Ag hs U) (hs.tm U) (by rw [Tryz.underlying5];rfl) Tryz.underlying3 (fun _=>(show IntKind.i64.wrap (x2.toNat:Int)=(x2.toNat:Int) from wrapI (by omega)))) ?_;refine DrawG.s (fun _ hs=>Dl U (.no U) (Ag hs U) (hs.tm U) (.const U) (fun _=>by omega)) ?_
 refine DrawG.s (fun _ hs=>Bw (ps:=[(1,.tmp 21),(3,.tmp 25),(2,.tmp 29)]) U U (Ag hs U) C0 U U st101 (.cons (hs.tm U) U U fp101_1 (.cons (hs.tm U) U U fp101_3 (.cons (hs.tm U) U U fp101_2 .nil))) U) ?_;refine DrawG.step U U (Loc.of1 U fun σ' hs hf=>Az 7 U U (Ag hs U) C0 U U hf) ?_;refine DrawG.fin U (FinX.mk U U ?_);refine MixD.add ⟨_,[(0,_),(2,_),(3,_),(4,_),(5,_),(7,_),(16,_),(18,_),(19,_),(20,_),(21,_),(22,_),(23,_),(24,_),(25,_),(26,_),(27,_),(28,_),(29,_),(30,_)],[(2,_),(7,_)]⟩ rfl Ay ?_;refine MixD.go ?_;apply Aq (i:=14)
 case ha|ho|hb=>rfl
 case hE=>
  intro w9;refine An Ba ?_;exact Ak [0,2,3,4,5,7,16] [2,7]
 refine Dag.fin (k:=1) U ?_;refine Aa (Af (Ab ?_));refine Br (implParseInt (Lib.cut l [58]).1) ?_;refine Ac (B7 U (.no U) U U fun _=>rfl) U ?_;refine Ac (Ao U (.no U) U U (fun _=>rfl) U) U ?_;refine Ac (Ao U (.no U) U U (fun _=>rfl) U) U ?_;refine A8 Cx ?_;refine An ty3 ?_;refine Aa (Ae (Ae (Ar (Av [0,2,3,4,5,7] [2,7]) ?_)));refine Ad (Ai Ba ?_);refine Br (implFormatEdge (edgeX (Lib.cut l [58]).1 x0 x1 x2)) ?_;refine Ab ?_;refine Ac (R_nestr U (.no U) U (.tm U) (.tm U)) U ?_;refine Aa (Al (.tm U) (fun h40=>?_) (fun h40=>?_))
 · try simp at h40
   refine Af (Ac (Bw (ps:=[]) U U U C0 U U st101 .nil U) U ?_);refine An Ba ?_;refine Bf (Av [0,2,3,4,5,7,40] [2,7]) ?_;refine Aj ?_;refine Aa (Ap (Bg U (.cell U U Ba U U (.tmp U .nil)) U ?_ (by simp)))
   rw [parseE_bad hx h40];rfl
 try simp at h40
 refine Am (Af (Ai Ba ?_));refine An Ba ?_;refine Bf (Av [0,2,3,4,5,7,40] [2,7]) ?_;refine Aj ?_;refine Aa (Ap (Bg U (.cell U U Ba U U (.tmp U .nil)) U ?_ (by simp)))
 rw [parseE_yes hx h40];rfl
theorem specParseEdge (l:List UInt8) (hz:l.length≤1073741824):FnT Tryz.prog 176 [.one (.v (.string (bs l)))] (.tup [.agg (cEdge (parseE l).1),.one (.v (.bool (parseE l).2))]):=by
 obtain⟨b1,hb1⟩:∃ b1,(splitL 58 l).length=2→(splitL 58 l)[1]?=some b1:=⟨(splitL 58 l)[1]?.getD [],fun h=>by rw [List.getElem?_eq_getElem (by omega)];rfl⟩
 refine Bb Tryz.func176 U (by kernel_rfl) Tryz.ntmps176 U fun hlen w0=>?_
 try simp [cEdge] at hlen
 have hsz:=bs_size b1
 refine Af (Au (Az 2 U U U C0 U U U) U ?_);refine Aj ?_;refine Aa (Af (Ab ?_));refine Br (specl2Cut l 58 hz) ?_;refine Ah ?_;refine Aa (Ae (Af (Ab ?_)));refine Bu (.t) Tryz.underlying102 ?_;refine AWl.nc ?_;refine Ab ?_;refine Co ?_;refine Ac ((by exact Aw U (by exact .not1 U U U U) U (.tmp U (by exact id)) (.const U) Tryz.underlying102 ty9 (fun hq=>⟨by omega,A5 (hb1 (by simp at hq;omega))⟩))) U ?_;refine AWl.lw ty9 ?_;refine Ac (C4 U (by exact .not1 U U U U) U (.tmp U (by exact id)) Tryz.underlying9) U ?_;refine Ac (R_ne U (by exact .not1 U U U U) U (.tmp U (by exact id)) (.const U)) U ?_;refine Ci ?_;refine Aa (Al (.tm U) (fun h21=>?_) (fun h21=>?_))
 · try simp at h21
   refine Ae (Ar (Av [0,2,3,4] [2]) ?_);refine Ad (Ac (Bw (ps:=[]) U U U C0 U U st101 .nil U) U ?_);refine An Ba ?_;refine Bf (Av [0,2,3,4] [2]) ?_;refine Aj ?_;refine Aa (Ap (Bg U (.cell U U Ba U U (.tmp U .nil)) U ?_ (by simp)))
   rw [parseE_sno (b:=b1) (fun h=>⟨hb1 h,by first|omega|(simp at h21;omega)⟩)];rfl
 try simp at h21
 have hl2:(splitL 58 l).length=2:=by (first|omega|(simp at h21;omega))
 have hb1:=hb1 hl2
 obtain⟨a0,ha0⟩:∃ a0,(splitL 58 l)[0]?=some a0:=⟨_,List.getElem?_eq_getElem (by omega)⟩
 obtain⟨x0,x1,x2,hx⟩:=three_bytes (x:=b1) (by omega)
 have hab:=two_parts hl2 ha0 hb1
 have hbb0:x0.toNat<256:=x0.toNat_lt
 have hbb2:x2.toNat<256:=x2.toNat_lt
 have hlp:=letP_le [x1]
 have hall:=(splitL_mem (c:=58) (l:=l) (x:=a0) (List.mem_of_getElem? ha0)).2
 have hpl:FnT Tryz.prog 225 [.one (.v (.string ((bs b1).extract 1 2)))] (.tup [.one (.v (.int .i64 (letP [x1]).1)),.one (.v (.bool (letP [x1]).2))]):=by (rw [bs_extract,hx];exact specParseLetter [x1])
 refine Am (Ae (Ar (Av [0,2,3,4] [2]) ?_));refine Ad (Ab ?_);refine Ac (Aw U (.no U) U (.tm U) (.const U) Tryz.underlying102 ty9 (fun _=>⟨by omega,A5 ha0⟩)) U ?_;refine A3 ty9 ?_;refine Ac (Bo (FnT.fr (specParseInt a0 (by omega))) U (.no U) U (.cons (.tm U) U .nil)) U ?_;refine Ac (B7 U (.no U) U U fun _=>rfl) U ?_;refine Ac (Ao U (.no U) U U (fun _=>rfl) U) U ?_;refine Ac (Ao U (.no U) U U (fun _=>rfl) U) U ?_;refine Ah ?_;refine Ah ?_;refine Aa (Ae (Ar (Av [0,2,3,4,5] [2]) ?_));refine Ad (Ab ?_);refine Ac (Aw U (.no U) U (.tm U) (.const U) Tryz.underlying102 ty9 (fun _=>⟨by omega,A5 hb1⟩)) U ?_;refine A3 ty9 ?_;refine Ac (Cl (n:=1) (m:=2) U (.no U) U (.tm U) (.yes (.const U) (fun _=>by first|omega|(simp<;>omega))) (.yes (.const U) (fun _=>by first|omega|(simp<;>omega))) Tryz.underlying9 (fun _=>⟨by omega,by first|omega|(simp;omega)⟩)) U ?_;refine Br (hpl) ?_
 refine Ac (B7 U (.no U) U U fun _=>rfl) U ?_;refine Ac (Ao U (.no U) U U (fun _=>rfl) U) U ?_;refine Ac (Ao U (.no U) U U (fun _=>rfl) U) U ?_;refine Ah ?_;refine Ah ?_;refine Aa (Ae (Ar (Av [0,2,3,4,5,7] [2]) ?_));refine Ar (Av [0,2,3,4,5,7] [2]) ?_;refine AW.mixn 18 17 1 [0,1,2,3,4,5,6,7,8,9,10,11,12,13,14,15,16] [] [[],[],[1],[1,2],[1,2,3],[1,2,3,4],[1,2,3,4,5],[],[7],[7,8],[7,8,9],[7,8,9,10],[7,8,9,10,11],[],[13],[0,1,2,3,4,5,6,7,8,9,10,11,12,13,14],[],[0,1,2,3,4,5,6,7,8,9,10,11,12,13,14,15,16]] [[0,1,2,3,4,5,6,7,8,9,10,11,12,13,14,15,16],[0,1,2,3,4,5,6,7,8,9,10,11,12,13,14,15,16,17]] [(0,17,1)] [(0,[0,1,2,3,4,5,6,7,8,9,10,11,12,13,14,15,16])] (by kernel_rfl) (by kernel_rfl) (by kernel_rfl) (by kernel_rfl) U U ?_;refine DrawG.mv ?_;refine DrawG.mv ?_
 refine DrawG.s (fun _ hs=>(by exact Aw U (.no U) (Ag hs U) (hs.tm U) (.const U) Tryz.underlying102 ty9 (fun _=>⟨by omega,A5 hb1⟩))) ?_;refine DrawG.s (fun _ hs=>(by exact Bl U (.no U) (Ag hs U) (hs.tm U) ty9 U U)) ?_;refine DrawG.s (fun _ hs=>B6 U (.no U) (Ag hs U) (hs.tm U) (.const U) Tryz.underlying9 (fun _=>⟨by omega,by rw [bs_get,hx];rfl⟩)) ?_;refine DrawG.s (fun _ hs=>De U (.no U) (Ag hs U) (hs.tm U) (by rw [Tryz.underlying5];rfl) Tryz.underlying3 (fun _=>(show IntKind.i64.wrap (x0.toNat:Int)=(x0.toNat:Int) from wrapI (by omega)))) ?_;refine DrawG.s (fun _ hs=>Dl U (.no U) (Ag hs U) (hs.tm U) (.const U) (fun _=>by omega)) ?_;refine DrawG.mv ?_;refine DrawG.s (fun _ hs=>(by exact Aw U (.no U) (Ag hs U) (hs.tm U) (.const U) Tryz.underlying102 ty9 (fun _=>⟨by omega,A5 hb1⟩))) ?_;refine DrawG.s (fun _ hs=>(by exact Bl U (.no U) (Ag hs U) (hs.tm U) ty9 U U)) ?_
 refine DrawG.s (fun _ hs=>B6 U (.no U) (Ag hs U) (hs.tm U) (.const U) Tryz.underlying9 (fun _=>⟨by omega,by rw [bs_get,hx];rfl⟩)) ?_;refine DrawG.s (fun _ hs=>De U (.no U) (Ag hs U) (hs.tm U) (by rw [Tryz.underlying5];rfl) Tryz.underlying3 (fun _=>(show IntKind.i64.wrap (x2.toNat:Int)=(x2.toNat:Int) from wrapI (by omega)))) ?_;refine DrawG.s (fun _ hs=>Dl U (.no U) (Ag hs U) (hs.tm U) (.const U) (fun _=>by omega)) ?_;refine DrawG.mv ?_;refine DrawG.s (fun _ hs=>R_quo U (.no U) (Ag hs U) (hs.tm U) (.const U) (fun _=>by omega)) ?_;refine DrawG.s (fun _ hs=>Bw (ps:=[(0,.tmp 38),(1,.tmp 44),(2,.tmp 50),(3,.tmp 52)]) U U (Ag hs U) C0 U U st101 (.cons (hs.tm U) U U fp101_0 (.cons (hs.tm U) U U fp101_1 (.cons (hs.tm U) U U fp101_2 (.cons (hs.tm U) U U fp101_3 .nil)))) U) ?_;refine DrawG.step U U (Loc.of1 U fun σ' hs hf=>Az 9 U U (Ag hs U) C0 U U hf) ?_;refine DrawG.fin U (FinX.mk U U ?_)
 refine MixD.add ⟨_,[(0,_),(2,_),(3,_),(4,_),(5,_),(7,_),(9,_),(38,_),(39,_),(40,_),(41,_),(42,_),(43,_),(44,_),(45,_),(46,_),(47,_),(48,_),(49,_),(50,_),(51,_),(52,_),(53,_)],[(2,_),(9,_)]⟩ rfl Ay ?_;refine MixD.go ?_;apply Aq (i:=17)
 case ha|ho|hb=>rfl
 case hE=>
  intro w9;refine An Ba ?_;exact Ak [0,2,3,4,5,7,9] [2,9]
 refine Dag.fin (k:=1) U ?_;refine Aa (Ae (Af (Ai Ba ?_)));refine Br (specFormatEdge (edgeY a0 x0 x1 x2)) ?_;refine Ab ?_;refine Ac (R_nestr U (.no U) U (.tm U) (.tm U)) U ?_;refine Aa (Al (.tm U) (fun h57=>?_) (fun h57=>?_))
 · try simp at h57
   refine Af (Ac (Bw (ps:=[]) U U U C0 U U st101 .nil U) U ?_);refine An Ba ?_;refine Bf (Av [0,2,3,4,5,7,9,57] [2,9]) ?_;refine Aj ?_;refine Aa (Ap (Bg U (.cell U U Ba U U (.tmp U .nil)) U ?_ (by simp)))
   rw [parseE_sbad (by rw [hab,hx]) h57];rfl
 try simp at h57
 refine Am (Af (Ai Ba ?_));refine An Ba ?_;refine Bf (Av [0,2,3,4,5,7,9,57] [2,9]) ?_;refine Aj ?_;refine Aa (Ap (Bg U (.cell U U Ba U U (.tmp U .nil)) U ?_ (by simp)))
 rw [parseE_syes (by rw [hab,hx]) h57];rfl
end Go.Proofs.YtdhojcaoljhbiaaGreatDoor
