import Derived.Test.YtdhojcaoljhbiaaGreatBExs
set_option linter.unusedVariables false
set_option linter.unusedSimpArgs false
set_option maxHeartbeats 1000000
set_option maxRecDepth 100000
namespace Go.Q
open Go.D
structure ShA (a:TAutomaton):Prop where
 nl:a.Next.length=a.Accept.length
 rl:∀ r∈a.Next,r.length=9
 st:0≤a.Start∧a.Start<a.Accept.length
 rg:∀ s k,s<a.Accept.length→k<9→ -1≤nxA a s k∧nxA a s k<a.Accept.length
def liveS (a:TAutomaton) (s:Int):Prop:=∃ w,inW w∧LA a s w=true
def gB (l:List Bool) (i:Nat):Bool:=l[i]?.getD false
theorem gB_set {l:List Bool} {i j:Nat} (h:i<l.length):gB (l.set i true) j=true↔j=i∨gB l j=true:=by
 unfold gB
 rw [List.getElem?_set]
 by_cases e:i=j
 · subst e;simp [h]
 rw [if_neg e]
 exact⟨.inr,fun hh=>hh.resolve_left fun e'=>e e'.symm⟩
theorem gB_lt {l:List Bool} {i:Nat} (h:gB l i=true):i<l.length:=by
 rcases Nat.lt_or_ge i l.length with hl|hl
 · exact hl
 unfold gB at h;rw [List.getElem?_eq_none hl] at h;cases h
theorem live_acc {a:TAutomaton} {s:Nat} (h:acA a s=true):liveS a s:=⟨[],inW_nil,by unfold LA;rw [Int.toNat_natCast,h];simp⟩
theorem live_step {a:TAutomaton} {s k:Nat} (hk:k<9) (h:liveS a (nxA a s k)):liveS a s:=by
 obtain⟨w,hw,hl⟩:=h
 exact⟨k::w,inW_cons.2 ⟨hk,hw⟩,by rw [LA_cons];exact hl⟩
theorem live_nn {a:TAutomaton} {s:Int} (h:liveS a s):0≤s:=by
 obtain⟨w,_,hl⟩:=h
 rcases Int.lt_or_le s 0 with h|h
 · rw [LA_neg a w h] at hl;cases hl
 exact h
def closedB (a:TAutomaton) (l:List Bool):Prop:=∀ s k,s<a.Accept.length→k<9→0≤nxA a s k→gB l (nxA a s k).toNat=true→gB l s=true
structure LvM (a:TAutomaton) (O0 out:List Bool) (s k:Nat):Prop where
 len:out.length=a.Accept.length
 mono:∀ i,gB O0 i=true→gB out i=true
 snd:∀ i,gB out i=true→liveS a i
 done:∀ s' k',s'<a.Accept.length→k'<9→(s'<s∨s'=s∧k'<k)→0≤nxA a s' k'→gB O0 (nxA a s' k').toNat=true→gB out s'=true
 stay:closedB a O0→out=O0
structure LvR (a:TAutomaton) (n:Nat) (out:List Bool):Prop where
 len:out.length=a.Accept.length
 acc:∀ i,acA a i=true→gB out i=true
 snd:∀ i,gB out i=true→liveS a i
 big:closedB a out∨n≤out.countP id
def LiveOf (a:TAutomaton) (l:List Bool):Prop:=l.length=a.Accept.length∧∀ s:Nat,gB l s=true↔(s<a.Accept.length∧liveS a s)
theorem LvR.start (a:TAutomaton):LvR a 0 a.Accept:=⟨rfl,fun _ h=>h,fun _ h=>live_acc h,.inr (Nat.zero_le _)⟩
theorem LvR.round {a:TAutomaton} {n:Nat} {out:List Bool} (h:LvR a n out):LvM a out out 0 0:=⟨h.len,fun _ h=>h,h.snd,fun s' k' _ _ h1=>by omega,fun _=>rfl⟩
theorem LvM.hit {a:TAutomaton} {O0 out:List Bool} {s k:Nat} (h:LvM a O0 out s k) (hs:s<a.Accept.length) (hk:k<9) (h0:0≤nxA a s k) (ho:gB out (nxA a s k).toNat=true):LvM a O0 (out.set s true) s (k+1):=by
 have hsl:s<out.length:=by rw [h.len];exact hs
 refine⟨by rw [List.length_set];exact h.len,fun i hi=>(gB_set hsl).2 (.inr (h.mono i hi)),fun i hi=>?_,fun s' k' h1 h2 h3 h4 h5=>?_,fun hc=>?_⟩
 · rcases (gB_set hsl).1 hi with e|hi
   · subst e
     refine live_step hk ?_
     have:=h.snd _ ho
     rwa [Int.toNat_of_nonneg h0] at this
   exact h.snd i hi
 · refine (gB_set hsl).2 ?_
   by_cases e:s'=s
   · exact .inl e
   exact .inr (h.done s' k' h1 h2 (by omega) h4 h5)
 have e:=h.stay hc
 subst e
 have hg:=hc s k hs hk h0 ho
 refine List.ext_getElem? fun i=>?_
 rw [List.getElem?_set]
 split
 · rename_i e
   subst e
   unfold gB at hg
   rw [List.getElem?_eq_getElem hsl] at hg ⊢
   simpa using hg.symm
 rfl
theorem LvM.skip {a:TAutomaton} {O0 out:List Bool} {s k:Nat} (h:LvM a O0 out s k) (hn:¬ (0≤nxA a s k∧gB out (nxA a s k).toNat=true)):LvM a O0 out s (k+1):=
 ⟨h.len,h.mono,h.snd,fun s' k' h1 h2 h3 h4 h5=>by
  by_cases e:s'=s∧k'=k
  · obtain⟨rfl,rfl⟩:=e
    exact absurd ⟨h4,h.mono _ h5⟩ hn
  exact h.done s' k' h1 h2 (by omega) h4 h5,h.stay⟩
theorem LvM.row {a:TAutomaton} {O0 out:List Bool} {s k:Nat} (h:LvM a O0 out s k) (hk:9≤k):LvM a O0 out (s+1) 0:=
 ⟨h.len,h.mono,h.snd,fun s' k' h1 h2 h3 h4 h5=>h.done s' k' h1 h2 (by omega) h4 h5,h.stay⟩
theorem countP_lt:∀ {l r:List Bool},l.length=r.length→(∀ i,gB l i=true→gB r i=true)→l.countP id≤r.countP id∧((∃ i,gB l i=false∧gB r i=true)→l.countP id<r.countP id)
 | [],[],_,_=>⟨Nat.le_refl _,fun ⟨i,_,h⟩=>by simp [gB] at h⟩
 | x::l,y::r,hl,h=>by
  have ih:=countP_lt (l:=l) (r:=r) (by simpa using hl) fun i hi=>h (i+1) hi
  have h0:x=true→y=true:=fun e=>h 0 e
  rw [List.countP_cons,List.countP_cons]
  simp only [id]
  constructor
  · have:=ih.1
    cases x<;>cases y<;>simp_all<;>omega
  rintro⟨i,h1,h2⟩
  cases i with
  | zero=>
   have e1:x=false:=h1
   have e2:y=true:=h2
   have:=ih.1
   subst e1;subst e2
   simp;omega
  | succ i=>
   have:=ih.2 ⟨i,h1,h2⟩
   cases x<;>cases y<;>simp_all<;>omega
theorem LvM.fin {a:TAutomaton} {n s:Nat} {O0 out:List Bool} (hR:LvR a n O0) (h:LvM a O0 out s 0) (hs:a.Accept.length≤s):LvR a (n+1) out:=by
 refine⟨h.len,fun i hi=>h.mono i (hR.acc i hi),h.snd,?_⟩
 by_cases hc:closedB a O0
 · rw [h.stay hc];exact .inl hc
 have hn:=hR.big.resolve_left hc
 right
 have h1:=countP_lt (hR.len.trans h.len.symm) h.mono
 refine Nat.lt_of_le_of_lt hn (h1.2 ?_)
 unfold closedB at hc
 simp only [Classical.not_forall] at hc
 obtain⟨s',k',h2,h3,h4,h5,h6⟩:=hc
 exact⟨s',by simpa using h6,h.done s' k' h2 h3 (by omega) h4 h5⟩
theorem closed_all {a:TAutomaton} (hA:ShA a) {l:List Bool} (hacc:∀ i,acA a i=true→gB l i=true) (hc:closedB a l):∀ (w:List Nat) (s:Nat),s<a.Accept.length→inW w→LA a s w=true→gB l s=true
 | [],s,_,_,h=>hacc s (by unfold LA at h;rw [Int.toNat_natCast] at h;simpa using h)
 | k::w,s,hs,hw,h=>by
  obtain⟨hk,hw⟩:=inW_cons.1 hw
  rw [LA_cons] at h
  have h0:0≤nxA a s k:=by
   rcases Int.lt_or_le (nxA a s k) 0 with h1|h1
   · rw [LA_neg a w h1] at h;cases h
   exact h1
  have hr:=hA.rg s k hs hk
  exact hc s k hs hk h0 (closed_all hA hacc hc w _ (by omega) hw (by rw [Int.toNat_of_nonneg h0];exact h))
theorem countP_full:∀ {l:List Bool},l.length≤l.countP id→∀ i,i<l.length→gB l i=true
 | [],_,_,h=>by simp at h
 | x::l,hl,i,hi=>by
  rw [List.countP_cons,List.length_cons] at hl
  have:=List.countP_le_length (p:=id) (l:=l)
  cases x with
  | false=>simp at hl;omega
  | true=>
   cases i with
   | zero=>rfl
   | succ i=>exact countP_full (l:=l) (by simp at hl;omega) i (by simpa using hi)
theorem LvR.live {a:TAutomaton} (hA:ShA a) {n:Nat} {out:List Bool} (h:LvR a n out) (hn:a.Accept.length≤n):LiveOf a out:=by
 refine⟨h.len,fun s=>⟨fun hs=>⟨by rw [←h.len];exact gB_lt hs,h.snd s hs⟩,fun ⟨hs,w,hw,hl⟩=>?_⟩⟩
 rcases h.big with hc|hc
 · exact closed_all hA h.acc hc w s hs hw hl
 exact countP_full (by rw [h.len];omega) s (by rw [h.len];exact hs)
def gI (l:List Int) (i:Nat):Int:=l[i]?.getD (-1)
def entA (a:TAutomaton) (c:List Int) (s k:Nat):Int:=if nxA a s k<0 then -1 else gI c (nxA a s k).toNat
def keyA (a:TAutomaton) (c:List Int) (s:Nat):List Int:=gI c s::(List.range 9).map (entA a c s)
theorem keyA_head {a:TAutomaton} {c:List Int} {s t:Nat} (h:keyA a c s=keyA a c t):gI c s=gI c t:=by
 unfold keyA at h;exact (List.cons.inj h).1
theorem keyA_at {a:TAutomaton} {c:List Int} {s t:Nat} (h:keyA a c s=keyA a c t) {k:Nat} (hk:k<9):entA a c s k=entA a c t k:=by
 unfold keyA at h
 have:=congrArg (fun l=>l[k]?) (List.cons.inj h).2
 simp only [List.getElem?_map,List.getElem?_range hk,Option.map_some,Option.some.injEq] at this
 exact this
theorem keyA_of {a:TAutomaton} {c:List Int} {s t:Nat} (h0:gI c s=gI c t) (h:∀ k,k<9→entA a c s k=entA a c t k):keyA a c s=keyA a c t:=by
 unfold keyA
 rw [h0]
 congr 1
 exact List.map_congr_left fun k hk=>h k (List.mem_range.1 hk)
def stableA (a:TAutomaton) (c:List Int):Prop:=∀ s t,s<a.Accept.length→t<a.Accept.length→0≤gI c s→gI c s=gI c t→keyA a c s=keyA a c t
def sameL (a:TAutomaton) (s t:Int):Prop:=∀ w,inW w→LA a s w=LA a t w
structure ClM (a:TAutomaton) (n:Nat) (c:List Int):Prop where
 len:c.length=a.Accept.length
 dead:∀ s:Nat,s<a.Accept.length→¬ liveS a s→gI c s=-1
 nn:∀ s:Nat,s<a.Accept.length→liveS a s→0≤gI c s
 co:∀ s t:Nat,s<a.Accept.length→t<a.Accept.length→liveS a s→sameL a s t→gI c s=gI c t
 ac:∀ s t:Nat,s<a.Accept.length→t<a.Accept.length→0≤gI c s→gI c s=gI c t→acA a s=acA a t
 big:stableA a c∨∃ D:List Int,D.Nodup∧D.length=n+1∧∀ d∈D,0≤d∧d∈c
structure RdM (a:TAutomaton) (c:List Int) (s:Nat) (K:List (List Int)) (N:List Int):Prop where
 len:N.length=s
 nod:K.Nodup
 kl:K.length≤s
 dead:∀ t,t<s→gI c t<0→gI N t=-1
 key:∀ t,t<s→0≤gI c t→∃ j:Nat,gI N t=(j:Int)∧K[j]?=some (keyA a c t)
 k10:∀ x∈K,x.length=10
theorem keyA_len (a:TAutomaton) (c:List Int) (s:Nat):(keyA a c s).length=10:=by unfold keyA;simp
theorem RdM.start (a:TAutomaton) (c:List Int):RdM a c 0 [] []:=⟨rfl,List.nodup_nil,Nat.le_refl _,fun _ h=>absurd h (Nat.not_lt_zero _),fun _ h=>absurd h (Nat.not_lt_zero _),fun _ h=>by cases h⟩
theorem gI_snoc {N:List Int} {s t:Nat} {v:Int} (hl:N.length=s) (ht:t<s+1):gI (N++[v]) t=if t=s then v else gI N t:=by
 unfold gI
 split
 · rename_i e;subst e;rw [←hl,List.getElem?_append_right (Nat.le_refl _)];simp
 rw [List.getElem?_append_left (by omega)]
theorem RdM.skip {a:TAutomaton} {c:List Int} {s:Nat} {K:List (List Int)} {N:List Int} (h:RdM a c s K N) (hd:gI c s<0):RdM a c (s+1) K (N++[-1]):=by
 refine⟨by rw [List.length_append,h.len];rfl,h.nod,by have:=h.kl;omega,fun t ht h0=>?_,fun t ht h0=>?_,h.k10⟩
 · rw [gI_snoc h.len ht]
   split
   · rfl
   exact h.dead t (by omega) h0
 rw [gI_snoc h.len ht]
 split
 · rename_i e;subst e;omega
 exact h.key t (by omega) h0
theorem RdM.old {a:TAutomaton} {c:List Int} {s j:Nat} {K:List (List Int)} {N:List Int} (h:RdM a c s K N) (hd:0≤gI c s) (hj:K[j]?=some (keyA a c s)):RdM a c (s+1) K (N++[(j:Int)]):=by
 refine⟨by rw [List.length_append,h.len];rfl,h.nod,by have:=h.kl;omega,fun t ht h0=>?_,fun t ht h0=>?_,h.k10⟩
 · rw [gI_snoc h.len ht]
   split
   · rename_i e;subst e;omega
   exact h.dead t (by omega) h0
 rw [gI_snoc h.len ht]
 split
 · rename_i e;subst e;exact⟨j,rfl,hj⟩
 exact h.key t (by omega) h0
theorem RdM.new {a:TAutomaton} {c:List Int} {s:Nat} {K:List (List Int)} {N:List Int} (h:RdM a c s K N) (hd:0≤gI c s) (hn:keyA a c s∉K):RdM a c (s+1) (K++[keyA a c s]) (N++[(K.length:Int)]):=by
 refine⟨by rw [List.length_append,h.len];rfl,?_,by have:=h.kl;simp;omega,fun t ht h0=>?_,fun t ht h0=>?_,fun x hx=>?_⟩
 · rw [List.nodup_append]
   exact⟨h.nod,by simp,fun x hx y hy e=>by rw [List.mem_singleton] at hy;subst hy;subst e;exact hn hx⟩
 · rw [gI_snoc h.len ht]
   split
   · rename_i e;subst e;omega
   exact h.dead t (by omega) h0
 · rw [gI_snoc h.len ht]
   split
   · rename_i e;subst e;exact⟨K.length,rfl,by rw [List.getElem?_append_right (Nat.le_refl _)];simp⟩
   obtain⟨j,h1,h2⟩:=h.key t (by omega) h0
   exact⟨j,h1,by rw [List.getElem?_append_left (List.getElem?_eq_some_iff.1 h2).1];exact h2⟩
 rcases List.mem_append.1 hx with hx|hx
 · exact h.k10 x hx
 rw [List.mem_singleton] at hx;subst hx;exact keyA_len a c s
theorem nodup_at {α:Type} {l:List α} (h:l.Nodup) {i j:Nat} {x:α} (hi:l[i]?=some x) (hj:l[j]?=some x):i=j:=by
 obtain⟨h1,e1⟩:=List.getElem?_eq_some_iff.1 hi
 obtain⟨h2,e2⟩:=List.getElem?_eq_some_iff.1 hj
 have hp:=List.pairwise_iff_getElem.1 h
 rcases Nat.lt_trichotomy i j with hl|hl|hl
 · exact absurd (e1.trans e2.symm) (hp i j h1 h2 hl)
 · exact hl
 exact absurd (e2.trans e1.symm) (hp j i h2 h1 hl)
theorem RdM.eq_iff {a:TAutomaton} {c:List Int} {n:Nat} {K:List (List Int)} {N:List Int} (h:RdM a c n K N) {s t:Nat} (hs:s<n) (ht:t<n) (h0:0≤gI c s) (h1:0≤gI c t):gI N s=gI N t↔keyA a c s=keyA a c t:=by
 obtain⟨j,e1,k1⟩:=h.key s hs h0
 obtain⟨i,e2,k2⟩:=h.key t ht h1
 constructor
 · intro e
   have:i=j:=by omega
   subst this;exact Option.some.inj (k1.symm.trans k2)
 intro e
 rw [e] at k1
 rw [e1,e2,nodup_at h.nod k1 k2]
theorem gI_mem {l:List Int} {d:Int} (h:d∈l):∃ s,s<l.length∧gI l s=d:=by
 obtain⟨s,hs,e⟩:=List.mem_iff_getElem.1 h
 exact⟨s,hs,by unfold gI;rw [List.getElem?_eq_getElem hs];exact e⟩
theorem mem_gI {l:List Int} {s:Nat} (h:s<l.length):gI l s∈l:=by
 unfold gI;rw [List.getElem?_eq_getElem h];exact List.getElem_mem h
theorem ClM.ent {a:TAutomaton} (hA:ShA a) {n:Nat} {c:List Int} (h:ClM a n c) {s t:Nat} (hs:s<a.Accept.length) (ht:t<a.Accept.length) (hL:sameL a s t) {k:Nat} (hk:k<9):entA a c s k=entA a c t k:=by
 have r1:=hA.rg s k hs hk
 have r2:=hA.rg t k ht hk
 have hLk:sameL a (nxA a s k) (nxA a t k):=fun w hw=>by
  have:=hL (k::w) (inW_cons.2 ⟨hk,hw⟩)
  rwa [LA_cons,LA_cons] at this
 by_cases hl:liveS a (nxA a s k)
 · have h1:=live_nn hl
   obtain⟨w,hw,hl2⟩:=hl
   have hl3:liveS a (nxA a t k):=⟨w,hw,by rw [←hLk w hw];exact hl2⟩
   have h2:=live_nn hl3
   unfold entA
   rw [if_neg (by omega),if_neg (by omega)]
   refine h.co _ _ (by omega) (by omega) ?_ ?_
   · rw [Int.toNat_of_nonneg h1];exact⟨w,hw,hl2⟩
   rw [Int.toNat_of_nonneg h1,Int.toNat_of_nonneg h2];exact hLk
 have hl3:¬ liveS a (nxA a t k):=fun ⟨w,hw,e⟩=>hl ⟨w,hw,by rw [hLk w hw];exact e⟩
 have key:∀ u,u<a.Accept.length→ -1≤nxA a u k→nxA a u k<a.Accept.length→¬ liveS a (nxA a u k)→entA a c u k=-1:=fun u _ _ r hn=>by
  unfold entA
  split
  · rfl
  refine h.dead _ (by omega) ?_
  rw [Int.toNat_of_nonneg (by omega)]
  exact hn
 rw [key s hs r1.1 r1.2 hl,key t ht r2.1 r2.2 hl3]
theorem ClM.lv {a:TAutomaton} {n:Nat} {c:List Int} (h:ClM a n c) {s:Nat} (hs:s<a.Accept.length):0≤gI c s↔liveS a s:=by
 constructor
 · intro h0
   by_cases hl:liveS a s
   · exact hl
   have:=h.dead s hs hl;omega
 exact h.nn s hs
theorem ClM.next {a:TAutomaton} (hA:ShA a) {n:Nat} {c N:List Int} {K:List (List Int)} (h:ClM a n c) (hr:RdM a c a.Accept.length K N):ClM a (n+1) N:=by
 have hlv:=fun s (hs:s<a.Accept.length)=>h.lv hs
 have hN:∀ s,s<a.Accept.length→(0≤gI N s↔0≤gI c s):=fun s hs=>by
  rcases Int.lt_or_le (gI c s) 0 with h0|h0
  · rw [hr.dead s hs h0];omega
  obtain⟨j,e,_⟩:=hr.key s hs h0;omega
 refine⟨hr.len,fun s hs hl=>hr.dead s hs (by rw [h.dead s hs hl];omega),fun s hs hl=>(hN s hs).2 (h.nn s hs hl),fun s t hs ht hl hL=>?_,fun s t hs ht h0 e=>?_,?_⟩
 · have hl2:liveS a t:=by obtain⟨w,hw,e⟩:=hl;exact⟨w,hw,by rw [←hL w hw];exact e⟩
   refine (hr.eq_iff hs ht (h.nn s hs hl) (h.nn t ht hl2)).2 ?_;exact keyA_of (h.co s t hs ht hl hL) fun k hk=>h.ent hA hs ht hL hk
 · have h1:=(hN s hs).1 h0
   have h2:=(hN t ht).1 (by omega)
   exact h.ac s t hs ht h1 (keyA_head ((hr.eq_iff hs ht h1 h2).1 e))
 by_cases hst:stableA a c
 · left
   intro s t hs ht h0 e
   have h1:=(hN s hs).1 h0
   have h2:=(hN t ht).1 (by omega)
   have hk:=(hr.eq_iff hs ht h1 h2).1 e
   refine keyA_of e fun k hk9=>?_
   have r1:=hA.rg s k hs hk9
   have r2:=hA.rg t k ht hk9
   have he:=keyA_at hk hk9
   have dd:∀ u,u<a.Accept.length→gI c u<0→gI c u=-1:=fun u hu hd=>by
    by_cases hl:liveS a u
    · have:=h.nn u hu hl;omega
    exact h.dead u hu hl
   unfold entA at he ⊢
   by_cases g1:nxA a s k<0
   · rw [if_pos g1] at he ⊢
     by_cases g2:nxA a t k<0
     · rw [if_pos g2]
     rw [if_neg g2] at he ⊢
     rw [hr.dead _ (by omega) (by omega)]
   rw [if_neg g1] at he ⊢
   by_cases g2:nxA a t k<0
   · rw [if_pos g2] at he ⊢
     rw [hr.dead _ (by omega) (by omega)]
   rw [if_neg g2] at he ⊢
   rcases Int.lt_or_le (gI c (nxA a s k).toNat) 0 with hd|hd
   · rw [hr.dead _ (by omega) hd,hr.dead _ (by omega) (by omega)]
   exact (hr.eq_iff (by omega) (by omega) hd (by omega)).2 (hst _ _ (by omega) (by omega) hd he)
 right
 obtain⟨D,d1,d2,d3⟩:=h.big.resolve_left hst
 unfold stableA at hst
 simp only [Classical.not_forall] at hst
 obtain⟨s,t,hs,ht,h0,e,hk⟩:=hst
 have hne:gI N s≠gI N t:=fun e2=>hk ((hr.eq_iff hs ht h0 (by omega)).1 e2)
 have hpick:∀ d:Int,∃ u:Nat,d∈D→u<a.Accept.length∧gI c u=d:=fun d=>by
  by_cases hd:d∈D
  · obtain⟨u,hu,eu⟩:=gI_mem (d3 d hd).2
    exact⟨u,fun _=>⟨by rw [←h.len];exact hu,eu⟩⟩
  exact⟨0,fun h=>absurd h hd⟩
 obtain⟨f,hf⟩:=Classical.axiomOfChoice hpick
 obtain⟨o,ho,hoc,hod⟩:∃ o,o<a.Accept.length∧gI c o=gI c s∧∀ d∈D,gI N o≠gI N (f d):=by
  by_cases e1:gI N s=gI N (f (gI c s))
  · refine⟨t,ht,e.symm,fun d hd e2=>?_⟩
    have hfd:=hf d hd
    have h5:=(hr.eq_iff ht hfd.1 (by omega) (by rw [hfd.2];exact (d3 d hd).1)).1 e2
    have h6:=keyA_head h5
    rw [hfd.2] at h6
    have h7:d=gI c s:=by omega
    rw [h7] at e2
    exact hne (e1.trans e2.symm)
  refine⟨s,hs,rfl,fun d hd e2=>?_⟩
  have hfd:=hf d hd
  have h5:=(hr.eq_iff hs hfd.1 h0 (by rw [hfd.2];exact (d3 d hd).1)).1 e2
  have h6:=keyA_head h5
  rw [hfd.2] at h6
  rw [←h6] at e2
  exact e1 e2
 refine⟨D.map (fun d=>gI N (f d))++[gI N o],?_,by simp [d2],fun d hd=>?_⟩
 · rw [List.nodup_append]
   refine⟨?_,by simp,fun x hx y hy e3=>?_⟩
   · refine List.pairwise_map.2 (List.Pairwise.imp_of_mem (fun {x y} hx hy hxy e3=>?_) d1)
     have hfx:=hf x hx
     have hfy:=hf y hy
     have h5:=keyA_head ((hr.eq_iff hfx.1 hfy.1 (by rw [hfx.2];exact (d3 x hx).1) (by rw [hfy.2];exact (d3 y hy).1)).1 e3)
     rw [hfx.2,hfy.2] at h5
     exact hxy h5
   rw [List.mem_singleton] at hy
   obtain⟨d,hd,rfl⟩:=List.mem_map.1 hx
   subst hy;exact hod d hd e3.symm
 rcases List.mem_append.1 hd with hd|hd
 · obtain⟨d',hd',rfl⟩:=List.mem_map.1 hd
   have hfd:=hf d' hd'
   exact⟨(hN _ hfd.1).2 (by rw [hfd.2];exact (d3 d' hd').1),mem_gI (by rw [hr.len];exact hfd.1)⟩
 rw [List.mem_singleton] at hd
 subst hd
 exact⟨(hN _ ho).2 (by omega),mem_gI (by rw [hr.len];exact ho)⟩
def ClsOf (a:TAutomaton) (c:List Int):Prop:=c.length=a.Accept.length∧∀ s t:Nat,s<a.Accept.length→t<a.Accept.length→liveS a s→liveS a t→(gI c s=gI c t↔sameL a s t)
theorem stable_same {a:TAutomaton} (hA:ShA a) {n:Nat} {c:List Int} (h:ClM a n c) (hs:stableA a c):∀ (w:List Nat) (s t:Nat),s<a.Accept.length→t<a.Accept.length→0≤gI c s→gI c s=gI c t→inW w→LA a s w=LA a t w
 | [],s,t,h1,h2,h3,h4,_=>by
  have:=h.ac s t h1 h2 h3 h4
  unfold LA
  rw [Int.toNat_natCast,Int.toNat_natCast,this]
  simp
 | k::w,s,t,h1,h2,h3,h4,hw=>by
  obtain⟨hk,hw⟩:=inW_cons.1 hw
  rw [LA_cons,LA_cons]
  have he:=keyA_at (hs s t h1 h2 h3 h4) hk
  have r1:=hA.rg s k h1 hk
  have r2:=hA.rg t k h2 hk
  have dl:∀ u:Nat,u<a.Accept.length→gI c u<0→LA a u w=false:=fun u hu hd=>by
   cases hb:LA a u w with
   | false=>rfl
   | true=>have:=h.nn u hu ⟨w,hw,hb⟩;omega
  have dl2:∀ x:Int,0≤x→x<a.Accept.length→gI c x.toNat<0→LA a x w=false:=fun x h0 h1 hd=>by
   have:=dl x.toNat (by omega) hd
   rwa [Int.toNat_of_nonneg h0] at this
  unfold entA at he
  split at he
  · rename_i g1
    rw [LA_neg a w g1]
    split at he
    · rename_i g2;rw [LA_neg a w g2]
    rw [dl2 _ (by omega) r2.2 (by omega)]
  split at he
  · rename_i g2;rw [LA_neg a w g2,dl2 _ (by omega) r1.2 (by omega)]
  rcases Int.lt_or_le (gI c (nxA a s k).toNat) 0 with hd|hd
  · rw [dl2 _ (by omega) r1.2 hd,dl2 _ (by omega) r2.2 (by omega)]
  have:=stable_same hA h hs w _ _ (by omega) (by omega) hd he hw
  rwa [Int.toNat_of_nonneg (by omega),Int.toNat_of_nonneg (by omega)] at this
theorem ClM.cls {a:TAutomaton} (hA:ShA a) {n:Nat} {c:List Int} (h:ClM a n c) (hs:stableA a c):ClsOf a c:=
 ⟨h.len,fun s t h1 h2 h3 _=>⟨fun e w hw=>stable_same hA h hs w s t h1 h2 (h.nn s h1 h3) e hw,h.co s t h1 h2 h3⟩⟩
theorem ClM.end1 {a:TAutomaton} (hA:ShA a) {n:Nat} {c:List Int} (h:ClM a n c) (hn:a.Accept.length≤n):ClsOf a c:=by
 refine h.cls hA (h.big.resolve_right ?_)
 rintro⟨D,d1,d2,d3⟩
 have:=nodup_leA d1 (r:=c) fun d hd=>(d3 d hd).2
 rw [h.len] at this
 omega
theorem ClM.end2 {a:TAutomaton} (hA:ShA a) {n:Nat} {c:List Int} {K:List (List Int)} (h:ClM a n c) (hr:RdM a c a.Accept.length K c):ClsOf a c:=
 h.cls hA fun s t hs ht h0 e=>(hr.eq_iff hs ht h0 (by omega)).1 e
def cls0 (a:TAutomaton) (lv:List Bool) (s:Nat):Int:=if gB lv s=true then (if acA a s=true then 1 else 0) else -1
theorem ClM.start {a:TAutomaton} {lv:List Bool} (hl:LiveOf a lv):ClM a 0 ((List.range a.Accept.length).map (cls0 a lv)):=by
 have hg:∀ s,s<a.Accept.length→gI ((List.range a.Accept.length).map (cls0 a lv)) s=cls0 a lv s:=fun s hs=>by
  unfold gI;rw [List.getElem?_map,List.getElem?_range hs];rfl
 have hlv:∀ s,s<a.Accept.length→(gB lv s=true↔liveS a s):=fun s hs=>by rw [hl.2 s];exact⟨fun h=>h.2,fun h=>⟨hs,h⟩⟩
 refine⟨by simp,fun s hs hd=>?_,fun s hs hd=>?_,fun s t hs ht hd hL=>?_,fun s t hs ht h0 e=>?_,?_⟩
 · rw [hg s hs];unfold cls0;rw [if_neg fun h=>hd ((hlv s hs).1 h)]
 · rw [hg s hs];unfold cls0;rw [if_pos ((hlv s hs).2 hd)];split<;>omega
 · have hd2:liveS a t:=by obtain⟨w,hw,e⟩:=hd;exact⟨w,hw,by rw [←hL w hw];exact e⟩
   have:=hL [] inW_nil
   unfold LA at this
   rw [Int.toNat_natCast,Int.toNat_natCast] at this
   rw [hg s hs,hg t ht]
   unfold cls0
   rw [if_pos ((hlv s hs).2 hd),if_pos ((hlv t ht).2 hd2)]
   simp at this
   rw [this]
 · rw [hg s hs] at h0 e
   rw [hg t ht] at e
   unfold cls0 at h0 e
   split at h0
   · rename_i h1
     rw [if_pos h1] at e
     cases ha:acA a s<;>cases hb:acA a t<;>cases hg2:gB lv t<;>rw [ha,hb,hg2] at e<;>first|rfl|(exfalso;simp at e)
   omega
 by_cases hex:∃ s:Nat,s<a.Accept.length∧liveS a s
 · obtain⟨s,hs,hd⟩:=hex
   right
   refine⟨[cls0 a lv s],by simp,rfl,fun d hd'=>?_⟩
   rw [List.mem_singleton] at hd'
   subst hd'
   exact⟨by unfold cls0;rw [if_pos ((hlv s hs).2 hd)];split<;>omega,List.mem_map.2 ⟨s,List.mem_range.2 hs,rfl⟩⟩
 left
 intro s t hs ht h0
 rw [hg s hs] at h0
 unfold cls0 at h0
 split at h0
 · rename_i h1;exact absurd ⟨s,hs,(hlv s hs).1 h1⟩ hex
 omega
end Go.Q
set_option maxHeartbeats 1000000
set_option maxRecDepth 100000
namespace Go.Q
open Go.D
def entN (a:TAutomaton) (lv:List Bool) (c:List Int) (R:List Nat) (r k:Nat) (t:Int):Prop:=
 if 0≤nxA a r k∧gB lv (nxA a r k).toNat=true then ∃ j r':Nat,t=(j:Int)∧R[j]?=some r'∧gI c (nxA a r k).toNat=gI c r' else t=-1
structure NumI (a:TAutomaton) (lv:List Bool) (c:List Int) (i:Nat) (O:List Int) (R:List Nat) (X:List Bool) (Y:List (List Int)) (row:List Int):Prop where
 ol:O.length=R.length
 od:O.Nodup
 oc:∀ j r:Nat,R[j]?=some r→r<a.Accept.length∧gB lv r=true∧O[j]?=some (gI c r)
 r0:R[0]?=some a.Start.toNat
 xl:X.length=i
 yl:Y.length=i
 rl:∀ r∈Y,r.length=9
 wl:row.length≤9
 ac:∀ j r:Nat,j<i→R[j]?=some r→X[j]?=some (acA a r)
 ok:okF (Y.flatten++row)
 cn:numL (Y.flatten++row)=O.length
 ds:∀ j:Nat,j<i→j<numL ((Y.flatten++row).take (9*j))
 dr:row≠[]→i<numL Y.flatten
 en:∀ (p:Nat) (t:Int),(Y.flatten++row)[p]?=some t→∀ r:Nat,R[p / 9]?=some r→entN a lv c R r (p%9) t
theorem NumI.start {a:TAutomaton} (hA:ShA a) {lv:List Bool} {c:List Int} (h:gB lv a.Start.toNat=true):NumI a lv c 0 [gI c a.Start.toNat] [a.Start.toNat] [] [] []:=by
 have hs:=hA.st
 refine⟨rfl,by simp,fun j r hj=>?_,rfl,rfl,rfl,(fun _ h=>by cases h),by simp,fun j r hj=>absurd hj (Nat.not_lt_zero j),okF_nil,rfl,fun j hj=>absurd hj (Nat.not_lt_zero j),fun h=>absurd rfl h,fun p t hp=>by simp at hp⟩
 cases j with
 | zero=>simp at hj;subst hj;exact⟨by omega,h,rfl⟩
 | succ j=>simp at hj
variable {a:TAutomaton} {lv:List Bool} {c:List Int} {i:Nat} {O:List Int} {R:List Nat} {X:List Bool} {Y:List (List Int)} {row:List Int}
theorem NumI.le (h:NumI a lv c i O R X Y row) (hc:c.length=a.Accept.length):O.length≤a.Accept.length:=by
 rw [←hc]
 refine nodup_leA h.od fun x hx=>?_
 obtain⟨j,hj⟩:=List.getElem?_of_mem hx
 have hjl:=(List.getElem?_eq_some_iff.1 hj).1
 have hr:R[j]?=some (R[j]'(by rw [←h.ol];exact hjl)):=List.getElem?_eq_getElem _
 have ho:=h.oc j _ hr
 rw [hj] at ho
 rw [Option.some.inj ho.2.2]
 exact mem_gI (by rw [hc];exact ho.1)
theorem NumI.flen (h:NumI a lv c i O R X Y row):(Y.flatten++row).length=9*i+row.length:=by
 rw [List.length_append,flat_len h.rl,h.yl]
theorem numI_pos {i:Nat} {row:List Int} (hw:row.length<9):(9*i+row.length) / 9=i∧(9*i+row.length)%9=row.length:=by omega
theorem NumI.push (h:NumI a lv c i O R X Y row) (hi:i<O.length) (hw:row.length<9) {O':List Int} {R':List Nat} {t:Int} (h1:(O'=O∧R'=R∧t<O.length)∨∃ r,O'=O++[gI c r]∧R'=R++[r]∧t=(O.length:Int)∧gI c r∉O∧r<a.Accept.length∧gB lv r=true) (h0:-1≤t) (hr:∀ r,R[i]?=some r→entN a lv c R' r row.length t):NumI a lv c i O' R' X Y (row++[t]):=by
 have hfl:=h.flen
 have ht:t≤(O.length:Int):=by rcases h1 with ⟨_,_,h⟩|⟨_,_,_,h,_⟩<;>omega
 have hR:∀ j r:Nat,R[j]?=some r→R'[j]?=some r:=fun j r hj=>by
  rcases h1 with ⟨_,h1,_⟩|⟨r1,_,h1,_⟩
  · rw [h1];exact hj
  rw [h1,List.getElem?_append_left (List.getElem?_eq_some_iff.1 hj).1];exact hj
 have hRn:∀ j r:Nat,j<O.length→R'[j]?=some r→R[j]?=some r:=fun j r hj hr=>by
  rcases h1 with ⟨_,h1,_⟩|⟨r1,_,h1,_⟩
  · rw [←h1];exact hr
  rw [h1,List.getElem?_append_left (by rw [←h.ol];exact hj)] at hr;exact hr
 have hent:∀ r k t,entN a lv c R r k t→entN a lv c R' r k t:=fun r k t he=>by
  unfold entN at he ⊢
  split
  · rename_i hc
    rw [if_pos hc] at he
    obtain⟨j,r',e1,e2,e3⟩:=he
    exact⟨j,r',e1,hR j r' e2,e3⟩
  rename_i hc
  rw [if_neg hc] at he
  exact he
 have hcn:(if t=(numL (Y.flatten++row):Int) then numL (Y.flatten++row)+1 else numL (Y.flatten++row))=O'.length:=by
  rw [h.cn]
  rcases h1 with ⟨e1,_,h1⟩|⟨r1,e1,_,h1,_⟩
  · rw [if_neg (by omega),e1]
  rw [if_pos h1,e1];simp
 refine⟨?_,?_,fun j r hj=>?_,hR 0 _ h.r0,h.xl,h.yl,h.rl,by simp;omega,fun j r hj hr=>?_,?_,?_,fun j hj=>?_,fun _=>?_,fun p u hp r hr'=>?_⟩
 · rcases h1 with ⟨e1,e2,_⟩|⟨r1,e1,e2,_⟩
   · rw [e1,e2];exact h.ol
   rw [e1,e2];simp [h.ol]
 · rcases h1 with ⟨e1,_⟩|⟨r1,e1,_,_,hn,_⟩
   · rw [e1];exact h.od
   rw [e1,List.nodup_append]
   exact⟨h.od,by simp,fun x hx y hy e=>by rw [List.mem_singleton] at hy;subst hy;subst e;exact hn hx⟩
 · rcases h1 with ⟨e1,e2,_⟩|⟨r1,e1,e2,_,_,hl,hlv⟩
   · rw [e2] at hj;rw [e1];exact h.oc j r hj
   rcases Nat.lt_or_ge j R.length with hjl|hjl
   · rw [e2,List.getElem?_append_left hjl] at hj
     have:=h.oc j r hj
     rw [e1,List.getElem?_append_left (by rw [h.ol];exact hjl)]
     exact this
   rw [e2,List.getElem?_append_right hjl] at hj
   rcases Nat.eq_zero_or_pos (j-R.length) with hz|hz
   · rw [hz] at hj
     simp at hj
     subst hj
     have:j=O.length:=by rw [h.ol];omega
     rw [e1,this,List.getElem?_append_right (Nat.le_refl _)]
     exact⟨hl,hlv,by simp⟩
   rw [List.getElem?_eq_none (by simp;omega)] at hj;cases hj
 · exact h.ac j r hj (hRn j r (by omega) hr)
 · rw [←List.append_assoc]
   exact okF_snoc h.ok h0 (by rw [h.cn];exact ht)
 · rw [←List.append_assoc,numL_snoc];exact hcn
 · rw [←List.append_assoc,List.take_append_of_le_length (by rw [hfl];omega)]
   exact h.ds j hj
 · by_cases e:row=[]
   · have:=h.cn
     rw [e,List.append_nil] at this
     omega
   exact h.dr e
 rw [←List.append_assoc] at hp
 rcases Nat.lt_or_ge p (Y.flatten++row).length with hpl|hpl
 · rw [List.getElem?_append_left hpl] at hp
   have hp9:p / 9<O.length:=by omega
   exact hent _ _ _ (h.en p u hp r (hRn _ r hp9 hr'))
 rw [List.getElem?_append_right hpl] at hp
 rcases Nat.eq_zero_or_pos (p-(Y.flatten++row).length) with hz|hz
 · rw [hz] at hp
   simp at hp
   subst hp
   have e:p=9*i+row.length:=by omega
   have hp9:=numI_pos (i:=i) hw
   rw [e,hp9.1] at hr'
   rw [e,hp9.2]
   exact hr r (hRn i r hi hr')
 rw [List.getElem?_eq_none (show [t].length≤_ by show 1≤_;omega)] at hp;cases hp
theorem NumI.endRow (h:NumI a lv c i O R X Y row) (hi:i<O.length) (hw:9≤row.length) {r:Nat} (hr:R[i]?=some r):NumI a lv c (i+1) O R (X++[acA a r]) (Y++[row]) []:=by
 have hwl:row.length=9:=by have:=h.wl;omega
 have hfl:=h.flen
 have e:(Y++[row]).flatten++[]=Y.flatten++row:=by simp
 refine⟨h.ol,h.od,h.oc,h.r0,by simp [h.xl],by simp [h.yl],fun x hx=>?_,by simp,fun j q hj hq=>?_,by rw [e];exact h.ok,by rw [e];exact h.cn,fun j hj=>?_,fun h=>absurd rfl h,fun p t hp=>by rw [e] at hp;exact h.en p t hp⟩
 · rcases List.mem_append.1 hx with hx|hx
   · exact h.rl x hx
   rw [List.mem_singleton] at hx;subst hx;exact hwl
 · rcases Nat.lt_or_eq_of_le (Nat.le_of_lt_succ hj) with hj|hj
   · rw [List.getElem?_append_left (by rw [h.xl];exact hj)];exact h.ac j q hj hq
   subst hj
   rw [hr] at hq
   cases hq
   rw [List.getElem?_append_right (by rw [h.xl];exact Nat.le_refl _),h.xl];simp
 rw [e]
 rcases Nat.lt_or_eq_of_le (Nat.le_of_lt_succ hj) with hj|hj
 · exact h.ds j hj
 subst hj
 have e2:(Y.flatten++row).take (9*j)=Y.flatten:=by
  rw [List.take_append_of_le_length (by rw [flat_len h.rl,h.yl];exact Nat.le_refl _),List.take_of_length_le (by rw [flat_len h.rl,h.yl];exact Nat.le_refl _)]
 rw [e2]
 exact h.dr (fun e=>by rw [e] at hwl;cases hwl)
theorem NumI.lang (hA:ShA a) (hl:LiveOf a lv) (hc:ClsOf a c) (h:NumI a lv c i O R X Y []) (hi:O.length≤i) (hn:i≤O.length):∀ (w:List Nat) (j r:Nat),R[j]?=some r→inW w→LA ⟨0,X,Y⟩ j w=LA a r w
 | [],j,r,hr,_=>by
  have hj:=(List.getElem?_eq_some_iff.1 hr).1
  have:=h.ac j r (by rw [←h.ol] at hj;omega) hr
  unfold LA
  rw [Int.toNat_natCast,Int.toNat_natCast,show acA ⟨0,X,Y⟩ j=acA a r by unfold acA at this ⊢;simp only;rw [this];rfl]
  simp
 | k::w,j,r,hr,hw=>by
  obtain⟨hk,hw⟩:=inW_cons.1 hw
  have hj:=(List.getElem?_eq_some_iff.1 hr).1
  have hji:j<i:=by rw [←h.ol] at hj;omega
  have ho:=h.oc j r hr
  rw [LA_cons,LA_cons]
  have hf:=flat_at h.rl (i:=j) hk
  have hlen:9*j+k<(Y.flatten++[]).length:=by rw [h.flen];simp;omega
  have hget:(Y.flatten++[])[9*j+k]?=some (nxA ⟨0,X,Y⟩ j k):=by
   rw [List.append_nil] at hlen ⊢
   rw [hf]
   have e:Y.flatten[9*j+k]?=some (Y.flatten[9*j+k]'hlen):=List.getElem?_eq_getElem hlen
   unfold nxA
   simp only
   rw [←hf,e];rfl
  have he:=h.en _ _ hget r (by rw [show (9*j+k) / 9=j by omega];exact hr)
  rw [show (9*j+k)%9=k by omega] at he
  have hrg:=hA.rg r k ho.1 hk
  unfold entN at he
  split at he
  · rename_i hc2
    obtain⟨j',r',e1,e2,e3⟩:=he
    rw [e1,h.lang hA hl hc hi hn w j' r' e2 hw]
    have hlt:(nxA a r k).toNat<a.Accept.length:=by omega
    have ho':=h.oc j' r' e2
    have:=(hc.2 _ _ hlt ho'.1 ((hl.2 _).1 hc2.2).2 ((hl.2 _).1 ho'.2.1).2).1 e3 w hw
    rw [←this,Int.toNat_of_nonneg hc2.1]
  rename_i hc2
  rw [he,LA_neg _ w (by omega)]
  symm
  rcases Int.lt_or_le (nxA a r k) 0 with h0|h0
  · exact LA_neg a w h0
  cases hb:LA a (nxA a r k) w with
  | false=>rfl
  | true=>
   exfalso
   refine hc2 ⟨h0,(hl.2 _).2 ⟨by omega,?_⟩⟩
   rw [Int.toNat_of_nonneg h0]
   exact⟨w,hw,hb⟩
theorem NumI.can (hA:ShA a) (hl:LiveOf a lv) (hc:ClsOf a c) (h:NumI a lv c i O R X Y []) (hi:O.length≤i) (hn:i≤O.length):CanA ⟨0,X,Y⟩∧∀ w,inW w→LA ⟨0,X,Y⟩ 0 w=LA a a.Start w:=by
 have hL:=h.lang hA hl hc hi hn
 have hil:i=O.length:=by omega
 have hget:∀ j,j<X.length→∃ r,R[j]?=some r:=fun j hj=>⟨_,List.getElem?_eq_getElem (by rw [←h.ol,←hil,←h.xl];exact hj)⟩
 have h1:1≤O.length:=by
  have:=(List.getElem?_eq_some_iff.1 h.r0).1
  rw [h.ol];omega
 refine⟨⟨rfl,by show 1≤X.length;rw [h.xl];omega,by show Y.length=X.length;rw [h.yl,h.xl],h.rl,by have:=h.ok;rwa [List.append_nil] at this,fun j hj=>?_,by have:=h.cn;rw [List.append_nil] at this;show numL Y.flatten=X.length;rw [this,h.xl,hil],.inr fun j hj=>?_,fun j k hj hk hw=>?_⟩,fun w hw=>?_⟩
 · have:=h.ds j (by rw [←h.xl];exact hj)
   rwa [List.append_nil] at this
 · obtain⟨r,hr⟩:=hget j hj
   have ho:=h.oc j r hr
   obtain⟨w,hw,e⟩:=((hl.2 _).1 ho.2.1).2
   exact⟨w,hw,by rw [hL w j r hr hw];exact e⟩
 · obtain⟨r,hr⟩:=hget j hj
   obtain⟨q,hq⟩:=hget k hk
   have ho:=h.oc j r hr
   have hp:=h.oc k q hq
   have hs:sameL a r q:=fun w hw'=>by rw [←hL w j r hr hw',←hL w k q hq hw'];exact hw w hw'
   have e:=(hc.2 r q ho.1 hp.1 ((hl.2 _).1 ho.2.1).2 ((hl.2 _).1 hp.2.1).2).2 hs
   have e2:=ho.2.2
   rw [e] at e2
   exact nodup_at h.od e2 hp.2.2
 have:=hL w 0 _ h.r0 hw
 rw [Int.toNat_of_nonneg hA.st.1] at this
 exact this
theorem nothing_can:CanA ⟨0,[false],[[-1,-1,-1,-1,-1,-1,-1,-1,-1]]⟩:=by
 refine⟨rfl,by decide,rfl,by decide,?_,by decide,by decide,.inl ⟨rfl,rfl⟩,fun i j hi hj _=>?_⟩
 · intro p t hp
   have hpl:=(List.getElem?_eq_some_iff.1 hp).1
   simp at hpl
   have:p=0∨p=1∨p=2∨p=3∨p=4∨p=5∨p=6∨p=7∨p=8:=by omega
   rcases this with rfl|rfl|rfl|rfl|rfl|rfl|rfl|rfl|rfl<;>simp at hp<;>subst hp<;>exact⟨by decide,by omega⟩
 simp at hi hj;omega
theorem nothing_lang {a:TAutomaton} (hA:ShA a) {lv:List Bool} (hl:LiveOf a lv) (h:gB lv a.Start.toNat=false):∀ w,inW w→LA ⟨0,[false],[[-1,-1,-1,-1,-1,-1,-1,-1,-1]]⟩ 0 w=LA a a.Start w:=fun w hw=>by
 rw [not_live ⟨rfl,rfl⟩ w hw]
 cases hb:LA a a.Start w with
 | false=>rfl
 | true=>
  have:=(hl.2 a.Start.toNat).2 ⟨by have:=hA.st;omega,w,hw,by rw [Int.toNat_of_nonneg hA.st.1];exact hb⟩
  rw [h] at this;cases this
end Go.Q
