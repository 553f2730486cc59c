import Derived.Test.YtbecibmlbiebeaaGreatB19xb
import Derived.Test.YtbecibmlbiebeaaGreatB37xb
import Derived.Test.YtbecibmlbiebeaaGreatB92xb
set_option linter.unusedVariables false
set_option linter.unusedSimpArgs false
set_option maxHeartbeats 1000000
set_option maxRecDepth 100000
namespace Go.Q
open Go.D
inductive CanR (nx:Nat→List Int) (G:Nat→Bool):Nat→Prop where
 | goal {i:Nat}:G i=true→CanR nx G i
 | step {i:Nat} {z:Int}:z∈nx i→CanR nx G z.toNat→CanR nx G i
theorem atI_set' {O:List Int} {k:Nat} {j v:Int} (hk:k<O.length):atI (O.set k v) j=if j.toNat=k then v else atI O j:=by
 unfold atI
 rw [List.getElem?_set]
 by_cases e:j.toNat=k
 · rw [e,if_pos rfl,if_pos hk,if_pos rfl];rfl
 rw [if_neg (fun h=>e h.symm),if_neg e]
theorem atI_lo {O:List Int} {i:Nat} (hi:i<O.length) (h:∀ v∈O,-1≤v):-1≤atI O (i:Int):=h _ (List.mem_of_getElem? (atI_get (out:=O) (k:=(i:Int)) (by omega)))
def backOne (nx:Nat→List Int) (d:Int) (out:List Int) (i:Nat):List Int:=if atI out (i:Int)<0∧((nx i).any fun z=>decide (atI out z=d-1))=true then out.set i d else out
structure IsDist (nx:Nat→List Int) (G:Nat→Bool) (N:Nat) (O:List Int):Prop where
 len:O.length=N
 lo:∀ v∈O,-1≤v
 ex:∀ i,i<N→0<atI O (i:Int)→∃ z∈nx i,atI O z=atI O (i:Int)-1
 z0:∀ i,i<N→(atI O (i:Int)=0↔G i=true)
 cl:∀ i,i<N→∀ z∈nx i,0≤atI O z→0≤atI O (i:Int)∧atI O (i:Int)≤atI O z+1
structure DistI (nx:Nat→List Int) (G:Nat→Bool) (N:Nat) (d:Int) (O:List Int):Prop where
 len:O.length=N
 lo:∀ v∈O,-1≤v∧v<d
 ex:∀ i,i<N→0<atI O (i:Int)→∃ z∈nx i,atI O z=atI O (i:Int)-1
 z0:∀ i,i<N→(atI O (i:Int)=0↔G i=true)
 cl:∀ i,i<N→∀ z∈nx i,0≤atI O z→atI O z<d-1→0≤atI O (i:Int)∧atI O (i:Int)≤atI O z+1
section
variable {nx:Nat→List Int} {G:Nat→Bool} {N:Nat} {d:Int} {out:List Int}
structure DistM (nx:Nat→List Int) (N:Nat) (d:Int) (out o:List Int) (i:Nat):Prop where
 len:o.length=N
 lo:∀ v∈o,-1≤v∧v≤d
 old:∀ j,j<N→0≤atI out (j:Int)→atI o (j:Int)=atI out (j:Int)
 new:∀ j,j<N→atI out (j:Int)<0→atI o (j:Int)=atI out (j:Int)∨(atI o (j:Int)=d∧∃ z∈nx j,atI out z=d-1)
 dn:∀ j,j<i→j<N→∀ z∈nx j,0≤atI out z→0≤atI o (j:Int)
theorem DistM.start (h:DistI nx G N d out):DistM nx N d out out 0:=
 ⟨h.len,fun v hv=>by have:=h.lo v hv;omega,fun _ _ _=>rfl,fun _ _ _=>.inl rfl,fun j hj=>absurd hj (Nat.not_lt_zero j)⟩
theorem DistM.step (hd:1≤d) (hn:∀ p,p<N→∀ k∈nx p,0≤k∧k<N) (hI:DistI nx G N d out) {o:List Int} {i:Nat} (h:DistM nx N d out o i) (hi:i<N):DistM nx N d out (backOne nx d o i) (i+1):=by
 have hval:∀ z:Int,0≤z→z<N→(atI o z=d-1→atI out z=d-1)∧(atI out z=d-1→atI o z=d-1):=fun z h0 hz=>by
  have e:((z.toNat:Nat):Int)=z:=Int.toNat_of_nonneg h0
  have h1:=h.old z.toNat (by omega)
  have h2:=h.new z.toNat (by omega)
  rw [e] at h1 h2
  rcases Int.lt_or_le (atI out z) 0 with h3|h3
  · have:=h2 h3
    rcases this with h4|h4<;>omega
  have:=h1 h3;omega
 have hdone:∀ z∈nx i,0≤atI out z→atI o (i:Int)<0→atI o z=d-1:=fun z hz h0 hneg=>by
  have hb:=hn i hi z hz
  have hlt:atI out z<d:=(hI.lo _ (List.mem_of_getElem? (atI_get (out:=out) (k:=z) (by rw [hI.len];omega)))).2
  rcases Int.lt_or_le (atI out z) (d-1) with h3|h3
  · have h4:=(hI.cl i hi z hz h0 h3).1
    have:=h.old i hi h4
    omega
  exact (hval z hb.1 hb.2).2 (by omega)
 unfold backOne
 split
 · rename_i hc
   obtain⟨z,hz,hzd⟩:=List.any_eq_true.1 hc.2
   have hzd:=of_decide_eq_true hzd
   have hb:=hn i hi z hz
   have hil:i<o.length:=by rw [h.len];exact hi
   have hat:∀ j:Nat,atI (o.set i d) (j:Int)=if j=i then d else atI o (j:Int):=fun j=>by rw [atI_set' hil];simp
   refine⟨by rw [List.length_set];exact h.len,fun v hv=>?_,fun j hj hv=>?_,fun j hj hv=>?_,fun j hji hj y hy hv=>?_⟩
   · rcases List.mem_or_eq_of_mem_set hv with hv|rfl
     · exact h.lo v hv
     omega
   · rw [hat]
     by_cases e:j=i
     · subst e;have:=h.old j hj hv;omega
     rw [if_neg e];exact h.old j hj hv
   · rw [hat]
     by_cases e:j=i
     · subst e;rw [if_pos rfl];exact .inr ⟨rfl,z,hz,(hval z hb.1 hb.2).1 hzd⟩
     rw [if_neg e];exact h.new j hj hv
   rw [hat]
   by_cases e:j=i
   · rw [if_pos e];omega
   rw [if_neg e];exact h.dn j (by omega) hj y hy hv
 rename_i hc
 refine⟨h.len,h.lo,h.old,h.new,fun j hji hj y hy hv=>?_⟩
 by_cases e:j=i
 · subst e
   rcases Int.lt_or_le (atI o (j:Int)) 0 with h3|h3
   · exact absurd ⟨h3,List.any_eq_true.2 ⟨y,hy,decide_eq_true (hdone y hy hv h3)⟩⟩ hc
   exact h3
 exact h.dn j (by omega) hj y hy hv
theorem DistM.done (hd:1≤d) (hn:∀ p,p<N→∀ k∈nx p,0≤k∧k<N) (hI:DistI nx G N d out) {o:List Int} (h:DistM nx N d out o N):DistI nx G N (d+1) o:=by
 have hlo:∀ i,i<N→ -1≤atI out (i:Int)∧atI out (i:Int)<d:=fun i hi=>hI.lo _ (List.mem_of_getElem? (atI_get (out:=out) (k:=(i:Int)) (by rw [hI.len];omega)))
 have hnz:∀ i,i<N→∀ z∈nx i,z=((z.toNat:Nat):Int)∧z.toNat<N:=fun i hi z hz=>by have:=hn i hi z hz;omega
 refine⟨h.len,fun v hv=>by have:=h.lo v hv;omega,fun i hi hp=>?_,fun i hi=>?_,fun i hi z hz h0 h1=>?_⟩
 · rcases Int.lt_or_le (atI out (i:Int)) 0 with h3|h3
   · rcases h.new i hi h3 with h4|⟨h4,z,hz,h5⟩
     · omega
     obtain⟨e,hzN⟩:=hnz i hi z hz
     refine⟨z,hz,?_⟩
     rw [e] at h5 ⊢
     rw [h.old _ hzN (by omega)];omega
   have h4:=h.old i hi h3
   obtain⟨z,hz,h5⟩:=hI.ex i hi (by omega)
   obtain⟨e,hzN⟩:=hnz i hi z hz
   refine⟨z,hz,?_⟩
   rw [e] at h5 ⊢
   rw [h.old _ hzN (by omega)];omega
 · rw [←hI.z0 i hi]
   rcases Int.lt_or_le (atI out (i:Int)) 0 with h3|h3
   · rcases h.new i hi h3 with h4|⟨h4,_⟩<;>omega
   rw [h.old i hi h3]
 obtain⟨e,hzN⟩:=hnz i hi z hz
 have hz0:0≤atI out z∧atI o z=atI out z:=by
  rw [e] at h0 h1 ⊢
  rcases Int.lt_or_le (atI out ((z.toNat:Nat):Int)) 0 with h3|h3
  · rcases h.new _ hzN h3 with h4|⟨h4,_⟩<;>omega
  exact⟨h3,h.old _ hzN h3⟩
 have hpos:=h.dn i hi hi z hz hz0.1
 refine⟨hpos,?_⟩
 rcases Int.lt_or_le (atI out z) (d-1) with h3|h3
 · have h4:=hI.cl i hi z hz hz0.1 h3
   rw [h.old i hi h4.1];omega
 have:=h.lo _ (List.mem_of_getElem? (atI_get (out:=o) (k:=(i:Int)) (by rw [h.len];omega)))
 omega
theorem DistM.stay (hI:DistI nx G N d out) (h:DistM nx N d out out N):IsDist nx G N out:=by
 refine⟨hI.len,fun v hv=>(hI.lo v hv).1,hI.ex,hI.z0,fun i hi z hz h0=>?_⟩
 have hpos:=h.dn i hi hi z hz h0
 refine⟨hpos,?_⟩
 rcases Int.lt_or_le (atI out z) (d-1) with h3|h3
 · exact (hI.cl i hi z hz h0 h3).2
 have:=(hI.lo _ (List.mem_of_getElem? (atI_get (out:=out) (k:=(i:Int)) (by rw [hI.len];omega)))).2
 omega
theorem IsDist.le (hn:∀ p,p<N→∀ k∈nx p,0≤k∧k<N) {A B:List Int} (hA:IsDist nx G N A) (hB:IsDist nx G N B):∀ (n i:Nat),i<N→atI A (i:Int)=n→0≤atI B (i:Int)∧atI B (i:Int)≤n
 | 0,i,hi,h=>by
  have:=(hB.z0 i hi).2 ((hA.z0 i hi).1 (by simpa using h))
  omega
 | n+1,i,hi,h=>by
  obtain⟨z,hz,h5⟩:=hA.ex i hi (by omega)
  have hb:=hn i hi z hz
  have e:((z.toNat:Nat):Int)=z:=Int.toNat_of_nonneg hb.1
  have ih:=IsDist.le hn hA hB n z.toNat (by omega) (by rw [e];omega)
  rw [e] at ih
  have:=hB.cl i hi z hz ih.1
  omega
theorem IsDist.uniq (hn:∀ p,p<N→∀ k∈nx p,0≤k∧k<N) {A B:List Int} (hA:IsDist nx G N A) (hB:IsDist nx G N B):A=B:=by
 refine List.ext_getElem? fun i=>?_
 by_cases hi:i<N
 · have h1:=atI_get (out:=A) (k:=(i:Int)) (by rw [hA.len];omega)
   have h2:=atI_get (out:=B) (k:=(i:Int)) (by rw [hB.len];omega)
   have l1:=atI_lo (O:=A) (i:=i) (by rw [hA.len];exact hi) hA.lo
   have l2:=atI_lo (O:=B) (i:=i) (by rw [hB.len];exact hi) hB.lo
   simp only [Int.toNat_natCast] at h1 h2
   rw [h1,h2]
   congr 1
   rcases Int.lt_or_le (atI A (i:Int)) 0 with h3|h3
   · rcases Int.lt_or_le (atI B (i:Int)) 0 with h4|h4
     · omega
     have:=IsDist.le hn hB hA (atI B (i:Int)).toNat i hi (by omega);omega
   have h4:=IsDist.le hn hA hB (atI A (i:Int)).toNat i hi (by omega)
   have h5:=IsDist.le hn hB hA (atI B (i:Int)).toNat i hi (by omega)
   omega
 rw [List.getElem?_eq_none (by rw [hA.len];omega),List.getElem?_eq_none (by rw [hB.len];omega)]
theorem IsDist.can (hn:∀ p,p<N→∀ k∈nx p,0≤k∧k<N) {A:List Int} (hA:IsDist nx G N A) {i:Nat} (hi:i<N):0≤atI A (i:Int)↔CanR nx G i:=by
 constructor
 · intro h
   have key:∀ (n i:Nat),i<N→atI A (i:Int)=n→CanR nx G i:=by
    intro n
    induction n with
    | zero=>exact fun i hi h=>.goal ((hA.z0 i hi).1 (by simpa using h))
    | succ n ih=>
     intro i hi h
     obtain⟨z,hz,h5⟩:=hA.ex i hi (by omega)
     have hb:=hn i hi z hz
     exact .step hz (ih z.toNat (by omega) (by rw [Int.toNat_of_nonneg hb.1];omega))
   exact key (atI A (i:Int)).toNat i hi (by omega)
 intro hc
 induction hc with
 | goal hg=>have:=(hA.z0 _ hi).2 hg;omega
 | @step i z hz _ ih=>
  have hb:=hn i hi z hz
  have:=ih (by omega)
  rw [Int.toNat_of_nonneg hb.1] at this
  exact (hA.cl i hi z hz this).1
end
open Classical in
noncomputable def distOf (nx:Nat→List Int) (G:Nat→Bool) (N:Nat):List Int:=if h:∃ O,IsDist nx G N O then h.choose else []
theorem distOf_eq {nx:Nat→List Int} {G:Nat→Bool} {N:Nat} (hn:∀ p,p<N→∀ k∈nx p,0≤k∧k<N) {O:List Int} (h:IsDist nx G N O):distOf nx G N=O:=by
 have hx:∃ O,IsDist nx G N O:=⟨O,h⟩
 unfold distOf
 rw [dif_pos hx]
 exact hx.choose_spec.uniq hn h
def dist0 (G:Nat→Bool) (N:Nat):List Int:=(List.range N).map fun i=>if G i then 0 else -1
theorem dist0_I {nx:Nat→List Int} {G:Nat→Bool} {N:Nat} (hn:∀ p,p<N→∀ k∈nx p,0≤k∧k<N):DistI nx G N 1 (dist0 G N):=by
 have hl:(dist0 G N).length=N:=by unfold dist0;simp
 have hat:∀ i,i<N→atI (dist0 G N) (i:Int)=if G i then 0 else -1:=fun i hi=>by
  unfold atI dist0;rw [Int.toNat_natCast,List.getElem?_map,List.getElem?_range hi];rfl
 refine⟨hl,fun v hv=>?_,fun i hi h=>?_,fun i hi=>?_,fun i hi z hz h0 h1=>?_⟩
 · unfold dist0 at hv
   obtain⟨i,_,rfl⟩:=List.mem_map.1 hv
   split<;>omega
 · rw [hat i hi] at h;split at h<;>omega
 · rw [hat i hi]
   cases G i<;>simp
 omega
inductive OneAt {β:Type} (es:List β) (tst:β→List Int→Bool) (i:Nat) (d:Int) (O1:List Int) (c1:Bool):Nat→List Int→Bool→Prop where
 | still {j:Nat}:(∀ e∈es.take j,tst e O1=false)→OneAt es tst i d O1 c1 j O1 c1
 | set {j:Nat} {e:β}:e∈es→tst e O1=true→atI O1 (i:Int)<0→OneAt es tst i d O1 c1 j (O1.set i d) true
theorem OneAt.fin {β:Type} {es:List β} {tst:β→List Int→Bool} {i:Nat} {d:Int} {O1 O2:List Int} {c1 c2:Bool} {j:Nat} {nx:Nat→List Int} (hd:0≤d) (hi:i<O1.length) (hnx:((nx i).any fun z=>decide (atI O1 z=d-1))=es.any fun e=>tst e O1) (h:OneAt es tst i d O1 c1 j O2 c2) (hx:es.length≤j∨0≤atI O2 (i:Int)) :
 O2=backOne nx d O1 i∧(c2=false→O2=O1∧c1=false)∧(c2=true→c1=true∨negs O2<negs O1)∧negs O2≤negs O1:=by
 unfold backOne
 rw [hnx]
 cases h with
 | still h=>
  refine⟨?_,fun e=>⟨rfl,e⟩,fun e=>.inl e,Nat.le_refl _⟩
  rw [if_neg]
  rintro⟨h1,h2⟩
  rcases hx with hx|hx
  · obtain⟨e,he,h3⟩:=List.any_eq_true.1 h2
    rw [List.take_of_length_le hx] at h
    rw [h e he] at h3;cases h3
  omega
 | set h1 h2 h3=>
  have h4:=negs_set hd (atI_get (out:=O1) (k:=(i:Int)) (by omega)) h3
  rw [Int.toNat_natCast] at h4
  refine⟨?_,fun e=>(by cases e),fun _=>.inr (by omega),by omega⟩
  rw [if_pos ⟨h3,List.any_eq_true.2 ⟨_,h1,h2⟩⟩]
theorem OneAt.on {β:Type} {es:List β} {tst:β→List Int→Bool} {i:Nat} {d:Int} {O1 O2:List Int} {c1 c2:Bool} {j:Nat} (hd:0≤d) (hi:i<O1.length) (h:OneAt es tst i d O1 c1 j O2 c2) (hneg:atI O2 (i:Int)<0):O2=O1∧c2=c1∧∀ e∈es.take j,tst e O1=false:=by
 cases h with
 | still h=>exact⟨rfl,rfl,h⟩
 | set h1 h2 h3=>
  rw [atI_set' hi,Int.toNat_natCast,if_pos rfl] at hneg
  omega
theorem OneAt.next {β:Type} {es:List β} {tst:β→List Int→Bool} {i:Nat} {d:Int} {O1 O2:List Int} {c1 c2:Bool} {j:Nat} {z:β} (hd:0≤d) (hi:i<O1.length) (h:OneAt es tst i d O1 c1 j O2 c2) (hneg:atI O2 (i:Int)<0) (hz:es[j]?=some z):(tst z O2=true→OneAt es tst i d O1 c1 (j+1) (O2.set i d) true)∧(tst z O2=false→OneAt es tst i d O1 c1 (j+1) O2 c2):=by
 obtain⟨rfl,rfl,h3⟩:=h.on hd hi hneg
 refine⟨fun ht=>.set (List.mem_of_getElem? hz) ht hneg,fun ht=>.still fun e he=>?_⟩
 rw [take_at hz] at he
 rcases List.mem_append.1 he with h4|h4
 · exact h3 e h4
 rw [List.mem_singleton] at h4;subst h4;exact ht
def backTo (nx:Nat→List Int) (d:Int) (out:List Int):Nat→List Int
 | 0=>out
 | i+1=>backOne nx d (backTo nx d out i) i
theorem backOne_negs {nx:Nat→List Int} {d:Int} (hd:0≤d) (out:List Int) {i:Nat} (hi:i<out.length):backOne nx d out i=out∨negs (backOne nx d out i)<negs out:=by
 unfold backOne
 split
 · rename_i h
   have:=negs_set hd (atI_get (out:=out) (k:=(i:Int)) (by omega)) h.1
   rw [Int.toNat_natCast] at this
   exact .inr (by omega)
 exact .inl rfl
theorem IsDist.ex' {nx:Nat→List Int} {G:Nat→Bool} {N:Nat} (hn:∀ p,p<N→∀ k∈nx p,0≤k∧k<N):∀ (m:Nat) (d:Int) (out:List Int),1≤d→negs out≤m→DistI nx G N d out→∃ O,IsDist nx G N O
 | m,d,out,hd,hm,hI=>by
  have key:∀ i,i≤N→DistM nx N d out (backTo nx d out i) i∧(backTo nx d out i=out∨negs (backTo nx d out i)<negs out):=by
   intro i
   induction i with
   | zero=>exact fun _=>⟨DistM.start hI,.inl rfl⟩
   | succ i ih=>
    intro hi
    obtain⟨h1,h2⟩:=ih (by omega)
    refine⟨h1.step hd hn hI (by omega),?_⟩
    rcases backOne_negs (nx:=nx) (d:=d) (by omega) (backTo nx d out i) (i:=i) (by rw [h1.len];omega) with h3|h3
    · rw [backTo,h3];exact h2
    rw [backTo]
    rcases h2 with h2|h2
    · rw [h2] at h3 ⊢;exact .inr h3
    exact .inr (by omega)
  obtain⟨h1,h2⟩:=key N (Nat.le_refl _)
  rcases h2 with h2|h2
  · rw [h2] at h1;exact⟨out,DistM.stay hI h1⟩
  match m with
  | 0=>omega
  | m+1=>exact IsDist.ex' hn m (d+1) _ (by omega) (by omega) (h1.done hd hn hI)
theorem IsDist.exists {nx:Nat→List Int} {N:Nat} (hn:∀ p,p<N→∀ k∈nx p,0≤k∧k<N) (G:Nat→Bool):∃ O,IsDist nx G N O:=IsDist.ex' hn _ 1 (dist0 G N) (by omega) (Nat.le_refl _) (dist0_I hn)
end Go.Q
set_option maxHeartbeats 1000000
set_option maxRecDepth 100000
namespace Go.Q
open Go.D
def turnOne (i:Nat) (l:List Int) (k:Nat):List Int:=(l.filter fun y=>decide (y.toNat=k)).map fun _=>(i:Int)
def turnAt (nx:Nat→List Int) (p:Nat) (k:Nat):List Int:=(List.range p).flatMap fun i=>turnOne i (nx i) k
def turnedL (next:List (List Int)):List (List Int):=(List.range next.length).map fun k=>turnAt (nxL next) next.length k
theorem turnAt_succ (nx:Nat→List Int) (p k:Nat):turnAt nx (p+1) k=turnAt nx p k++turnOne p (nx p) k:=by
 unfold turnAt;rw [List.range_succ,List.flatMap_append];simp
theorem turnOne_succ {i:Nat} {l:List Int} {j:Nat} {y:Int} (h:l[j]?=some y) (k:Nat):turnOne i (l.take (j+1)) k=turnOne i (l.take j) k++if k=y.toNat then [(i:Int)] else []:=by
 unfold turnOne
 rw [take_at h,List.filter_append,List.map_append]
 by_cases e:k=y.toNat
 · subst e;simp
 have:¬ y.toNat=k:=fun h=>e h.symm
 simp [e,this]
theorem turnOne_len (i:Nat) (l:List Int) (k:Nat):(turnOne i l k).length≤l.length:=by
 unfold turnOne;rw [List.length_map];exact List.length_filter_le _ _
theorem turnAt_len {nx:Nat→List Int} {b N:Nat} (hb:∀ p,p<N→(nx p).length≤b) (k:Nat):∀ p,p≤N→(turnAt nx p k).length≤p*b
 | 0,_=>by simp [turnAt]
 | p+1,h=>by
  rw [turnAt_succ,List.length_append,Nat.succ_mul]
  have:=turnAt_len hb k p (by omega)
  have:=hb p (by omega)
  have:=turnOne_len p (nx p) k
  omega
theorem mem_turnAt {nx:Nat→List Int} {p k:Nat} {q:Int}:q∈turnAt nx p k↔∃ i:Nat,i<p∧q=(i:Int)∧∃ y∈nx i,y.toNat=k:=by
 unfold turnAt turnOne
 simp only [List.mem_flatMap,List.mem_range,List.mem_map,List.mem_filter,decide_eq_true_eq]
 constructor
 · rintro⟨i,hi,y,⟨hy,h⟩,rfl⟩;exact⟨i,hi,rfl,y,hy,h⟩
 rintro⟨i,hi,rfl,y,hy,h⟩;exact⟨i,hi,y,⟨hy,h⟩,rfl⟩
theorem turnedL_len (next:List (List Int)):(turnedL next).length=next.length:=by unfold turnedL;simp
theorem turnedL_at {next:List (List Int)} {k:Nat} (hk:k<next.length):nxL (turnedL next) k=turnAt (nxL next) next.length k:=nxL_at (by unfold turnedL;exact range_get _ hk)
theorem turnedL_ok {next:List (List Int)}:∀ p,p<next.length→∀ k∈nxL (turnedL next) p,0≤k∧k<next.length:=fun p hp k hk=>by
 rw [turnedL_at hp] at hk
 obtain⟨i,hi,rfl,_⟩:=mem_turnAt.1 hk
 omega
theorem turned_can {next:List (List Int)} (hn:∀ p,p<next.length→∀ k∈nxL next p,0≤k∧k<next.length) {gl:List Int} {G:Nat→Bool} (hG:∀ i:Nat,i<next.length→((i:Int)∈gl↔G i=true)) (hgl:∀ q∈gl,0≤q∧q<(next.length:Int)) {j:Nat} (hj:j<next.length):Rch (nxL (turnedL next)) (·∈gl) (j:Int)↔CanR (nxL next) G j:=by
 constructor
 · intro h
   have key:∀ q:Int,Rch (nxL (turnedL next)) (·∈gl) q→0≤q∧q<next.length∧CanR (nxL next) G q.toNat:=by
    intro q h
    induction h with
    | base h=>have:=hgl _ h;exact⟨this.1,this.2,.goal ((hG _ (by omega)).1 (by rwa [Int.toNat_of_nonneg this.1]))⟩
    | @step q k _ hk ih=>
     have hq:q.toNat<next.length:=by omega
     rw [turnedL_at hq] at hk
     obtain⟨i,hi,rfl,y,hy,e⟩:=mem_turnAt.1 hk
     exact⟨by omega,by omega,.step (z:=y) (by simpa using hy) (by rw [e];exact ih.2.2)⟩
   have:=(key _ h).2.2
   simpa using this
 intro h
 induction h with
 | goal h=>exact .base ((hG _ hj).2 h)
 | @step i z hz _ ih=>
  have hb:=hn i hj z hz
  have:=ih (by omega)
  rw [Int.toNat_of_nonneg hb.1] at this
  exact .step this (by rw [turnedL_at (by omega)];exact mem_turnAt.2 ⟨i,hj,rfl,z,hz,rfl⟩)
end Go.Q
set_option maxHeartbeats 1000000
set_option maxRecDepth 100000
namespace Go.Q
open Go.D
theorem nx_any {g:TGraph} {a:TAutomaton} (O1:List Int) (d:Int) (i:Nat):((nxN g a i).any fun z=>decide (atI O1 z=d-1))=(stepsOf g a ((i:Int) / (a.Accept.length:Int)) ((i:Int)%(a.Accept.length:Int))).any fun e=>decide (atI O1 (e.Node*(a.Accept.length:Int)+e.State)=d-1):=by
 rw [nxN_steps,List.any_map];rfl
noncomputable def backOf (g:TGraph) (a:TAutomaton) (y:Int):List Int:=distOf (nxN g a) (goalOf g a y) (NPx g a)
theorem negs_le' {O:List Int} {N:Nat} (h:O.length=N):negs O≤N:=by rw [←h];exact negs_le O
end Go.Q
namespace Go.Proofs.YtbecibmlbiebeaaGreat
open Go.RowKit Go.Q Go.D
theorem specl14Back (g:TGraph) (a:TAutomaton) (ha:validA a=true) (hg:validG g=true) (y:Int):FnT Tryz.prog 103 [.agg (cGraph g),.agg (cAutomaton a),.one (.v (.int .i64 y))] (.a (.one (.sl 1 ((backOf g a y).map cInt)))):=by
 refine A7 Tryz.func103 U (by kernel_rfl) Tryz.ntmps103 U fun hlen w0=>?_
 try simp [cEdge,cGraph,cAutomaton,cProductStep] at hlen
 have hA:=validA_len ha
 have hG:=validG_len hg
 have hN:NPx g a≤60:=Nat.mul_le_mul (by omega:a.Accept.length≤12) (by omega:g.Values.length≤5)
 have hcm:(g.Values.length:Int)*(a.Accept.length:Int)=((NPx g a:Nat):Int):=by unfold NPx;rw [Nat.mul_comm];simp
 have hnk:∀ p,p<NPx g a→∀ k∈nxN g a p,0≤k∧k<(NPx g a:Int):=fun p hp=>nxN_ok ha hg hp
 have hc0l:=costs0_len g a y (NPx g a)
 refine Af (Ad (Bm U U U (.tm U) (ts:=_) (by rfl)) U ?_);refine Ad (Bm U U U (.tm U) (ts:=_) (by rfl)) U ?_;refine Ak ?_;refine Cb (i:=6) 20001 1 U U ?_;refine Aa (Af (Bg C0 ?_));refine Aq ty33 ?_;refine Be (.t) Tryz.underlying33 ?_;refine Ag ?_;refine Aa (Af (A6 (Cu 20 U U U Tryz.underlying40 ty3 U) U ?_));refine Ag ?_;refine Aa (Ae (Af (Ak ?_)));refine Aa (AW.block (By (fun (k:Nat)=>(k≤NPx g a)∧True) (fun (k:Nat)=>⟨_,[(9,(true,.a (.one (.t (.v (.int .i64 (k:Nat))))))),(8,(true,.a (.one (.rf 20)))),(2,_),(3,_),(4,_),(6,_),(7,_)],[(20,.row 1 ((costs0 g a y k).map cInt))]⟩) (fun (k:Nat)=>NPx g a-k) (0) ⟨Nat.zero_le _,Y⟩ A4 ?_))
 rintro k ⟨hk,he⟩
 refine Ae (Af (Ab ?_));refine Bg Cl ?_;refine Aq Bz ?_;refine Be (.t) Tryz.underlying40 ?_;refine Ab ?_;refine Ad (Dn U (.no U) U (.tm U) (.tm U) (fun _=>⟨by omega,by omega⟩)) U ?_;refine AWl.lt ?_;refine Aa (Ai (.tm U) (fun h27=>?_) (fun h27=>?_))
 · try simp at h27
   have hdm:=nd_ok (p:=k) hA.1 (show k<NPx g a by omega)
   obtain⟨v,hv⟩:∃ v,g.Values[((k:Int) / (a.Accept.length:Int)).toNat]?=some v:=⟨_,List.getElem?_eq_getElem (by omega)⟩
   have hcl:=costs0_len g a y k
   refine Aj (Ae (AW.block (Ae (Ar (Av [2,3,4,6,7,8,9] [20]) ?_))));refine Ac (Ak ?_);refine Aa (Ae (Ae (B8 16 (nthB [[],[],[0,1],[],[0,1,2,3],[0,1,2,3,4],[0,1,2,3,4,5],[0,1,2,3,4,5],[0,1,2,3,4,5],[0,1,2,3,4,5],[0,1,2,3,4,5,8,9],[0,1,2,3,4,5],[0,1,2,3,4,5],[0,1,2,3,4,5,11,12],[0,1,2,3,4,5,6,7,8,9,10,11,12,13],[0,1,2,3,4,5,6,7,8,9,10,11,12,13,14]]) (by kernel_rfl) (by kernel_rfl) (by kernel_rfl) ?_)));refine Aw ?_;refine Aw ?_;refine DrawC.s (fun _ hs=>R_quo U (.no U) (Ah hs U) (hs.tm U) (hs.tm U) (fun _=>by omega)) ?_;refine Aw ?_;refine DrawC.s (fun _ hs=>R_eq U (.no U) (Ah hs U) (hs.tm U) (hs.tm U)) ?_;refine Aw ?_;refine DrawC.s (fun _ hs=>(by exact Ca U (by exact .yes1 U U (hs.slots _ _ U) (by rw [hs.n];rfl)) (Ah hs U) (.tmp (hs.slots _ _ U) (by exact fun _=>rfl)) Bx U U)) ?_
   refine DrawC.s (fun _ hs=>(by exact Ca U (by exact .yes1 U U (hs.slots _ _ U) (by rw [hs.n];rfl)) (Ah hs U) (.tmp (hs.slots _ _ U) (by exact fun _=>rfl)) Bt U U)) ?_;refine DrawC.s (fun _ hs=>Bh U (by exact .yes1 U U (hs.slots _ _ U) (by rw [hs.n];rfl)) (Ah hs U) (.tmp (hs.slots _ _ U) (by exact fun _=>rfl))) ?_;refine DrawC.s (fun _ hs=>Bh U (by exact .yes1 U U (hs.slots _ _ U) (by rw [hs.n];rfl)) (Ah hs U) (.tmp (hs.slots _ _ U) (by exact fun _=>rfl))) ?_;refine DrawC.s (fun _ hs=>R_quo U (by exact .yes1 U U (hs.slots _ _ U) (by rw [hs.n];rfl)) (Ah hs U) (.tmp (hs.slots _ _ U) (by exact id)) (.tmp (hs.slots _ _ U) (by exact id)) (fun hq=>by first|omega|(simp at hq;omega))) ?_;refine DrawC.s (fun _ hs=>Bh U (by exact .yes1 U U (hs.slots _ _ U) (by rw [hs.n];rfl)) (Ah hs U) (.tmp (hs.slots _ _ U) (by exact fun _=>rfl))) ?_
   refine DrawC.s (fun _ hs=>Bh U (by exact .yes1 U U (hs.slots _ _ U) (by rw [hs.n];rfl)) (Ah hs U) (.tmp (hs.slots _ _ U) (by exact fun _=>rfl))) ?_;refine DrawC.s (fun _ hs=>R_rem U (by exact .yes1 U U (hs.slots _ _ U) (by rw [hs.n];rfl)) (Ah hs U) (.tmp (hs.slots _ _ U) (by exact id)) (.tmp (hs.slots _ _ U) (by exact id)) (fun hq=>by first|omega|(simp at hq;omega))) ?_;refine DrawC.s (fun _ hs=>Bc (FnT.fr (specl14Accepts g a ha hg ((k:Int) / (a.Accept.length:Int)) ((k:Int)%(a.Accept.length:Int)) v (by omega) hv (by omega))) U (by exact .yes1 U U (hs.slots _ _ U) (by rw [hs.n];rfl)) (Ah hs U) (.cons (.tmp (hs.slots _ _ U) (by exact id)) (readA_sup hs U) (.cons (.tmp (hs.slots _ _ U) (by exact id)) (readA_sup hs U) (.cons (.tmp (hs.slots _ _ U) (by exact id)) (readA_sup hs U) (.cons (.tmp (hs.slots _ _ U) (by exact id)) (readA_sup hs U) .nil))))) ?_
   refine DrawC.s (fun _ hs=>R_and U (.no U) (Ah hs U) (hs.tm U) (.tmp (hs.slots _ _ U) (by exact id))) ?_;refine DrawC.fin U U ?_;refine Aa (AW.condJ ⟨_,[(2,_),(3,_),(4,_),(6,_),(7,_),(8,_),(9,_),(10,true,.a (.one (.t (.v (.int .i64 (if goalOf g a y k then 0 else -1))))))],[(20,_)]⟩ (.tm U) (fun h45=>?_) (fun h45=>Ap U ⟨U,U,U,U,U,U,U,congrArg (fun z:Int=>some (true,S.a (A.one (E.t (.v (.int .i64 z)))))) (show (-1:Int)=_ by unfold goalOf;rw [hv,Option.getD_some,if_neg (by rw [h45];simp)]),Y⟩ ⟨U,Y⟩) ?_)
   · skip
     skip
     refine Ar (Av [2,3,4,6,7,8,9,10] [20]) ?_;refine Ac (Ak ?_);exact Aa (Ap U ⟨U,U,U,U,U,U,U,congrArg (fun z:Int=>some (true,S.a (A.one (E.t (.v (.int .i64 z)))))) (show (0:Int)=_ by unfold goalOf;rw [hv,Option.getD_some,if_pos h45]),Y⟩ ⟨U,Y⟩)
   refine Ac (Ab ?_);refine Ab ?_;refine Ad (B7 (xs:=[.tmp 47]) (rows:=[cInt (if goalOf g a y k then 0 else -1)]) U U U (.cons (.tm U) U U .nil) Tryz.underlying40 in3 U U (U)) U ?_;refine Bl (Bw U U U (.tm U) U (.tm U) (by exact .t) (by rfl) Tryz.underlying40 in3 U (by (simp [chunk];omega)) (by (unfold maxLen;simp [chunk];omega))) U ?_;refine Bq (Av [2,3,4,6,7,8,9,10,49] [20]) ?_;refine Ag ?_;refine Aa (Ac (Ab ?_));refine A8 ?_;refine Ag ?_;refine Aa ?_
   repeat (with_reducible refine Au ?_)
   refine Round1.next (k+1) ⟨by omega,Y⟩ (by omega) (Ap rfl ⟨rfl,rfl,rfl,rfl,rfl,rfl,rfl,Y⟩ ⟨(by (refine congrArg (fun r=>some (R.row 1 r)) ?_;rw [costs0_succ];simp;done)),Y⟩)
 try simp at h27
 refine Bb (Ae (Ar (σ':=⟨_,[(2,_),(3,_),(4,_),(6,_),(7,_),(8,_),(9,_)],[(20,.row 1 ((costs0 g a y (NPx g a)).map cInt))]⟩) (Ap U ⟨U,U,U,U,U,U,U,Y⟩ ⟨by rw [show k=NPx g a by omega];rfl,Y⟩) ?_));refine Ac (A6 (Cu 50 U U U Tryz.underlying195 ty72 U) U ?_);refine Ag ?_;refine Aa (Ae (Af (Ak ?_)));refine Aa (AW.block (By (fun (q:Nat)=>(q≤NPx g a)∧True) (fun (q:Nat)=>⟨_,[(12,(true,.a (.one (.t (.v (.int .i64 (q:Nat))))))),(8,(true,.a (.one (.rf 20)))),(11,(true,.a (.one (.rf 50)))),(3,_),(4,_),(6,_),(7,_)],[(20,.row 1 ((costs0 g a y (NPx g a)).map cInt)),(50,.row 1 ((stepsL g a q).map cProductStepS))]⟩) (fun (q:Nat)=>NPx g a-q) (0) ⟨Nat.zero_le _,Y⟩ A4 ?_))
 rintro q ⟨hk1,he1⟩
 refine Ae (Af (Ab ?_));refine Ab ?_;refine Be (.rf U) Tryz.underlying40 ?_;refine AWl.lt ?_;refine Aa (Ai (.tm U) (fun h54=>?_) (fun h54=>?_))
 · try simp at h54
   have hqN:q<NPx g a:=by omega
   have hdq:=nd_ok (p:=q) hA.1 (show q<NPx g a from hqN)
   obtain⟨vq,hvq⟩:∃ v,g.Values[((q:Int) / (a.Accept.length:Int)).toNat]?=some v:=⟨_,List.getElem?_eq_getElem (by omega)⟩
   have hSl:=steps_len g a ((q:Int) / (a.Accept.length:Int)) ((q:Int)%(a.Accept.length:Int))
   have hsl:(stepsL g a q).length=q:=by unfold stepsL;simp
   refine Aj (Ae (AW.block (Ar (Av [3,4,6,7,8,11,12,51,52,53,54] [20,50]) ?_)));refine AW.mixn 13 10 5 [1,2,3,4,5,6,7,8,9] [0] [[],[],[],[],[],[3,4],[],[],[6,7],[1,2,3,4,5,6,7,8],[1,2,3,4,5,6,7,8,9],[0,1,2,3,4,5,6,7,8,9,10],[0,1,2,3,4,5,6,7,8,9,10,11]] [[1,2,3,4,5,6,7,8,9],[0,1,2,3,4,5,6,7,8,9],[1,2,3,4,5,6,7,8,9,10],[0,1,2,3,4,5,6,7,8,9,10],[0,1,2,3,4,5,6,7,8,9,10,11],[0,1,2,3,4,5,6,7,8,9,10,11,12]] [(0,0,1),(0,10,2),(1,10,3),(2,0,3),(3,11,4),(4,12,5)] [(0,[1,2,3,4,5,6,7,8,9]),(1,[0,1,2,3,4,5,6,7,8,9])] (by kernel_rfl) (by kernel_rfl) (by kernel_rfl) (by kernel_rfl) U U ?_;refine Cp ?_;refine DrawG.s (fun _ hs=>(Ca U (.no U) (Ah hs U) (hs.tm U) Bx U U)) ?_;refine DrawG.s (fun _ hs=>(by exact Ca U (.no U) (Ah hs U) (hs.tm U) Bt U U)) ?_;refine Cp ?_;refine Cp ?_;refine DrawG.s (fun _ hs=>R_quo U (.no U) (Ah hs U) (hs.tm U) (hs.tm U) (fun _=>by omega)) ?_;refine Cp ?_;refine Cp ?_
   refine DrawG.s (fun _ hs=>R_rem U (.no U) (Ah hs U) (hs.tm U) (hs.tm U) (fun _=>by omega)) ?_;refine DrawG.step U U (Loc.ofs U fun σ' hs hf=>Cq 6600 (specl14Steps g a ha hg ((q:Int) / (a.Accept.length:Int)) ((q:Int)%(a.Accept.length:Int)) vq (by omega) hvq (by omega)) U U (Ah hs U) (.cons (hs.tm U) (readA_sup hs U) (.cons (hs.tm U) (readA_sup hs U) (.cons (hs.tm U) (readA_sup hs U) (.cons (hs.tm U) (readA_sup hs U) .nil)))) U (all_fresh hf)) ?_;refine DrawG.fin U (FinX.mk U U ?_);refine MixD.add ⟨_,[(3,_),(4,_),(6,_),(7,_),(8,_),(11,_),(12,_),(54,_),(58,_),(59,_),(60,_),(61,_),(62,_),(63,_),(64,_),(65,_),(66,_)],[(20,_),(50,_),(6600,_)]⟩ rfl A4 ?_;refine MixD.add ⟨_,[(3,_),(4,_),(6,_),(7,_),(8,_),(11,_),(12,_),(54,_),(57,_),(58,_),(59,_),(60,_),(61,_),(62,_),(63,_),(64,_),(65,_),(66,_)],[(20,_),(50,_),(6600,_)]⟩ rfl A4 ?_;refine MixD.go ?_;apply A3 (i:=0)
   case ha|ho|hb=>rfl
   case hE=>
    intro w9;refine Ab ?_;exact Aa A4
   apply Ay (i:=10);rfl;rfl;rfl
   · intro w9;refine Bn (Ce (xs:=[.tmp 66]) 67 U U U (.cons (.tm U) U U .nil) Tryz.underlying195 in72 U U U U) U ?_;exact An [3,4,6,7,8,11,12,54,67] [20,50,67]
   apply Ay (i:=10);rfl;rfl;rfl
   · intro w9;refine Bn (Ce (xs:=[.tmp 66]) 67 U U U (.cons (.tm U) U U .nil) Tryz.underlying195 in72 U U U U) U ?_;exact An [3,4,6,7,8,11,12,54,57,67] [20,50,67]
   apply A3 (i:=0);rfl;rfl;rfl
   · intro w9;refine Ab ?_;exact Aa A4
   apply Ay (i:=11);rfl;rfl;rfl
   · intro w9;refine Dr (R_append_own U U U (.tm U) U (.tm U) U U Tryz.underlying195 in72 U (by (simp [chunk];omega)) (by (unfold maxLen;simp [chunk];omega))) U ?_;exact An [3,4,6,7,8,11,12,54,68] [20,50]
   apply Ay (i:=12);rfl;rfl;rfl
   · intro w9;refine Ag ?_;exact An [3,4,6,7,8,11,12,54] [20,50]
   refine Dag.fin (k:=5) U ?_;refine Aa (Ac (Ab ?_));refine A8 ?_;refine Ag ?_;refine Aa ?_
   repeat (with_reducible refine Au ?_)
   refine Round1.next (q+1) ⟨by omega,Y⟩ (by omega) (Ap rfl ⟨rfl,rfl,rfl,rfl,rfl,rfl,rfl,Y⟩ ⟨(by rfl),(by (refine congrArg (fun r=>some (R.row 1 r)) ?_;rw [stepsL_succ];simp;rfl)),Y⟩)
 try simp at h54
 refine Bb (Ae (Ar (σ':=⟨_,[(3,_),(4,_),(6,_),(7,_),(8,_),(11,_),(12,_)],[(20,.row 1 ((costs0 g a y (NPx g a)).map cInt)),(50,.row 1 ((stepsL g a (NPx g a)).map cProductStepS))]⟩) (Ap U ⟨U,U,U,U,U,U,U,Y⟩ ⟨U,by rw [show q=NPx g a by omega];rfl,Y⟩) ?_));refine Ac (Ak ?_);refine Aa (Ae (Af (Ak ?_)));refine Aa (AW.block ?_)
 refine C6 (fun (O:List Int) (d:Int) (ch:Bool)=>(DistI (nxN g a) (goalOf g a y) (NPx g a) d O∧1≤d∧d+(negs O:Int)≤(NPx g a:Int)+1+(if ch then 0 else 1)∧(ch=false→IsDist (nxN g a) (goalOf g a y) (NPx g a) O))∧True) (fun (O:List Int) (d:Int) (ch:Bool)=>⟨_,[(13,(true,.a (.one (.t (.v (.bool ch)))))),(14,(true,.a (.one (.t (.v (.int .i64 d)))))),(8,(true,.a (.one (.rf 20)))),(11,(true,.a (.one (.rf 50)))),(6,_),(7,_)],[(20,.row 1 (O.map cInt)),(50,.row 1 ((stepsL g a (NPx g a)).map cProductStepS))]⟩) (fun (O:List Int) (d:Int) (ch:Bool)=>2*negs O+(if ch then 1 else 0)) (costs0 g a y (NPx g a)) (1) (true) ⟨⟨dist0_I hnk,by omega,by have:=negs_le' hc0l;simp;omega,fun h=>by cases h⟩,Y⟩ A4 ?_
 rintro O d ch ⟨hk2,he2⟩
 refine Ae (Af (Ab ?_));refine Aa (Ai (.tm U) (fun h69=>?_) (fun h69=>?_))
 · try simp at h69
   refine Aj (Ae (AW.block (Af (Ak ?_))));refine Aa (Af (Ak ?_));refine Aa (AW.block ?_);refine C6 (fun (i:Nat) (O1:List Int) (c1:Bool)=>(i≤NPx g a∧DistM (nxN g a) (NPx g a) d O O1 i∧(c1=false→O1=O)∧(c1=true→negs O1<negs O))∧True) (fun (i:Nat) (O1:List Int) (c1:Bool)=>⟨_,[(15,(true,.a (.one (.t (.v (.int .i64 (i:Nat))))))),(13,(true,.a (.one (.t (.v (.bool c1)))))),(6,_),(7,_),(8,_),(11,_),(14,_)],[(20,.row 1 (O1.map cInt)),(50,.row 1 ((stepsL g a (NPx g a)).map cProductStepS))]⟩) (fun (i:Nat) (O1:List Int) (c1:Bool)=>NPx g a-i) (0) (O) (false) ⟨⟨Nat.zero_le _,DistM.start hk2.1,fun _=>rfl,fun h=>by cases h⟩,Y⟩ A4 ?_
   rintro i O1 c1 ⟨hk3,he3⟩
   refine Ae (Af (Ab ?_));refine Ab ?_;refine Be (.rf U) Tryz.underlying40 ?_;refine AWl.lt ?_;refine Aa (Ai (.tm U) (fun h75=>?_) (fun h75=>?_))
   · try simp at h75
     have hO1:=hk3.2.1.len
     have hiN:i<NPx g a:=by omega
     have hdi:=nd_ok (p:=i) hA.1 (show i<NPx g a by omega)
     obtain⟨vi,hvi⟩:∃ v,g.Values[((i:Int) / (a.Accept.length:Int)).toNat]?=some v:=⟨_,List.getElem?_eq_getElem (by omega)⟩
     have hrow:(stepsL g a (NPx g a))[i]?=some (stepsOf g a ((i:Int) / a.Accept.length) ((i:Int)%a.Accept.length)):=by unfold stepsL;rw [List.getElem?_map,List.getElem?_range hiN];rfl
     have hSl2:=steps_len g a ((i:Int) / (a.Accept.length:Int)) ((i:Int)%(a.Accept.length:Int))
     have hal:(arcsAt g ((i:Int) / (a.Accept.length:Int))).length≤24:=Nat.le_trans (arcsL_len _ _) (by omega)
     refine Aj (Ae (AW.block (Af (Ak ?_))));refine Aa (AW.block (C6 (fun (j:Nat) (O2:List Int) (c2:Bool)=>(j≤(stepsOf g a ((i:Int) / a.Accept.length) ((i:Int)%a.Accept.length)).length∧O2.length=NPx g a∧OneAt (stepsOf g a ((i:Int) / a.Accept.length) ((i:Int)%a.Accept.length)) (fun e O=>decide (atI O (e.Node*(a.Accept.length:Int)+e.State)=d-1)) i d O1 c1 j O2 c2)∧True) (fun (j:Nat) (O2:List Int) (c2:Bool)=>⟨_,[(16,(true,.a (.one (.t (.v (.int .i64 (j:Nat))))))),(13,(true,.a (.one (.t (.v (.bool c2)))))),(6,_),(7,_),(8,_),(11,_),(14,_),(15,_)],[(20,.row 1 (O2.map cInt)),(50,.row 1 ((stepsL g a (NPx g a)).map cProductStepS))]⟩) (fun (j:Nat) (O2:List Int) (c2:Bool)=>(stepsOf g a ((i:Int) / a.Accept.length) ((i:Int)%a.Accept.length)).length-j) (0) (O1) (c1) ⟨⟨Nat.zero_le _,hO1,.still (by simp)⟩,Y⟩ A4 ?_))
     rintro j O2 c2 ⟨hk4,he4⟩
     refine Ae (Af (Ab ?_));refine Ab ?_;refine Ab ?_;refine Ad (Ax U (.no U) U (.tm U) U (.tm U) Tryz.underlying195 ty72 (fun _=>⟨by omega,(by exact Al hrow)⟩)) U ?_;refine Ad (Bu U (.no U) U (.tm U) U (by exact Al hrow) ty72 U U) U ?_;refine Be (.vw) Tryz.underlying72 ?_;refine AWl.lt ?_;refine Ab ?_;refine Cm ?_;refine Cm ?_;refine Ad ((by exact Ax U (by exact .yes1 U U U U) U (.tmp U (by exact id)) U (.tmp U (by exact id)) Tryz.underlying40 ty3 (fun hq=>by (try simp at hq);exact⟨by omega,(by exact Al (atI_get (out:=O2) (k:=(i:Int)) (by omega)))⟩))) U ?_;refine Ad ((Bu U (by exact .yes1 U U U U) U (.tmp U (by exact id)) U (by exact Al (atI_get (out:=O2) (k:=(i:Int)) (by omega))) ty3 U U)) U ?_;refine Ad (R_lt U (by exact .yes1 U U U U) U (.tmp U (by exact id)) (.const U)) U ?_;refine Ck ?_;refine Aa (Ai (.tm U) (fun h91=>?_) (fun h91=>?_))
     · try simp at h91
       obtain⟨z,hz⟩:∃ ξ,(stepsOf g a ((i:Int) / (a.Accept.length:Int)) ((i:Int)%(a.Accept.length:Int)))[j]?=some ξ:=⟨_,List.getElem?_eq_getElem (by omega)⟩
       have hzo:=steps_ok ha hg hvi (by omega) z (List.mem_of_getElem? hz)
       have hzm:0≤z.Node*(a.Accept.length:Int):=Int.mul_nonneg hzo.1 (by omega)
       have hzk:z.Node*(a.Accept.length:Int)+z.State∈nxN g a i:=by rw [nxN_steps];exact List.mem_map.2 ⟨z,List.mem_of_getElem? hz,rfl⟩
       have hkk:=hnk i hiN _ hzk
       have hgz:=atI_get (out:=O2) (k:=z.Node*(a.Accept.length:Int)+z.State) (by omega)
       have hgi:=atI_get (out:=O2) (k:=(i:Int)) (by omega)
       have hnx:=hk4.2.2.next (by omega) (by omega) (by omega) hz
       refine Aj (Ae (AW.block (Ae (Ar (Av [6,7,8,11,13,14,15,16] [20,50]) ?_))));refine B8 25 (nthB [[],[],[],[1,2],[1,2,3],[],[1,2,3,4,5],[1,2,3,4,5,6],[1,2,3,4,5,6,7],[],[1,2,3,4,5,6,7,8,9],[],[],[11,12],[11,12,13],[],[11,12,13,14,15],[11,12,13,14,15,16],[11,12,13,14,15,16,17],[1,2,3,4,5,6,7,8,9,10,11,12,13,14,15,16,17,18],[0,1,2,3,4,5,6,7,8,9,10,11,12,13,14,15,16,17,18,19],[0,1,2,3,4,5,6,7,8,9,10,11,12,13,14,15,16,17,18,19,20],[],[22],[0,1,2,3,4,5,6,7,8,9,10,11,12,13,14,15,16,17,18,19,20,21,22,23]]) (by kernel_rfl) (by kernel_rfl) (by kernel_rfl) ?_;refine Aw ?_;refine Aw ?_;refine Aw ?_;refine DrawC.s (fun _ hs=>(Ax U (.no U) (Ah hs U) (hs.tm U) (hs.res _ _ U) (hs.tm U) Tryz.underlying195 ty72 (fun _=>⟨by omega,(by exact Al hrow)⟩))) ?_;refine DrawC.s (fun _ hs=>(by exact Bu U (.no U) (Ah hs U) (hs.tm U) (hs.res _ _ U) (by exact Al hrow) ty72 U U)) ?_;refine Aw ?_
       refine DrawC.s (fun _ hs=>(by exact R_indexAddr_vw U (.no U) (Ah hs U) (hs.tm U) (hs.tm U) Tryz.underlying72 ty77 (fun _=>⟨by omega,(by exact Al hz)⟩))) ?_;refine DrawC.s (fun _ hs=>(by exact R_fieldAddr_vw U (.no U) (Ah hs U) (hs.tm U) fl77_1)) ?_;refine DrawC.s (fun _ hs=>(by exact R_load_vw U (.no U) (Ah hs U) (hs.tm U) ty3 U U)) ?_;refine Aw ?_;refine DrawC.s (fun _ hs=>Dn U (.no U) (Ah hs U) (hs.tm U) (hs.tm U) (fun _=>by omega)) ?_;refine Aw ?_;refine Aw ?_;refine DrawC.s (fun _ hs=>(by exact Ax U (.no U) (Ah hs U) (hs.tm U) (hs.res _ _ U) (hs.tm U) Tryz.underlying195 ty72 (fun _=>⟨by omega,(by exact Al hrow)⟩))) ?_;refine DrawC.s (fun _ hs=>(by exact Bu U (.no U) (Ah hs U) (hs.tm U) (hs.res _ _ U) (by exact Al hrow) ty72 U U)) ?_;refine Aw ?_
       refine DrawC.s (fun _ hs=>(by exact R_indexAddr_vw U (.no U) (Ah hs U) (hs.tm U) (hs.tm U) Tryz.underlying72 ty77 (fun _=>⟨by omega,(by exact Al hz)⟩))) ?_;refine DrawC.s (fun _ hs=>(by exact R_fieldAddr_vw U (.no U) (Ah hs U) (hs.tm U) fl77_2)) ?_;refine DrawC.s (fun _ hs=>(by exact R_load_vw U (.no U) (Ah hs U) (hs.tm U) ty3 U U)) ?_;refine DrawC.s (fun _ hs=>C7 U (.no U) (Ah hs U) (hs.tm U) (hs.tm U) (fun _=>by omega)) ?_;refine DrawC.s (fun _ hs=>(by exact Ax U (.no U) (Ah hs U) (hs.tm U) (hs.res _ _ U) (hs.tm U) Tryz.underlying40 ty3 (fun _=>⟨by omega,(by exact Al hgz)⟩))) ?_;refine DrawC.s (fun _ hs=>(by exact Bu U (.no U) (Ah hs U) (hs.tm U) (hs.res _ _ U) (by exact Al hgz) ty3 U U)) ?_;refine Aw ?_;refine DrawC.s (fun _ hs=>Dx U (.no U) (Ah hs U) (hs.tm U) (.const U) (fun _=>by omega)) ?_;refine DrawC.s (fun _ hs=>R_eq U (.no U) (Ah hs U) (hs.tm U) (hs.tm U)) ?_
       refine DrawC.fin U U ?_;refine Aa (Ai (.tm U) (fun h118=>?_) (fun h118=>?_))
       · try simp at h118
         refine Ae (Ar (Av [6,7,8,11,13,14,15,16] [20,50]) ?_);refine Ac (Ab ?_);refine Ab ?_;refine Ab ?_;refine Ad ((by exact Ax U (.no U) U (.tm U) U (.tm U) Tryz.underlying40 ty3 (fun _=>⟨by omega,(by exact Al (atI_get (out:=O2) (k:=(i:Int)) (by omega)))⟩))) U ?_;refine Ch (Cn U U U (.tm U) U (.tm U) U (by exact Al (atI_get (out:=O2) (k:=(i:Int)) (by omega))) ty3 U U U U) ?_;refine Aa (Ac (Ak ?_));refine Aa (Ac (Ab ?_));refine A8 ?_;refine Ag ?_;refine Aa ?_
         repeat (with_reducible refine Au ?_)
         refine Round3.next (j+1) (O2.set i d) (true) ⟨⟨by omega,by rw [List.length_set];omega,hnx.1 (by simpa using h118)⟩,Y⟩ (by omega) (Ap rfl ⟨rfl,rfl,rfl,rfl,rfl,rfl,rfl,rfl,Y⟩ ⟨(by (refine congrArg (fun r=>some (R.row 1 r)) ?_;simp [List.map_set,cInt];done)),(by rfl),Y⟩)
       try simp at h118
       refine Aj (Ar (Av [6,7,8,11,13,14,15,16] [20,50]) ?_);refine Ac (Ab ?_);refine A8 ?_;refine Ag ?_;refine Aa ?_
       repeat (with_reducible refine Au ?_)
       refine Round3.next (j+1) (O2) (c2) ⟨⟨by omega,hk4.2.1,hnx.2 (by simpa using h118)⟩,Y⟩ (by omega) (Ap rfl ⟨rfl,rfl,rfl,rfl,rfl,rfl,rfl,rfl,Y⟩ ⟨(by rfl),(by rfl),Y⟩)
     try simp at h91
     have hfin:=hk4.2.2.fin (nx:=nxN g a) (by omega) (by omega) (nx_any O1 d i) (by omega)
     refine Bb (Ar (Av [6,7,8,11,13,14,15,16] [20,50]) ?_);refine Ac (Ab ?_);refine A8 ?_;refine Ag ?_;refine Aa ?_
     repeat (with_reducible refine Au ?_)
     refine Round3.next (i+1) (O2) (c2) ⟨⟨by omega,hfin.1▸hk3.2.1.step (by omega) hnk hk2.1 hiN,fun h=>(hfin.2.1 h).1.trans (hk3.2.2.1 (hfin.2.1 h).2),fun h=>(by rcases hfin.2.2.1 h with h7|h7;(have:=hk3.2.2.2 h7;have:=hfin.2.2.2;omega);(by_cases h8:c1=true;(have:=hk3.2.2.2 h8;omega);(rw [hk3.2.2.1 (by simpa using h8)] at h7;exact h7)))⟩,Y⟩ (by omega) (Ap rfl ⟨rfl,rfl,rfl,rfl,rfl,rfl,rfl,Y⟩ ⟨(by rfl),(by rfl),Y⟩)
   try simp at h75
   have hO1:=hk3.2.1.len
   have hM:=hk3.2.1
   rw [show i=NPx g a by omega] at hM
   refine Bb (Ac (Ab ?_));refine A8 ?_;refine Ag ?_;refine Aa ?_
   repeat (with_reducible refine Au ?_)
   refine Round3.next (O1) (d+1) (c1) ⟨⟨hM.done (by omega) hnk hk2.1,by omega,(by have h5:=hk2.2.2.1;rw [h69] at h5;have h6:=hk3.2.2.2;have h7:=hk3.2.2.1;cases c1;(rw [h7 rfl];simp at h5 ⊢;omega);(have h8:=h6 rfl;simp at h5 ⊢;omega)),fun h=>(by have e:=hk3.2.2.1 h;rw [e] at hM ⊢;exact DistM.stay hk2.1 hM)⟩,Y⟩ (by have h6:=hk3.2.2.2;have h5:=hk3.2.2.1;rw [h69];cases c1;(rw [h5 rfl];simp);(have h7:=h6 rfl;simp;omega)) (Ap rfl ⟨rfl,rfl,rfl,rfl,rfl,rfl,Y⟩ ⟨(by rfl),(by rfl),Y⟩)
 try simp at h69
 refine Bb (Af (Ab ?_));refine Ag ?_;refine Aa (Am (Res.one U (.tmp U .nil) U ?_))
 (unfold backOf;rw [distOf_eq hnk (hk2.2.2.2 (by simpa using h69))];rfl)
end Go.Proofs.YtbecibmlbiebeaaGreat
