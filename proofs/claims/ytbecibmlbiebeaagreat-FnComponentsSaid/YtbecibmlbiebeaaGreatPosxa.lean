import Derived.Test.YtbecibmlbiebeaaGreatB78xa
set_option linter.unusedVariables false
set_option linter.unusedSimpArgs false
namespace Go.Q
open Go.RowKit
section
variable {P:Program} {ops:Array Oper} {o:Oper} {σ:St} {q:Bool}
def Keeps (w:World) (K:List (Nat×Obj)):Prop:=∀ x∈K,w.heap[x.1]?=some x.2
theorem Keeps.lt {w:World} {K:List (Nat×Obj)} (h:Keeps w K):∀ x∈K,x.1<w.heap.size:=fun x hx=>(Array.getElem?_eq_some_iff.1 (h x hx)).1
def FnCk (P:Program) (f:FuncId) (K:List (Nat×Obj)) (ins:List (Bool×V0)) (out:V):Prop:=Callee P f∧∀ w vs F,Good w F→V0c w F ins vs F→F.Nodup→(∀ b∈F,Thaw w b)→Keeps w K→(∀ x∈K,x.1∉F)→Calls P f (List.toArray vs) w (CPost w out F)
theorem FnCk.walk {n:Nat} {f:FuncId} {fn:Func} {c:Code} {K:List (Nat×Obj)} {ins:List (Bool×V0)} {out:V} {σ':St} (hf:P.funcs[f]?=some fn) (hb:fn.body=some c) (hname:(fn.name == "runtime.NumGoroutine")=false) (hnt:fn.ntmps=n) (hn:Nat.ble ins.length n=true) (hi:initC 0 ins ⟨n,[],[(999999,.kept K)]⟩=some σ')
 (h:∀ w0,AW P w0 c (RetQ P fn true out) σ'):FnCk P f K ins out:=by
 subst hnt
 refine⟨⟨fn,hf,hname,by rw [hb];rfl⟩,fun w vs F hG hv hnd hth hK hKF=>?_⟩
 have hl:=hv.len
 have hn':ins.length≤fn.ntmps:=Nat.le_of_ble_eq_true hn
 have hlt:=hv.sub
 let a0:Act:=⟨(List.toArray vs)++Array.replicate (fn.ntmps-(List.toArray vs).size) undef,[]⟩
 let I0:Ip:=⟨fun b=>b<w.heap.size∧b∉F,fun _=>[],fun _=>undef,fun _=>0⟩
 have hr0:RelI I0 ⟨w,F,hG⟩ ⟨fn.ntmps,[],[(999999,.kept K)]⟩ a0 w:=by
  refine⟨Chg.refl w F,rfl,by simp [a0,hl];omega,fun i z hi=>(by cases hi),fun id r hi=>?_,fun b hb=>hb.1,fun id b hb=>(by cases hb),fun id r hi=>⟨List.nodup_nil,fun b hb=>(by cases hb)⟩,fun i j _ b hb=>(by cases hb)⟩
  rw [look_cons] at hi
  split at hi
  · cases hi;exact⟨rfl,fun x hx=>⟨hK x hx,hK.lt x hx,hKF x hx⟩⟩
  · cases hi
 obtain⟨I1,r1⟩:=initC_ok (fun _ _ _=>trivial) hi hr0 (fun b h1 h2=>⟨h1,h2⟩) hv hnd (fun b hb=>⟨.inr hb,hlt b hb,hth b hb,fun hz=>hz.2 hb,fun i hi=>by cases hi⟩) fun j v hj=>by
  have hjl:j<vs.length:=(List.getElem?_eq_some_iff.1 hj).1
  simp only [Nat.zero_add,a0]
  rw [Array.getD_eq_getD_getElem?,Array.getElem?_append_left (by simpa using hjl)]
  simp [hj]
 refine calls_of_wp hf hb (Code.wp_mono ?_ (h ⟨w,F,hG⟩ _ _ ⟨_,r1⟩))
 rintro e a' w' ⟨σ1,h1,I,hI⟩
 have key:Res P fn true out σ1→a'.defers=[]∧∃ v',(results fn a'.tmps).run P w'=.ok v' w'∧CPost w out F (.returned v') w':=fun h1=>by
  obtain⟨v',F',g1,g2,g3,g4⟩:=h1 I ⟨w,F,hG⟩ a' w' hI
  exact⟨hI.defers,v',g1,v',F',rfl,g2,(g4 rfl).1,fun b hb=>⟨g3 b hb,(g4 rfl).2 b hb⟩,hI.ext⟩
 cases e with
 | normal=>exact key h1
 | ret=>exact key h1
 | exit id=>exact h1.elim
 | goto l=>exact h1.elim
 | panic c=>exact h1.elim
 | outgrown=>exact h1.elim
theorem Rws_split {o:Bool} {w:World} {b:Nat}:∀ {ts:List T} {off:Nat} {F:List Nat},Rws o w b 1 off (ts.map fun t=>[t]) F→∃ (hs:List Value) (Gs:List (List Nat)),hs.length=ts.length∧Gs.length=ts.length∧F=Gs.flatten∧
 ∀ i t,ts[i]?=some t→∃ h G,hs[i]?=some h∧Gs[i]?=some G∧w.cell? ⟨b,off+i,none⟩=some h∧C o w t h G
 | [],off,F,h=>by simp only [List.map_nil,Rws] at h;exact⟨[],[],rfl,rfl,h,fun i t hi=>by simp at hi⟩
 | t::ts,off,F,h=>by
  simp only [List.map_cons,Rws,Ms] at h
  obtain⟨G1,G2,_,⟨c,A1,A2,h1,h2,rfl,rfl⟩,h3,rfl⟩:=h
  obtain⟨hs,Gs,e1,e2,e3,e4⟩:=Rws_split h3
  refine⟨c::hs,A1::Gs,by simp [e1],by simp [e2],by simp [e3],fun i u hi=>?_⟩
  match i,hi with
  | 0,hi=>simp at hi;subst hi;exact⟨c,A1,rfl,rfl,h1,h2⟩
  | i+1,hi=>
   obtain⟨h,G,g1,g2,g3,g4⟩:=e4 i u (by simpa using hi)
   exact⟨h,G,by simpa using g1,by simpa using g2,by rw [show off+(i+1)=off+1+i by omega];exact g3,g4⟩
theorem Rws_join {o:Bool} {w:World} {b:Nat} {α:Type} {t:α→T} {h:α→Value} {G:α→List Nat}:∀ {l:List α} {off:Nat},(∀ i x,l[i]?=some x→w.cell? ⟨b,off+i,none⟩=some (h x)∧C o w (t x) (h x) (G x))→Rws o w b 1 off (l.map fun x=>[t x]) (l.flatMap G)
 | [],off,_=>by simp [Rws]
 | x::l,off,hc=>by
  simp only [List.map_cons,Rws,Ms,List.flatMap_cons]
  obtain⟨c1,c2⟩:=hc 0 x rfl
  refine⟨G x,l.flatMap G,rfl,⟨h x,G x,[],c1,c2,rfl,by simp⟩,Rws_join (h:=h) fun i y hi=>?_,rfl⟩
  obtain⟨d1,d2⟩:=hc (i+1) y (by simpa using hi)
  exact⟨by rw [show off+1+i=off+(i+1) by omega];exact d1,d2⟩
theorem C_split {w:World} {ts:List T} {v:Value} {F:List Nat} (hC:C true w (.sl 1 (ts.map fun t=>[t])) v F) (hnd:F.Nodup):∃ (h:Nat→Value) (G:Nat→List Nat) (F0:List Nat),(∀ i t,ts[i]?=some t→C true w t (h i) (G i))∧C true w (.sl 1 ((List.range ts.length).map fun i=>[.v (h i)])) v F0∧F0.Nodup∧
 (∀ b∈F0,b∈F)∧(∀ i,i<ts.length→∀ b∈G i,b∈F∧b∉F0)∧(∀ i,i<ts.length→(G i).Nodup)∧∀ i j,i<ts.length→j<ts.length→i≠j→∀ b∈G i,b∉G j:=by
 have hCc:=hC
 simp only [C] at hCc
 obtain⟨a,len,cap,rfl,h2,h3,h4,h5⟩:=hCc
 rcases h5 with ⟨h5,rfl,h6⟩|⟨b,off,G,rfl,rfl,h7,h8,h9⟩
 · have:ts=[]:=List.eq_nil_of_length_eq_zero (by rw [List.length_map] at h2;omega)
   subst this
   exact⟨fun _=>undef,fun _=>[],[],fun i t hi=>by simp at hi,hC,List.nodup_nil,fun b hb=>hb,fun i hi=>by simp at hi,fun i hi=>by simp at hi,fun i j hi=>by simp at hi⟩
 · obtain⟨hs,Gs,e1,e2,rfl,e4⟩:=Rws_split h9
   obtain⟨n1,n2⟩:=List.nodup_cons.1 hnd
   have n2:=List.pairwise_flatten.1 n2
   have hG:∀ i,i<ts.length→Gs.getD i []∈Gs:=fun i hi=>by
    rw [List.getD_eq_getElem?_getD,List.getElem?_eq_getElem (by omega)];exact List.getElem_mem _
   have hin:∀ i,i<ts.length→∀ x∈Gs.getD i [],x∈Gs.flatten:=fun i hi x hx=>List.mem_flatten.2 ⟨_,hG i hi,hx⟩
   refine⟨fun i=>hs.getD i undef,fun i=>Gs.getD i [],[b],fun i t hi=>?_,?_,by simp,fun x hx=>by simp at hx;simp [hx],fun i hi x hx=>⟨by simp [hin i hi x hx],fun hb=>?_⟩,fun i hi=>n2.1 _ (hG i hi),fun i j hi hj hne x hx hx'=>?_⟩
   · obtain⟨h,A,g1,g2,g3,g4⟩:=e4 i t hi
     simp only [List.getD_eq_getElem?_getD,g1,g2,Option.getD_some]
     exact g4
   · simp only [C]
     refine⟨_,_,_,rfl,by simpa using h2,h3,h4,.inr ⟨b,off,[],rfl,rfl,h7,h8,?_⟩⟩
     have:=Rws_join (o:=true) (w:=w) (b:=b) (t:=fun i=>T.v (hs.getD i undef)) (h:=fun i=>hs.getD i undef) (G:=fun _=>([]:List Nat)) (l:=List.range ts.length) (off:=off) fun i x hi=>by
      obtain⟨hi1,hi2⟩:=List.getElem?_eq_some_iff.1 hi
      rw [List.length_range] at hi1
      simp at hi2
      subst hi2
      obtain⟨h,A,g1,g2,g3,g4⟩:=e4 i _ (List.getElem?_eq_getElem hi1)
      simp only [List.getD_eq_getElem?_getD,g1,Option.getD_some]
      exact⟨g3,by simp only [C];exact⟨trivial,trivial,g4.cell1⟩⟩
     have hz:(List.range ts.length).flatMap (fun _=>([]:List Nat))=[]:=by rw [List.flatMap_eq_nil_iff];intro _ _;rfl
     rw [hz] at this
     exact this
   · simp at hb;subst hb;exact n1 (hin i hi _ hx)
   · have hp:=n2.2
     have key:∀ i j,i<j→j<ts.length→∀ x∈Gs.getD i [],∀ y∈Gs.getD j [],x≠y:=fun i j hij hj=>by
      have:=List.pairwise_iff_getElem.1 hp i j (by omega) (by omega) hij
      simpa [List.getD_eq_getElem?_getD,List.getElem?_eq_getElem (show i<Gs.length by omega),List.getElem?_eq_getElem (show j<Gs.length by omega)] using this
     rcases Nat.lt_or_gt_of_ne hne with g|g
     · exact key i j g hj x hx x hx' rfl
     · exact key j i g hi x hx' x hx rfl
theorem C_join {w:World} {α:Type} {t:α→T} {h:α→Value} {G:α→List Nat} {l:List α} {v:Value} {F0:List Nat} (hC:C true w (.sl 1 (l.map fun i=>[.v (h i)])) v F0) (ht:∀ x∈l,C true w (t x) (h x) (G x)):C true w (.sl 1 (l.map fun i=>[t i])) v (F0++if l=[] then [] else l.flatMap G):=by
 simp only [C] at hC ⊢
 obtain⟨a,len,cap,rfl,h2,h3,h4,h5⟩:=hC
 rcases h5 with ⟨h5,rfl,h6⟩|⟨b,off,G0,rfl,rfl,h7,h8,h9⟩
 · have:l=[]:=List.eq_nil_of_length_eq_zero (by rw [List.length_map] at h2;omega)
   subst this
   exact⟨_,_,_,rfl,h2,h3,h4,.inl ⟨h5,rfl,h6⟩⟩
 · refine⟨_,_,_,rfl,by simpa using h2,h3,h4,.inr ⟨b,off,l.flatMap G,rfl,?_,h7,h8,Rws_join (h:=h) fun i x hi=>?_⟩⟩
   · obtain⟨hs,Gs,e1,e2,rfl,e4⟩:=Rws_split (ts:=l.map fun i=>T.v (h i)) (by rw [List.map_map];exact h9)
     have:Gs.flatten=[]:=by
      rw [List.flatten_eq_nil_iff]
      intro A hA
      obtain⟨i,hi,rfl⟩:=List.mem_iff_getElem.1 hA
      obtain⟨_,A,g1,g2,g3,g4⟩:=e4 i _ (List.getElem?_eq_getElem (by omega))
      rw [List.getElem?_eq_getElem hi] at g2
      cases g2
      simp [C] at g4
      exact g4.2.1
     rw [this]
     by_cases hl:l=[]
     · subst hl;simp
     · simp [hl]
   · obtain⟨hs,Gs,e1,e2,_,e4⟩:=Rws_split (ts:=l.map fun i=>T.v (h i)) (by rw [List.map_map];exact h9)
     obtain⟨c,A,g1,g2,g3,g4⟩:=e4 i (.v (h x)) (by simp [hi])
     simp only [C] at g4
     rw [g4.1] at g3
     exact⟨g3,ht x (List.mem_of_getElem? hi)⟩
def KT (K:List (Nat×Obj)) (t:T) (h:Value):Prop:=∀ w,Keeps w K→∃ G,C false w t h G
def rdAll (rest:List V0):List (Bool×V0):=rest.map fun x=>(false,x)
theorem V0c_rdAll {w:World} {FF FF':List Nat} (hs:∀ b∈FF',b∈FF):∀ {rest:List V0} {vs:List Value} {G:List Nat},V0c w FF (rdAll rest) vs G→G=[]∧V0c w FF' (rdAll rest) vs []
 | [],vs,G,⟨h1,h2⟩=>⟨h2,h1,rfl⟩
 | x::r,vs,G,⟨v,vr,G1,G2,e,h1,h2,h3⟩=>by
  simp only [Bool.false_eq_true,if_false] at h3
  obtain⟨rfl,h3⟩:=h3
  obtain⟨rfl,h4⟩:=V0c_rdAll hs (rest:=r) h2
  refine⟨rfl,v,vr,G1,[],e,h1,h4,?_⟩
  simp only [Bool.false_eq_true,if_false]
  exact⟨trivial,fun b hb hf=>h3 b hb (hs b hf)⟩
theorem KT.of {w:World} {K:List (Nat×Obj)} {t:T} {h:Value} {G:List Nat} {o:Bool} (hC:C o w t h G) (hK:∀ b∈G,∃ x,w.heap[b]?=some x∧(b,x)∈K):KT K t h:=fun w' hw=>⟨G,hC.read'.congr fun b hb=>by
 obtain⟨x,h1,h2⟩:=hK b hb
 rw [h1];exact hw _ h2⟩
def blocksOf (w:World) (Gs:List Nat):List (Nat×Obj):=Gs.filterMap fun b=>(w.heap[b]?).map fun x=>(b,x)
theorem blocksOf_mem {w:World} {Gs:List Nat} {b:Nat} {x:Obj}:(b,x)∈blocksOf w Gs↔b∈Gs∧w.heap[b]?=some x:=by
 unfold blocksOf
 rw [List.mem_filterMap]
 constructor
 · rintro⟨c,h1,h2⟩
   rw [Option.map_eq_some_iff] at h2
   obtain⟨y,h3,h4⟩:=h2
   cases h4
   exact⟨h1,h3⟩
 · rintro⟨h1,h2⟩
   exact⟨b,h1,by rw [h2];rfl⟩
theorem blocksOf_keeps {w:World} {Gs:List Nat}:Keeps w (blocksOf w Gs):=fun x hx=>(blocksOf_mem (b:=x.1) (x:=x.2)).1 hx |>.2
theorem Good.part {w:World} {H G:List Nat} (h:Good w H) (hs:∀ b∈G,b∈H):Good w G:=h.step (Nat.le_refl _) (fun _ _ _=>rfl) fun b hb=>.inr (hs b hb)
theorem nodup_flatMap {α:Type} {G:α→List Nat}:∀ {l:List α},l.Nodup→(∀ x∈l,(G x).Nodup)→(∀ x∈l,∀ y∈l,x≠y→∀ b∈G x,b∉G y)→(l.flatMap G).Nodup
 | [],_,_,_=>List.nodup_nil
 | x::l,hn,h1,h2=>by
  obtain⟨n1,n2⟩:=List.nodup_cons.1 hn
  rw [List.flatMap_cons]
  refine List.nodup_append.2 ⟨h1 x (by simp),nodup_flatMap n2 (fun y hy=>h1 y (by simp [hy])) (fun y hy z hz=>h2 y (by simp [hy]) z (by simp [hz])),fun b hb c hc e=>?_⟩;subst e
  obtain⟨y,hy,hc⟩:=List.mem_flatMap.1 hc
  exact h2 x (by simp) y (by simp [hy]) (fun e=>n1 (e▸hy)) b hb hc
theorem FnC.lift {f:FuncId} {ts:List T} {L:List Nat} {rest:List V0} (hcl:Callee P f) (hL:L.Nodup) (hLn:∀ i∈L,i<ts.length)
 (h:∀ (hd:Nat→Value) (K:List (Nat×Obj)),(∀ i t,ts[i]?=some t→KT K t (hd i))→FnCk P f K ((true,.one (.sl 1 ((List.range ts.length).map fun i=>[.v (hd i)])))::rdAll rest) (.a (.one (.sl 1 (L.map fun i=>[.v (hd i)]))))) :
 FnC P f ((true,.one (.sl 1 (ts.map fun t=>[t])))::rdAll rest) (.a (.one (.sl 1 (L.map fun i=>[ts.getD i (.v undef)])))):=⟨hcl,fun w vs F hG hv hnd hth=>by
 obtain⟨v,vr,G1,G2,rfl,h1,h2,h3⟩:=hv
 simp only [if_true] at h3
 obtain⟨rfl,h2'⟩:=V0c_rdAll (FF':=F) (fun b hb=>hb) h2
 rw [List.append_nil] at h3
 subst h3
 have h1:C true w (.sl 1 (ts.map fun t=>[t])) v F:=h1
 obtain⟨hd,G,F0,c1,c2,c3,c4,c5,c6,c7⟩:=C_split h1 hnd
 have hlt:∀ b∈F,b<w.heap.size:=h1.lt
 have hK:∀ i t,ts[i]?=some t→KT (blocksOf w ((List.range ts.length).flatMap G)) t (hd i):=fun i t hi=>KT.of (c1 i t hi) fun b hb=>by
  have hil:=(List.getElem?_eq_some_iff.1 hi).1
  exact⟨_,Array.getElem?_eq_getElem (hlt b (c5 i hil b hb).1),blocksOf_mem.2 ⟨List.mem_flatMap.2 ⟨i,by simpa using hil,hb⟩,Array.getElem?_eq_getElem _⟩⟩
 refine ((h hd _ hK).2 w (v::vr) F0 (hG.part c4) ⟨v,vr,F0,[],rfl,c2,(V0c_rdAll c4 h2').2,by simp⟩ c3 (fun b hb=>hth b (c4 b hb)) blocksOf_keeps fun x hx hx'=>?_).mono fun e w' hR=>?_
 · obtain⟨i,hi,hb⟩:=List.mem_flatMap.1 ((blocksOf_mem (b:=x.1) (x:=x.2)).1 hx).1
   exact (c5 i (by simpa using hi) _ hb).2 hx'
 · obtain⟨v',F',e1,r1,r2,r3,r4⟩:=hR
   have r1:C true w' (.sl 1 (L.map fun i=>[.v (hd i)])) v' F':=r1
   have hsame:∀ i∈L,∀ b∈G i,w'.heap[b]?=w.heap[b]?:=fun i hi b hb=>r4.block b (hlt b (c5 i (hLn i hi) b hb).1) (c5 i (hLn i hi) b hb).2
   have hj:=C_join (t:=fun i=>ts.getD i (.v undef)) (G:=G) r1 fun i hi=>by
    have hti:ts[i]?=some (ts.getD i (.v undef)):=by rw [List.getD_eq_getElem?_getD,List.getElem?_eq_getElem (hLn i hi)];rfl
    exact (c1 i _ hti).congr (hsame i hi)
   have hflat:(if L=[] then [] else L.flatMap G)=L.flatMap G:=by split<;>simp_all
   rw [hflat] at hj
   have hmem:∀ b∈L.flatMap G,∃ i∈L,b∈G i:=fun b hb=>List.mem_flatMap.1 hb
   refine⟨v',F'++L.flatMap G,e1,hj,List.nodup_append.2 ⟨r2,nodup_flatMap hL (fun i hi=>c6 i (hLn i hi)) (fun i hi j hj hne=>c7 i j (hLn i hi) (hLn j hj) hne),fun b hb c hc ebc=>?_⟩,fun b hb=>?_,⟨r4.os,r4.tape,r4.output,r4.size,fun k hk hn=>r4.block k hk fun hk'=>hn (c4 k hk')⟩⟩
   · subst ebc
     obtain⟨i,hi,hb'⟩:=hmem b hc
     have q:=c5 i (hLn i hi) b hb'
     rcases (r3 b hb).1 with g|g
     · have:=hlt b q.1;omega
     · exact q.2 g
   · rcases List.mem_append.1 hb with hb|hb
     · exact⟨(r3 b hb).1.imp id (c4 b),(r3 b hb).2⟩
     · obtain⟨i,hi,hb'⟩:=hmem b hb
       have q:=c5 i (hLn i hi) b hb'
       obtain⟨cc,ee,o3⟩:=hth b q.1
       exact⟨.inr q.1,cc,ee,(hsame i hi b hb').trans o3⟩⟩
end
end Go.Q
namespace Go.Q
open Go.RowKit
section
variable {P:Program} {ops:Array Oper} {o:Oper} {σ:St} {τ:Type}
def CuOk (w:World) (g:Nat×Value):Prop:=CuB (fun b=>b<w.heap.size∧b≠g.1) w g∧Thaw w g.1
def DPost (w:World) (g:Nat×Value) (p:τ→Prop) (out:τ→V) (e:Ending) (w':World):Prop:=
 ∃ x v F,e=.returned v∧p x∧Vr true w' (out x) v F∧F.Nodup∧(∀ b∈F,w.heap.size≤b∧Thaw w' b)∧Chg w w' [g.1]∧CuOk w' g
def FnD (P:Program) (f:FuncId) (ins:List V0) (p:τ→Prop) (out:τ→V):Prop:=
 Callee P f∧∀ w g vs F,Good w [g.1]→CuOk w g→V0s false w ins vs F→g.1∉F→Calls P f (List.toArray (.pointer (some ⟨g.1,0,none⟩)::vs)) w (DPost w g p out)
def FnE (P:Program) (f:FuncId) (ins:List V0) (p:τ→Prop) (out:τ→V):Prop:=
 Callee P f∧∀ w vs F,Good w []→V0s false w ins vs F→Calls P f (List.toArray vs) w fun e w'=>∃ x,p x∧FnPost w (out x) e w'
def FnN (P:Program) (f:FuncId):Prop:=
 Callee P f∧∀ w v F bs,Good w []→C false w (.sl 1 (byR bs)) v F→(∀ n∈bs,0≤n∧n<256)→Calls P f #[v] w fun e w'=>∃ g i h t,e=.returned (.pointer (some ⟨g,0,none⟩))∧w.heap.size≤g∧Thaw w' g∧w'.heap[g]?=some (.cells #[v,.int .i64 i,.int .i64 h] t (0,0))∧0≤i∧Ext w w'
theorem setR_same:∀ (l:List (Nat×R)) (u:Nat) (r:R),look l u=some r→setR l u r=l
 | [],_,_,h=>by cases h
 | (j,y)::l,u,r,h=>by
  rw [look_cons] at h
  rw [setR]
  by_cases e:j=u
  · subst e;rw [if_pos rfl] at h;cases h;simp [Nat.beq_refl]
  · rw [if_neg e] at h
    rw [beq_false e,cond_false,setR_same l u r h]
theorem V0s.c {w:World} {FF:List Nat}:∀ {ins:List V0} {vs:List Value} {F:List Nat},V0s false w ins vs F→(∀ b∈F,b∉FF)→V0c w FF (ins.map fun x=>(false,x)) vs []
 | [],vs,F,⟨h,_⟩,_=>⟨h,rfl⟩
 | x::r,vs,F,⟨v,vr,G1,G2,h1,h2,h3,h4⟩,hF=>by
  subst h4
  exact⟨v,vr,G1,[],h1,h2,h3.c fun b hb=>hF b (by simp [hb]),by simpa using fun b hb=>hF b (by simp [hb])⟩
def DRes (P:Program) (fn:Func) (g:Nat×Value) (p:τ→Prop) (out:τ→V) (σ:St):Prop:=∃ x,p x∧look σ.res 888888=some (.cur g)∧Res P fn true (out x) ⟨σ.n,σ.slots,delR σ.res 888888⟩
def RetD (P:Program) (fn:Func) (g:Nat×Value) (p:τ→Prop) (out:τ→V):Exit→St→Prop
 | .normal,σ=>DRes P fn g p out σ
 | .ret,σ=>DRes P fn g p out σ
 | _,_=>False
def RetE (P:Program) (fn:Func) (p:τ→Prop) (out:τ→V):Exit→St→Prop
 | .normal,σ=>∃ x,p x∧Res P fn true (out x) σ
 | .ret,σ=>∃ x,p x∧Res P fn true (out x) σ
 | _,_=>False
theorem DRes.mk {fn:Func} {g:Nat×Value} {p:τ→Prop} {out:τ→V} {σ:St} {x:τ} (hc:look σ.res 888888=some (.cur g)) (h:Res P fn true (out x) ⟨σ.n,σ.slots,delR σ.res 888888⟩) (hp:p x):DRes P fn g p out σ:=⟨x,hp,hc,h⟩
theorem ERes.mk {fn:Func} {p:τ→Prop} {out:τ→V} {σ:St} {x:τ} (h:Res P fn true (out x) σ) (hp:p x):∃ x,p x∧Res P fn true (out x) σ:=⟨x,hp,h⟩
theorem FnE.walk {n:Nat} {f:FuncId} {fn:Func} {c:Code} {ins:List V0} {p:τ→Prop} {out:τ→V} (hf:P.funcs[f]?=some fn) (hb:fn.body=some c) (hname:(fn.name == "runtime.NumGoroutine")=false) (hnt:fn.ntmps=n) (hn:Nat.ble ins.length n=true)
 (h:∀ w0,AW P w0 c (RetE P fn p out) (st0 n ins)):FnE P f ins p out:=by
 subst hnt
 refine⟨⟨fn,hf,hname,by rw [hb];rfl⟩,fun w vs F hG hv=>?_⟩
 refine calls_of_wp hf hb (Code.wp_mono ?_ (h ⟨w,[],hG⟩ _ _ (rel0 hG hv hn)))
 rintro e a' w' ⟨σ,h1,I,hI⟩
 have key:(∃ x,p x∧Res P fn true (out x) σ)→a'.defers=[]∧∃ v,(results fn a'.tmps).run P w'=.ok v w'∧∃ x,p x∧FnPost w (out x) (.returned v) w':=fun ⟨x,hp,h1⟩=>by
  obtain⟨v,F,g1,g2,g3⟩:=h1 I ⟨w,[],hG⟩ a' w' hI
  exact⟨hI.defers,v,g1,x,hp,v,F,rfl,g2,(g3.2 rfl).1,fun b hb=>⟨(g3.1 b hb).resolve_right (by simp),(g3.2 rfl).2 b hb⟩,hI.ext.toExt⟩
 cases e with
 | normal=>exact key h1
 | ret=>exact key h1
 | exit id=>exact h1.elim
 | goto l=>exact h1.elim
 | panic c=>exact h1.elim
 | outgrown=>exact h1.elim
theorem trunc_get {α:Type} (l:Array α) (n k:Nat) (h:n≤l.size) (hk:k<n):(l.extract 0 n)[k]?=l[k]?:=by
 rw [Array.getElem?_extract]
 simp
 omega
theorem FnD.walk {n:Nat} {f:FuncId} {fn:Func} {c:Code} {ins:List V0} {p:τ→Prop} {out:τ→V} {σ':Nat×Value→St} (hf:P.funcs[f]?=some fn) (hb:fn.body=some c) (hname:(fn.name == "runtime.NumGoroutine")=false) (hnt:fn.ntmps=n) (hn:Nat.ble (ins.length+1) n=true)
 (hi:∀ g,initC 1 (ins.map fun x=>(false,x)) ⟨n,[(0,(true,.a (.one (.pp 888888 0))))],[(888888,.cur g)]⟩=some (σ' g)) (h:∀ w0 g,AW P w0 c (RetD P fn g p out) (σ' g)):FnD P f ins p out:=by
 subst hnt
 refine⟨⟨fn,hf,hname,by rw [hb];rfl⟩,fun w g vs F hG hC hv hgF=>?_⟩
 have hv':=hv.c (FF:=[g.1]) fun b hb hm=>hgF (by simp only [List.mem_singleton] at hm;rwa [←hm])
 have hl:vs.length=ins.length:=by simpa using hv'.len
 have hn':ins.length+1≤fn.ntmps:=Nat.le_of_ble_eq_true hn
 have hglt:g.1<w.heap.size:=hC.1.lt
 let a0:Act:=⟨(List.toArray (.pointer (some ⟨g.1,0,none⟩)::vs))++Array.replicate (fn.ntmps-(List.toArray (Value.pointer (some ⟨g.1,0,none⟩)::vs)).size) undef,[]⟩
 let I0:Ip:=⟨fun b=>b<w.heap.size∧b≠g.1,fun i=>if i=888888 then [g.1] else [],fun _=>undef,fun i=>if i=888888 then g.1 else 0⟩
 have hget:∀ (j:Nat) v,(Value.pointer (some ⟨g.1,0,none⟩)::vs)[j]?=some v→a0.tmps.getD j undef=v:=fun j v hj=>by
  have hjl:=(List.getElem?_eq_some_iff.1 hj).1
  simp only [a0]
  rw [Array.getD_eq_getD_getElem?,Array.getElem?_append_left (by simpa using hjl)]
  have:(List.toArray (Value.pointer (some ⟨g.1,0,none⟩)::vs))[j]?=some v:=by simpa using hj
  rw [this];rfl
 have hr0:RelI I0 ⟨w,[g.1],hG⟩ ⟨fn.ntmps,[(0,(true,.a (.one (.pp 888888 0))))],[(888888,.cur g)]⟩ a0 w:=by
  have key:∀ i r,look [(888888,R.cur g)] i=some r→i=888888∧r=.cur g:=fun i r hi=>by
   rw [look_cons] at hi
   split at hi
   · rename_i e;cases hi;exact⟨e.symm,rfl⟩
   · cases hi
  refine⟨Chg.refl w [g.1],rfl,by simp [a0,hl];omega,fun i z hi=>?_,fun id r hi=>?_,fun b hb=>hb.1,fun id b hb=>?_,fun id r hi=>?_,fun i j hne b hb hb'=>?_⟩
  · rw [look_cons] at hi
    split at hi
    · rename_i e
      subst e;cases hi;exact hget 0 _ rfl
    · cases hi
  · obtain⟨rfl,rfl⟩:=key id r hi
    exact⟨rfl,rfl,hC.1⟩
  · simp only [I0] at hb ⊢
    split at hb
    · simp only [List.mem_singleton] at hb;subst hb;exact⟨hglt,fun h=>h.2 rfl⟩
    · cases hb
  · obtain⟨rfl,rfl⟩:=key id r hi
    refine⟨by simp [I0],fun b hb=>?_⟩
    have:b=g.1:=by simpa [I0] using hb
    subst this
    exact⟨.inr (by simp),hC.2⟩
  · simp only [I0] at hb hb'
    split at hb
    · split at hb'
      · omega
      · cases hb'
    · cases hb
 obtain⟨I1,r1⟩:=initC_ok (FF:=[g.1]) (fun _ _ _=>trivial) (hi g) hr0 (fun b h1 h2=>⟨h1,fun e=>h2 (by simp [e])⟩) hv' (by simp) (fun b hb=>by cases hb) fun j v hj=>hget (1+j) v (by rw [Nat.add_comm];simpa using hj)
 refine calls_of_wp hf hb (Code.wp_mono ?_ (h ⟨w,[g.1],hG⟩ g _ _ ⟨I1,r1⟩))
 rintro e a' w' ⟨σ1,h1,I,hI⟩
 have key:DRes P fn g p out σ1→a'.defers=[]∧∃ v,(results fn a'.tmps).run P w'=.ok v w'∧DPost w g p out (.returned v) w':=fun ⟨x,hp,hcur,h1⟩=>by
  obtain⟨hF,hB,hcu⟩:I.F 888888=[g.1]∧I.B 888888=g.1∧CuB I.Z w' g:=hI.res _ _ hcur
  have hsz:w.heap.size≤w'.heap.size:=hI.ext.size
  let W:World:={ w' with heap:=w'.heap.extract 0 w.heap.size }
  have hW:W.heap.size=w.heap.size:=by simp [W];omega
  have hWk:∀ k,k<w.heap.size→W.heap[k]?=w'.heap[k]?:=fun k hk=>trunc_get _ _ _ hsz hk
  have hGW:Good W []:=hG.step (Nat.le_of_eq hW.symm) (fun k hk hn=>(hWk k hk).trans (hI.ext.block k hk hn)) fun b hb=>by cases hb
  have hI2:RelI I ⟨W,[],hGW⟩ ⟨σ1.n,σ1.slots,delR σ1.res 888888⟩ a' w':=by
   refine⟨⟨rfl,rfl,rfl,by rw [hW];exact hsz,fun k hk _=>?_⟩,hI.defers,hI.size,hI.slots,fun id r hr=>hI.res id r (look_delR _ _ _ _ hr).2,hI.old,hI.lt,fun id r hr=>?_,hI.apart⟩
   · rw [hW] at hk;exact (hWk k hk).symm
   · obtain⟨e1,e2⟩:=look_delR _ _ _ _ hr
     refine⟨(hI.own id r e2).1,fun b hb=>⟨?_,((hI.own id r e2).2 b hb).2⟩⟩
     rcases ((hI.own id r e2).2 b hb).1 with h|h
     · left;show W.heap.size≤b;rw [hW];exact h
     · exfalso
       have:b=g.1:=by simpa using h
       subst this;exact hI.apart id 888888 e1 _ hb (by rw [hF];simp)
  obtain⟨v,F,g1,g2,g3⟩:=h1 I ⟨W,[],hGW⟩ a' w' hI2
  refine⟨hI.defers,v,g1,x,v,F,rfl,hp,g2,(g3.2 rfl).1,fun b hb=>⟨?_,(g3.2 rfl).2 b hb⟩,hI.ext,?_,?_⟩
  · have:=(g3.1 b hb).resolve_right (by simp)
    rwa [show (Base.W ⟨W,[],hGW⟩).heap.size=w.heap.size from hW] at this
  · refine hcu.congr rfl fun b _ hz=>⟨⟨hI.old b hz,fun e=>?_⟩,rfl⟩
    subst e;exact (hI.lt 888888 _ (by rw [hF];simp)).2 hz
  · exact ((hI.own 888888 _ hcur).2 g.1 (by rw [hF];simp)).2
 cases e with
 | normal=>exact key h1
 | ret=>exact key h1
 | exit id=>exact h1.elim
 | goto l=>exact h1.elim
 | panic c=>exact h1.elim
 | outgrown=>exact h1.elim
def readD (u:Nat) (σ:St):E→Option T
 | .t x=>some x
 | .vw id x=>bif Nat.beq id u then none else some x
 | .rf id=>match look σ.res id with|some (.row k rows)=>some (.sl k rows)|_=>none
 | _=>none
def readDA (u:Nat) (σ:St):A→Option V0
 | .one e=>match readD u σ e with|some t=>some (.one t)|none=>none
 | .agg l=>match mapO (readD u σ) l with|some ts=>some (.agg ts)|none=>none
inductive ArgsD (σ:St) (u:Nat) (q:Bool):List Operand→List V0→Prop where
 | nil:ArgsD σ u q [] []
 | cons {x:Operand} {A0:A} {v:V0} {l:List Operand} {vs:List V0} (hx:Get σ q x A0) (hv:readDA u σ A0=some v) (h:ArgsD σ u q l vs):ArgsD σ u q (x::l) (v::vs)
section
variable {I:Ip} {w0:Base} {w:World} {a:Act} {u:Nat} {g:Nat×Value}
theorem readD_ok (hr:RelI I w0 σ a w) (hu:look σ.res u=some (.cur g)) {e:E} {t:T} {c:Value} (h:readD u σ e=some t) (hv:VE I w e c):∃ G,C false w t c G∧∀ b∈G,b∉I.F u:=by
 cases e with
 | t x=>cases h;obtain⟨G,h1,h2⟩:=hv;exact⟨G,h1,fun b hb hm=>(hr.lt u b hm).2 (h2 b hb)⟩
 | vw id x=>
  rw [readD] at h
  cases hb:Nat.beq id u with
  | true=>rw [hb] at h;cases h
  | false=>
   rw [hb] at h;cases h
   obtain⟨G,h1,h2⟩:=hv
   exact⟨G,h1,fun b hb'=>hr.apart id u (beq_ne hb) b (h2 b hb')⟩
 | rf id=>
  rw [readD] at h
  split at h
  · rename_i k rows h0
    cases h
    have hc:c=I.hd id:=hv.1
    have hne:id≠u:=fun e=>by subst e;rw [hu] at h0;cases h0
    rw [hc];exact⟨_,C.read (show C true w (.sl k rows) _ _ from hr.res id _ h0),hr.apart id u hne⟩
  · cases h
 | pp id off=>cases h
 | pr id k i j=>cases h
 | sb id k i j=>cases h
 | tl id k j=>cases h
 | pf id k j=>cases h
 | no=>cases h
theorem mapD_ok (hr:RelI I w0 σ a w) (hu:look σ.res u=some (.cur g)):∀ {l:List E} {ts:List T} {cs:List Value},mapO (readD u σ) l=some ts→VEs I w l cs→∃ G,Cs false w ts cs G∧∀ b∈G,b∉I.F u
 | [],ts,cs,h,hv=>by cases h;exact⟨[],by unfold Cs;exact⟨hv,rfl⟩,fun _ hb=>by cases hb⟩
 | e::r,ts,cs,h,hv=>by
  obtain⟨c,cr,rfl,h1,h2⟩:=hv
  rw [mapO] at h
  split at h
  · rename_i t e1
    split at h
    · rename_i ts' e2
      cases h
      obtain⟨G1,g1,k1⟩:=readD_ok hr hu e1 h1
      obtain⟨G2,g2,k2⟩:=mapD_ok hr hu e2 h2
      exact⟨G1++G2,by unfold Cs;exact⟨c,cr,G1,G2,rfl,g1,g2,rfl⟩,fun b hb=>(List.mem_append.1 hb).elim (k1 b) (k2 b)⟩
    · cases h
  · cases h
theorem readDA_ok (hr:RelI I w0 σ a w) (hu:look σ.res u=some (.cur g)) {x:A} {t:V0} {v:Value} (h:readDA u σ x=some t) (hv:VA I w x v):∃ G,V0r false w t v G∧∀ b∈G,b∉I.F u:=by
 cases x with
 | one e=>
  rw [readDA] at h
  split at h
  · rename_i t' h1;cases h;exact readD_ok hr hu h1 hv
  · cases h
 | agg l=>
  rw [readDA] at h
  split at h
  · rename_i ts h1;cases h
    obtain⟨cs,h2,h3⟩:=hv
    obtain⟨G,h4,h5⟩:=mapD_ok hr hu h1 h3
    exact⟨G,⟨cs,h2,h4⟩,h5⟩
  · cases h
theorem ArgsD.ok {l:List Operand} {ins:List V0} (h:ArgsD σ u true l ins) (hr:RelI I w0 σ a w) (hu:look σ.res u=some (.cur g)):∃ F,V0s false w ins (l.map a.eval) F∧∀ b∈F,b∉I.F u:=by
 induction h with
 | nil=>exact⟨[],⟨rfl,rfl⟩,fun _ hb=>by cases hb⟩
 | cons hx hv h ih=>
  obtain⟨F,ih,k1⟩:=ih
  obtain⟨G,hg,k2⟩:=readDA_ok hr hu hv (hx.va hr rfl)
  exact⟨G++F,⟨_,_,G,F,rfl,hg,ih,rfl⟩,fun b hb=>(List.mem_append.1 hb).elim (k2 b) (k1 b)⟩
theorem RelI.moved (hr:RelI I w0 σ a w) (hu:look σ.res u=some (.cur g)) (hn:nvB u σ.slots σ.res=true) {w':World} (hc:Chg w w' [g.1]) (hg:CuOk w' g) (hZ:∀ b,I.Z b→b≠g.1) (hcu:CuB I.Z w' g):∃ I',RelI I' w0 σ a w'∧I'.Z=I.Z∧I'.F=I.F:=by
 obtain⟨hF,hB,_⟩:I.F u=[g.1]∧I.B u=g.1∧CuB I.Z w g:=hr.res _ _ hu
 have h:=hr.upd (w':=w') hu (by rw [hF];exact hc) (G:=[g.1]) (r:=.cur g) ⟨by simp,fun b hb=>?_⟩ ⟨by simp [Ip.set],by simp [Ip.set,hB],hcu⟩
 · rw [upd_nv hn,setR_same _ _ _ hu] at h
   refine⟨_,h,rfl,?_⟩
   funext i
   simp only [Ip.set]
   split
   · rename_i e;rw [e,hF]
   · rfl
 · simp only [List.mem_singleton] at hb
   subst hb
   exact⟨((hr.own u _ hu).2 _ (by rw [hF];simp)).1,hcu.lt,hg.2,.inl (by rw [hF];simp)⟩
end
theorem R_calldG {f:FuncId} {x:Operand} {l:List Operand} {tys:Array TypeId} {ins:List V0} {p:τ→Prop} {out:τ→V} {g:Nat×Value} {u:Nat} {y:τ→S} {rs:τ→List (Nat×R)} (n:Nat) (h:FnD P f ins p out) (ho:o.op=.call { callee:=.value (.func f),args:=(x::l).toArray,argTypes:=tys }) (hg:Grd ops o σ true) (hd:o.dst.all (fun d=>Nat.blt d σ.n)=true)
 (hx:Get σ true x (.one (.pp u 0))) (hu:look σ.res u=some (.cur g)) (hn:nvB u σ.slots σ.res=true) (ha:ArgsD σ u true l ins) (hout:∀ z,outV n (out z)=some (y z,rs z)) (hf:∀ z,((rs z).all fun x=>!σ.has x.1)=true):OpE P ops o σ fun σ'=>∃ z,p z∧σ'=(σ.adds (rs z)).put o.dst (true,y z):=by
 rintro w0 a w ⟨I,hr⟩ K Q hK
 rw [hg.wanted hr]
 simp only [if_true]
 obtain⟨hF,hB,hcu⟩:I.F u=[g.1]∧I.B u=g.1∧CuB I.Z w g:=hr.res _ _ hu
 obtain⟨F,hV,hap⟩:=ha.ok hr hu
 have hv:a.eval x=.pointer (some ⟨g.1,0,none⟩):=by
  have:a.eval x=.pointer (some ⟨I.B u,0,none⟩):=hx.va hr rfl
  rw [this,hB]
 have hZg:∀ b,I.Z b→b≠g.1:=fun b hz e=>by subst e;exact (hr.lt u _ (by rw [hF];simp)).2 hz
 have hgo:=(hr.own u _ hu).2 g.1 (by rw [hF];simp)
 have hok:CuOk w g:=⟨hcu.congr rfl fun b _ hz=>⟨⟨hr.old b hz,hZg b hz⟩,rfl⟩,hgo.2⟩
 have hgood:Good w [g.1]:=hr.goodF fun b hb=>by simp only [List.mem_singleton] at hb;subst hb;exact hgo.1
 unfold Oper.wp
 rw [run_enter h.1 ho,List.map_cons,hv]
 refine (h.2 w g _ F hgood hok hV (fun hm=>hap g.1 hm (by rw [hF];simp))).mono fun e w' hR=>?_
 obtain⟨z,v,G,rfl,hp,h1,h2,h3,h4,h5⟩:=hR
 have hsize:=h4.size
 have hcu':CuB I.Z w' g:=by
  obtain⟨i,m,t,G0,bs,k1,k2,k3,k4,k5⟩:=hcu
  obtain⟨i',m',t',G0',bs',j1,j2,j3,j4,j5⟩:=h5.1
  exact⟨i',m',t',G0,bs,j1,k2.congr fun b hb=>h4.block b (k2.lt b hb) (by simpa using hZg b (k3 b hb)),k3,j4,k5⟩
 obtain⟨I',hr',hZ',hF'⟩:=hr.moved hu hn h4 h5 hZg hcu'
 obtain⟨I2,g1,g2⟩:=outV_ok (hout z) (hf z) hr' h1 h2 fun b hb=>⟨.inl (Nat.le_trans hr.ext.size (h3 b hb).1),(Vr.lt h1 b hb),(h3 b hb).2,fun hz=>by rw [hZ'] at hz;have:=hr.old b hz;have:=(h3 b hb).1;omega,fun i hi=>by rw [hF'] at hi;have:=(hr.lt i b hi).1;have:=(h3 b hb).1;omega⟩
 refine hK _ _ _ ⟨z,hp,rfl⟩ ⟨I2,g1.put ?_ g2⟩
 have:(σ.adds (rs z)).n=σ.n:=adds_n (rs z)
 rw [this];exact hd
theorem Bj {f:FuncId} {x:Operand} {l:List Operand} {tys:Array TypeId} {ins:List V0} {p:τ→Prop} {out:τ→V} {g:Nat×Value} {u:Nat} {y:τ→S} {rs:τ→List (Nat×R)} (n:Nat) (h:FnD P f ins p out) (ho:o.op=.call { callee:=.value (.func f),args:=(x::l).toArray,argTypes:=tys }) (hg:o.guard=none) (hd:o.dst.all (fun d=>Nat.blt d σ.n)=true)
 (hx:Get σ true x (.one (.pp u 0))) (hu:look σ.res u=some (.cur g)) (hn:nvB u σ.slots σ.res=true) (ha:ArgsD σ u true l ins) (hout:∀ z,outV n (out z)=some (y z,rs z)) (hf:∀ z,((rs z).all fun x=>!σ.has x.1)=true):OpE P ops o σ fun σ'=>∃ z,p z∧σ'=(σ.adds (rs z)).put o.dst (true,y z):=
 R_calldG n h ho (.no hg) hd hx hu hn ha hout hf
theorem R_callE {f:FuncId} {l:List Operand} {tys:Array TypeId} {ins:List V0} {p:τ→Prop} {out:τ→V} {y:τ→S} {rs:τ→List (Nat×R)} (n:Nat) (h:FnE P f ins p out) (ho:o.op=.call { callee:=.value (.func f),args:=l.toArray,argTypes:=tys }) (hg:o.guard=none) (hd:o.dst.all (fun d=>Nat.blt d σ.n)=true)
 (ha:Args σ true l ins) (hout:∀ z,outV n (out z)=some (y z,rs z)) (hf:∀ z,((rs z).all fun x=>!σ.has x.1)=true):OpE P ops o σ fun σ'=>∃ z,p z∧σ'=(σ.adds (rs z)).put o.dst (true,y z):=by
 rintro w0 a w ⟨I,hr⟩ K Q hK
 simp only [Region.wanted,hg,if_true]
 obtain⟨F,hF⟩:=ha.ok hr rfl
 unfold Oper.wp
 rw [run_enter h.1 ho]
 refine (h.2 w _ F hr.good hF).mono fun e w' hR=>?_
 obtain⟨z,hp,v,G,rfl,h1,h2,h3,h4⟩:=hR
 obtain⟨I',g1,g2⟩:=outV_ok (hout z) (hf z) (hr.later h4) h1 h2 fun b hb=>⟨.inl (Nat.le_trans hr.ext.size (h3 b hb).1),(Vr.lt h1 b hb),(h3 b hb).2,fun hz=>by have:=hr.old b hz;have:=(h3 b hb).1;omega,fun i hi=>by have:=(hr.lt i b hi).1;have:=(h3 b hb).1;omega⟩
 refine hK _ _ _ ⟨z,hp,rfl⟩ ⟨I',g1.put ?_ g2⟩
 have:(σ.adds (rs z)).n=σ.n:=adds_n (rs z)
 rw [this];exact hd
theorem R_calln {f:FuncId} {x:Operand} {tys:Array TypeId} {bs:List Int} (u:Nat) (h:FnN P f) (ho:o.op=.call { callee:=.value (.func f),args:=[x].toArray,argTypes:=tys }) (hg:o.guard=none) (hd:o.dst.all (fun d=>Nat.blt d σ.n)=true)
 (hx:Get σ true x (.one (.t (.sl 1 (byR bs))))) (hb:∀ n∈bs,0≤n∧n<256) (hf:σ.has u=false):OpE P ops o σ fun σ'=>∃ g,σ'=(σ.add u (.cur g)).put o.dst (true,.a (.one (.pp u 0))):=by
 rintro w0 a w ⟨I,hr⟩ K Q hK
 simp only [Region.wanted,hg,if_true]
 obtain⟨G,hC,hZ⟩:VE I w (.t (.sl 1 (byR bs))) (a.eval x):=hx.va hr rfl
 unfold Oper.wp
 rw [run_enter h.1 ho]
 refine (h.2 w _ G bs hr.good hC hb).mono fun e w' hR=>?_
 obtain⟨g,i,m,t,rfl,h1,h2,h3,h4,h5⟩:=hR
 have hlt:g<w'.heap.size:=(Array.getElem?_eq_some_iff.1 h3).1
 have hr':=hr.add (id:=u) hf h5 (G:=[g]) (u:=undef) (b:=g) (r:=.cur (g,a.eval x)) ⟨by simp,fun b hb=>by simp only [List.mem_singleton] at hb;subst hb;exact⟨h1,hlt,h2⟩⟩
  ⟨by simp [Ip.set],by simp [Ip.set],i,m,t,G,bs,h3,hC.mono h5,hZ,h4,hb⟩
 exact hK _ _ _ ⟨(g,a.eval x),rfl⟩ ⟨_,hr'.put hd (by show Value.pointer _=Value.pointer _;simp [Ip.set])⟩
end
end Go.Q
namespace Go.Q
open Go.RowKit
section
variable {P:Program} {ops:Array Oper} {o:Oper} {σ:St} {q:Bool}
theorem R_orI {t t':TypeId} {x y:Operand} {n m:Int} (ho:o.op=.binOp .or t x y t') (hg:Grd ops o σ q) (hd:o.dst.all (fun d=>Nat.blt d σ.n)=true) (hx:Get σ q x (.one (.t (.v (.int .i64 n))))) (hy:Get σ q y (.one (.t (.v (.int .i64 m))))) :
 Op1 P ops o σ (σ.put o.dst (q,.a (.one (.t (.v (.int .i64 (bits .or .i64 n m))))))):=
 Di ho hg hd hx hy guard_int (h:=fun _ w=>rfl)
theorem R_andI {t t':TypeId} {x y:Operand} {n m:Int} (ho:o.op=.binOp .and t x y t') (hg:Grd ops o σ q) (hd:o.dst.all (fun d=>Nat.blt d σ.n)=true) (hx:Get σ q x (.one (.t (.v (.int .i64 n))))) (hy:Get σ q y (.one (.t (.v (.int .i64 m))))) :
 Op1 P ops o σ (σ.put o.dst (q,.a (.one (.t (.v (.int .i64 (bits .and .i64 n m))))))):=
 Di ho hg hd hx hy guard_int (h:=fun _ w=>rfl)
theorem R_shrI {t t':TypeId} {x y:Operand} {k:IntKind} {n m:Int} (ho:o.op=.binOp .shr t x y t') (hg:Grd ops o σ q) (hd:o.dst.all (fun d=>Nat.blt d σ.n)=true) (hx:Get σ q x (.one (.t (.v (.int .i64 n))))) (hy:Get σ q y (.one (.t (.v (.int k m)))))
 (hb:q=true→0≤m):Op1 P ops o σ (σ.put o.dst (q,.a (.one (.t (.v (.int .i64 (n.fdiv (2^(min m.toNat 64))))))))):=
 Di ho hg hd hx hy guard_int (h:=fun hq w=>by
  have h2:=hb hq
  simp only [binOp,Op.shift]
  rw [if_neg (by omega)]
  rfl)
theorem RelI.drop {I:Ip} {w0:Base} {w:World} {a:Act} (h:RelI I w0 σ a w) {rs':List (Nat×R)} (hs:∀ i r,look rs' i=some r→look σ.res i=some r):RelI I w0 ⟨σ.n,σ.slots,rs'⟩ a w:=
 ⟨h.ext,h.defers,h.size,h.slots,fun i r hi=>h.res i r (hs i r hi),h.old,h.lt,fun i r hi=>h.own i r (hs i r hi),h.apart⟩
theorem RelI.setF {I:Ip} {w0:Base} {w:World} {a:Act} (h:RelI I w0 σ a w) {u:Nat} (hn:nvB u σ.slots σ.res=true) (hu:∀ r,look σ.res u≠some r) {G:List Nat} (hG:∀ b∈G,b<w.heap.size∧¬ I.Z b∧∀ i,i≠u→b∉I.F i):RelI (I.set u G (I.hd u) (I.B u)) w0 σ a w:=by
 simp only [nvB,Bool.and_eq_true,List.all_eq_true] at hn
 have hZ:∀ b,I.Z b→b∉I.F u:=fun b hz hb=>(h.lt u b hb).2 hz
 have hv:∀ i,i≠u→∀ b∈I.F i,b∉I.F u:=fun i hi=>h.apart i u hi
 have hmem:∀ {α:Type} {l:List (Nat×α)} {i:Nat} {x:α},look l i=some x→(i,x)∈l:=by
  intro α l
  induction l with
  | nil=>intro i x hx;cases hx
  | cons y l ih=>
   intro i x hx
   obtain⟨j,y⟩:=y
   rw [look_cons] at hx
   split at hx
   · rename_i e;subst e;cases hx;simp
   · exact List.mem_cons_of_mem _ (ih hx)
 refine⟨h.ext,h.defers,h.size,fun i x hi=>?_,fun i r hi=>?_,h.old,fun i b hb=>?_,fun i r hi=>?_,fun i j hne b hb hb'=>?_⟩
 · have:=(h.slots i x hi).puv (G:=G) (Chg.refl w (I.F u)) hZ hv
   rw [S.puv_nv (hn.1 _ (hmem hi))] at this
   exact this
 · have hi':i≠u:=fun e=>hu r (e▸hi)
   have hnr:=hn.2 _ (hmem hi)
   have:=h.res i r hi
   cases r with
   | row k rows=>
    have this:C true w (.sl k rows) (I.hd i) (I.F i):=this
    show C true w (.sl k rows) _ _
    simpa only [Ip.set,if_neg hi'] using this
   | box cs=>
    obtain⟨h1,vs,t,h2,h3⟩:=this
    have h3:=h3.puv (G:=G) (Chg.refl w (I.F u)) hZ hv
    rw [map_same fun e he=>E.puv_nv (List.all_eq_true.1 hnr e he)] at h3
    exact⟨by simpa only [Ip.set,if_neg hi'] using h1,vs,t,by simpa only [Ip.set,if_neg hi'] using h2,h3⟩
   | hdr j x=>
    refine⟨by simpa only [Ip.set,if_neg hi'] using this.1,fun k hk=>?_⟩
    have:=this.2 k hk
    simp only [Ip.set]
    split
    · rename_i e;rw [←e];exact this
    · exact this
   | blk j x=>
    refine⟨by simpa only [Ip.set,if_neg hi'] using this.1,fun k hk=>?_⟩
    have:=this.2 k hk
    simp only [Ip.set]
    split
    · rename_i e;rw [←e];exact this
    · exact this
   | kept K=>exact⟨by simpa only [Ip.set,if_neg hi'] using this.1,this.2⟩
   | opq=>trivial
   | cur g=>exact⟨by simpa only [Ip.set,if_neg hi'] using this.1,by simpa only [Ip.set,if_neg hi'] using this.2.1,this.2.2⟩
   | mp b f=>exact⟨by simpa only [Ip.set,if_neg hi'] using this.1,this.2⟩
 · simp only [Ip.set] at hb ⊢
   split at hb
   · exact⟨(hG b hb).1,(hG b hb).2.1⟩
   · exact h.lt i b hb
 · have hi':i≠u:=fun e=>hu r (e▸hi)
   simp only [Ip.set,if_neg hi']
   exact h.own i r hi
 · simp only [Ip.set] at hb hb'
   split at hb
   · rename_i e
     rw [if_neg (fun e'=>hne (e.trans e'.symm))] at hb'
     exact (hG b hb).2.2 j (fun e'=>hne (e.trans e'.symm)) hb'
   · split at hb'
     · rename_i e
       exact (hG b hb').2.2 i (fun e'=>hne (e'.trans e.symm)) hb
     · exact h.apart i j hne b hb hb'
theorem RelI.keepR {I:Ip} {w0:Base} {w:World} {a:Act} (h:RelI I w0 σ a w) {u:Nat} {r:R} (hr:RR I w u r) (ho:(I.F u).Nodup∧∀ b∈I.F u,w0.own b∧Thaw w b):RelI I w0 (σ.add u r) a w:=by
 have key:∀ i r',look (σ.add u r).res i=some r'→(i=u∧r'=r)∨look σ.res i=some r':=fun i r' hi=>by
  rw [St.add,look_cons] at hi
  split at hi
  · rename_i e;cases hi;exact .inl ⟨e.symm,rfl⟩
  · exact .inr hi
 exact⟨h.ext,h.defers,h.size,h.slots,fun i r' hi=>(key i r' hi).elim (fun e=>by rw [e.1,e.2];exact hr) (h.res i r'),h.old,h.lt,fun i r' hi=>(key i r' hi).elim (fun e=>by rw [e.1];exact ho) (h.own i r'),h.apart⟩
theorem has_addR' {σ:St} {id m:Nat} {r:R} (h:σ.has m=false) (hm:id≠m) (hr:r.has m=false):(σ.add id r).has m=false:=by
 unfold St.has St.add at *
 simp only [Bool.or_eq_false_iff,List.any_cons] at h ⊢
 exact⟨h.1,⟨beq_false hm,hr⟩,h.2⟩
structure Pos where
 L:List Int
 F:List Int
 x:Int
 y:Int
 z:Bool
def rowI (l:List Int):R:=.row 1 (l.map fun n=>[.v (.int .i64 n)])
def treeI (l:List Int):T:=.sl 1 (l.map fun n=>[.v (.int .i64 n)])
def boxP (i1 i2:Nat) (p:Pos):R:=.box [.rf i1,.t (.v (.int .i64 p.x)),.t (.v (.int .i64 p.y)),.rf i2,.t (.v (.bool p.z))]
def PosB (w:World) (b:Nat) (p:Pos) (G:List Nat):Prop:=∃ h1 h2 e G1 G2,w.heap[b]?=some (.cells #[h1,.int .i64 p.x,.int .i64 p.y,h2,.bool p.z] e (0,0))∧C true w (treeI p.L) h1 G1∧C true w (treeI p.F) h2 G2∧G=b::(G1++G2)
def PosOk (w:World) (b:Nat) (p:Pos) (G:List Nat):Prop:=PosB w b p G∧G.Nodup∧∀ c∈G,Thaw w c
theorem PosB.lt {w:World} {b:Nat} {p:Pos} {G:List Nat} (h:PosB w b p G):∀ c∈G,c<w.heap.size:=by
 obtain⟨h1,h2,e,G1,G2,hB,c1,c2,rfl⟩:=h
 intro c hc
 rcases List.mem_cons.1 hc with rfl|hc
 · exact (Array.getElem?_eq_some_iff.1 hB).1
 · rcases List.mem_append.1 hc with hc|hc
   · exact C.lt c1 c hc
   · exact C.lt c2 c hc
def PPost {τ:Type} (w:World) (b:Nat) (G:List Nat) (post:Pos→τ→Prop) (out:τ→List Value) (e:Ending) (w':World):Prop:=
 ∃ p' t G',e=.returned (match out t with|[]=>.tuple #[]|l=>.agg l.toArray)∧post p' t∧PosOk w' b p' G'∧(∀ c∈G',c∈G∨w.heap.size≤c)∧Chg w w' G
def FnP {τ:Type} (P:Program) (f:FuncId) (ins:List V0) (pre:Pos→Prop) (post:Pos→Pos→τ→Prop) (out:τ→List Value):Prop:=
 Callee P f∧∀ w b p G vs A,pre p→Good w G→PosOk w b p G→V0s false w ins vs A→(∀ c∈A,c∉G)→Calls P f (List.toArray (.pointer (some ⟨b,0,none⟩)::vs)) w (PPost w b G (post p) out)
theorem V0s.cp {w:World} {FF:List Nat}:∀ {ins:List V0} {vs:List Value} {F:List Nat},V0s false w ins vs F→(∀ b∈F,b∉FF)→V0c w FF (ins.map fun x=>(false,x)) vs []
 | [],vs,F,⟨h,_⟩,_=>⟨h,rfl⟩
 | x::r,vs,F,⟨v,vr,G1,G2,h1,h2,h3,h4⟩,hF=>by
  subst h4
  exact⟨v,vr,G1,[],h1,h2,h3.cp fun b hb=>hF b (by simp [hb]),by simpa using fun b hb=>hF b (by simp [hb])⟩
def PRes {τ:Type} (P:Program) (fn:Func) (b:Nat) (post:Pos→τ→Prop) (out:τ→List Value) (σ:St):Prop:=
 ∃ p' t rs xs,post p' t∧look σ.res 700=some (boxP 701 702 p')∧look σ.res 701=some (rowI p'.L)∧look σ.res 702=some (rowI p'.F)∧look σ.res 703=some (.blk (some 700) b)∧fn.results=List.toArray rs∧RVs P σ rs xs∧((xs=[]∧out t=[])∨(out t≠[]∧xs=[.agg ((out t).map fun v=>.t (.v v))]))
def RetP {τ:Type} (P:Program) (fn:Func) (b:Nat) (post:Pos→τ→Prop) (out:τ→List Value):Exit→St→Prop
 | .normal,σ=>PRes P fn b post out σ
 | .ret,σ=>PRes P fn b post out σ
 | _,_=>False
theorem VEs_plain {I:Ip} {w:World}:∀ {l cs:List Value},VEs I w (l.map (fun v=>E.t (.v v))) cs→cs=l
 | [],cs,h=>h
 | x::l,cs,⟨c,cr,e,⟨_,g,_⟩,h⟩=>by
  simp only [C] at g
  rw [e,g.1,VEs_plain h]
theorem FnP.walk {τ:Type} {n:Nat} {f:FuncId} {fn:Func} {c:Code} {ins:List V0} {pre:Pos→Prop} {post:Pos→Pos→τ→Prop} {out:τ→List Value} {σ':Nat→Pos→St} (hf:P.funcs[f]?=some fn) (hb:fn.body=some c) (hname:(fn.name == "runtime.NumGoroutine")=false) (hnt:fn.ntmps=n) (hn:Nat.ble (ins.length+1) n=true)
 (hi:∀ b p,initC 1 (ins.map fun x=>(false,x)) ⟨n,[(0,(true,.a (.one (.pp 700 0))))],[(700,boxP 701 702 p),(701,rowI p.L),(702,rowI p.F),(703,.blk (some 700) b)]⟩=some (σ' b p)) (h:∀ w0 b p,pre p→AW P w0 c (RetP P fn b (post p) out) (σ' b p)):FnP P f ins pre post out:=by
 subst hnt
 refine⟨⟨fn,hf,hname,by rw [hb];rfl⟩,fun w b p G vs A hp hG hok hv hap=>?_⟩
 have hv':=hv.cp (FF:=G) hap
 have hl:vs.length=ins.length:=by simpa using hv'.len
 have hn':ins.length+1≤fn.ntmps:=Nat.le_of_ble_eq_true hn
 obtain⟨hB,hnd,hth⟩:=hok
 have hlt:=hB.lt
 obtain⟨h1,h2,e,G1,G2,hcell,c1,c2,rfl⟩:=hB
 obtain⟨nb,n12⟩:=List.nodup_cons.1 hnd
 obtain⟨n1,n2,n3⟩:=List.nodup_append.1 n12
 let a0:Act:=⟨(List.toArray (.pointer (some ⟨b,0,none⟩)::vs))++Array.replicate (fn.ntmps-(List.toArray (Value.pointer (some ⟨b,0,none⟩)::vs)).size) undef,[]⟩
 let I0:Ip:=⟨fun c=>c<w.heap.size∧c∉b::(G1++G2),fun i=>if i=700 then [b] else if i=701 then G1 else if i=702 then G2 else [],fun i=>if i=701 then h1 else if i=702 then h2 else undef,fun i=>if i=700 then b else 0⟩
 have hget:∀ (j:Nat) v,(Value.pointer (some ⟨b,0,none⟩)::vs)[j]?=some v→a0.tmps.getD j undef=v:=fun j v hj=>by
  have hjl:=(List.getElem?_eq_some_iff.1 hj).1
  simp only [a0]
  rw [Array.getD_eq_getD_getElem?,Array.getElem?_append_left (by simpa using hjl)]
  have:(List.toArray (Value.pointer (some ⟨b,0,none⟩)::vs))[j]?=some v:=by simpa using hj
  rw [this];rfl
 have hF0:∀ i,∀ x∈I0.F i,x∈b::(G1++G2):=fun i x hx=>by
  simp only [I0] at hx
  split at hx
  · simp only [List.mem_singleton] at hx;subst hx;simp
  · split at hx
    · simp [hx]
    · split at hx
      · simp [hx]
      · cases hx
 have hdr:∀ {k1:Value} {l:List Int} {g:List Nat},C true w (treeI l) k1 g→∃ a' l' k',k1=.slice a' l' k':=fun h=>by
  unfold treeI at h
  simp only [C] at h
  obtain⟨a',l',k',e,_⟩:=h
  exact⟨a',l',k',e⟩
 have hr0:RelI I0 ⟨w,b::(G1++G2),hG⟩ ⟨fn.ntmps,[(0,(true,.a (.one (.pp 700 0))))],[(700,boxP 701 702 p),(701,rowI p.L),(702,rowI p.F),(703,.blk (some 700) b)]⟩ a0 w:=by
  have key:∀ i r,look [(700,boxP 701 702 p),(701,rowI p.L),(702,rowI p.F),(703,R.blk (some 700) b)] i=some r→(i=700∧r=boxP 701 702 p)∨(i=701∧r=rowI p.L)∨(i=702∧r=rowI p.F)∨(i=703∧r=.blk (some 700) b):=fun i r hi=>by
   rw [look_cons] at hi
   split at hi
   · rename_i e;cases hi;exact .inl ⟨e.symm,rfl⟩
   rw [look_cons] at hi
   split at hi
   · rename_i e;cases hi;exact .inr (.inl ⟨e.symm,rfl⟩)
   rw [look_cons] at hi
   split at hi
   · rename_i e;cases hi;exact .inr (.inr (.inl ⟨e.symm,rfl⟩))
   rw [look_cons] at hi
   split at hi
   · rename_i e;cases hi;exact .inr (.inr (.inr ⟨e.symm,rfl⟩))
   cases hi
  refine⟨Chg.refl w _,rfl,by simp [a0,hl];omega,fun i z hi=>?_,fun id r hi=>?_,fun x hx=>hx.1,fun id x hx=>⟨hlt x (hF0 id x hx),fun hz=>hz.2 (hF0 id x hx)⟩,fun id r hi=>?_,fun i j hne x hx hx'=>?_⟩
  · rw [look_cons] at hi
    split at hi
    · rename_i e;subst e;cases hi
      exact hget 0 _ rfl
    · cases hi
  · rcases key id r hi with ⟨rfl,rfl⟩|⟨rfl,rfl⟩|⟨rfl,rfl⟩|⟨rfl,rfl⟩
    · exact⟨rfl,_,e,hcell,_,_,rfl,⟨rfl,hdr c1⟩,_,_,rfl,⟨[],by simp only [C];exact⟨trivial,trivial,rfl⟩,by simp⟩,_,_,rfl,⟨[],by simp only [C];exact⟨trivial,trivial,rfl⟩,by simp⟩,_,_,rfl,⟨rfl,hdr c2⟩,_,_,rfl,⟨[],by simp only [C];exact⟨trivial,trivial,rfl⟩,by simp⟩,rfl⟩
    · exact c1
    · exact c2
    · exact⟨rfl,fun i hi=>by cases hi;rfl⟩
  · have hall:∀ x∈I0.F id,Base.own ⟨w,b::(G1++G2),hG⟩ x∧Thaw w x:=fun x hx=>⟨.inr (hF0 id x hx),hth x (hF0 id x hx)⟩
    refine⟨?_,hall⟩
    rcases key id r hi with ⟨rfl,rfl⟩|⟨rfl,rfl⟩|⟨rfl,rfl⟩|⟨rfl,rfl⟩
    · simp [I0]
    · exact n1
    · exact n2
    · simp [I0]
  · simp only [I0] at hx hx'
    have nb1:b∉G1:=fun h=>nb (List.mem_append_left _ h)
    have nb2:b∉G2:=fun h=>nb (List.mem_append_right _ h)
    split at hx
    · simp only [List.mem_singleton] at hx;subst hx
      split at hx'
      · omega
      · split at hx'
        · exact nb1 hx'
        · split at hx'
          · exact nb2 hx'
          · cases hx'
    · split at hx
      · split at hx'
        · simp only [List.mem_singleton] at hx';subst hx';exact nb1 hx
        · split at hx'
          · omega
          · split at hx'
            · exact n3 x hx x hx' rfl
            · cases hx'
      · split at hx
        · split at hx'
          · simp only [List.mem_singleton] at hx';subst hx';exact nb2 hx
          · split at hx'
            · exact n3 x hx' x hx rfl
            · split at hx'
              · omega
              · cases hx'
        · cases hx
 obtain⟨I1,r1⟩:=initC_ok (FF:=b::(G1++G2)) (fun _ _ _=>trivial) (hi b p) hr0 (fun x h1 h2=>⟨h1,h2⟩) hv' (by simp) (fun x hx=>by cases hx) fun j v hj=>hget (1+j) v (by rw [Nat.add_comm];simpa using hj)
 refine calls_of_wp hf hb (Code.wp_mono ?_ (h ⟨w,b::(G1++G2),hG⟩ b p hp _ _ ⟨I1,r1⟩))
 rintro e a' w' ⟨σ1,hR,I,hI⟩
 have key:PRes P fn b (post p) out σ1→a'.defers=[]∧∃ v,(results fn a'.tmps).run P w'=.ok v w'∧PPost w b (b::(G1++G2)) (post p) out (.returned v) w':=fun ⟨p',t,rs,xs,q1,q2,q3,q4,q5,q6,q7,q8⟩=>by
  obtain⟨vs',r1,r2⟩:=run_results (P:=P) (fn:=fn) (l:=rs) hI q6 q7
  obtain⟨m1,ws,t',m2,c,cr,e1,⟨g1,_⟩,c',cr',e2,⟨_,g2,_⟩,c'',cr'',e3,⟨_,g3,_⟩,c3,cr3,e4,⟨g4,_⟩,c4,cr4,e5,⟨_,g5,_⟩,e6⟩:I.F 700=[I.B 700]∧∃ vs e,w'.heap[I.B 700]?=some (.cells (List.toArray vs) e (0,0))∧VEs I w' _ vs:=hI.res _ _ q2
  have e6:cr4=[]:=e6
  simp only [C] at g2 g3 g5
  have hbb:I.B 700=b:=(hI.res _ _ q5).2 700 rfl
  have k1:C true w' (treeI p'.L) (I.hd 701) (I.F 701):=hI.res _ _ q3
  have k2:C true w' (treeI p'.F) (I.hd 702) (I.F 702):=hI.res _ _ q4
  have hcell':w'.heap[b]?=some (.cells #[I.hd 701,.int .i64 p'.x,.int .i64 p'.y,I.hd 702,.bool p'.z] t' (0,0)):=by
   rw [←hbb,m2,e1,e2,e3,e4,e5,e6,g1,g2.1,g3.1,g4,g5.1]
  have ap1:b∉I.F 701:=fun hm=>hI.apart 700 701 (by decide) b (by rw [m1,hbb];simp) hm
  have ap2:b∉I.F 702:=fun hm=>hI.apart 700 702 (by decide) b (by rw [m1,hbb];simp) hm
  have own:∀ c∈b::(I.F 701++I.F 702),(c∈b::(G1++G2)∨w.heap.size≤c)∧Thaw w' c:=fun c hc=>by
   rcases List.mem_cons.1 hc with rfl|hc
   · have:=(hI.own 700 _ q2).2 c (by rw [m1,hbb];simp)
     exact⟨this.1.symm,this.2⟩
   · rcases List.mem_append.1 hc with hc|hc
     · exact⟨((hI.own 701 _ q3).2 c hc).1.symm,((hI.own 701 _ q3).2 c hc).2⟩
     · exact⟨((hI.own 702 _ q4).2 c hc).1.symm,((hI.own 702 _ q4).2 c hc).2⟩
  refine⟨hI.defers,_,r1,p',t,b::(I.F 701++I.F 702),?_,q1,⟨⟨_,_,t',_,_,hcell',k1,k2,rfl⟩,?_,fun c hc=>(own c hc).2⟩,fun c hc=>(own c hc).1,hI.ext⟩
  · rcases q8 with ⟨rfl,h0⟩|⟨h0,rfl⟩
    · have r2:vs'=[]:=r2
      rw [r2,h0]
    · obtain⟨v,vr,rfl,⟨cs,rfl,h3⟩,h4⟩:=r2
      have h4:vr=[]:=h4
      subst h4
      rw [VEs_plain h3]
      match out t,h0 with
      | _::_,_=>rfl
  · refine List.nodup_cons.2 ⟨fun hm=>(List.mem_append.1 hm).elim ap1 ap2,List.nodup_append.2 ⟨(hI.own 701 _ q3).1,(hI.own 702 _ q4).1,fun x hx y hy e=>?_⟩⟩
    subst e;exact hI.apart 701 702 (by decide) x hx hy
 cases e with
 | normal=>exact key hR
 | ret=>exact key hR
 | exit id=>exact hR.elim
 | goto l=>exact hR.elim
 | panic c=>exact hR.elim
 | outgrown=>exact hR.elim
def readT:A→Option V0
 | .one (.t x)=>some (.one x)
 | .agg l=>match mapO (fun e=>match e with|E.t x=>some x|_=>none) l with|some ts=>some (.agg ts)|none=>none
 | _=>none
inductive ArgsT (σ:St):List Operand→List V0→Prop where
 | nil:ArgsT σ [] []
 | cons {x:Operand} {A0:A} {v:V0} {l:List Operand} {vs:List V0} (hx:Get σ true x A0) (hv:readT A0=some v) (h:ArgsT σ l vs):ArgsT σ (x::l) (v::vs)
theorem readT_ok {I:Ip} {w:World} {x:A} {t:V0} {v:Value} (h:readT x=some t) (hv:VA I w x v):∃ G,V0r false w t v G∧∀ c∈G,I.Z c:=by
 match x,h with
 | .one (.t x),h=>
  cases h
  obtain⟨G,h1,h2⟩:=hv
  exact⟨G,h1,h2⟩
 | .agg l,h=>
  rw [readT] at h
  split at h
  · rename_i ts h1
    cases h
    obtain⟨cs,rfl,h3⟩:=hv
    have key:∀ {l:List E} {ts:List T} {cs:List Value},mapO (fun e=>match e with|E.t x=>some x|_=>none) l=some ts→VEs I w l cs→∃ G,Cs false w ts cs G∧∀ c∈G,I.Z c:=by
     intro l
     induction l with
     | nil=>intro ts cs h hv;cases h;exact⟨[],by unfold Cs;exact⟨hv,rfl⟩,fun _ hb=>by cases hb⟩
     | cons e l ih=>
      rintro ts cs h ⟨c,cr,rfl,g1,g2⟩
      rw [mapO] at h
      cases e with
      | t x=>
       simp only at h
       split at h
       · rename_i ts' h'
         cases h
         obtain⟨G2,k1,k2⟩:=ih h' g2
         obtain⟨G1,k3,k4⟩:=g1
         exact⟨G1++G2,by unfold Cs;exact⟨c,cr,G1,G2,rfl,k3,k1,rfl⟩,fun c hc=>(List.mem_append.1 hc).elim (k4 c) (k2 c)⟩
       · cases h
      | _=>simp at h
    obtain⟨G,k1,k2⟩:=key h1 h3
    exact⟨G,⟨cs,rfl,k1⟩,k2⟩
  · cases h
 | .one (.rf _),h=>cases h
 | .one (.vw _ _),h=>cases h
 | .one (.pp _ _),h=>cases h
 | .one (.pr _ _ _ _),h=>cases h
 | .one (.sb _ _ _ _),h=>cases h
 | .one (.tl _ _ _),h=>cases h
 | .one (.pf _ _ _),h=>cases h
 | .one .no,h=>cases h
theorem ArgsT.ok {l:List Operand} {ins:List V0} (h:ArgsT σ l ins) {I:Ip} {w0:Base} {w:World} {a:Act} (hr:RelI I w0 σ a w):∃ F,V0s false w ins (l.map a.eval) F∧∀ c∈F,I.Z c:=by
 induction h with
 | nil=>exact⟨[],⟨rfl,rfl⟩,fun _ hb=>by cases hb⟩
 | cons hx hv h ih=>
  obtain⟨F,ih,k1⟩:=ih
  obtain⟨G,hg,k2⟩:=readT_ok hv (hx.va hr rfl)
  exact⟨G++F,⟨_,_,G,F,rfl,hg,ih,rfl⟩,fun c hc=>(List.mem_append.1 hc).elim (k2 c) (k1 c)⟩
def posR (u i1 i2:Nat) (rs:List (Nat×R)):List (Nat×R):=delR (delR (delR rs u) i1) i2
def posN (u i1 i2:Nat) (sl:List (Nat×(Bool×S))) (rs:List (Nat×R)):Bool:=nvB u sl rs&&nvB i1 sl rs&&nvB i2 sl rs&&!(St.has ⟨0,sl,rs⟩ i1)&&!(St.has ⟨0,sl,rs⟩ i2)
def outPs (l:List Value):S:=match l with|[]=>.tup []|l=>.a (.agg (l.map fun v=>.t (.v v)))
theorem R_callP {τ:Type} {f:FuncId} {x:Operand} {l:List Operand} {tys:Array TypeId} {ins:List V0} {pre:Pos→Prop} {post:Pos→Pos→τ→Prop} {out:τ→List Value} {u i1 i2:Nat} {p:Pos} (h:FnP P f ins pre post out) (ho:o.op=.call { callee:=.value (.func f),args:=(x::l).toArray,argTypes:=tys }) (hg:o.guard=none) (hd:o.dst.all (fun d=>Nat.blt d σ.n)=true)
 (hx:Get σ true x (.one (.pp u 0))) (hu:look σ.res u=some (boxP i1 i2 p)) (h1:look σ.res i1=some (rowI p.L)) (h2:look σ.res i2=some (rowI p.F)) (hne:i1≠i2∧u≠i1∧u≠i2) (hn:posN u i1 i2 σ.slots (posR u i1 i2 σ.res)=true) (ha:ArgsT σ l ins) (hp:pre p) (hcell:∀ t,(out t).all Value.oneCell'=true) :
 OpE P ops o σ fun σ'=>∃ z:Pos×τ,post p z.1 z.2∧σ'=St.put ⟨σ.n,σ.slots,(u,boxP i1 i2 z.1)::(i2,rowI z.1.F)::(i1,rowI z.1.L)::posR u i1 i2 σ.res⟩ o.dst (true,outPs (out z.2)):=by
 rintro w0 a w ⟨I,hr⟩ K Q hK
 simp only [Region.wanted,hg,if_true]
 simp only [posN,Bool.and_eq_true,Bool.not_eq_true'] at hn
 obtain⟨⟨⟨⟨nu,n1⟩,n2⟩,hs1⟩,hs2⟩:=hn
 obtain⟨m1,ws,t',m2,c,cr,e1,⟨g1,_⟩,c',cr',e2,⟨_,g2,_⟩,c'',cr'',e3,⟨_,g3,_⟩,c3,cr3,e4,⟨g4,_⟩,c4,cr4,e5,⟨_,g5,_⟩,e6⟩:I.F u=[I.B u]∧∃ vs e,w.heap[I.B u]?=some (.cells (List.toArray vs) e (0,0))∧VEs I w _ vs:=hr.res _ _ hu
 have e6:cr4=[]:=e6
 simp only [C] at g2 g3 g5
 have k1:C true w (treeI p.L) (I.hd i1) (I.F i1):=hr.res _ _ h1
 have k2:C true w (treeI p.F) (I.hd i2) (I.F i2):=hr.res _ _ h2
 have hB:w.heap[I.B u]?=some (.cells #[I.hd i1,.int .i64 p.x,.int .i64 p.y,I.hd i2,.bool p.z] t' (0,0)):=by
  rw [m2,e1,e2,e3,e4,e5,e6,g1,g2.1,g3.1,g4,g5.1]
 have mu:I.B u∈I.F u:=by rw [m1];simp
 have hof:∀ c∈I.B u::(I.F i1++I.F i2),∃ i r,(i=u∨i=i1∨i=i2)∧look σ.res i=some r∧c∈I.F i:=fun c hc=>by
  rcases List.mem_cons.1 hc with rfl|hc
  · exact⟨u,_,.inl rfl,hu,mu⟩
  · rcases List.mem_append.1 hc with hc|hc
    · exact⟨i1,_,.inr (.inl rfl),h1,hc⟩
    · exact⟨i2,_,.inr (.inr rfl),h2,hc⟩
 have hown:∀ c∈I.B u::(I.F i1++I.F i2),w0.own c∧Thaw w c∧c<w.heap.size∧¬ I.Z c:=fun c hc=>by
  obtain⟨i,r,_,hi,hm⟩:=hof c hc
  exact⟨((hr.own i r hi).2 c hm).1,((hr.own i r hi).2 c hm).2,(hr.lt i c hm).1,(hr.lt i c hm).2⟩
 have hnd:(I.B u::(I.F i1++I.F i2)).Nodup:=List.nodup_cons.2 ⟨fun hm=>(List.mem_append.1 hm).elim (hr.apart u i1 hne.2.1 _ mu) (hr.apart u i2 hne.2.2 _ mu),List.nodup_append.2 ⟨(hr.own i1 _ h1).1,(hr.own i2 _ h2).1,fun x hx y hy e=>by subst e;exact hr.apart i1 i2 hne.1 x hx hy⟩⟩
 obtain⟨A,hV,hZ⟩:=ha.ok hr
 have hgood:Good w (I.B u::(I.F i1++I.F i2)):=hr.goodF fun c hc=>(hown c hc).1
 have hv:a.eval x=.pointer (some ⟨I.B u,0,none⟩):=hx.va hr rfl
 unfold Oper.wp
 rw [run_enter h.1 ho,List.map_cons,hv]
 refine (h.2 w (I.B u) p _ _ A hp hgood ⟨⟨_,_,t',_,_,hB,k1,k2,rfl⟩,hnd,fun c hc=>(hown c hc).2.1⟩ hV (fun c hc hm=>(hown c hm).2.2.2 (hZ c hc))).mono fun e w' hR=>?_
 obtain⟨p',t,G',rfl,hpost,⟨⟨q1,q2,e',G1',G2',hB',c1',c2',rfl⟩,hnd',hth'⟩,hfr,hc⟩:=hR
 obtain⟨nb',n12'⟩:=List.nodup_cons.1 hnd'
 obtain⟨nd1,nd2,nd3⟩:=List.nodup_append.1 n12'
 have hlk:∀ i r,look (posR u i1 i2 σ.res) i=some r→i≠u∧i≠i1∧i≠i2∧look σ.res i=some r:=fun i r hi=>by
  obtain⟨a1,a2⟩:=look_delR _ _ _ _ hi
  obtain⟨b1,b2⟩:=look_delR _ _ _ _ a2
  obtain⟨d1,d2⟩:=look_delR _ _ _ _ b2
  exact⟨d1,b1,a1,d2⟩
 have r1:=hr.drop (rs':=posR u i1 i2 σ.res) fun i r hi=>(hlk i r hi).2.2.2
 obtain⟨I4,hZ4,hB4,r4,hF4⟩:∃ I4:Ip,I4.Z=I.Z∧I4.B u=I.B u∧RelI I4 w0 ⟨σ.n,σ.slots,posR u i1 i2 σ.res⟩ a w∧∀ i,∀ c∈I.B u::(I.F i1++I.F i2),c∉I4.F i:=by
  have r2:=r1.setF (u:=u) nu (fun r hi=>(hlk _ _ hi).1 rfl) (G:=[]) (fun b hb=>by cases hb)
  have r3:=r2.setF (u:=i1) n1 (fun r hi=>(hlk _ _ hi).2.1 rfl) (G:=[]) (fun b hb=>by cases hb)
  have r4:=r3.setF (u:=i2) n2 (fun r hi=>(hlk _ _ hi).2.2.1 rfl) (G:=[]) (fun b hb=>by cases hb)
  refine⟨_,?_,?_,r4,?_⟩
  · rfl
  · simp [Ip.set,hne.2.1,hne.2.2]
  intro i c hc hm
  simp only [Ip.set] at hm
  split at hm
  · cases hm
  · split at hm
    · cases hm
    · split at hm
      · cases hm
      · rename_i h3 h4 h5
        obtain⟨j,r,hj,_,hcj⟩:=hof c hc
        exact hr.apart i j (by rcases hj with rfl|rfl|rfl<;>assumption) c hm hcj
 have hfree:∀ c∈I.B u::(I.F i1++I.F i2),Free I4 w0 w c:=fun c hc'=>⟨(hown c hc').1,(hown c hc').2.2.1,(hown c hc').2.1,by rw [hZ4];exact (hown c hc').2.2.2,fun i=>hF4 i c hc'⟩
 have r5:=r4.chgF hfree hc
 have hlt':∀ c∈I.B u::(G1'++G2'),c<w'.heap.size:=PosB.lt (w:=w') (b:=I.B u) (p:=p') ⟨_,_,e',_,_,hB',c1',c2',rfl⟩
 have hfree':∀ c∈I.B u::(G1'++G2'),Free I4 w0 w' c:=fun c hc'=>by
  rcases hfr c hc' with h|h
  · have:=hfree c h
    exact⟨this.1,hlt' c hc',hth' c hc',this.2.2.2⟩
  · exact⟨.inl (Nat.le_trans hr.ext.size h),hlt' c hc',hth' c hc',fun hz=>by have:=r4.old c hz;omega,fun i hi=>by have:=(r4.lt i c hi).1;omega⟩
 have r6:=r5.addF (id:=i1) (by simpa [St.has] using hs1) (G:=G1') (u:=q1) (b:=0) (r:=rowI p'.L) nd1 (fun c hc=>hfree' c (by simp [hc])) (by show C true w' _ _ _;simpa [Ip.set,treeI] using c1')
 have r7:=r6.addF (id:=i2) (has_addR' (by simpa [St.has] using hs2) hne.1 rfl) (G:=G2') (u:=q2) (b:=0) (r:=rowI p'.F) nd2 (fun c hc=>(hfree' c (by simp [hc])).set fun hm=>nd3 c hm c hc rfl) (by show C true w' _ _ _;simpa [Ip.set,treeI] using c2')
 have fb:=((hfree' (I.B u) (by simp)).set (id:=i1) (u:=q1) (b:=0) (fun hm=>nb' (List.mem_append_left _ hm))).set (id:=i2) (u:=q2) (b:=0) (fun hm=>nb' (List.mem_append_right _ hm))
 have r8:=r7.setF (u:=u) (by
  simp only [nvB,Bool.and_eq_true] at nu ⊢
  exact⟨nu.1,by simp only [St.add,List.all_cons];exact by rw [nu.2];rfl⟩) (fun r hi=>by
  simp only [St.add] at hi
  rw [look_cons] at hi
  split at hi
  · rename_i e;exact hne.2.2 e.symm
  rw [look_cons] at hi
  split at hi
  · rename_i e;exact hne.2.1 e.symm
  exact (hlk _ _ hi).1 rfl) (G:=[I.B u]) (fun c hc=>by
  simp only [List.mem_singleton] at hc;subst hc
  exact⟨fb.2.1,fb.2.2.2.1,fun i _=>fb.2.2.2.2 i⟩)
 have hdr:∀ {k1:Value} {l:List Int} {g:List Nat},C true w' (treeI l) k1 g→∃ a' l' k',k1=.slice a' l' k':=fun h=>by
  unfold treeI at h
  simp only [C] at h
  obtain⟨a',l',k',e,_⟩:=h
  exact⟨a',l',k',e⟩
 have tv:∀ {J:Ip} (v:Value),v.oneCell'=true→VE J w' (.t (.v v)) v:=fun v hv=>⟨[],by simp only [C];exact⟨trivial,trivial,hv⟩,by simp⟩
 have r9:=r8.keepR (u:=u) (r:=boxP i1 i2 p') ⟨by simp [Ip.set,hne.2.1,hne.2.2,hB4],_,e',by simpa [Ip.set,hne.2.1,hne.2.2,hB4] using hB',_,_,rfl,⟨by simp [Ip.set,hne.1,hne.2.1.symm],hdr c1'⟩,_,_,rfl,tv _ rfl,_,_,rfl,tv _ rfl,_,_,rfl,⟨by simp [Ip.set,hne.2.2.symm],hdr c2'⟩,_,_,rfl,tv _ rfl,rfl⟩ ⟨by simp [Ip.set],fun c hc=>by
  have hc:c∈[I.B u]:=by simpa [Ip.set] using hc
  simp only [List.mem_singleton] at hc;subst hc
  exact⟨fb.1,fb.2.2.1⟩⟩
 refine hK _ _ _ ⟨(p',t),hpost,rfl⟩ ⟨_,r9.put hd ?_⟩
 have ht:=hcell t
 unfold outPs
 match out t,ht with
 | [],_=>exact⟨[],rfl,rfl⟩
 | v::vs,ht=>exact⟨_,rfl,VEs_vals ht⟩
end
end Go.Q
