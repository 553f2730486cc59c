import Derived.Test.YtbecibmlbiebeaaGreatB92xb
import Derived.DeepKeys4
set_option linter.unusedVariables false
set_option linter.unusedSimpArgs false
namespace Go.Q
open Go.RowKit
section
variable {P:Program} {ops:Array Oper} {o:Oper} {σ:St} {q:Bool}
def Keeps (w:World) (K:List (Nat×Obj)):Prop:=∀ x∈K,w.heap[x.1]?=some x.2
theorem Keeps.lt {w:World} {K:List (Nat×Obj)} (h:Keeps w K):∀ x∈K,x.1<w.heap.size:=fun x hx=>(Array.getElem?_eq_some_iff.1 (h x hx)).1
def FnCk (P:Program) (f:FuncId) (K:List (Nat×Obj)) (ins:List (Bool×V0)) (out:V):Prop:=Callee P f∧∀ w vs F,Good w F→V0c w F ins vs F→F.Nodup→(∀ b∈F,Thaw w b)→Keeps w K→(∀ x∈K,x.1∉F)→Calls P f (List.toArray vs) w (CPost w out F)
theorem FnCk.walk {n:Nat} {f:FuncId} {fn:Func} {c:Code} {K:List (Nat×Obj)} {ins:List (Bool×V0)} {out:V} {σ':St} (hf:P.funcs[f]?=some fn) (hb:fn.body=some c) (hname:(fn.name == "runtime.NumGoroutine")=false) (hnt:fn.ntmps=n) (hn:Nat.ble ins.length n=true) (hi:initC 0 ins ⟨n,[],[(999999,.kept K)]⟩=some σ')
 (h:∀ w0,AW P w0 c (RetQ P fn true out) σ'):FnCk P f K ins out:=by
 subst hnt
 refine⟨⟨fn,hf,hname,by rw [hb];rfl⟩,fun w vs F hG hv hnd hth hK hKF=>?_⟩
 have hl:=hv.len
 have hn':ins.length≤fn.ntmps:=Nat.le_of_ble_eq_true hn
 have hlt:=hv.sub
 let a0:Act:=⟨(List.toArray vs)++Array.replicate (fn.ntmps-(List.toArray vs).size) undef,[]⟩
 let I0:Ip:=⟨fun b=>b<w.heap.size∧b∉F,fun _=>[],fun _=>undef,fun _=>0⟩
 have hr0:RelI I0 ⟨w,F,hG⟩ ⟨fn.ntmps,[],[(999999,.kept K)]⟩ a0 w:=by
  refine⟨Chg.refl w F,rfl,by simp [a0,hl];omega,fun i z hi=>(by cases hi),fun id r hi=>?_,fun b hb=>hb.1,fun id b hb=>(by cases hb),fun id r hi=>⟨List.nodup_nil,fun b hb=>(by cases hb)⟩,fun i j _ b hb=>(by cases hb)⟩
  rw [look_cons] at hi
  split at hi
  · cases hi;exact⟨rfl,fun x hx=>⟨hK x hx,hK.lt x hx,hKF x hx⟩⟩
  cases hi
 obtain⟨I1,r1⟩:=initC_ok (fun _ _ _=>trivial) hi hr0 (fun b h1 h2=>⟨h1,h2⟩) hv hnd (fun b hb=>⟨.inr hb,hlt b hb,hth b hb,fun hz=>hz.2 hb,fun i hi=>by cases hi⟩) fun j v hj=>by
  have hjl:j<vs.length:=(List.getElem?_eq_some_iff.1 hj).1
  simp only [Nat.zero_add,a0]
  rw [Array.getD_eq_getD_getElem?,Array.getElem?_append_left (by simpa using hjl)]
  simp [hj]
 refine calls_of_wp hf hb (Code.wp_mono ?_ (h ⟨w,F,hG⟩ _ _ ⟨_,r1⟩))
 rintro e a' w' ⟨σ1,h1,I,hI⟩
 have key:Res P fn true out σ1→a'.defers=[]∧∃ v',(results fn a'.tmps).run P w'=.ok v' w'∧CPost w out F (.returned v') w':=fun h1=>by
  obtain⟨v',F',g1,g2,g3,g4⟩:=h1 I ⟨w,F,hG⟩ a' w' hI
  exact⟨hI.defers,v',g1,v',F',rfl,g2,(g4 rfl).1,fun b hb=>⟨g3 b hb,(g4 rfl).2 b hb⟩,hI.ext⟩
 cases e with
 | normal=>exact key h1
 | ret=>exact key h1
 | exit id=>exact h1.elim
 | goto l=>exact h1.elim
 | panic c=>exact h1.elim
 | outgrown=>exact h1.elim
theorem kept_at {I:Ip} {w0:Base} {w:World} {a:Act} {K:List (Nat×Obj)} (hr:RelI I w0 σ a w) (hk:look σ.res 999999=some (.kept K)):Keeps w K:=fun x hx=>((hr.res _ _ hk).2 x hx).1
theorem Rws_split {o:Bool} {w:World} {b:Nat}:∀ {ts:List T} {off:Nat} {F:List Nat},Rws o w b 1 off (ts.map fun t=>[t]) F→∃ (hs:List Value) (Gs:List (List Nat)),hs.length=ts.length∧Gs.length=ts.length∧F=Gs.flatten∧
 ∀ i t,ts[i]?=some t→∃ h G,hs[i]?=some h∧Gs[i]?=some G∧w.cell? ⟨b,off+i,none⟩=some h∧C o w t h G
 | [],off,F,h=>by simp only [List.map_nil,Rws] at h;exact⟨[],[],rfl,rfl,h,fun i t hi=>by simp at hi⟩
 | t::ts,off,F,h=>by
  simp only [List.map_cons,Rws,Ms] at h
  obtain⟨G1,G2,_,⟨c,A1,A2,h1,h2,rfl,rfl⟩,h3,rfl⟩:=h
  obtain⟨hs,Gs,e1,e2,e3,e4⟩:=Rws_split h3
  refine⟨c::hs,A1::Gs,by simp [e1],by simp [e2],by simp [e3],fun i u hi=>?_⟩
  match i,hi with
  | 0,hi=>simp at hi;subst hi;exact⟨c,A1,rfl,rfl,h1,h2⟩
  | i+1,hi=>
   obtain⟨h,G,g1,g2,g3,g4⟩:=e4 i u (by simpa using hi)
   exact⟨h,G,by simpa using g1,by simpa using g2,by rw [show off+(i+1)=off+1+i by omega];exact g3,g4⟩
theorem Rws_join {o:Bool} {w:World} {b:Nat} {α:Type} {t:α→T} {h:α→Value} {G:α→List Nat}:∀ {l:List α} {off:Nat},(∀ i x,l[i]?=some x→w.cell? ⟨b,off+i,none⟩=some (h x)∧C o w (t x) (h x) (G x))→Rws o w b 1 off (l.map fun x=>[t x]) (l.flatMap G)
 | [],off,_=>by simp [Rws]
 | x::l,off,hc=>by
  simp only [List.map_cons,Rws,Ms,List.flatMap_cons]
  obtain⟨c1,c2⟩:=hc 0 x rfl
  refine⟨G x,l.flatMap G,rfl,⟨h x,G x,[],c1,c2,rfl,by simp⟩,Rws_join (h:=h) fun i y hi=>?_,rfl⟩
  obtain⟨d1,d2⟩:=hc (i+1) y (by simpa using hi)
  exact⟨by rw [show off+1+i=off+(i+1) by omega];exact d1,d2⟩
theorem C_split {w:World} {ts:List T} {v:Value} {F:List Nat} (hC:C true w (.sl 1 (ts.map fun t=>[t])) v F) (hnd:F.Nodup):∃ (h:Nat→Value) (G:Nat→List Nat) (F0:List Nat),(∀ i t,ts[i]?=some t→C true w t (h i) (G i))∧C true w (.sl 1 ((List.range ts.length).map fun i=>[.v (h i)])) v F0∧F0.Nodup∧
 (∀ b∈F0,b∈F)∧(∀ i,i<ts.length→∀ b∈G i,b∈F∧b∉F0)∧(∀ i,i<ts.length→(G i).Nodup)∧∀ i j,i<ts.length→j<ts.length→i≠j→∀ b∈G i,b∉G j:=by
 have hCc:=hC
 simp only [C] at hCc
 obtain⟨a,len,cap,rfl,h2,h3,h4,h5⟩:=hCc
 rcases h5 with ⟨h5,rfl,h6⟩|⟨b,off,G,rfl,rfl,h7,h8,h9⟩
 · have:ts=[]:=List.eq_nil_of_length_eq_zero (by rw [List.length_map] at h2;omega)
   subst this
   exact⟨fun _=>undef,fun _=>[],[],fun i t hi=>by simp at hi,hC,List.nodup_nil,fun b hb=>hb,fun i hi=>by simp at hi,fun i hi=>by simp at hi,fun i j hi=>by simp at hi⟩
 obtain⟨hs,Gs,e1,e2,rfl,e4⟩:=Rws_split h9
 obtain⟨n1,n2⟩:=List.nodup_cons.1 hnd
 have n2:=List.pairwise_flatten.1 n2
 have hG:∀ i,i<ts.length→Gs.getD i []∈Gs:=fun i hi=>by
  rw [List.getD_eq_getElem?_getD,List.getElem?_eq_getElem (by omega)];exact List.getElem_mem _
 have hin:∀ i,i<ts.length→∀ x∈Gs.getD i [],x∈Gs.flatten:=fun i hi x hx=>List.mem_flatten.2 ⟨_,hG i hi,hx⟩
 refine⟨fun i=>hs.getD i undef,fun i=>Gs.getD i [],[b],fun i t hi=>?_,?_,by simp,fun x hx=>by simp at hx;simp [hx],fun i hi x hx=>⟨by simp [hin i hi x hx],fun hb=>?_⟩,fun i hi=>n2.1 _ (hG i hi),fun i j hi hj hne x hx hx'=>?_⟩
 · obtain⟨h,A,g1,g2,g3,g4⟩:=e4 i t hi
   simp only [List.getD_eq_getElem?_getD,g1,g2,Option.getD_some]
   exact g4
 · simp only [C]
   refine⟨_,_,_,rfl,by simpa using h2,h3,h4,.inr ⟨b,off,[],rfl,rfl,h7,h8,?_⟩⟩
   have:=Rws_join (o:=true) (w:=w) (b:=b) (t:=fun i=>T.v (hs.getD i undef)) (h:=fun i=>hs.getD i undef) (G:=fun _=>([]:List Nat)) (l:=List.range ts.length) (off:=off) fun i x hi=>by
    obtain⟨hi1,hi2⟩:=List.getElem?_eq_some_iff.1 hi
    rw [List.length_range] at hi1
    simp at hi2
    subst hi2
    obtain⟨h,A,g1,g2,g3,g4⟩:=e4 i _ (List.getElem?_eq_getElem hi1)
    simp only [List.getD_eq_getElem?_getD,g1,Option.getD_some]
    exact⟨g3,by simp only [C];exact⟨trivial,trivial,g4.cell1⟩⟩
   have hz:(List.range ts.length).flatMap (fun _=>([]:List Nat))=[]:=by rw [List.flatMap_eq_nil_iff];intro _ _;rfl
   rw [hz] at this
   exact this
 · simp at hb;subst hb;exact n1 (hin i hi _ hx)
 have hp:=n2.2
 have key:∀ i j,i<j→j<ts.length→∀ x∈Gs.getD i [],∀ y∈Gs.getD j [],x≠y:=fun i j hij hj=>by
  have:=List.pairwise_iff_getElem.1 hp i j (by omega) (by omega) hij
  simpa [List.getD_eq_getElem?_getD,List.getElem?_eq_getElem (show i<Gs.length by omega),List.getElem?_eq_getElem (show j<Gs.length by omega)] using this
 rcases Nat.lt_or_gt_of_ne hne with g|g
 · exact key i j g hj x hx x hx' rfl
 exact key j i g hi x hx' x hx rfl
theorem C_join {w:World} {α:Type} {t:α→T} {h:α→Value} {G:α→List Nat} {l:List α} {v:Value} {F0:List Nat} (hC:C true w (.sl 1 (l.map fun i=>[.v (h i)])) v F0) (ht:∀ x∈l,C true w (t x) (h x) (G x)):C true w (.sl 1 (l.map fun i=>[t i])) v (F0++if l=[] then [] else l.flatMap G):=by
 simp only [C] at hC ⊢
 obtain⟨a,len,cap,rfl,h2,h3,h4,h5⟩:=hC
 rcases h5 with ⟨h5,rfl,h6⟩|⟨b,off,G0,rfl,rfl,h7,h8,h9⟩
 · have:l=[]:=List.eq_nil_of_length_eq_zero (by rw [List.length_map] at h2;omega)
   subst this
   exact⟨_,_,_,rfl,h2,h3,h4,.inl ⟨h5,rfl,h6⟩⟩
 refine⟨_,_,_,rfl,by simpa using h2,h3,h4,.inr ⟨b,off,l.flatMap G,rfl,?_,h7,h8,Rws_join (h:=h) fun i x hi=>?_⟩⟩
 · obtain⟨hs,Gs,e1,e2,rfl,e4⟩:=Rws_split (ts:=l.map fun i=>T.v (h i)) (by rw [List.map_map];exact h9)
   have:Gs.flatten=[]:=by
    rw [List.flatten_eq_nil_iff]
    intro A hA
    obtain⟨i,hi,rfl⟩:=List.mem_iff_getElem.1 hA
    obtain⟨_,A,g1,g2,g3,g4⟩:=e4 i _ (List.getElem?_eq_getElem (by omega))
    rw [List.getElem?_eq_getElem hi] at g2
    cases g2
    simp [C] at g4
    exact g4.2.1
   rw [this]
   by_cases hl:l=[]
   · subst hl;simp
   simp [hl]
 obtain⟨hs,Gs,e1,e2,_,e4⟩:=Rws_split (ts:=l.map fun i=>T.v (h i)) (by rw [List.map_map];exact h9)
 obtain⟨c,A,g1,g2,g3,g4⟩:=e4 i (.v (h x)) (by simp [hi])
 simp only [C] at g4
 rw [g4.1] at g3
 exact⟨g3,ht x (List.mem_of_getElem? hi)⟩
def KT (K:List (Nat×Obj)) (t:T) (h:Value):Prop:=∀ w,Keeps w K→∃ G,C false w t h G
def rdAll (rest:List V0):List (Bool×V0):=rest.map fun x=>(false,x)
theorem V0c_rdAll {w:World} {FF FF':List Nat} (hs:∀ b∈FF',b∈FF):∀ {rest:List V0} {vs:List Value} {G:List Nat},V0c w FF (rdAll rest) vs G→G=[]∧V0c w FF' (rdAll rest) vs []
 | [],vs,G,⟨h1,h2⟩=>⟨h2,h1,rfl⟩
 | x::r,vs,G,⟨v,vr,G1,G2,e,h1,h2,h3⟩=>by
  simp only [Bool.false_eq_true,if_false] at h3
  obtain⟨rfl,h3⟩:=h3
  obtain⟨rfl,h4⟩:=V0c_rdAll hs (rest:=r) h2
  refine⟨rfl,v,vr,G1,[],e,h1,h4,?_⟩
  simp only [Bool.false_eq_true,if_false]
  exact⟨trivial,fun b hb hf=>h3 b hb (hs b hf)⟩
theorem KT.of {w:World} {K:List (Nat×Obj)} {t:T} {h:Value} {G:List Nat} {o:Bool} (hC:C o w t h G) (hK:∀ b∈G,∃ x,w.heap[b]?=some x∧(b,x)∈K):KT K t h:=fun w' hw=>⟨G,hC.read'.congr fun b hb=>by
 obtain⟨x,h1,h2⟩:=hK b hb
 rw [h1];exact hw _ h2⟩
def blocksOf (w:World) (Gs:List Nat):List (Nat×Obj):=Gs.filterMap fun b=>(w.heap[b]?).map fun x=>(b,x)
theorem blocksOf_mem {w:World} {Gs:List Nat} {b:Nat} {x:Obj}:(b,x)∈blocksOf w Gs↔b∈Gs∧w.heap[b]?=some x:=by
 unfold blocksOf
 rw [List.mem_filterMap]
 constructor
 · rintro⟨c,h1,h2⟩
   rw [Option.map_eq_some_iff] at h2
   obtain⟨y,h3,h4⟩:=h2
   cases h4
   exact⟨h1,h3⟩
 rintro⟨h1,h2⟩
 exact⟨b,h1,by rw [h2];rfl⟩
theorem blocksOf_keeps {w:World} {Gs:List Nat}:Keeps w (blocksOf w Gs):=fun x hx=>(blocksOf_mem (b:=x.1) (x:=x.2)).1 hx |>.2
theorem Good.part {w:World} {H G:List Nat} (h:Good w H) (hs:∀ b∈G,b∈H):Good w G:=h.step (Nat.le_refl _) (fun _ _ _=>rfl) fun b hb=>.inr (hs b hb)
theorem nodup_flatMap {α:Type} {G:α→List Nat}:∀ {l:List α},l.Nodup→(∀ x∈l,(G x).Nodup)→(∀ x∈l,∀ y∈l,x≠y→∀ b∈G x,b∉G y)→(l.flatMap G).Nodup
 | [],_,_,_=>List.nodup_nil
 | x::l,hn,h1,h2=>by
  obtain⟨n1,n2⟩:=List.nodup_cons.1 hn
  rw [List.flatMap_cons]
  refine List.nodup_append.2 ⟨h1 x (by simp),nodup_flatMap n2 (fun y hy=>h1 y (by simp [hy])) (fun y hy z hz=>h2 y (by simp [hy]) z (by simp [hz])),fun b hb c hc e=>?_⟩;subst e
  obtain⟨y,hy,hc⟩:=List.mem_flatMap.1 hc
  exact h2 x (by simp) y (by simp [hy]) (fun e=>n1 (e▸hy)) b hb hc
theorem FnC.lift {f:FuncId} {ts:List T} {L:List Nat} {rest:List V0} (hcl:Callee P f) (hL:L.Nodup) (hLn:∀ i∈L,i<ts.length)
 (h:∀ (hd:Nat→Value) (K:List (Nat×Obj)),(∀ i t,ts[i]?=some t→KT K t (hd i))→FnCk P f K ((true,.one (.sl 1 ((List.range ts.length).map fun i=>[.v (hd i)])))::rdAll rest) (.a (.one (.sl 1 (L.map fun i=>[.v (hd i)]))))) :
 FnC P f ((true,.one (.sl 1 (ts.map fun t=>[t])))::rdAll rest) (.a (.one (.sl 1 (L.map fun i=>[ts.getD i (.v undef)])))):=⟨hcl,fun w vs F hG hv hnd hth=>by
 obtain⟨v,vr,G1,G2,rfl,h1,h2,h3⟩:=hv
 simp only [if_true] at h3
 obtain⟨rfl,h2'⟩:=V0c_rdAll (FF':=F) (fun b hb=>hb) h2
 rw [List.append_nil] at h3
 subst h3
 have h1:C true w (.sl 1 (ts.map fun t=>[t])) v F:=h1
 obtain⟨hd,G,F0,c1,c2,c3,c4,c5,c6,c7⟩:=C_split h1 hnd
 have hlt:∀ b∈F,b<w.heap.size:=h1.lt
 have hK:∀ i t,ts[i]?=some t→KT (blocksOf w ((List.range ts.length).flatMap G)) t (hd i):=fun i t hi=>KT.of (c1 i t hi) fun b hb=>by
  have hil:=(List.getElem?_eq_some_iff.1 hi).1
  exact⟨_,Array.getElem?_eq_getElem (hlt b (c5 i hil b hb).1),blocksOf_mem.2 ⟨List.mem_flatMap.2 ⟨i,by simpa using hil,hb⟩,Array.getElem?_eq_getElem _⟩⟩
 refine ((h hd _ hK).2 w (v::vr) F0 (hG.part c4) ⟨v,vr,F0,[],rfl,c2,(V0c_rdAll c4 h2').2,by simp⟩ c3 (fun b hb=>hth b (c4 b hb)) blocksOf_keeps fun x hx hx'=>?_).mono fun e w' hR=>?_
 · obtain⟨i,hi,hb⟩:=List.mem_flatMap.1 ((blocksOf_mem (b:=x.1) (x:=x.2)).1 hx).1
   exact (c5 i (by simpa using hi) _ hb).2 hx'
 obtain⟨v',F',e1,r1,r2,r3,r4⟩:=hR
 have r1:C true w' (.sl 1 (L.map fun i=>[.v (hd i)])) v' F':=r1
 have hsame:∀ i∈L,∀ b∈G i,w'.heap[b]?=w.heap[b]?:=fun i hi b hb=>r4.block b (hlt b (c5 i (hLn i hi) b hb).1) (c5 i (hLn i hi) b hb).2
 have hj:=C_join (t:=fun i=>ts.getD i (.v undef)) (G:=G) r1 fun i hi=>by
  have hti:ts[i]?=some (ts.getD i (.v undef)):=by rw [List.getD_eq_getElem?_getD,List.getElem?_eq_getElem (hLn i hi)];rfl
  exact (c1 i _ hti).congr (hsame i hi)
 have hflat:(if L=[] then [] else L.flatMap G)=L.flatMap G:=by split<;>simp_all
 rw [hflat] at hj
 have hmem:∀ b∈L.flatMap G,∃ i∈L,b∈G i:=fun b hb=>List.mem_flatMap.1 hb
 refine⟨v',F'++L.flatMap G,e1,hj,List.nodup_append.2 ⟨r2,nodup_flatMap hL (fun i hi=>c6 i (hLn i hi)) (fun i hi j hj hne=>c7 i j (hLn i hi) (hLn j hj) hne),fun b hb c hc ebc=>?_⟩,fun b hb=>?_,⟨r4.os,r4.tape,r4.output,r4.size,fun k hk hn=>r4.block k hk fun hk'=>hn (c4 k hk')⟩⟩
 · subst ebc
   obtain⟨i,hi,hb'⟩:=hmem b hc
   have q:=c5 i (hLn i hi) b hb'
   rcases (r3 b hb).1 with g|g
   · have:=hlt b q.1;omega
   exact q.2 g
 rcases List.mem_append.1 hb with hb|hb
 · exact⟨(r3 b hb).1.imp id (c4 b),(r3 b hb).2⟩
 obtain⟨i,hi,hb'⟩:=hmem b hb
 have q:=c5 i (hLn i hi) b hb'
 obtain⟨cc,ee,o3⟩:=hth b q.1
 exact⟨.inr q.1,cc,ee,(hsame i hi b hb').trans o3⟩⟩
end
end Go.Q
namespace Go.Q
open Go.RowKit
section
variable {P:Program} {ops:Array Oper} {o:Oper} {σ:St} {τ:Type}
def CuOk (w:World) (g:Nat×Value):Prop:=CuB (fun b=>b<w.heap.size∧b≠g.1) w g∧Thaw w g.1
def DPost (w:World) (g:Nat×Value) (p:τ→Prop) (out:τ→V) (e:Ending) (w':World):Prop:=
 ∃ x v F,e=.returned v∧p x∧Vr true w' (out x) v F∧F.Nodup∧(∀ b∈F,w.heap.size≤b∧Thaw w' b)∧Chg w w' [g.1]∧CuOk w' g
def FnD (P:Program) (f:FuncId) (ins:List V0) (p:τ→Prop) (out:τ→V):Prop:=
 Callee P f∧∀ w g vs F,Good w [g.1]→CuOk w g→V0s false w ins vs F→g.1∉F→Calls P f (List.toArray (.pointer (some ⟨g.1,0,none⟩)::vs)) w (DPost w g p out)
def FnE (P:Program) (f:FuncId) (ins:List V0) (p:τ→Prop) (out:τ→V):Prop:=
 Callee P f∧∀ w vs F,Good w []→V0s false w ins vs F→Calls P f (List.toArray vs) w fun e w'=>∃ x,p x∧FnPost w (out x) e w'
def FnN (P:Program) (f:FuncId):Prop:=
 Callee P f∧∀ w v F bs,Good w []→C false w (.sl 1 (byR bs)) v F→(∀ n∈bs,0≤n∧n<256)→Calls P f #[v] w fun e w'=>∃ g i h t,e=.returned (.pointer (some ⟨g,0,none⟩))∧w.heap.size≤g∧Thaw w' g∧w'.heap[g]?=some (.cells #[v,.int .i64 i,.int .i64 h] t (0,0))∧0≤i∧Ext w w'
theorem setR_same:∀ (l:List (Nat×R)) (u:Nat) (r:R),look l u=some r→setR l u r=l
 | [],_,_,h=>by cases h
 | (j,y)::l,u,r,h=>by
  rw [look_cons] at h
  rw [setR]
  by_cases e:j=u
  · subst e;rw [if_pos rfl] at h;cases h;simp [Nat.beq_refl]
  rw [if_neg e] at h
  rw [beq_false e,cond_false,setR_same l u r h]
theorem V0s.c {w:World} {FF:List Nat}:∀ {ins:List V0} {vs:List Value} {F:List Nat},V0s false w ins vs F→(∀ b∈F,b∉FF)→V0c w FF (ins.map fun x=>(false,x)) vs []
 | [],vs,F,⟨h,_⟩,_=>⟨h,rfl⟩
 | x::r,vs,F,⟨v,vr,G1,G2,h1,h2,h3,h4⟩,hF=>by
  subst h4
  exact⟨v,vr,G1,[],h1,h2,h3.c fun b hb=>hF b (by simp [hb]),by simpa using fun b hb=>hF b (by simp [hb])⟩
def DRes (P:Program) (fn:Func) (g:Nat×Value) (p:τ→Prop) (out:τ→V) (σ:St):Prop:=∃ x,p x∧look σ.res 888888=some (.cur g)∧Res P fn true (out x) ⟨σ.n,σ.slots,delR σ.res 888888⟩
def RetD (P:Program) (fn:Func) (g:Nat×Value) (p:τ→Prop) (out:τ→V):Exit→St→Prop
 | .normal,σ=>DRes P fn g p out σ
 | .ret,σ=>DRes P fn g p out σ
 | _,_=>False
def RetE (P:Program) (fn:Func) (p:τ→Prop) (out:τ→V):Exit→St→Prop
 | .normal,σ=>∃ x,p x∧Res P fn true (out x) σ
 | .ret,σ=>∃ x,p x∧Res P fn true (out x) σ
 | _,_=>False
theorem DRes.mk {fn:Func} {g:Nat×Value} {p:τ→Prop} {out:τ→V} {σ:St} {x:τ} (hc:look σ.res 888888=some (.cur g)) (h:Res P fn true (out x) ⟨σ.n,σ.slots,delR σ.res 888888⟩) (hp:p x):DRes P fn g p out σ:=⟨x,hp,hc,h⟩
theorem ERes.mk {fn:Func} {p:τ→Prop} {out:τ→V} {σ:St} {x:τ} (h:Res P fn true (out x) σ) (hp:p x):∃ x,p x∧Res P fn true (out x) σ:=⟨x,hp,h⟩
theorem FnE.walk {n:Nat} {f:FuncId} {fn:Func} {c:Code} {ins:List V0} {p:τ→Prop} {out:τ→V} (hf:P.funcs[f]?=some fn) (hb:fn.body=some c) (hname:(fn.name == "runtime.NumGoroutine")=false) (hnt:fn.ntmps=n) (hn:Nat.ble ins.length n=true)
 (h:∀ w0,AW P w0 c (RetE P fn p out) (st0 n ins)):FnE P f ins p out:=by
 subst hnt
 refine⟨⟨fn,hf,hname,by rw [hb];rfl⟩,fun w vs F hG hv=>?_⟩
 refine calls_of_wp hf hb (Code.wp_mono ?_ (h ⟨w,[],hG⟩ _ _ (rel0 hG hv hn)))
 rintro e a' w' ⟨σ,h1,I,hI⟩
 have key:(∃ x,p x∧Res P fn true (out x) σ)→a'.defers=[]∧∃ v,(results fn a'.tmps).run P w'=.ok v w'∧∃ x,p x∧FnPost w (out x) (.returned v) w':=fun ⟨x,hp,h1⟩=>by
  obtain⟨v,F,g1,g2,g3⟩:=h1 I ⟨w,[],hG⟩ a' w' hI
  exact⟨hI.defers,v,g1,x,hp,v,F,rfl,g2,(g3.2 rfl).1,fun b hb=>⟨(g3.1 b hb).resolve_right (by simp),(g3.2 rfl).2 b hb⟩,hI.ext.toExt⟩
 cases e with
 | normal=>exact key h1
 | ret=>exact key h1
 | exit id=>exact h1.elim
 | goto l=>exact h1.elim
 | panic c=>exact h1.elim
 | outgrown=>exact h1.elim
theorem trunc_get {α:Type} (l:Array α) (n k:Nat) (h:n≤l.size) (hk:k<n):(l.extract 0 n)[k]?=l[k]?:=by
 rw [Array.getElem?_extract]
 simp
 omega
theorem FnD.walk {n:Nat} {f:FuncId} {fn:Func} {c:Code} {ins:List V0} {p:τ→Prop} {out:τ→V} {σ':Nat×Value→St} (hf:P.funcs[f]?=some fn) (hb:fn.body=some c) (hname:(fn.name == "runtime.NumGoroutine")=false) (hnt:fn.ntmps=n) (hn:Nat.ble (ins.length+1) n=true)
 (hi:∀ g,initC 1 (ins.map fun x=>(false,x)) ⟨n,[(0,(true,.a (.one (.pp 888888 0))))],[(888888,.cur g)]⟩=some (σ' g)) (h:∀ w0 g,AW P w0 c (RetD P fn g p out) (σ' g)):FnD P f ins p out:=by
 subst hnt
 refine⟨⟨fn,hf,hname,by rw [hb];rfl⟩,fun w g vs F hG hC hv hgF=>?_⟩
 have hv':=hv.c (FF:=[g.1]) fun b hb hm=>hgF (by simp only [List.mem_singleton] at hm;rwa [←hm])
 have hl:vs.length=ins.length:=by simpa using hv'.len
 have hn':ins.length+1≤fn.ntmps:=Nat.le_of_ble_eq_true hn
 have hglt:g.1<w.heap.size:=hC.1.lt
 let a0:Act:=⟨(List.toArray (.pointer (some ⟨g.1,0,none⟩)::vs))++Array.replicate (fn.ntmps-(List.toArray (Value.pointer (some ⟨g.1,0,none⟩)::vs)).size) undef,[]⟩
 let I0:Ip:=⟨fun b=>b<w.heap.size∧b≠g.1,fun i=>if i=888888 then [g.1] else [],fun _=>undef,fun i=>if i=888888 then g.1 else 0⟩
 have hget:∀ (j:Nat) v,(Value.pointer (some ⟨g.1,0,none⟩)::vs)[j]?=some v→a0.tmps.getD j undef=v:=fun j v hj=>by
  have hjl:=(List.getElem?_eq_some_iff.1 hj).1
  simp only [a0]
  rw [Array.getD_eq_getD_getElem?,Array.getElem?_append_left (by simpa using hjl)]
  have:(List.toArray (Value.pointer (some ⟨g.1,0,none⟩)::vs))[j]?=some v:=by simpa using hj
  rw [this];rfl
 have hr0:RelI I0 ⟨w,[g.1],hG⟩ ⟨fn.ntmps,[(0,(true,.a (.one (.pp 888888 0))))],[(888888,.cur g)]⟩ a0 w:=by
  have key:∀ i r,look [(888888,R.cur g)] i=some r→i=888888∧r=.cur g:=fun i r hi=>by
   rw [look_cons] at hi
   split at hi
   · rename_i e;cases hi;exact⟨e.symm,rfl⟩
   cases hi
  refine⟨Chg.refl w [g.1],rfl,by simp [a0,hl];omega,fun i z hi=>?_,fun id r hi=>?_,fun b hb=>hb.1,fun id b hb=>?_,fun id r hi=>?_,fun i j hne b hb hb'=>?_⟩
  · rw [look_cons] at hi
    split at hi
    · rename_i e
      subst e;cases hi;exact hget 0 _ rfl
    cases hi
  · obtain⟨rfl,rfl⟩:=key id r hi
    exact⟨rfl,rfl,hC.1⟩
  · simp only [I0] at hb ⊢
    split at hb
    · simp only [List.mem_singleton] at hb;subst hb;exact⟨hglt,fun h=>h.2 rfl⟩
    cases hb
  · obtain⟨rfl,rfl⟩:=key id r hi
    refine⟨by simp [I0],fun b hb=>?_⟩
    have:b=g.1:=by simpa [I0] using hb
    subst this
    exact⟨.inr (by simp),hC.2⟩
  simp only [I0] at hb hb'
  split at hb
  · split at hb'
    · omega
    cases hb'
  cases hb
 obtain⟨I1,r1⟩:=initC_ok (FF:=[g.1]) (fun _ _ _=>trivial) (hi g) hr0 (fun b h1 h2=>⟨h1,fun e=>h2 (by simp [e])⟩) hv' (by simp) (fun b hb=>by cases hb) fun j v hj=>hget (1+j) v (by rw [Nat.add_comm];simpa using hj)
 refine calls_of_wp hf hb (Code.wp_mono ?_ (h ⟨w,[g.1],hG⟩ g _ _ ⟨I1,r1⟩))
 rintro e a' w' ⟨σ1,h1,I,hI⟩
 have key:DRes P fn g p out σ1→a'.defers=[]∧∃ v,(results fn a'.tmps).run P w'=.ok v w'∧DPost w g p out (.returned v) w':=fun ⟨x,hp,hcur,h1⟩=>by
  obtain⟨hF,hB,hcu⟩:I.F 888888=[g.1]∧I.B 888888=g.1∧CuB I.Z w' g:=hI.res _ _ hcur
  have hsz:w.heap.size≤w'.heap.size:=hI.ext.size
  let W:World:={ w' with heap:=w'.heap.extract 0 w.heap.size }
  have hW:W.heap.size=w.heap.size:=by simp [W];omega
  have hWk:∀ k,k<w.heap.size→W.heap[k]?=w'.heap[k]?:=fun k hk=>trunc_get _ _ _ hsz hk
  have hGW:Good W []:=hG.step (Nat.le_of_eq hW.symm) (fun k hk hn=>(hWk k hk).trans (hI.ext.block k hk hn)) fun b hb=>by cases hb
  have hI2:RelI I ⟨W,[],hGW⟩ ⟨σ1.n,σ1.slots,delR σ1.res 888888⟩ a' w':=by
   refine⟨⟨rfl,rfl,rfl,by rw [hW];exact hsz,fun k hk _=>?_⟩,hI.defers,hI.size,hI.slots,fun id r hr=>hI.res id r (look_delR _ _ _ _ hr).2,hI.old,hI.lt,fun id r hr=>?_,hI.apart⟩
   · rw [hW] at hk;exact (hWk k hk).symm
   obtain⟨e1,e2⟩:=look_delR _ _ _ _ hr
   refine⟨(hI.own id r e2).1,fun b hb=>⟨?_,((hI.own id r e2).2 b hb).2⟩⟩
   rcases ((hI.own id r e2).2 b hb).1 with h|h
   · left;show W.heap.size≤b;rw [hW];exact h
   exfalso
   have:b=g.1:=by simpa using h
   subst this;exact hI.apart id 888888 e1 _ hb (by rw [hF];simp)
  obtain⟨v,F,g1,g2,g3⟩:=h1 I ⟨W,[],hGW⟩ a' w' hI2
  refine⟨hI.defers,v,g1,x,v,F,rfl,hp,g2,(g3.2 rfl).1,fun b hb=>⟨?_,(g3.2 rfl).2 b hb⟩,hI.ext,?_,?_⟩
  · have:=(g3.1 b hb).resolve_right (by simp)
    rwa [show (Base.W ⟨W,[],hGW⟩).heap.size=w.heap.size from hW] at this
  · refine hcu.congr rfl fun b _ hz=>⟨⟨hI.old b hz,fun e=>?_⟩,rfl⟩
    subst e;exact (hI.lt 888888 _ (by rw [hF];simp)).2 hz
  exact ((hI.own 888888 _ hcur).2 g.1 (by rw [hF];simp)).2
 cases e with
 | normal=>exact key h1
 | ret=>exact key h1
 | exit id=>exact h1.elim
 | goto l=>exact h1.elim
 | panic c=>exact h1.elim
 | outgrown=>exact h1.elim
def readD (u:Nat) (σ:St):E→Option T
 | .t x=>some x
 | .vw id x=>bif Nat.beq id u then none else some x
 | .rf id=>match look σ.res id with|some (.row k rows)=>some (.sl k rows)|_=>none
 | _=>none
def readDA (u:Nat) (σ:St):A→Option V0
 | .one e=>match readD u σ e with|some t=>some (.one t)|none=>none
 | .agg l=>match mapO (readD u σ) l with|some ts=>some (.agg ts)|none=>none
inductive ArgsD (σ:St) (u:Nat) (q:Bool):List Operand→List V0→Prop where
 | nil:ArgsD σ u q [] []
 | cons {x:Operand} {A0:A} {v:V0} {l:List Operand} {vs:List V0} (hx:Get σ q x A0) (hv:readDA u σ A0=some v) (h:ArgsD σ u q l vs):ArgsD σ u q (x::l) (v::vs)
section
variable {I:Ip} {w0:Base} {w:World} {a:Act} {u:Nat} {g:Nat×Value}
theorem readD_ok (hr:RelI I w0 σ a w) (hu:look σ.res u=some (.cur g)) {e:E} {t:T} {c:Value} (h:readD u σ e=some t) (hv:VE I w e c):∃ G,C false w t c G∧∀ b∈G,b∉I.F u:=by
 cases e with
 | t x=>cases h;obtain⟨G,h1,h2⟩:=hv;exact⟨G,h1,fun b hb hm=>(hr.lt u b hm).2 (h2 b hb)⟩
 | vw id x=>
  rw [readD] at h
  cases hb:Nat.beq id u with
  | true=>rw [hb] at h;cases h
  | false=>
   rw [hb] at h;cases h
   obtain⟨G,h1,h2⟩:=hv
   exact⟨G,h1,fun b hb'=>hr.apart id u (beq_ne hb) b (h2 b hb')⟩
 | rf id=>
  rw [readD] at h
  split at h
  · rename_i k rows h0
    cases h
    have hc:c=I.hd id:=hv.1
    have hne:id≠u:=fun e=>by subst e;rw [hu] at h0;cases h0
    rw [hc];exact⟨_,C.read (show C true w (.sl k rows) _ _ from hr.res id _ h0),hr.apart id u hne⟩
  cases h
 | pp id off=>cases h
 | pr id k i j=>cases h
 | sb id k i j=>cases h
 | tl id k j=>cases h
 | pf id k j=>cases h
 | no=>cases h
theorem mapD_ok (hr:RelI I w0 σ a w) (hu:look σ.res u=some (.cur g)):∀ {l:List E} {ts:List T} {cs:List Value},mapO (readD u σ) l=some ts→VEs I w l cs→∃ G,Cs false w ts cs G∧∀ b∈G,b∉I.F u
 | [],ts,cs,h,hv=>by cases h;exact⟨[],by unfold Cs;exact⟨hv,rfl⟩,fun _ hb=>by cases hb⟩
 | e::r,ts,cs,h,hv=>by
  obtain⟨c,cr,rfl,h1,h2⟩:=hv
  rw [mapO] at h
  split at h
  · rename_i t e1
    split at h
    · rename_i ts' e2
      cases h
      obtain⟨G1,g1,k1⟩:=readD_ok hr hu e1 h1
      obtain⟨G2,g2,k2⟩:=mapD_ok hr hu e2 h2
      exact⟨G1++G2,by unfold Cs;exact⟨c,cr,G1,G2,rfl,g1,g2,rfl⟩,fun b hb=>(List.mem_append.1 hb).elim (k1 b) (k2 b)⟩
    cases h
  cases h
theorem readDA_ok (hr:RelI I w0 σ a w) (hu:look σ.res u=some (.cur g)) {x:A} {t:V0} {v:Value} (h:readDA u σ x=some t) (hv:VA I w x v):∃ G,V0r false w t v G∧∀ b∈G,b∉I.F u:=by
 cases x with
 | one e=>
  rw [readDA] at h
  split at h
  · rename_i t' h1;cases h;exact readD_ok hr hu h1 hv
  cases h
 | agg l=>
  rw [readDA] at h
  split at h
  · rename_i ts h1;cases h
    obtain⟨cs,h2,h3⟩:=hv
    obtain⟨G,h4,h5⟩:=mapD_ok hr hu h1 h3
    exact⟨G,⟨cs,h2,h4⟩,h5⟩
  cases h
theorem ArgsD.ok {l:List Operand} {ins:List V0} (h:ArgsD σ u true l ins) (hr:RelI I w0 σ a w) (hu:look σ.res u=some (.cur g)):∃ F,V0s false w ins (l.map a.eval) F∧∀ b∈F,b∉I.F u:=by
 induction h with
 | nil=>exact⟨[],⟨rfl,rfl⟩,fun _ hb=>by cases hb⟩
 | cons hx hv h ih=>
  obtain⟨F,ih,k1⟩:=ih
  obtain⟨G,hg,k2⟩:=readDA_ok hr hu hv (hx.va hr rfl)
  exact⟨G++F,⟨_,_,G,F,rfl,hg,ih,rfl⟩,fun b hb=>(List.mem_append.1 hb).elim (k2 b) (k1 b)⟩
theorem RelI.moved (hr:RelI I w0 σ a w) (hu:look σ.res u=some (.cur g)) (hn:nvB u σ.slots σ.res=true) {w':World} (hc:Chg w w' [g.1]) (hg:CuOk w' g) (hZ:∀ b,I.Z b→b≠g.1) (hcu:CuB I.Z w' g):∃ I',RelI I' w0 σ a w'∧I'.Z=I.Z∧I'.F=I.F:=by
 obtain⟨hF,hB,_⟩:I.F u=[g.1]∧I.B u=g.1∧CuB I.Z w g:=hr.res _ _ hu
 have h:=hr.upd (w':=w') hu (by rw [hF];exact hc) (G:=[g.1]) (r:=.cur g) ⟨by simp,fun b hb=>?_⟩ ⟨by simp [Ip.set],by simp [Ip.set,hB],hcu⟩
 · rw [upd_nv hn,setR_same _ _ _ hu] at h
   refine⟨_,h,rfl,?_⟩
   funext i
   simp only [Ip.set]
   split
   · rename_i e;rw [e,hF]
   rfl
 simp only [List.mem_singleton] at hb
 subst hb
 exact⟨((hr.own u _ hu).2 _ (by rw [hF];simp)).1,hcu.lt,hg.2,.inl (by rw [hF];simp)⟩
end
theorem R_calldG {f:FuncId} {x:Operand} {l:List Operand} {tys:Array TypeId} {ins:List V0} {p:τ→Prop} {out:τ→V} {g:Nat×Value} {u:Nat} {y:τ→S} {rs:τ→List (Nat×R)} (n:Nat) (h:FnD P f ins p out) (ho:o.op=.call { callee:=.value (.func f),args:=(x::l).toArray,argTypes:=tys }) (hg:Grd ops o σ true) (hd:o.dst.all (fun d=>Nat.blt d σ.n)=true)
 (hx:Get σ true x (.one (.pp u 0))) (hu:look σ.res u=some (.cur g)) (hn:nvB u σ.slots σ.res=true) (ha:ArgsD σ u true l ins) (hout:∀ z,outV n (out z)=some (y z,rs z)) (hf:∀ z,((rs z).all fun x=>!σ.has x.1)=true):OpE P ops o σ fun σ'=>∃ z,p z∧σ'=(σ.adds (rs z)).put o.dst (true,y z):=by
 rintro w0 a w ⟨I,hr⟩ K Q hK
 rw [hg.wanted hr]
 simp only [if_true]
 obtain⟨hF,hB,hcu⟩:I.F u=[g.1]∧I.B u=g.1∧CuB I.Z w g:=hr.res _ _ hu
 obtain⟨F,hV,hap⟩:=ha.ok hr hu
 have hv:a.eval x=.pointer (some ⟨g.1,0,none⟩):=by
  have:a.eval x=.pointer (some ⟨I.B u,0,none⟩):=hx.va hr rfl
  rw [this,hB]
 have hZg:∀ b,I.Z b→b≠g.1:=fun b hz e=>by subst e;exact (hr.lt u _ (by rw [hF];simp)).2 hz
 have hgo:=(hr.own u _ hu).2 g.1 (by rw [hF];simp)
 have hok:CuOk w g:=⟨hcu.congr rfl fun b _ hz=>⟨⟨hr.old b hz,hZg b hz⟩,rfl⟩,hgo.2⟩
 have hgood:Good w [g.1]:=hr.goodF fun b hb=>by simp only [List.mem_singleton] at hb;subst hb;exact hgo.1
 unfold Oper.wp
 rw [run_enter h.1 ho,List.map_cons,hv]
 refine (h.2 w g _ F hgood hok hV (fun hm=>hap g.1 hm (by rw [hF];simp))).mono fun e w' hR=>?_
 obtain⟨z,v,G,rfl,hp,h1,h2,h3,h4,h5⟩:=hR
 have hsize:=h4.size
 have hcu':CuB I.Z w' g:=by
  obtain⟨i,m,t,G0,bs,k1,k2,k3,k4,k5⟩:=hcu
  obtain⟨i',m',t',G0',bs',j1,j2,j3,j4,j5⟩:=h5.1
  exact⟨i',m',t',G0,bs,j1,k2.congr fun b hb=>h4.block b (k2.lt b hb) (by simpa using hZg b (k3 b hb)),k3,j4,k5⟩
 obtain⟨I',hr',hZ',hF'⟩:=hr.moved hu hn h4 h5 hZg hcu'
 obtain⟨I2,g1,g2⟩:=outV_ok (hout z) (hf z) hr' h1 h2 fun b hb=>⟨.inl (Nat.le_trans hr.ext.size (h3 b hb).1),(Vr.lt h1 b hb),(h3 b hb).2,fun hz=>by rw [hZ'] at hz;have:=hr.old b hz;have:=(h3 b hb).1;omega,fun i hi=>by rw [hF'] at hi;have:=(hr.lt i b hi).1;have:=(h3 b hb).1;omega⟩
 refine hK _ _ _ ⟨z,hp,rfl⟩ ⟨I2,g1.put ?_ g2⟩
 have:(σ.adds (rs z)).n=σ.n:=adds_n (rs z)
 rw [this];exact hd
theorem Bf {f:FuncId} {x:Operand} {l:List Operand} {tys:Array TypeId} {ins:List V0} {p:τ→Prop} {out:τ→V} {g:Nat×Value} {u:Nat} {y:τ→S} {rs:τ→List (Nat×R)} (n:Nat) (h:FnD P f ins p out) (ho:o.op=.call { callee:=.value (.func f),args:=(x::l).toArray,argTypes:=tys }) (hg:o.guard=none) (hd:o.dst.all (fun d=>Nat.blt d σ.n)=true)
 (hx:Get σ true x (.one (.pp u 0))) (hu:look σ.res u=some (.cur g)) (hn:nvB u σ.slots σ.res=true) (ha:ArgsD σ u true l ins) (hout:∀ z,outV n (out z)=some (y z,rs z)) (hf:∀ z,((rs z).all fun x=>!σ.has x.1)=true):OpE P ops o σ fun σ'=>∃ z,p z∧σ'=(σ.adds (rs z)).put o.dst (true,y z):=
 R_calldG n h ho (.no hg) hd hx hu hn ha hout hf
theorem R_calldq [Inhabited τ] {q:Bool} {f:FuncId} {x:Operand} {l:List Operand} {tys:Array TypeId} {ins:List V0} {p:τ→Prop} {out:τ→V} {g:Nat×Value} {u:Nat} {y:τ→S} (n:Nat) (h:FnD P f ins p out) (ho:o.op=.call { callee:=.value (.func f),args:=(x::l).toArray,argTypes:=tys }) (hg:Grd ops o σ q) (hd:o.dst.all (fun d=>Nat.blt d σ.n)=true)
 (hx:Get σ q x (.one (.pp u 0))) (hu:look σ.res u=some (.cur g)) (hn:nvB u σ.slots σ.res=true) (ha:ArgsD σ u q l ins) (hout:∀ z,outV n (out z)=some (y z,[])):OpE P ops o σ fun σ'=>∃ z,(q=true→p z)∧σ'=σ.put o.dst (q,y z):=by
 cases q with
 | true=>
  intro w0 a w hr K Q hK;refine R_calldG (rs:=fun _=>[]) n h ho hg hd hx hu hn ha hout (fun _=>rfl) w0 a w hr K Q fun σ' a' w' ⟨z,hz,e⟩ hr'=>hK σ' a' w' ⟨z,fun _=>hz,e⟩ hr'
 | false=>
  rintro w0 a w ⟨I,hr⟩ K Q hK
  rw [hg.wanted hr]
  exact hK _ _ _ ⟨default,fun h=>(by cases h),rfl⟩ ⟨I,hr.put hd rfl⟩
theorem R_callE {f:FuncId} {l:List Operand} {tys:Array TypeId} {ins:List V0} {p:τ→Prop} {out:τ→V} {y:τ→S} {rs:τ→List (Nat×R)} (n:Nat) (h:FnE P f ins p out) (ho:o.op=.call { callee:=.value (.func f),args:=l.toArray,argTypes:=tys }) (hg:o.guard=none) (hd:o.dst.all (fun d=>Nat.blt d σ.n)=true)
 (ha:Args σ true l ins) (hout:∀ z,outV n (out z)=some (y z,rs z)) (hf:∀ z,((rs z).all fun x=>!σ.has x.1)=true):OpE P ops o σ fun σ'=>∃ z,p z∧σ'=(σ.adds (rs z)).put o.dst (true,y z):=by
 rintro w0 a w ⟨I,hr⟩ K Q hK
 simp only [Region.wanted,hg,if_true]
 obtain⟨F,hF⟩:=ha.ok hr rfl
 unfold Oper.wp
 rw [run_enter h.1 ho]
 refine (h.2 w _ F hr.good hF).mono fun e w' hR=>?_
 obtain⟨z,hp,v,G,rfl,h1,h2,h3,h4⟩:=hR
 obtain⟨I',g1,g2⟩:=outV_ok (hout z) (hf z) (hr.later h4) h1 h2 fun b hb=>⟨.inl (Nat.le_trans hr.ext.size (h3 b hb).1),(Vr.lt h1 b hb),(h3 b hb).2,fun hz=>by have:=hr.old b hz;have:=(h3 b hb).1;omega,fun i hi=>by have:=(hr.lt i b hi).1;have:=(h3 b hb).1;omega⟩
 refine hK _ _ _ ⟨z,hp,rfl⟩ ⟨I',g1.put ?_ g2⟩
 have:(σ.adds (rs z)).n=σ.n:=adds_n (rs z)
 rw [this];exact hd
theorem R_calln {f:FuncId} {x:Operand} {tys:Array TypeId} {bs:List Int} (u:Nat) (h:FnN P f) (ho:o.op=.call { callee:=.value (.func f),args:=[x].toArray,argTypes:=tys }) (hg:o.guard=none) (hd:o.dst.all (fun d=>Nat.blt d σ.n)=true)
 (hx:Get σ true x (.one (.t (.sl 1 (byR bs))))) (hb:∀ n∈bs,0≤n∧n<256) (hf:σ.has u=false):OpE P ops o σ fun σ'=>∃ g,σ'=(σ.add u (.cur g)).put o.dst (true,.a (.one (.pp u 0))):=by
 rintro w0 a w ⟨I,hr⟩ K Q hK
 simp only [Region.wanted,hg,if_true]
 obtain⟨G,hC,hZ⟩:VE I w (.t (.sl 1 (byR bs))) (a.eval x):=hx.va hr rfl
 unfold Oper.wp
 rw [run_enter h.1 ho]
 refine (h.2 w _ G bs hr.good hC hb).mono fun e w' hR=>?_
 obtain⟨g,i,m,t,rfl,h1,h2,h3,h4,h5⟩:=hR
 have hlt:g<w'.heap.size:=(Array.getElem?_eq_some_iff.1 h3).1
 have hr':=hr.add (id:=u) hf h5 (G:=[g]) (u:=undef) (b:=g) (r:=.cur (g,a.eval x)) ⟨by simp,fun b hb=>by simp only [List.mem_singleton] at hb;subst hb;exact⟨h1,hlt,h2⟩⟩
  ⟨by simp [Ip.set],by simp [Ip.set],i,m,t,G,bs,h3,hC.mono h5,hZ,h4,hb⟩
 exact hK _ _ _ ⟨(g,a.eval x),rfl⟩ ⟨_,hr'.put hd (by show Value.pointer _=Value.pointer _;simp [Ip.set])⟩
end
end Go.Q
namespace Go.Q
open Go.RowKit Go.ChangeMaps Go.WideMaps
section
variable {P:Program} {ops:Array Oper} {o:Oper} {σ:St}
theorem MapB.thaw {w:World} {b:Nat} {f:Int→Int→Int→Int} (h:MapB w b f):Thaw w b:=by
 obtain⟨es,k,h1,_⟩:=h
 exact⟨.inr es,k,h1⟩
structure MapTy (P:Program) (t kt et:TypeId):Prop where
 map:P.underlying t=some (.map kt et)
 law:KeyLaw P kt
 key:∀ x y z:Int,wfI x∧wfI y∧wfI z→∃ l,keyOf P kt (.agg #[.int .i64 x,.int .i64 y,.int .i64 z])=some l
 zero:∀ w,(zeroValue et).run P w=.ok (.int .i64 0) w
theorem MapTy.keys {t kt et:TypeId} (T:MapTy P t kt et) {f:Int→Int→Int→Int} {es:Array MapEntry} (h:∀ e∈es.toList,∃ x y z:Int,e.key=.agg #[.int .i64 x,.int .i64 y,.int .i64 z]∧(wfI x∧wfI y∧wfI z)∧e.val=.int .i64 (f x y z)):∀ e∈es.toList,∃ l,keyOf P kt e.key=some l:=fun e he=>by
 obtain⟨x,y,z,h1,h2,_⟩:=h e he
 rw [h1];exact T.key x y z h2
theorem key_inj {x y z p q r:Int} (h:Value.agg #[.int .i64 x,.int .i64 y,.int .i64 z]=.agg #[.int .i64 p,.int .i64 q,.int .i64 r]):x=p∧y=q∧z=r:=by
 injection h with h
 have h:=congrArg Array.toList h
 simp only [List.cons.injEq,Value.int.injEq,and_true,true_and] at h
 exact h
theorem run_look {t kt et:TypeId} (T:MapTy P t kt et) {w:World} {b:Nat} {f:Int→Int→Int→Int} (h:MapB w b f) {p q r:Int} (hk:wfI p∧wfI q∧wfI r):∃ (n:Int) (ok:Bool),(Instr.lookup t (.map (some b)) (.agg #[.int .i64 p,.int .i64 q,.int .i64 r]) true).run P w=.ok (.tuple #[.int .i64 n,.bool ok]) w∧(ok=true→n=f p q r):=by
 obtain⟨es,c,hb,hes⟩:=h
 obtain⟨l,hl⟩:=T.key p q r hk
 rcases T.law.find w hl es.toList (T.keys hes) with ⟨h1,_⟩|⟨j,e,h1,h2,h3⟩
 · exact⟨0,false,by simp [Instr.lookup,run_underlying T.map,MapKept.run_getObj_map hb,T.law.check w _ hl,h1,T.zero w,Result.andThen],fun h=>by cases h⟩
 obtain⟨x,y,z,e1,_,e3⟩:=hes e (List.mem_of_getElem? h2)
 obtain⟨rfl,rfl,rfl⟩:=key_inj (e1.symm.trans h3)
 exact⟨f x y z,true,by simp [Instr.lookup,run_underlying T.map,MapKept.run_getObj_map hb,T.law.check w _ hl,h1,e3,Result.andThen],fun _=>rfl⟩
theorem run_upd {t kt et:TypeId} (T:MapTy P t kt et) {w:World} {b:Nat} {f:Int→Int→Int→Int} (h:MapB w b f) {p q r:Int} (hk:wfI p∧wfI q∧wfI r):∃ w',(Instr.mapUpdate t (.map (some b)) (.agg #[.int .i64 p,.int .i64 q,.int .i64 r]) (.int .i64 (f p q r))).run P w=.ok () w'∧Chg w w' [b]∧MapB w' b f:=by
 obtain⟨es,c,hb,hes⟩:=h
 obtain⟨l,hl⟩:=T.key p q r hk
 have hch:∀ o,Chg w (setBlock w b o) [b]:=fun o=>⟨rfl,rfl,rfl,by simp [setBlock],fun k _ hn=>heap_setBlock_other hb o (by simpa using hn)⟩
 rcases T.law.find w hl es.toList (T.keys hes) with ⟨h1,_⟩|⟨j,e,h1,h2,h3⟩
 · refine⟨setBlock w b (.map (es.push ⟨.agg #[.int .i64 p,.int .i64 q,.int .i64 r],.int .i64 (f p q r),c⟩) (c+1)),?_,hch _,_,_,heap_setBlock_same hb _,fun e he=>?_⟩
   · simp [Instr.mapUpdate,run_underlying T.map,MapKept.run_getObj_map hb,T.law.check w false hl,h1,MapKept.run_setObj_map _ hb,Result.andThen,setBlock]
   simp only [Array.toList_push,List.mem_append,List.mem_singleton] at he
   rcases he with he|rfl
   · exact hes e he
   exact⟨p,q,r,rfl,hk,rfl⟩
 have hj:es[j]?=some e:=by simpa using h2
 refine⟨setBlock w b (.map (es.modify j fun e'=>{ e' with key:=.agg #[.int .i64 p,.int .i64 q,.int .i64 r],val:=.int .i64 (f p q r) }) c),?_,hch _,_,_,heap_setBlock_same hb _,fun e' he=>?_⟩
 · simp [Instr.mapUpdate,run_underlying T.map,MapKept.run_getObj_map hb,T.law.check w false hl,h1,hj,h3,T.law.stays w hl,MapKept.run_setObj_map _ hb,Result.andThen,setBlock]
 rcases MapFrom.mem_modify he with he|⟨e1,_,rfl⟩
 · exact hes e' he
 exact⟨p,q,r,rfl,hk,rfl⟩
theorem VE_v {I:Ip} {w:World} (x:Value) (h:x.oneCell'=true:=by rfl):VE I w (.t (.v x)) x:=⟨[],by simp [C,h],by simp⟩
theorem setR_id:∀ {l:List (Nat×R)} {u:Nat} {r:R},look l u=some r→setR l u r=l
 | [],_,_,h=>by cases h
 | (j,y)::l,u,r,h=>by
  rw [look_cons] at h
  rw [setR]
  by_cases e:j=u
  · subst e;rw [if_pos rfl] at h;cases h;simp [Nat.beq_refl]
  rw [if_neg e] at h
  rw [beq_false e,cond_false,setR_id h]
theorem has_addR {σ:St} {id m:Nat} {r:R} (h:σ.has m=false) (hm:id≠m) (hr:r.has m=false):(σ.add id r).has m=false:=by
 unfold St.has St.add at *
 simp only [Bool.or_eq_false_iff,List.any_cons] at h ⊢
 exact⟨h.1,⟨beq_false hm,hr⟩,h.2⟩
theorem key_at {I:Ip} {w:World} {v:Value} {p q r:Int} (h:VA I w (.agg [.t (.v (.int .i64 p)),.t (.v (.int .i64 q)),.t (.v (.int .i64 r))]) v):v=.agg #[.int .i64 p,.int .i64 q,.int .i64 r]:=by
 obtain⟨cs,rfl,c1,r1,rfl,⟨_,g1,_⟩,c2,r2,rfl,⟨_,g2,_⟩,c3,r3,rfl,⟨_,g3,_⟩,h4⟩:=h
 simp only [C] at g1 g2 g3
 have h4:r3=[]:=h4
 rw [g1.1,g2.1,g3.1,h4]
theorem map_at {I:Ip} {w:World} {v x:Value} (h:VA I w (.one (.t (.v x))) v):v=x:=by
 obtain⟨_,g,_⟩:=h
 simp only [C] at g
 exact g.1
theorem R_look {t kt et:TypeId} {m x:Operand} {b u:Nat} {f:Int→Int→Int→Int} {p q r:Int} (T:MapTy P t kt et) (ho:o.op=.lookup t m x true) (hg:o.guard=none) (hd:o.dst.all (fun d=>Nat.blt d σ.n)=true)
 (hm:Get σ true m (.one (.t (.v (.map (some b)))))) (hu:look σ.res u=some (.mp b f)) (hx:Get σ true x (.agg [.t (.v (.int .i64 p)),.t (.v (.int .i64 q)),.t (.v (.int .i64 r))])) (hk:wfI p∧wfI q∧wfI r) :
 OpE P ops o σ fun σ'=>∃ z:Int×Bool,(z.2=true→z.1=f p q r)∧σ'=σ.put o.dst (true,.tup [.one (.t (.v (.int .i64 z.1))),.one (.t (.v (.bool z.2)))]):=by
 rintro w0 a w ⟨I,hr⟩ K Q hK
 simp only [Region.wanted,hg,if_true]
 obtain⟨_,hM⟩:I.F u=[b]∧MapB w b f:=hr.res _ _ hu
 have e1:=map_at (hm.va hr rfl)
 have e2:=key_at (hx.va hr rfl)
 obtain⟨n,ok,h1,h2⟩:=run_look T hM hk
 unfold Oper.wp
 simp [execOp,ho,e1,e2,h1,Result.andThen]
 refine hK _ _ _ ⟨(n,ok),h2,rfl⟩ ⟨I,hr.put hd ⟨[.int .i64 n,.bool ok],rfl,?_⟩⟩
 exact⟨_,_,rfl,VE_v _,_,_,rfl,VE_v _,rfl⟩
theorem RelI.mapped {I:Ip} {w0:Base} {w:World} {a:Act} {u b:Nat} {f:Int→Int→Int→Int} (hr:RelI I w0 σ a w) (hu:look σ.res u=some (.mp b f)) (hn:nvB u σ.slots σ.res=true) {w':World} (hc:Chg w w' [b]) (hM:MapB w' b f):∃ I',RelI I' w0 σ a w'∧I'.Z=I.Z∧I'.F=I.F:=by
 obtain⟨hF,_⟩:I.F u=[b]∧MapB w b f:=hr.res _ _ hu
 have h:=hr.upd (w':=w') hu (by rw [hF];exact hc) (G:=[b]) (r:=.mp b f) ⟨by simp,fun x hx=>?_⟩ ⟨by simp [Ip.set],hM⟩
 · rw [upd_nv hn,setR_id hu] at h
   refine⟨_,h,rfl,?_⟩
   funext i
   simp only [Ip.set]
   split
   · rename_i e;rw [e,hF]
   rfl
 simp only [List.mem_singleton] at hx
 subst hx
 exact⟨((hr.own u _ hu).2 _ (by rw [hF];simp)).1,hM.lt,hM.thaw,.inl (by rw [hF];simp)⟩
theorem R_mapUpd {t kt et:TypeId} {m x y:Operand} {b u:Nat} {f:Int→Int→Int→Int} {p q r n:Int} (T:MapTy P t kt et) (ho:o.op=.mapUpdate t m x y) (hg:o.guard=none) (hd:o.dst=none)
 (hm:Get σ true m (.one (.t (.v (.map (some b)))))) (hu:look σ.res u=some (.mp b f)) (hn:nvB u σ.slots σ.res=true) (hx:Get σ true x (.agg [.t (.v (.int .i64 p)),.t (.v (.int .i64 q)),.t (.v (.int .i64 r))])) (hk:wfI p∧wfI q∧wfI r)
 (hy:Get σ true y (.one (.t (.v (.int .i64 n))))) (hf:n=f p q r):Op1 P ops o σ σ:=by
 subst hf
 rintro w0 a w ⟨I,hr⟩ K Q hK
 simp only [Region.wanted,hg,if_true]
 obtain⟨_,hM⟩:I.F u=[b]∧MapB w b f:=hr.res _ _ hu
 have e1:=map_at (hm.va hr rfl)
 have e2:=key_at (hx.va hr rfl)
 have e3:=map_at (hy.va hr rfl)
 obtain⟨w',h1,h2,h3⟩:=run_upd T hM hk
 obtain⟨I',hr',_,_⟩:=hr.mapped hu hn h2 h3
 unfold Oper.wp
 simp [execOp,ho,e1,e2,e3,h1,Result.andThen,Oper.upon]
 exact hK _ _ ⟨I',by rw [hd];exact hr'⟩
theorem V0s.ck {w:World} {FF:List Nat}:∀ {ins:List V0} {vs:List Value} {F:List Nat},V0s false w ins vs F→(∀ b∈F,b∉FF)→V0c w FF (ins.map fun x=>(false,x)) vs []
 | [],vs,F,⟨h,_⟩,_=>⟨h,rfl⟩
 | x::r,vs,F,⟨v,vr,G1,G2,h1,h2,h3,h4⟩,hF=>by
  subst h4
  exact⟨v,vr,G1,[],h1,h2,h3.ck fun b hb=>hF b (by simp [hb]),by simpa using fun b hb=>hF b (by simp [hb])⟩
def KPost (w:World) (b:Nat) (f:Int→Int→Int→Int) (out:V) (e:Ending) (w':World):Prop:=
 ∃ v F,e=.returned v∧Vr true w' out v F∧F.Nodup∧(∀ x∈F,w.heap.size≤x∧Thaw w' x)∧Chg w w' [b]∧MapB w' b f
def FnK (P:Program) (fid:FuncId) (b:Nat) (f:Int→Int→Int→Int) (ins:List V0) (out:V):Prop:=
 Callee P fid∧∀ w vs F,Good w [b]→MapB w b f→V0s false w ins vs F→b∉F→Calls P fid (List.toArray vs) w (KPost w b f out)
def KRes (P:Program) (fn:Func) (b:Nat) (f:Int→Int→Int→Int) (out:V) (σ:St):Prop:=look σ.res 888888=some (.mp b f)∧Res P fn true out ⟨σ.n,σ.slots,delR σ.res 888888⟩
def RetK (P:Program) (fn:Func) (b:Nat) (f:Int→Int→Int→Int) (out:V):Exit→St→Prop
 | .normal,σ=>KRes P fn b f out σ
 | .ret,σ=>KRes P fn b f out σ
 | _,_=>False
theorem KRes.mk {fn:Func} {b:Nat} {f:Int→Int→Int→Int} {out:V} {σ:St} (hc:look σ.res 888888=some (.mp b f)) (h:Res P fn true out ⟨σ.n,σ.slots,delR σ.res 888888⟩):KRes P fn b f out σ:=⟨hc,h⟩
theorem FnK.walk {n:Nat} {fid:FuncId} {fn:Func} {c:Code} {b:Nat} {f:Int→Int→Int→Int} {ins:List V0} {out:V} {σ':St} (hf:P.funcs[fid]?=some fn) (hb:fn.body=some c) (hname:(fn.name == "runtime.NumGoroutine")=false) (hnt:fn.ntmps=n) (hn:Nat.ble ins.length n=true)
 (hi:initC 0 (ins.map fun x=>(false,x)) ⟨n,[],[(888888,.mp b f)]⟩=some σ') (h:∀ w0,AW P w0 c (RetK P fn b f out) σ'):FnK P fid b f ins out:=by
 subst hnt
 refine⟨⟨fn,hf,hname,by rw [hb];rfl⟩,fun w vs F hG hM hv hbF=>?_⟩
 have hv':=hv.ck (FF:=[b]) fun x hx hm=>hbF (by simp only [List.mem_singleton] at hm;rwa [←hm])
 have hl:vs.length=ins.length:=by simpa using hv'.len
 have hn':ins.length≤fn.ntmps:=Nat.le_of_ble_eq_true hn
 have hblt:b<w.heap.size:=hM.lt
 let a0:Act:=⟨(List.toArray vs)++Array.replicate (fn.ntmps-(List.toArray vs).size) undef,[]⟩
 let I0:Ip:=⟨fun x=>x<w.heap.size∧x≠b,fun i=>if i=888888 then [b] else [],fun _=>undef,fun _=>0⟩
 have hget:∀ (j:Nat) v,vs[j]?=some v→a0.tmps.getD j undef=v:=fun j v hj=>by
  have hjl:=(List.getElem?_eq_some_iff.1 hj).1
  simp only [a0]
  rw [Array.getD_eq_getD_getElem?,Array.getElem?_append_left (by simpa using hjl)]
  have:(List.toArray vs)[j]?=some v:=by simpa using hj
  rw [this];rfl
 have hr0:RelI I0 ⟨w,[b],hG⟩ ⟨fn.ntmps,[],[(888888,.mp b f)]⟩ a0 w:=by
  have key:∀ i r,look [(888888,R.mp b f)] i=some r→i=888888∧r=.mp b f:=fun i r hi=>by
   rw [look_cons] at hi
   split at hi
   · rename_i e;cases hi;exact⟨e.symm,rfl⟩
   cases hi
  refine⟨Chg.refl w [b],rfl,by simp [a0,hl];omega,fun i z hi=>(by cases hi),fun id r hi=>?_,fun x hx=>hx.1,fun id x hx=>?_,fun id r hi=>?_,fun i j hne x hx hx'=>?_⟩
  · obtain⟨rfl,rfl⟩:=key id r hi
    exact⟨rfl,hM⟩
  · simp only [I0] at hx ⊢
    split at hx
    · simp only [List.mem_singleton] at hx;subst hx;exact⟨hblt,fun h=>h.2 rfl⟩
    cases hx
  · obtain⟨rfl,rfl⟩:=key id r hi
    refine⟨by simp [I0],fun x hx=>?_⟩
    have:x=b:=by simpa [I0] using hx
    subst this
    exact⟨.inr (by simp),hM.thaw⟩
  simp only [I0] at hx hx'
  split at hx
  · split at hx'
    · omega
    cases hx'
  cases hx
 obtain⟨I1,r1⟩:=initC_ok (FF:=[b]) (fun _ _ _=>trivial) hi hr0 (fun x h1 h2=>⟨h1,fun e=>h2 (by simp [e])⟩) hv' (by simp) (fun x hx=>by cases hx) fun j v hj=>hget (0+j) v (by rw [Nat.zero_add];exact hj)
 refine calls_of_wp hf hb (Code.wp_mono ?_ (h ⟨w,[b],hG⟩ _ _ ⟨I1,r1⟩))
 rintro e a' w' ⟨σ1,h1,I,hI⟩
 have key:KRes P fn b f out σ1→a'.defers=[]∧∃ v,(results fn a'.tmps).run P w'=.ok v w'∧KPost w b f out (.returned v) w':=fun ⟨hcur,h1⟩=>by
  obtain⟨hF,hM'⟩:I.F 888888=[b]∧MapB w' b f:=hI.res _ _ hcur
  have hsz:w.heap.size≤w'.heap.size:=hI.ext.size
  let W:World:={ w' with heap:=w'.heap.extract 0 w.heap.size }
  have hW:W.heap.size=w.heap.size:=by simp [W];omega
  have hWk:∀ k,k<w.heap.size→W.heap[k]?=w'.heap[k]?:=fun k hk=>by
   show (w'.heap.extract 0 w.heap.size)[k]?=_
   rw [Array.getElem?_extract]
   simp
   omega
  have hGW:Good W []:=hG.step (Nat.le_of_eq hW.symm) (fun k hk hn=>(hWk k hk).trans (hI.ext.block k hk hn)) fun x hx=>by cases hx
  have hI2:RelI I ⟨W,[],hGW⟩ ⟨σ1.n,σ1.slots,delR σ1.res 888888⟩ a' w':=by
   refine⟨⟨rfl,rfl,rfl,by rw [hW];exact hsz,fun k hk _=>?_⟩,hI.defers,hI.size,hI.slots,fun id r hr=>hI.res id r (look_delR _ _ _ _ hr).2,hI.old,hI.lt,fun id r hr=>?_,hI.apart⟩
   · rw [hW] at hk;exact (hWk k hk).symm
   obtain⟨e1,e2⟩:=look_delR _ _ _ _ hr
   refine⟨(hI.own id r e2).1,fun x hx=>⟨?_,((hI.own id r e2).2 x hx).2⟩⟩
   rcases ((hI.own id r e2).2 x hx).1 with h|h
   · left;show W.heap.size≤x;rw [hW];exact h
   exfalso
   have:x=b:=by simpa using h
   subst this;exact hI.apart id 888888 e1 _ hx (by rw [hF];simp)
  obtain⟨v,F,g1,g2,g3⟩:=h1 I ⟨W,[],hGW⟩ a' w' hI2
  refine⟨hI.defers,v,g1,v,F,rfl,g2,(g3.2 rfl).1,fun x hx=>⟨?_,(g3.2 rfl).2 x hx⟩,hI.ext,hM'⟩
  have:=(g3.1 x hx).resolve_right (by simp)
  rwa [show (Base.W ⟨W,[],hGW⟩).heap.size=w.heap.size from hW] at this
 cases e with
 | normal=>exact key h1
 | ret=>exact key h1
 | exit id=>exact h1.elim
 | goto l=>exact h1.elim
 | panic c=>exact h1.elim
 | outgrown=>exact h1.elim
def readK (u:Nat) (σ:St):E→Option T
 | .t x=>some x
 | .vw id x=>bif Nat.beq id u then none else some x
 | .rf id=>match look σ.res id with|some (.row k rows)=>some (.sl k rows)|_=>none
 | _=>none
def readKA (u:Nat) (σ:St):A→Option V0
 | .one e=>match readK u σ e with|some t=>some (.one t)|none=>none
 | .agg l=>match mapO (readK u σ) l with|some ts=>some (.agg ts)|none=>none
inductive ArgsK (σ:St) (u:Nat):List Operand→List V0→Prop where
 | nil:ArgsK σ u [] []
 | cons {x:Operand} {A0:A} {v:V0} {l:List Operand} {vs:List V0} (hx:Get σ true x A0) (hv:readKA u σ A0=some v) (h:ArgsK σ u l vs):ArgsK σ u (x::l) (v::vs)
section
variable {I:Ip} {w0:Base} {w:World} {a:Act} {u b:Nat} {f:Int→Int→Int→Int}
theorem readK_ok (hr:RelI I w0 σ a w) (hu:look σ.res u=some (.mp b f)) {e:E} {t:T} {c:Value} (h:readK u σ e=some t) (hv:VE I w e c):∃ G,C false w t c G∧∀ x∈G,x∉I.F u:=by
 cases e with
 | t x=>cases h;obtain⟨G,h1,h2⟩:=hv;exact⟨G,h1,fun y hy hm=>(hr.lt u y hm).2 (h2 y hy)⟩
 | vw id x=>
  rw [readK] at h
  cases hb:Nat.beq id u with
  | true=>rw [hb] at h;cases h
  | false=>
   rw [hb] at h;cases h
   obtain⟨G,h1,h2⟩:=hv
   exact⟨G,h1,fun y hy=>hr.apart id u (beq_ne hb) y (h2 y hy)⟩
 | rf id=>
  rw [readK] at h
  split at h
  · rename_i k rows h0
    cases h
    have hc:c=I.hd id:=hv.1
    have hne:id≠u:=fun e=>by subst e;rw [hu] at h0;cases h0
    rw [hc];exact⟨_,C.read (show C true w (.sl k rows) _ _ from hr.res id _ h0),hr.apart id u hne⟩
  cases h
 | pp id off=>cases h
 | pr id k i j=>cases h
 | sb id k i j=>cases h
 | tl id k j=>cases h
 | pf id k j=>cases h
 | no=>cases h
theorem mapK_ok (hr:RelI I w0 σ a w) (hu:look σ.res u=some (.mp b f)):∀ {l:List E} {ts:List T} {cs:List Value},mapO (readK u σ) l=some ts→VEs I w l cs→∃ G,Cs false w ts cs G∧∀ x∈G,x∉I.F u
 | [],ts,cs,h,hv=>by cases h;exact⟨[],by unfold Cs;exact⟨hv,rfl⟩,fun _ hb=>by cases hb⟩
 | e::r,ts,cs,h,hv=>by
  obtain⟨c,cr,rfl,h1,h2⟩:=hv
  rw [mapO] at h
  split at h
  · rename_i t e1
    split at h
    · rename_i ts' e2
      cases h
      obtain⟨G1,g1,k1⟩:=readK_ok hr hu e1 h1
      obtain⟨G2,g2,k2⟩:=mapK_ok hr hu e2 h2
      exact⟨G1++G2,by unfold Cs;exact⟨c,cr,G1,G2,rfl,g1,g2,rfl⟩,fun x hx=>(List.mem_append.1 hx).elim (k1 x) (k2 x)⟩
    cases h
  cases h
theorem readKA_ok (hr:RelI I w0 σ a w) (hu:look σ.res u=some (.mp b f)) {x:A} {t:V0} {v:Value} (h:readKA u σ x=some t) (hv:VA I w x v):∃ G,V0r false w t v G∧∀ x∈G,x∉I.F u:=by
 cases x with
 | one e=>
  rw [readKA] at h
  split at h
  · rename_i t' h1;cases h;exact readK_ok hr hu h1 hv
  cases h
 | agg l=>
  rw [readKA] at h
  split at h
  · rename_i ts h1;cases h
    obtain⟨cs,h2,h3⟩:=hv
    obtain⟨G,h4,h5⟩:=mapK_ok hr hu h1 h3
    exact⟨G,⟨cs,h2,h4⟩,h5⟩
  cases h
theorem ArgsK.ok {l:List Operand} {ins:List V0} (h:ArgsK σ u l ins) (hr:RelI I w0 σ a w) (hu:look σ.res u=some (.mp b f)):∃ F,V0s false w ins (l.map a.eval) F∧∀ x∈F,x∉I.F u:=by
 induction h with
 | nil=>exact⟨[],⟨rfl,rfl⟩,fun _ hb=>by cases hb⟩
 | cons hx hv h ih=>
  obtain⟨F,ih,k1⟩:=ih
  obtain⟨G,hg,k2⟩:=readKA_ok hr hu hv (hx.va hr rfl)
  exact⟨G++F,⟨_,_,G,F,rfl,hg,ih,rfl⟩,fun x hx=>(List.mem_append.1 hx).elim (k2 x) (k1 x)⟩
end
theorem R_callK {fid:FuncId} {l:List Operand} {tys:Array TypeId} {ins:List V0} {out:V} {b:Nat} {f:Int→Int→Int→Int} {u:Nat} {y:S} {rs:List (Nat×R)} (n:Nat) (h:FnK P fid b f ins out) (ho:o.op=.call { callee:=.value (.func fid),args:=l.toArray,argTypes:=tys }) (hg:o.guard=none) (hd:o.dst.all (fun d=>Nat.blt d σ.n)=true)
 (hu:look σ.res u=some (.mp b f)) (hn:nvB u σ.slots σ.res=true) (ha:ArgsK σ u l ins) (hout:outV n out=some (y,rs)) (hf:(rs.all fun x=>!σ.has x.1)=true):Op1 P ops o σ ((σ.adds rs).put o.dst (true,y)):=by
 rintro w0 a w ⟨I,hr⟩ K Q hK
 simp only [Region.wanted,hg,if_true]
 obtain⟨hF,hM⟩:I.F u=[b]∧MapB w b f:=hr.res _ _ hu
 obtain⟨F,hV,hap⟩:=ha.ok hr hu
 have hgood:Good w [b]:=hr.goodF fun x hx=>by simp only [List.mem_singleton] at hx;subst hx;exact ((hr.own u _ hu).2 _ (by rw [hF];simp)).1
 unfold Oper.wp
 rw [run_enter h.1 ho]
 refine (h.2 w _ F hgood hM hV (fun hm=>hap b hm (by rw [hF];simp))).mono fun e w' hR=>?_
 obtain⟨v,G,rfl,h1,h2,h3,h4,h5⟩:=hR
 obtain⟨I',hr',hZ',hF'⟩:=hr.mapped hu hn h4 h5
 obtain⟨I2,g1,g2⟩:=outV_ok hout hf hr' h1 h2 fun x hx=>⟨.inl (Nat.le_trans hr.ext.size (h3 x hx).1),(Vr.lt h1 x hx),(h3 x hx).2,fun hz=>by rw [hZ'] at hz;have:=hr.old x hz;have:=(h3 x hx).1;omega,fun i hi=>by rw [hF'] at hi;have:=(hr.lt i x hi).1;have:=(h3 x hx).1;omega⟩
 refine hK _ _ ⟨I2,g1.put ?_ g2⟩
 have:(σ.adds rs).n=σ.n:=adds_n rs
 rw [this];exact hd
def FnNK (P:Program) (fid:FuncId) (tg ta:List T) (y:Value) (k:Nat) (rows:List (List T)) (f:Int→Int→Int→Int):Prop:=
 Callee P fid∧∀ w gs as1 F1 F2,Good w []→Cs false w tg gs F1→Cs false w ta as1 F2→Calls P fid #[.agg gs.toArray,.agg as1.toArray,y] w fun e w'=>∃ b mb v t F,e=.returned (.pointer (some ⟨b,0,none⟩))∧(w.heap.size≤b∧w.heap.size≤mb∧b≠mb)∧
  w'.heap[b]?=some (.cells (gs++(as1++[y,v,.map (some mb)])).toArray t (0,0))∧MapB w' mb f∧C true w' (.sl k rows) v F∧F.Nodup∧(∀ x∈F,w.heap.size≤x∧Thaw w' x∧x≠b∧x≠mb)∧Ext w w'
theorem VEs_cs {I:Ip} {w:World}:∀ {ts:List T} {cs:List Value},VEs I w (ts.map .t) cs→∃ F,Cs false w ts cs F
 | [],cs,h=>⟨[],by unfold Cs;exact⟨h,rfl⟩⟩
 | t::ts,cs,⟨c,cr,e,⟨G,h1,_⟩,h2⟩=>by
  subst e
  obtain⟨F,h3⟩:=VEs_cs h2
  exact⟨G++F,by unfold Cs;exact⟨c,cr,G,F,rfl,h1,h3,rfl⟩⟩
theorem any_t {id:Nat} (ts:List T):(ts.map E.t).any (E.has id)=false:=by
 induction ts with
 | nil=>rfl
 | cons t ts ih=>simp only [List.map_cons,List.any_cons,ih];rfl
theorem VEs_app {I:Ip} {w:World}:∀ {l l':List E} {cs cs':List Value},VEs I w l cs→VEs I w l' cs'→VEs I w (l++l') (cs++cs')
 | [],_,cs,cs',h,h'=>by have h:cs=[]:=h;subst h;exact h'
 | _::_,_,_,_,⟨c,cr,e,h1,h2⟩,h'=>by subst e;exact⟨c,_,rfl,h1,VEs_app h2 h'⟩
theorem R_callNK {fid:FuncId} {x1 x2 x3:Operand} {tys:Array TypeId} {tg ta:List T} {y:Int} {k:Nat} {rows:List (List T)} (n u:Nat) (f:Int→Int→Int→Int) (h:FnNK P fid tg ta (.int .i64 y) k rows f) (ho:o.op=.call { callee:=.value (.func fid),args:=#[x1,x2,x3],argTypes:=tys }) (hg:o.guard=none) (hd:o.dst.all (fun d=>Nat.blt d σ.n)=true)
 (h1:Get σ true x1 (.agg (tg.map .t))) (h2:Get σ true x2 (.agg (ta.map .t))) (h3:Get σ true x3 (.one (.t (.v (.int .i64 y))))) (hf:σ.has u=false) (hf1:σ.has (n+1)=false) (hf2:σ.has n=false) (hun:u≠n+1∧u≠n) :
 OpE P ops o σ fun σ'=>∃ mb:Nat,σ'=(((σ.add u (.mp mb f)).add (n+1) (.row k rows)).add n (.box (tg.map .t++(ta.map .t++[.t (.v (.int .i64 y)),.rf (n+1),.t (.v (.map (some mb)))])))).put o.dst (true,.a (.one (.pp n 0))):=by
 rintro w0 a w ⟨I,hr⟩ K Q hK
 simp only [Region.wanted,hg,if_true]
 obtain⟨gs,e1,g1⟩:=h1.va hr rfl
 obtain⟨as1,e2,g2⟩:=h2.va hr rfl
 have e3:=map_at (h3.va hr rfl)
 obtain⟨F1,c1⟩:=VEs_cs g1
 obtain⟨F2,c2⟩:=VEs_cs g2
 unfold Oper.wp
 rw [run_enter (l:=[x1,x2,x3]) h.1 ho]
 simp only [List.map_cons,List.map_nil,e1,e2,e3]
 refine (h.2 w gs as1 F1 F2 hr.good c1 c2).mono fun e w' hR=>?_
 obtain⟨b,mb,v,t,F,rfl,⟨hb1,hb2,hb3⟩,hB,hMB,hC,hN,hFr,hx⟩:=hR
 have hr1:=hr.later hx
 have hblt:b<w'.heap.size:=(Array.getElem?_eq_some_iff.1 hB).1
 have hmlt:mb<w'.heap.size:=hMB.lt
 have hfree:∀ x,w.heap.size≤x→x<w'.heap.size→Thaw w' x→Free I w0 w' x:=fun x h1 h2 h3=>⟨.inl (Nat.le_trans hr.ext.size h1),h2,h3,fun hz=>by have:=hr.old x hz;omega,fun i hi=>by have:=(hr.lt i x hi).1;omega⟩
 have f1:=hfree mb hb2 hmlt hMB.thaw
 have f2:∀ x∈F,Free I w0 w' x:=fun x hm=>hfree x (hFr x hm).1 (C.lt hC x hm) (hFr x hm).2.1
 have f3:=hfree b hb1 hblt ⟨.inl _,_,hB⟩
 have r1:=hr1.addF (id:=u) hf (G:=[mb]) (u:=undef) (b:=mb) (r:=.mp mb f) (by simp) (fun x hm=>by simp only [List.mem_singleton] at hm;subst hm;exact f1) ⟨by simp [Ip.set],hMB⟩
 have r2:=r1.addF (id:=n+1) (has_addR hf1 hun.1 rfl) (G:=F) (u:=v) (b:=0) (r:=.row k rows) hN (fun x hm=>(f2 x hm).set fun h=>(hFr x hm).2.2.2 (by simpa using h)) (by show C true w' _ _ _;simpa [Ip.set] using hC)
 have r3:=r2.addF (id:=n) (has_addR (has_addR hf2 hun.2 rfl) (by omega) rfl) (G:=[b]) (u:=undef) (b:=b) (r:=.box (tg.map .t++(ta.map .t++[.t (.v (.int .i64 y)),.rf (n+1),.t (.v (.map (some mb)))]))) (by simp) (fun x hm=>by
  simp only [List.mem_singleton] at hm;subst hm
  exact (f3.set fun h=>hb3 (by simpa using h)).set fun h=>(hFr x h).2.2.1 rfl) ⟨by simp [Ip.set],_,t,by simpa [Ip.set] using hB,by
   refine VEs_app (((((g1.mono hx).set (any_t tg)).set (any_t tg)).set (any_t tg))) (VEs_app (((((g2.mono hx).set (any_t ta)).set (any_t ta)).set (any_t ta))) ⟨_,_,rfl,VE_v _,_,_,rfl,⟨by simp [Ip.set],?_⟩,_,_,rfl,VE_v _,rfl⟩)
   simp only [C] at hC
   obtain⟨a',l',k',e,_⟩:=hC
   exact⟨a',l',k',e⟩⟩
 exact hK _ _ _ ⟨mb,rfl⟩ ⟨_,r3.put hd (by show Value.pointer _=Value.pointer _;simp [Ip.set])⟩
end
end Go.Q
