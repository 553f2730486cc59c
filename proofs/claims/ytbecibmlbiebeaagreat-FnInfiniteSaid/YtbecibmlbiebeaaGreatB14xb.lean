import Derived.Test.YtbecibmlbiebeaaGreatB05xb
import Derived.Test.YtbecibmlbiebeaaGreatAbsIxb
set_option linter.unusedVariables false
set_option linter.unusedSimpArgs false
set_option maxHeartbeats 1000000
set_option maxRecDepth 100000
namespace Go.Q
open Go.D
theorem testBit_or_pow (m s q:Nat):(m|||2^s).testBit q=(m.testBit q||decide (s=q)):=by
 rw [Nat.testBit_or,Nat.testBit_two_pow]
def unset (n m:Nat):Nat:=((List.range n).filter fun q=>!m.testBit q).length
theorem unset_succ (n m:Nat):unset (n+1) m=unset n m+if m.testBit n then 0 else 1:=by
 unfold unset
 rw [List.range_succ,List.filter_append,List.length_append]
 cases h:m.testBit n<;>simp [h]
theorem unset_high {m s:Nat}:∀ {n:Nat},n≤s→unset n (m|||2^s)=unset n m
 | 0,_=>rfl
 | n+1,h=>by rw [unset_succ,unset_succ,unset_high (by omega),testBit_or_pow,decide_eq_false (by omega),Bool.or_false]
theorem unset_or {m s:Nat} (hb:m.testBit s=false):∀ {n:Nat},s<n→unset n (m|||2^s)+1=unset n m
 | n+1,h=>by
  rw [unset_succ,unset_succ,testBit_or_pow]
  by_cases e:s=n
  · subst e
    rw [unset_high (Nat.le_refl _)]
    simp [hb]
  rw [decide_eq_false e,Bool.or_false]
  have:=unset_or hb (n:=n) (by omega)
  omega
theorem unset_le (m:Nat):∀ n:Nat,unset n m≤n
 | 0=>Nat.le_refl _
 | n+1=>by rw [unset_succ];have:=unset_le m n;split<;>omega
theorem or_pow_lt {m s n:Nat} (h:m<2^n) (hs:s<n):m|||2^s<2^n:=Nat.or_lt_two_pow h (Nat.pow_lt_pow_right (by omega) hs)
theorem testBit_lt {m n q:Nat} (h:m<2^n) (hq:n≤q):m.testBit q=false:=Nat.testBit_lt_two_pow (Nat.lt_of_lt_of_le h (Nat.pow_le_pow_right (by omega) hq))
theorem filter_range {m n:Nat} (h:m<2^n):∀ {k:Nat},n≤k→(List.range k).filter m.testBit=(List.range n).filter m.testBit
 | 0,hk=>by rw [show n=0 by omega]
 | k+1,hk=>by
  by_cases e:n=k+1
  · rw [e]
  rw [List.range_succ,List.filter_append,filter_range h (k:=k) (by omega)]
  simp [testBit_lt h (show n≤k by omega)]
def bitsN (m:Nat):List Nat:=(List.range 64).filter m.testBit
theorem bits_eq {m n:Nat} (h:m<2^n) (hn:n≤64):bitsN m=(List.range n).filter m.testBit:=filter_range h hn
theorem range_filter_succ (p:Nat→Bool) (n:Nat):(List.range (n+1)).filter p=(List.range n).filter p++if p n then [n] else []:=by
 rw [List.range_succ,List.filter_append]
 cases h:p n<;>simp [h]
theorem bits_lt {m n q:Nat} (h:m<2^n) (hq:q∈bitsN m):q<n:=by
 unfold bitsN at hq
 rw [List.mem_filter] at hq
 rcases Nat.lt_or_ge q n with h1|h1
 · exact h1
 rw [testBit_lt h h1] at hq;cases hq.2
theorem bits_pow {s:Nat} (hs:s<64):bitsN (2^s)=[s]:=by
 rw [bits_eq (n:=s+1) (Nat.pow_lt_pow_right (by omega) (by omega)) (by omega),range_filter_succ]
 have:(List.range s).filter (2^s).testBit=[]:=by
  rw [List.filter_eq_nil_iff]
  intro q hq
  have:=List.mem_range.1 hq
  rw [Nat.testBit_two_pow]
  simp;omega
 rw [this,Nat.testBit_two_pow]
 simp
theorem bits_len (m:Nat):(bitsN m).length≤64:=by
 unfold bitsN
 exact Nat.le_trans (List.length_filter_le _ _) (by simp)
def bitsI (m:Nat):List Int:=(bitsN m).map fun (q:Nat)=>(q:Int)
theorem bitsI_at {m k:Nat} {x:Int} (h:(bitsI m)[k]?=some x):∃ q:Nat,x=(q:Int)∧(bitsN m)[k]?=some q:=by
 unfold bitsI at h
 rw [List.getElem?_map] at h
 obtain⟨q,hq,rfl⟩:=Option.map_eq_some_iff.1 h
 exact⟨q,rfl,hq⟩
def rowOk (n:Int) (row:List Int):Bool:=(row.all fun t=>inB t (-1) (n-1))&&decide (row.length=9)
def validA (a:TAutomaton):Bool:=inB a.Accept.length 1 12&&inB a.Start 0 (a.Accept.length-1)&&decide (a.Next.length=a.Accept.length)&&a.Next.all (rowOk a.Accept.length)
def nextOf (a:TAutomaton) (s k:Int):Int:=(a.Next[s.toNat]?.getD [])[k.toNat]?.getD (-1)
theorem validA_len {a:TAutomaton} (h:validA a=true):1≤a.Accept.length∧a.Accept.length≤12∧a.Next.length=a.Accept.length∧0≤a.Start∧a.Start<a.Accept.length:=by
 unfold validA inB at h
 simp only [Bool.and_eq_true,decide_eq_true_eq] at h
 omega
theorem validA_next {a:TAutomaton} (h:validA a=true) {s k:Int} (hs:0≤s) (hs':s<a.Accept.length) (hk:0≤k) (hk':k<9) :
 ∃ row,a.Next[s.toNat]?=some row∧row.length=9∧row[k.toNat]?=some (nextOf a s k)∧ -1≤nextOf a s k∧nextOf a s k<a.Accept.length:=by
 have hl:=validA_len h
 unfold validA at h
 simp only [Bool.and_eq_true,List.all_eq_true] at h
 have hlt:s.toNat<a.Next.length:=by omega
 have h12:=h.2 _ (List.getElem_mem hlt)
 unfold rowOk at h12
 simp only [Bool.and_eq_true,List.all_eq_true] at h12
 obtain⟨h1,h2⟩:=h12
 simp only [decide_eq_true_eq] at h2
 have hk2:k.toNat<(a.Next[s.toNat]).length:=by omega
 have h3:=h1 _ (List.getElem_mem hk2)
 have e:nextOf a s k=(a.Next[s.toNat])[k.toNat]:=by
  unfold nextOf
  rw [List.getElem?_eq_getElem hlt,Option.getD_some,List.getElem?_eq_getElem hk2,Option.getD_some]
 refine⟨_,List.getElem?_eq_getElem hlt,h2,by rw [e];exact List.getElem?_eq_getElem hk2,?_⟩
 rw [e]
 unfold inB at h3
 simp only [Bool.and_eq_true,decide_eq_true_eq] at h3
 omega
def clos (a:TAutomaton) (v:Int):Nat→Int→Nat→Nat
 | 0,_,m=>m
 | f+1,s,m=>if s<0||m.testBit s.toNat then m else clos a v f (nextOf a s (6+v)) (m|||2^s.toNat)
def closure (a:TAutomaton) (s v:Int):Nat:=clos a v (a.Accept.length+1) s 0
theorem clos_stop {a:TAutomaton} {v s:Int} {m f:Nat} (h:s<0∨m.testBit s.toNat=true):clos a v (f+1) s m=m:=by
 rw [clos,if_pos (by simp;exact h)]
theorem clos_on {a:TAutomaton} {v s:Int} {m f:Nat} (h:0≤s) (hb:m.testBit s.toNat=false):clos a v (f+1) s m=clos a v f (nextOf a s (6+v)) (m|||2^s.toNat):=by
 rw [clos,if_neg (by simp [hb];omega)]
theorem clos_lt {a:TAutomaton} (ha:validA a=true) {v:Int} (hv:0≤v∧v≤2):∀ {f:Nat} {s:Int} {m:Nat},s<a.Accept.length→m<2^a.Accept.length→clos a v f s m<2^a.Accept.length
 | 0,_,_,_,h=>h
 | f+1,s,m,hs,h=>by
  rw [clos]
  split
  · exact h
  rename_i h1
  simp only [Bool.or_eq_true,decide_eq_true_eq,not_or] at h1
  obtain⟨row,_,_,_,_,h2⟩:=validA_next ha (s:=s) (k:=6+v) (by omega) hs (by omega) (by omega)
  exact clos_lt ha hv h2 (or_pow_lt h (by omega))
theorem closure_lt {a:TAutomaton} (ha:validA a=true) {s v:Int} (hv:0≤v∧v≤2) (hs:s<a.Accept.length):closure a s v<2^a.Accept.length:=clos_lt ha hv hs (Nat.two_pow_pos _)
theorem pow_le_12 {a:TAutomaton} (ha:validA a=true):2^a.Accept.length≤4096:=by
 have:=(validA_len ha).2.1
 calc 2^a.Accept.length≤2^12:=Nat.pow_le_pow_right (by omega) this
  _=4096:=rfl
theorem pow_12 {a:TAutomaton} (ha:validA a=true) {x:Nat} (hx:x<a.Accept.length):2^x≤4096:=Nat.le_trans (Nat.pow_le_pow_right (by omega) (Nat.le_of_lt hx)) (pow_le_12 ha)
def accAt (a:TAutomaton) (t:Nat):Bool:=a.Accept[t]?.getD false
def acc (a:TAutomaton) (s v:Int):Bool:=(bitsN (closure a s v)).any (accAt a)
theorem any_filter_range (m n:Nat) (p:Nat→Bool):((List.range n).filter m.testBit).any p=(List.range n).any fun q=>m.testBit q&&p q:=by
 rw [List.any_filter]
theorem acc_eq {a:TAutomaton} {s v:Int} (h:closure a s v<2^a.Accept.length) (hn:a.Accept.length≤64):acc a s v=(List.range a.Accept.length).any fun q=>(closure a s v).testBit q&&accAt a q:=by
 unfold acc
 rw [bits_eq h hn,any_filter_range]
theorem range_any {p:Nat→Bool} {n k:Nat} (hk:k<n) (h:p k=true):(List.range n).any p=true:=List.any_eq_true.2 ⟨k,List.mem_range.2 hk,h⟩
theorem range_none {p:Nat→Bool} {n k:Nat} (hk:n≤k) (h:∀ j,j<k→p j=false):(List.range n).any p=false:=by
 rw [List.any_eq_false]
 intro j hj
 rw [h j (by have:=List.mem_range.1 hj;omega)];simp
theorem lt_succ_cases {p:Nat→Prop} {k:Nat} (h:∀ j,j<k→p j) (hk:p k):∀ j,j<k+1→p j:=fun j hj=>by
 rcases Nat.lt_or_eq_of_le (Nat.le_of_lt_succ hj) with h1|rfl
 · exact h j h1
 exact hk
theorem any_at {α:Type} {l:List α} {k:Nat} {x:α} {p:α→Bool} (h:l[k]?=some x) (hp:p x=true):l.any p=true:=List.any_eq_true.2 ⟨x,List.mem_of_getElem? h,hp⟩
theorem any_none {α:Type} {l:List α} {k:Nat} {p:α→Bool} (h:∀ j y,j<k→l[j]?=some y→(!p y)=true) (hk:l.length≤k):l.any p=false:=by
 rw [List.any_eq_false]
 intro x hx
 obtain⟨j,hj,rfl⟩:=List.getElem_of_mem hx
 have:=h j _ (by omega) (List.getElem?_eq_getElem hj)
 simpa using this
def accS (a:TAutomaton) (m:Nat) (v:Int):Bool:=(bitsN m).any fun (s:Nat)=>acc a s v
def aftF (a:TAutomaton) (k:Int) (l:List Nat) (m:Nat):Nat:=l.foldl (fun m (t:Nat)=>if 0≤nextOf a t k then m|||2^(nextOf a t k).toNat else m) m
def aft1 (a:TAutomaton) (s v k:Int):Nat:=aftF a k (bitsN (closure a s v)) 0
def aftS (a:TAutomaton) (m:Nat) (v k:Int):Nat:=(bitsN m).foldl (fun out (s:Nat)=>aftF a k (bitsN (closure a s v)) out) 0
theorem acc_I (a:TAutomaton) (s v:Int):acc a s v=(bitsI (closure a s v)).any fun t=>accAt a t.toNat:=by
 unfold acc bitsI
 rw [List.any_map];rfl
theorem accS_I (a:TAutomaton) (m:Nat) (v:Int):accS a m v=(bitsI m).any fun s=>acc a s v:=by
 unfold accS bitsI
 rw [List.any_map];rfl
theorem accS_pow (a:TAutomaton) {s:Nat} (v:Int) (hs:s<64):accS a (2^s) v=acc a s v:=by unfold accS;rw [bits_pow hs];simp
theorem aftS_pow (a:TAutomaton) {s:Nat} (v k:Int) (hs:s<64):aftS a (2^s) v k=aft1 a s v k:=by unfold aftS;rw [bits_pow hs];rfl
theorem aftF_lt {a:TAutomaton} (ha:validA a=true) {k:Int} (hk:0≤k∧k<9):∀ {l:List Nat} {m:Nat},(∀ t∈l,t<a.Accept.length)→m<2^a.Accept.length→aftF a k l m<2^a.Accept.length
 | [],_,_,h=>h
 | t::l,m,hl,h=>by
  show aftF a k l _<_
  refine aftF_lt ha hk (fun t ht=>hl t (by simp [ht])) ?_
  dsimp only
  split
  · obtain⟨row,_,_,_,_,h2⟩:=validA_next ha (s:=(t:Int)) (k:=k) (by omega) (by have:=hl t (by simp);omega) hk.1 hk.2
    exact or_pow_lt h (by omega)
  exact h
theorem aftF_at {a:TAutomaton} {k:Int} {l:List Nat} {j:Nat} {t:Nat} (h:l[j]?=some t) (m:Nat):aftF a k (l.take (j+1)) m=if 0≤nextOf a t k then aftF a k (l.take j) m|||2^(nextOf a t k).toNat else aftF a k (l.take j) m:=by
 unfold aftF
 rw [take_at h,List.foldl_append]
 rfl
theorem aftS_at {a:TAutomaton} {m j q:Nat} {v k:Int} (h:(bitsN m)[j]?=some q):((bitsN m).take (j+1)).foldl (fun out (s:Nat)=>aftF a k (bitsN (closure a s v)) out) 0=aftF a k (bitsN (closure a q v)) (((bitsN m).take j).foldl (fun out (s:Nat)=>aftF a k (bitsN (closure a s v)) out) 0):=by
 rw [take_at h,List.foldl_append];rfl
theorem bitsI_len (m:Nat):(bitsI m).length=(bitsN m).length:=by unfold bitsI;simp
theorem bitsI_le (m:Nat):(bitsI m).length≤64:=by rw [bitsI_len];exact bits_len m
theorem closure_bits {a:TAutomaton} (ha:validA a=true) {s v:Int} (hv:0≤v∧v≤2) (hs:s<a.Accept.length):∀ t∈bitsN (closure a s v),t<a.Accept.length:=fun _ ht=>bits_lt (closure_lt ha hv hs) ht
theorem aft1_lt {a:TAutomaton} (ha:validA a=true) {s v k:Int} (hv:0≤v∧v≤2) (hs:s<a.Accept.length) (hk:0≤k∧k<9):aft1 a s v k<2^a.Accept.length:=aftF_lt ha hk (closure_bits ha hv hs) (Nat.two_pow_pos _)
structure TArc where
 step:TStep
 letter:Int
 to:Int
 deriving DecidableEq
def arcsOf (e:TEdge) (x:Int):List TArc:=(if e.From=x then [⟨⟨e.ID,false⟩,reads e false,e.To⟩] else [])++if e.To=x then [⟨⟨e.ID,true⟩,reads e true,e.From⟩] else []
def arcsL (l:List TEdge) (x:Int):List TArc:=l.flatMap fun e=>arcsOf e x
def arcsAt (g:TGraph) (x:Int):List TArc:=arcsL g.Edges x
theorem arcsL_at {l:List TEdge} {k:Nat} {e:TEdge} (h:l[k]?=some e) (x:Int):arcsL (l.take (k+1)) x=arcsL (l.take k) x++arcsOf e x:=by
 unfold arcsL
 rw [take_at h,List.flatMap_append];simp
theorem arcsL_len (l:List TEdge) (x:Int):(arcsL l x).length≤2*l.length:=by
 induction l with
 | nil=>simp [arcsL]
 | cons e l ih=>
  have e1:arcsL (e::l) x=arcsOf e x++arcsL l x:=by simp [arcsL]
  have e2:(arcsOf e x).length≤2:=by
   unfold arcsOf
   rw [List.length_append]
   split<;>split<;>simp
  rw [e1,List.length_append,List.length_cons];omega
def cArc (x:TArc):List T:=[.v (.int .i64 x.step.Edge),.v (.bool x.step.Inverse),.v (.int .i64 x.letter),.v (.int .i64 x.to)]
def cArcS (x:List TArc):List T:=[.sl 4 (x.map cArc)]
def arcsV (g:TGraph):List (List TArc):=(List.range g.Values.length).map fun (x:Nat)=>arcsAt g x
def bothB (g:TGraph) (a:TAutomaton) (l:List Int):Bool:=(l.all fun x=>inB x 0 (g.Values.length-1))&&(validG g&&validA a)
def goodB (g:TGraph) (a:TAutomaton) (x s:Int):Bool:=validG g&&validA a&&inB x 0 (g.Values.length-1)&&inB s 0 (a.Accept.length-1)
def goalsL (a:TAutomaton) (y v:Int):List Int:=((List.range a.Accept.length).filter fun (s:Nat)=>acc a s v).map fun (s:Nat)=>y*a.Accept.length+s
def vertS (a:TAutomaton) (s v:Int) (y:TArc):List TProductStep:=(bitsN (aft1 a s v y.letter)).map fun (t:Nat)=>⟨y.step,y.to,t⟩
def stepsOf (g:TGraph) (a:TAutomaton) (x s:Int):List TProductStep:=(arcsAt g x).flatMap (vertS a s (g.Values[x.toNat]?.getD 0))
def vertN (a:TAutomaton) (s v:Int) (y:TArc):List Int:=(bitsN (aft1 a s v y.letter)).map fun (t:Nat)=>y.to*a.Accept.length+t
def nextsOf (g:TGraph) (a:TAutomaton) (x s:Int):List Int:=(arcsAt g x).flatMap (vertN a s (g.Values[x.toNat]?.getD 0))
theorem nextsOf_eq (g:TGraph) (a:TAutomaton) (x s:Int):nextsOf g a x s=(stepsOf g a x s).map fun (p:TProductStep)=>p.Node*(a.Accept.length:Int)+p.State:=by
 unfold nextsOf stepsOf
 rw [List.map_flatMap]
 congr 1
 funext y
 unfold vertN vertS
 simp
theorem validG_len {g:TGraph} (h:validG g=true):1≤g.Values.length∧g.Values.length≤5∧g.Edges.length≤12:=by
 unfold validG inB at h
 simp only [Bool.and_eq_true,decide_eq_true_eq] at h
 omega
theorem validG_val {g:TGraph} (h:validG g=true) {k:Nat} {v:Int} (hv:g.Values[k]?=some v):0≤v∧v≤2:=by
 unfold validG at h
 simp only [Bool.and_eq_true,List.all_eq_true] at h
 have:=h.1.1 _ (List.mem_of_getElem? hv)
 unfold inB at this
 simpa using this
theorem validG_edge {g:TGraph} (h:validG g=true) {k:Nat} {e:TEdge} (he:g.Edges[k]?=some e):0≤e.From∧e.From<g.Values.length∧0≤e.To∧e.To<g.Values.length∧0≤e.Label∧e.Label≤2∧1≤e.ID∧e.ID≤99:=by
 unfold validG at h
 simp only [Bool.and_eq_true,List.all_eq_true] at h
 have:=h.1.2 k (List.mem_range.2 (List.getElem?_eq_some_iff.1 he).1)
 unfold edgeAt at this
 rw [he] at this
 simp only [Bool.and_eq_true] at this
 have:=this.1
 unfold edgeOk inB at this
 simp only [Bool.and_eq_true,decide_eq_true_eq] at this
 omega
theorem validG_lt {g:TGraph} (h:validG g=true) {k:Nat} {e e':TEdge} (he:g.Edges[k]?=some e) (he':g.Edges[k+1]?=some e'):e.ID<e'.ID:=by
 unfold validG at h
 simp only [Bool.and_eq_true,List.all_eq_true] at h
 have:=h.1.2 (k+1) (List.mem_range.2 (List.getElem?_eq_some_iff.1 he').1)
 unfold edgeAt at this
 rw [he'] at this
 simp only [Bool.and_eq_true,Nat.add_sub_cancel,he,Option.getD_some] at this
 have:=this.2
 simp at this
 omega
theorem validG_mono {g:TGraph} (h:validG g=true):∀ {d k:Nat} {e e':TEdge},g.Edges[k]?=some e→g.Edges[k+d+1]?=some e'→e.ID<e'.ID
 | 0,k,e,e',he,he'=>validG_lt h he he'
 | d+1,k,e,e',he,he'=>by
  have hlt:k+d+1<g.Edges.length:=by have:=(List.getElem?_eq_some_iff.1 he').1;omega
  have h1:=validG_mono h (d:=d) he (List.getElem?_eq_getElem hlt)
  have h2:=validG_lt h (List.getElem?_eq_getElem hlt) he'
  omega
theorem edgeIndex_at {g:TGraph} (h:validG g=true) {k:Nat} {e:TEdge} (he:g.Edges[k]?=some e):edgeIndex g e.ID=(k:Int):=by
 unfold edgeIndex
 rw [findI_at (k:=k) (fun j y hj hy=>?_) he (by simp)]
 · simp
 have h1:=validG_mono h (d:=k-j-1) hy (e':=e) (by rw [show j+(k-j-1)+1=k by omega];exact he)
 simp;omega
theorem arcsAt_edge {g:TGraph} (h:validG g=true) {x:Int} {j:Nat} {y:TArc} (hy:(arcsAt g x)[j]?=some y):∃ (k:Nat) (e:TEdge),g.Edges[k]?=some e∧y.step.Edge=e.ID∧y.letter=reads e y.step.Inverse∧y.to=(if y.step.Inverse then e.From else e.To):=by
 have hm:=List.mem_of_getElem? hy
 unfold arcsAt arcsL at hm
 rw [List.mem_flatMap] at hm
 obtain⟨e,he,hm⟩:=hm
 obtain⟨k,hk⟩:=List.getElem?_of_mem he
 refine⟨k,e,hk,?_⟩
 unfold arcsOf at hm
 rw [List.mem_append] at hm
 rcases hm with hm|hm
 · split at hm
   · rw [List.mem_singleton] at hm;subst hm;simp
   cases hm
 split at hm
 · rw [List.mem_singleton] at hm;subst hm;simp
 cases hm
theorem arcsAt_ok {g:TGraph} (h:validG g=true) {x:Int} {j:Nat} {y:TArc} (hy:(arcsAt g x)[j]?=some y):0≤y.letter∧y.letter<6∧0≤y.to∧y.to<g.Values.length:=by
 obtain⟨k,e,he,h1,h2,h3⟩:=arcsAt_edge h hy
 have:=validG_edge h he
 rw [h2,h3]
 unfold reads
 cases y.step.Inverse<;>simp<;>omega
theorem range_set {α:Type} (f:Nat→α) (y:α) {n i:Nat}:((List.range n).map f).set i y=(List.range n).map fun x=>if x=i then y else f x:=by
 apply List.ext_getElem?;intro j
 rw [List.getElem?_set]
 simp only [List.length_map,List.length_range,List.getElem?_map]
 by_cases e:i=j
 · subst e
   by_cases h:i<n
   · simp [h]
   simp [h]
 rw [if_neg e]
 by_cases h:j<n
 · rw [List.getElem?_range h];simp;intro e';exact absurd e'.symm e
 simp [h]
theorem range_get {α:Type} (f:Nat→α) {n i:Nat} (h:i<n):((List.range n).map f)[i]?=some (f i):=by
 rw [List.getElem?_map,List.getElem?_range h];rfl
end Go.Q
namespace Go.Proofs.YtbecibmlbiebeaaGreat
open Go.RowKit Go.Q Go.D
theorem implmembers (m:Nat) (hm:m<9223372036854775808):FnT Tryz.prog 154 [.one (.v (.int .i64 (m:Int)))] (.a (.one (.sl 1 ((bitsI m).map cInt)))):=by
 refine A7 Tryz.func154 U (by kernel_rfl) Tryz.ntmps154 U fun hlen w0=>?_
 try simp [cEdge,cGraph,cAutomaton] at hlen
 refine Af (Ak ?_);refine Cb (i:=2) 20001 1 U U ?_;refine Aa (Af (A6 (Cu 5 U U U Tryz.underlying40 ty3 U) U ?_));refine Ag ?_;refine Aa (Ae (Af (Ak ?_)));refine Aa (AW.block ?_);refine By (fun (i:Nat)=>(i≤63)∧True) (fun (i:Nat)=>⟨_,[(4,(true,.a (.one (.t (.v (.int .i64 (i:Nat))))))),(3,(true,.a (.one (.rf 5)))),(0,_),(2,_)],[(5,.row 1 ((((List.range i).filter m.testBit).map fun (q:Nat)=>(q:Int)).map cInt))]⟩) (fun (i:Nat)=>64-i) (0) ⟨by omega,Y⟩ A4 ?_
 rintro i ⟨hk,he⟩
 refine Ae (Af (Ab ?_));refine Ab ?_;refine Ad (R_shr U (.no U) U (.tm U) (.tm U) (fun _=>by omega)) U ?_;refine AWl.nc ?_;refine Aa (Ai (.tm U) (fun h9=>?_) (fun h9=>?_))
 · try simp only [bit_at,bit_zero,shr_zero] at h9
   try simp only [Int.toNat_natCast] at h9
   try simp at h9
   have hi:i≤62:=by (rcases Nat.lt_or_ge i 63 with h|h;omega;have:=Nat.pow_le_pow_right (n:=2) (by omega) h;omega)
   have hl:((List.range i).filter m.testBit).length≤62:=Nat.le_trans (List.length_filter_le _ _) (by simp;omega)
   refine Aj (Ae (AW.block (Af (Ab ?_))));refine Ab ?_;refine Ad (R_shr U (.no U) U (.tm U) (.tm U) (fun _=>by omega)) U ?_;refine Ad (R_and1 U (.no U) U (.tm U) (.const U) (fun _=>by first|exact Int.natCast_nonneg _|omega)) U ?_;refine Bs ?_;refine Aa (Ai (.tm U) (fun h16=>?_) (fun h16=>?_))
   · try simp only [bit_at,bit_zero,shr_zero] at h16
     try simp only [Int.toNat_natCast] at h16
     try simp at h16
     refine Ar (Av [0,2,3,4] [5]) ?_;refine Ac (Ab ?_);refine Ab ?_;refine Bn (Ce (xs:=[.tmp 18]) 19 U U U (.cons (.tm U) U U .nil) Tryz.underlying40 in3 U U U U) U ?_;refine Bl (Bw U U U (.tm U) U (.tm U) (by exact .rf U) (by rfl) Tryz.underlying40 in3 U (by (simp [chunk];omega)) (by (unfold maxLen;simp [chunk];omega))) U ?_;refine Bq (Av [0,2,3,4,20] [5,19]) ?_;refine Ag ?_;refine Aa (Ac (Ab ?_));refine A8 ?_;refine Ag ?_;refine Aa ?_
     repeat (with_reducible refine Au ?_)
     refine Round1.next (i+1) ⟨by omega,Y⟩ (by omega) (Ap rfl ⟨rfl,rfl,rfl,rfl,Y⟩ ⟨congrArg (fun r=>some (R.row 1 r)) (by rw [range_filter_succ,h16];simp [chunk,cInt]),Y⟩)
   try simp only [bit_at,bit_zero,shr_zero] at h16
   try simp only [Int.toNat_natCast] at h16
   try simp at h16
   refine Aj (Ar (Av [0,2,3,4] [5]) ?_);refine Ac (Ab ?_);refine A8 ?_;refine Ag ?_;refine Aa ?_
   repeat (with_reducible refine Au ?_)
   refine Round1.next (i+1) ⟨by omega,Y⟩ (by omega) (Ap rfl ⟨rfl,rfl,rfl,rfl,Y⟩ ⟨congrArg (fun r=>some (R.row 1 r)) (by rw [range_filter_succ,h16];simp),Y⟩)
 try simp only [bit_at,bit_zero,shr_zero] at h9
 try simp only [Int.toNat_natCast] at h9
 try simp at h9
 refine Bb (Af (Ab ?_));refine Ag ?_;refine Aa (Am (Res.one U (.tmp U .nil) U ?_))
 unfold bitsI;rw [bits_eq h9 (by omega)];rfl
theorem implIsValidAutomaton (a:TAutomaton):FnT Tryz.prog 149 [.agg (cAutomaton a)] (.a (.one (.v (.bool (validA a))))):=by
 refine A7 Tryz.func149 U (by kernel_rfl) Tryz.ntmps149 U fun hlen w0=>?_
 try simp [cEdge,cGraph,cAutomaton] at hlen
 refine Af (Ad (Bm U U U (.tm U) (ts:=_) (by rfl)) U ?_);refine Ak ?_;refine Aa (Af (Bg C0 ?_));refine Aq ty33 ?_;refine Be (.t) Tryz.underlying33 ?_;refine Ag ?_;refine Aa (Ae (Af (Ab ?_)));refine Bv (implwithin _ _ _) ?_;refine C1 ?_;refine Ab ?_;refine Dc fl36_0 ?_;refine Db ty3 ?_;refine AWl.mw ?_;refine Ad (Dx U (by exact .not1 U U U U) U (.tmp U (by exact id)) (.const U) (fun hq=>by first|omega|(simp at hq;omega))) U ?_;refine Ad (Bc (FnT.fr (implwithin _ _ _)) U (by exact .not1 U U U U) U (.cons (.tmp U (by exact id)) U (.cons (.const U) U (.cons (.tmp U (by exact id)) U .nil)))) U ?_;refine Ad (R_not U (by exact .not1 U U U U) U (.tmp U (by exact id))) U ?_;refine Cx ?_;refine Ab ?_;refine Dc C4 ?_;refine Db ty34 ?_;refine Ad (Dp U (by exact .not1 U U U U) U (.tmp U (by exact id)) (by exact .t) Tryz.underlying34) U ?_;refine AWl.mw ?_
 refine Ad (R_ne U (by exact .not1 U U U U) U (.tmp U (by exact id)) (.tmp U (by exact id))) U ?_;refine Cx ?_;refine Aa (Ai (.tm U) (fun h28=>?_) (fun h28=>?_))
 · try simp at h28
   refine Ae (Ar (Av [0,1,2,3] []) ?_);refine Ac (Ak ?_);refine Aa (Am (Bp U U ?_))
   congr 1;unfold validA;revert h28;generalize inB (a.Accept.length:Int) 1 12=b1;generalize inB a.Start 0 (a.Accept.length-1)=b2;cases b1<;>cases b2<;>simp<;>omega
 try simp at h28
 refine Aj (Ae (Ae (Ar (Av [0,1,2,3] []) ?_)));refine Ac (Bg C4 ?_);refine Aq ty34 ?_;refine Be (.t) Tryz.underlying34 ?_;refine Ad (Bh U (.no U) U (.const U)) U ?_;refine Aa (AW.block (C2 (β:=Nat) (fun x=>x≤(a.Next).length∧∀ j y,j<x→(a.Next)[j]?=some y→(rowOk a.Accept.length) y=true) (fun x=>⟨_,[(32,(true,.a (.one (.t (.v (.int .i64 (x:Nat))))))),(3,_),(30,_),(31,_)],[]⟩) (fun x=>(a.Next).length-x) (0) ⟨Nat.zero_le _,fun j y hj=>absurd hj (Nat.not_lt_zero j)⟩ (Ap U ⟨U,U,U,U,Y⟩ trivial) ?_));intro k hk;refine Af (AWl.lt ?_);refine Aa (Ae (Ai (.tm U) (fun hlt=>?_) (fun hlt=>?_)))
 · try simp at hlt
   obtain⟨x,hx⟩:∃ ξ,(a.Next)[k]?=some ξ:=⟨_,List.getElem?_eq_getElem (by exact hlt)⟩
   have hxl:x.length≤9223372036854775807:=by (have h:=LenR_map.1 hlen.2.2 x (List.mem_of_getElem? hx);simp only [cIntS,LenL,LenT_sl,List.length_map] at h;exact h.1.1)
   refine Aj (Ae (AW.block (Af (Ad ((As U (.no U) U (.tm U) (.tm U) Tryz.underlying34 Bz (fun _=>⟨by omega,(by exact Al (by assumption))⟩))) U ?_))));refine Aq Bz ?_;refine Ag ?_;refine Aa (Ae (Af (Ab ?_)));refine Be (.t) Tryz.underlying40 ?_;refine Ad (Bh U (.no U) U (.const U)) U ?_;refine Aa (AW.block (C2 (β:=Nat) (fun ι=>ι≤(x).length∧∀ j y,j<ι→(x)[j]?=some y→(fun t=>inB t (-1) (a.Accept.length-1)) y=true) (fun ι=>⟨_,[(38,(true,.a (.one (.t (.v (.int .i64 (ι:Nat))))))),(3,_),(5,_),(30,_),(31,_),(32,_),(36,_),(37,_)],[]⟩) (fun ι=>(x).length-ι) (0) ⟨Nat.zero_le _,fun j y hj=>absurd hj (Nat.not_lt_zero j)⟩ (Ap U ⟨U,U,U,U,U,U,U,U,Y⟩ trivial) ?_));intro k1 hk1;refine Af (AWl.lt ?_);refine Aa (Ae (Ai (.tm U) (fun hlt1=>?_) (fun hlt1=>?_)))
   · try simp at hlt1
     obtain⟨x1,hx1⟩:∃ ξ,(x)[k1]?=some ξ:=⟨_,List.getElem?_eq_getElem (by exact hlt1)⟩
     refine Aj (Ae (AW.block (Af (Ad ((As U (.no U) U (.tm U) (.tm U) Tryz.underlying40 ty3 (fun _=>⟨by omega,(by exact Al (by assumption))⟩))) U ?_))));refine Aq ty3 ?_;refine Ag ?_;refine Aa (Af (Ab ?_));refine Ab ?_;refine C8 ?_;refine Bv (implwithin _ _ _) ?_;refine C1 ?_;refine Aa (Ai (.tm U) (fun h46=>?_) (fun h46=>?_))
     · try simp at h46
       refine Ae (Ar (Av [3,5,7,30,31,32,36,37,38] []) ?_);refine Ac (Ak ?_);refine Aa (Am (Bp U U ?_))
       congr 1;unfold validA;rw [not_all hx (by unfold rowOk;rw [not_all hx1 h46];rfl)];simp
     try simp at h46
     refine Aj (Ar (Av [3,5,7,30,31,32,36,37,38] []) ?_);refine Ac (A8 ?_);refine Ab ?_;refine Aa ?_;refine Round.next (k1+1) ⟨by omega,each_succ hk1.2 hx1 (h46)⟩ (by omega) (Ap rfl ⟨rfl,rfl,rfl,rfl,rfl,rfl,rfl,rfl,Y⟩ trivial)
   try simp at hlt1
   refine Bb (Af (Ab ?_));refine Be (.t) Tryz.underlying40 ?_;refine AWl.nc ?_;refine Aa (Ai (.tm U) (fun h50=>?_) (fun h50=>?_))
   · try simp at h50
     refine Af (Ak ?_);refine Aa (Am (Bp U U ?_))
     congr 1;unfold validA;rw [not_all hx (by unfold rowOk;rw [decide_eq_false (by omega),Bool.and_false])];simp
   try simp at h50
   refine Aj (Ac (A8 ?_));refine Ab ?_;refine Aa ?_;refine Round.next (k+1) ⟨by omega,each_succ hk.2 hx (by unfold rowOk;rw [each_all hk1.2 (by omega),decide_eq_true (by omega)];rfl)⟩ (by omega) (Ap rfl ⟨rfl,rfl,rfl,rfl,Y⟩ trivial)
 try simp at hlt
 refine Bb (Af (Ak ?_));refine Aa (Am (Bp U U ?_))
 congr 1;unfold validA;rw [each_all hk.2 (by omega)];revert h28;generalize inB (a.Accept.length:Int) 1 12=b1;generalize inB a.Start 0 (a.Accept.length-1)=b2;cases b1<;>cases b2<;>simp<;>omega
def fitsA (a:TAutomaton):Bool:=inB a.Start 0 (a.Accept.length-1)&&decide (a.Next.length=a.Accept.length)&&a.Next.all (rowOk a.Accept.length)
theorem specl11Fits (a:TAutomaton):FnT Tryz.prog 203 [.agg (cAutomaton a)] (.a (.one (.v (.bool (fitsA a))))):=by
 refine A7 Tryz.func203 U (by kernel_rfl) Tryz.ntmps203 U fun hlen w0=>?_
 try simp [cEdge,cGraph,cAutomaton] at hlen
 refine Af (Ad (Bm U U U (.tm U) (ts:=_) (by rfl)) U ?_);refine Ak ?_;refine Aa (Af (Bg C0 ?_));refine Aq ty33 ?_;refine Be (.t) Tryz.underlying33 ?_;refine Ag ?_;refine Aa (Ae (Af (Bg fl36_0 ?_)));refine Aq ty3 ?_;refine Ab ?_;refine C8 ?_;refine Bv (specl1In _ _ _) ?_;refine C1 ?_;refine Ab ?_;refine Dc C4 ?_;refine Db ty34 ?_;refine Ad (Dp U (by exact .not1 U U U U) U (.tmp U (by exact id)) (by exact .t) Tryz.underlying34) U ?_;refine AWl.mw ?_;refine Ad (R_ne U (by exact .not1 U U U U) U (.tmp U (by exact id)) (.tmp U (by exact id))) U ?_;refine Cx ?_;refine Aa (Ai (.tm U) (fun h21=>?_) (fun h21=>?_))
 · try simp at h21
   refine Ae (Ar (Av [0,1,2,3] []) ?_);refine Ac (Ak ?_);refine Aa (Am (Bp U U ?_))
   congr 1;unfold fitsA;revert h21;generalize inB a.Start 0 (a.Accept.length-1)=b2;cases b2<;>simp<;>omega
 try simp at h21
 have hnl:a.Next.length=a.Accept.length:=by (revert h21;simp;omega)
 refine Aj (Ae (Ae (Ar (Av [0,1,2,3] []) ?_)));refine Ac (Ak ?_);refine Aa (AW.block (C2 (β:=Nat) (fun x=>x≤(a.Next).length∧∀ j y,j<x→(a.Next)[j]?=some y→(rowOk a.Accept.length) y=true) (fun x=>⟨_,[(4,(true,.a (.one (.t (.v (.int .i64 (x:Nat))))))),(1,_),(3,_)],[]⟩) (fun x=>(a.Next).length-x) (0) ⟨Nat.zero_le _,fun j y hj=>absurd hj (Nat.not_lt_zero j)⟩ (Ap U ⟨U,U,U,Y⟩ trivial) ?_));intro k hk;refine Ae (Af (Ab ?_));refine Ab ?_;refine AWl.lt ?_;refine Aa (Ai (.tm U) (fun hlt=>?_) (fun hlt=>?_))
 · try simp at hlt
   obtain⟨x,hx⟩:∃ ξ,(a.Next)[k]?=some ξ:=⟨_,List.getElem?_eq_getElem (by omega)⟩
   refine Aj (Ae (AW.block (Ae (Af (Bg C4 ?_)))));refine Aq ty34 ?_;refine Ab ?_;refine Ad ((As U (.no U) U (.tm U) (.tm U) Tryz.underlying34 Bz (fun _=>⟨by omega,(by exact Al (by assumption))⟩))) U ?_;refine Aq Bz ?_;refine Be (.t) Tryz.underlying40 ?_;refine AWl.nc ?_;refine Aa (Ai (.tm U) (fun h33=>?_) (fun h33=>?_))
   · try simp at h33
     refine Ae (Ar (Av [1,3,4] []) ?_);refine Ac (Ak ?_);refine Aa (Am (Bp U U ?_))
     congr 1;unfold fitsA;rw [not_all hx (by unfold rowOk;rw [decide_eq_false (by omega),Bool.and_false])];simp
   try simp at h33
   refine Aj (Ae (Ar (Av [1,3,4] []) ?_));refine Ac (Ak ?_);refine Aa (AW.block (C2 (β:=Nat) (fun ι=>ι≤(x).length∧∀ j y,j<ι→(x)[j]?=some y→(fun t=>inB t (-1) (a.Accept.length-1)) y=true) (fun ι=>⟨_,[(5,(true,.a (.one (.t (.v (.int .i64 (ι:Nat))))))),(1,_),(3,_),(4,_)],[]⟩) (fun ι=>(x).length-ι) (0) ⟨Nat.zero_le _,fun j y hj=>absurd hj (Nat.not_lt_zero j)⟩ (Ap U ⟨U,U,U,U,Y⟩ trivial) ?_));intro k1 hk1;refine Ae (Af (Ab ?_));refine Du ?_;refine Aa (Ai (.tm U) (fun hlt1=>?_) (fun hlt1=>?_))
   · try simp at hlt1
     obtain⟨x1,hx1⟩:∃ ξ,(x)[k1]?=some ξ:=⟨_,List.getElem?_eq_getElem (by omega)⟩
     refine Aj (Ae (AW.block (Af (Bg C4 ?_))));refine Aq ty34 ?_;refine Ab ?_;refine Ad ((As U (.no U) U (.tm U) (.tm U) Tryz.underlying34 Bz (fun _=>⟨by omega,(by exact Al (by assumption))⟩))) U ?_;refine Aq Bz ?_;refine Ab ?_;refine Ad ((As U (.no U) U (.tm U) (.tm U) Tryz.underlying40 ty3 (fun _=>⟨by omega,(by exact Al (by assumption))⟩))) U ?_;refine Aq ty3 ?_;refine Ab ?_;refine C8 ?_;refine Bv (specl1In _ _ _) ?_;refine C1 ?_;refine Aa (Ai (.tm U) (fun h49=>?_) (fun h49=>?_))
     · try simp at h49
       refine Ae (Ar (Av [1,3,4,5] []) ?_);refine Ac (Ak ?_);refine Aa (Am (Bp U U ?_))
       congr 1;unfold fitsA;rw [not_all hx (by unfold rowOk;rw [not_all hx1 h49];rfl)];simp
     try simp at h49
     refine Aj (Ar (Av [1,3,4,5] []) ?_);refine Ac (Ab ?_);refine A8 ?_;refine Ag ?_;refine Aa ?_;refine Round.next (k1+1) ⟨by omega,each_succ hk1.2 hx1 (h49)⟩ (by omega) (Ap rfl ⟨rfl,rfl,rfl,rfl,Y⟩ trivial)
   try simp at hlt1
   refine Bb (Ac (Ab ?_));refine A8 ?_;refine Ag ?_;refine Aa ?_;refine Round.next (k+1) ⟨by omega,each_succ hk.2 hx (by unfold rowOk;rw [each_all hk1.2 (by omega),decide_eq_true (by omega)];rfl)⟩ (by omega) (Ap rfl ⟨rfl,rfl,rfl,Y⟩ trivial)
 try simp at hlt
 refine Bb (Af (Ak ?_));refine Aa (Am (Bp U U ?_))
 congr 1;unfold fitsA;rw [each_all hk.2 (by omega)];revert h21;generalize inB a.Start 0 (a.Accept.length-1)=b2;cases b2<;>simp<;>omega
theorem fits_valid (a:TAutomaton):(decide ((a.Accept.length:Int)≤12)&&fitsA a)=validA a:=by
 unfold fitsA validA inB
 rw [Bool.eq_iff_iff]
 simp only [Bool.and_eq_true,decide_eq_true_eq]
 constructor
 · rintro⟨h1,⟨⟨h2,h3⟩,h4⟩,h5⟩;exact⟨⟨⟨⟨by omega,h1⟩,h2,h3⟩,h4⟩,h5⟩
 rintro⟨⟨⟨⟨h0,h1⟩,h2,h3⟩,h4⟩,h5⟩;exact⟨h1,⟨⟨h2,h3⟩,h4⟩,h5⟩
theorem specIsValidAutomaton (a:TAutomaton):FnT Tryz.prog 141 [.agg (cAutomaton a)] (.a (.one (.v (.bool (validA a))))):=by
 refine A7 Tryz.func141 U (by kernel_rfl) Tryz.ntmps141 U fun hlen w0=>?_
 try simp [cEdge,cGraph,cAutomaton] at hlen
 refine Af (Ad (Bm U U U (.tm U) (ts:=_) (by rfl)) U ?_);refine Ak ?_;refine Aa (Af (Bg C0 ?_));refine Aq ty33 ?_;refine Be (.t) Tryz.underlying33 ?_;refine Ad (R_le U (.no U) U (.tm U) (.const U)) U ?_;refine Ab ?_;refine Ad (Ca U (by exact .yes1 U U U U) U (.tmp U (by exact fun _=>rfl)) Bt U U) U ?_;refine Ad (Bc (FnT.fr (specl11Fits _)) U (by exact .yes1 U U U U) U (.cons (.tmp U (by exact id)) U .nil)) U ?_;refine Ck ?_;refine Ag ?_;refine Aa (Am (Bp U U ?_))
 rw [←fits_valid]
theorem implmove (a:TAutomaton) (ha:validA a=true) (s k:Int) (hs:s<a.Accept.length) (hk:0≤k∧k<9):FnT Tryz.prog 213 [.agg (cAutomaton a),.one (.v (.int .i64 s)),.one (.v (.int .i64 k))] (.a (.one (.v (.int .i64 (if s<0 then -1 else nextOf a s k))))):=by
 refine A7 Tryz.func213 U (by kernel_rfl) Tryz.ntmps213 U fun hlen w0=>?_
 try simp [cEdge,cGraph,cAutomaton] at hlen
 have hin:inB k 0 8=true:=by unfold inB;simp;omega
 refine Af (Ad (Bm U U U (.tm U) (ts:=_) (by rfl)) U ?_);refine Ak ?_;refine Aa (Ae (Af (Ab ?_)));refine Du ?_;refine Ab ?_;refine AWl.mw ?_;refine Ad (Bc (FnT.fr (implisLetter _)) U (by exact .not1 U U U U) U (.cons (.tmp U (by exact id)) U .nil)) U ?_;refine Ad (R_not U (by exact .not1 U U U U) U (.tmp U (by exact id))) U ?_;refine Cx ?_;refine Aa (Ai (.tm U) (fun h13=>?_) (fun h13=>?_))
 · try simp at h13
   rw [hin] at h13;simp at h13
   refine Ae (Ar (Av [0,1,2,3,6] []) ?_);refine Ac (Ak ?_);refine Aa (Am (Bp U U ?_))
   rw [if_pos (by omega)]
 try simp at h13
 rw [hin] at h13;simp at h13;obtain⟨row,hr1,hr2,hr3,hr4⟩:=validA_next ha (s:=s) (k:=k) (by omega) hs hk.1 hk.2
 refine Aj (Ae (Ar (Av [0,1,2,3,6] []) ?_));refine Ac (Bg C4 ?_);refine Aq ty34 ?_;refine Ab ?_;refine Ad (As U (.no U) U (.tm U) (.tm U) Tryz.underlying34 Bz (fun _=>⟨by omega,(by exact Al hr1)⟩)) U ?_;refine Aq Bz ?_;refine Ab ?_;refine Ad (As U (.no U) U (.tm U) (.tm U) Tryz.underlying40 ty3 (fun _=>⟨by omega,(by exact Al hr3)⟩)) U ?_;refine Aq ty3 ?_;refine Ag ?_;refine Aa (Am (Bp U U ?_))
 rw [if_neg (by omega)]
theorem implmoveN (a:TAutomaton) (ha:validA a=true) (t:Nat) (k:Int) (ht:t<a.Accept.length) (hk:0≤k∧k<9):FnT Tryz.prog 213 [.agg (cAutomaton a),.one (.v (.int .i64 (t:Int))),.one (.v (.int .i64 k))] (.a (.one (.v (.int .i64 (nextOf a t k))))):=by
 have:=implmove a ha (t:Int) k (by omega) hk
 rwa [if_neg (by omega)] at this
theorem implclosure (a:TAutomaton) (ha:validA a=true) (s v:Int) (hst:-1≤s∧s<a.Accept.length) (hv:0≤v∧v≤2):FnT Tryz.prog 212 [.agg (cAutomaton a),.one (.v (.int .i64 s)),.one (.v (.int .i64 v))] (.a (.one (.v (.int .i64 (closure a s v:Nat))))):=by
 refine A7 Tryz.func212 U (by kernel_rfl) Tryz.ntmps212 U fun hlen w0=>?_
 try simp [cEdge,cGraph,cAutomaton] at hlen
 have hA:=validA_len ha
 have hP:=pow_le_12 ha
 refine Af (Ad (Bm U U U (.tm U) (ts:=_) (by rfl)) U ?_);refine Ak ?_;refine Aa (Af (Ak ?_));refine Aa (Ae (Af (Ab ?_)));refine Ag ?_;refine Aa (AW.block (C6 (fun (x:Int) (m:Nat) (f:Nat)=>(unset a.Accept.length m<f∧m<2^a.Accept.length∧ -1≤x∧x<a.Accept.length)∧closure a s v=clos a v f x m) (fun (x:Int) (m:Nat) (f:Nat)=>⟨_,[(8,(true,.a (.one (.t (.v (.int .i64 x)))))),(7,(true,.a (.one (.t (.v (.int .i64 (m:Nat))))))),(2,_),(3,_),(6,_)],[]⟩) (fun (x:Int) (m:Nat) (f:Nat)=>f) (s) (0) (a.Accept.length+1) ⟨⟨by have:=unset_le 0 a.Accept.length;omega,Nat.two_pow_pos _,hst.1,hst.2⟩,U⟩ (Ap U ⟨U,U,U,U,U,Y⟩ trivial) ?_))
 rintro x m f ⟨hk,he⟩
 refine Ae (Af (Ab ?_));refine AWl.gd ?_;refine Ab ?_;refine Cm ?_;refine Cm ?_;refine Ad (R_shr U (by exact .yes1 U U U U) U (.tmp U (by exact id)) (.tmp U (by exact id)) (fun hq=>by first|omega|(simp at hq;omega))) U ?_;refine Ad (R_and1 U (by exact .yes1 U U U U) U (.tmp U (by exact id)) (.const U) (fun _=>by first|exact Int.natCast_nonneg _|omega)) U ?_;refine Ad (R_eq U (by exact .yes1 U U U U) U (.tmp U (by exact id)) (.const U)) U ?_;refine Ck ?_;refine Aa (Ai (.tm U) (fun h18=>?_) (fun h18=>?_))
 · try simp only [bit_at,bit_zero,shr_zero] at h18
   try simp only [Int.toNat_natCast] at h18
   try simp at h18
   obtain⟨hx0,hbit⟩:0≤x∧m.testBit x.toNat=false:=h18
   obtain⟨f',rfl⟩:∃ f',f=f'+1:=⟨f-1,by omega⟩
   have h2x:=pow_12 ha (x:=x.toNat) (by omega)
   have h2p:=Nat.two_pow_pos x.toNat
   have hun:=unset_or (n:=a.Accept.length) hbit (by omega)
   obtain⟨_,_,_,_,hn1,hn2⟩:=validA_next ha (s:=x) (k:=6+v) hx0 hk.2.2.2 (by omega) (by omega)
   refine Aj (Ae (AW.block (Ar (Av [2,3,6,7,8] []) ?_)));refine Ac (Ab ?_);refine Ab ?_;refine Ad (R_shlN U (.no U) U (.const U) (.tm U) (fun _=>by omega)) U ?_;refine Ad (R_or_int U (.no U) U (.tm U) (.tm U) (fun _=>by omega)) U ?_;refine Ag ?_;refine Aa (Ac (Aq Bt ?_));refine Ab ?_;refine Ab ?_;refine Ad (C7 U (.no U) U (.const U) (.tm U) (fun _=>by omega)) U ?_;refine Ad (Bc (FnT.fr (implmove a ha _ _ hk.2.2.2 (by omega))) U (.no U) U (.cons (.tm U) U (.cons (.tm U) U (.cons (.tm U) U .nil)))) U ?_;refine Ag ?_;refine Aa ?_
   repeat (with_reducible refine Au ?_)
   refine Round3.next ((if x<0 then -1 else nextOf a x (6+v))) (m|||2^x.toNat) (f') ⟨⟨by omega,or_pow_lt hk.2.1 (by omega),by rw [if_neg (by omega)];exact hn1,by rw [if_neg (by omega)];exact hn2⟩,by rw [he,clos_on hx0 hbit,if_neg (by omega)]⟩ (by omega) (Ap rfl ⟨rfl,rfl,rfl,rfl,rfl,Y⟩ trivial)
 try simp only [bit_at,bit_zero,shr_zero] at h18
 try simp only [Int.toNat_natCast] at h18
 try simp at h18
 refine Bb (Ae (Ar (Av [2,3,6,7,8] []) ?_));refine Ac (Ab ?_);refine Ag ?_;refine Aa (Am (Bp U U ?_))
 rw [he];obtain⟨f',rfl⟩:∃ f',f=f'+1:=⟨f-1,by omega⟩;rw [clos_stop (by rcases Int.lt_or_le x 0 with h|h;exact .inl h;exact .inr (h18 h))]
theorem specl14Closure (a:TAutomaton) (ha:validA a=true) (s v:Int) (hst:-1≤s∧s<a.Accept.length) (hv:0≤v∧v≤2):FnT Tryz.prog 183 [.agg (cAutomaton a),.one (.v (.int .i64 s)),.one (.v (.int .i64 v))] (.a (.one (.v (.int .i64 (closure a s v:Nat))))):=by
 refine A7 Tryz.func183 U (by kernel_rfl) Tryz.ntmps183 U fun hlen w0=>?_
 try simp [cEdge,cGraph,cAutomaton] at hlen
 have hA:=validA_len ha
 have hP:=pow_le_12 ha
 refine Af (Ad (Bm U U U (.tm U) (ts:=_) (by rfl)) U ?_);refine Ak ?_;refine Aa (Af (Ak ?_));refine Aa (Ae (AW.block (C6 (fun (x:Int) (m:Nat) (f:Nat)=>(unset a.Accept.length m<f∧m<2^a.Accept.length∧ -1≤x∧x<a.Accept.length)∧closure a s v=clos a v f x m) (fun (x:Int) (m:Nat) (f:Nat)=>⟨_,[(1,(true,.a (.one (.t (.v (.int .i64 x)))))),(7,(true,.a (.one (.t (.v (.int .i64 (m:Nat))))))),(2,_),(3,_),(6,_)],[]⟩) (fun (x:Int) (m:Nat) (f:Nat)=>f) (s) (0) (a.Accept.length+1) ⟨⟨by have:=unset_le 0 a.Accept.length;omega,Nat.two_pow_pos _,hst.1,hst.2⟩,U⟩ (Ap U ⟨U,U,U,U,U,Y⟩ trivial) ?_)))
 rintro x m f ⟨hk,he⟩
 refine Ae (Af (Ab ?_));refine AWl.gd ?_;refine Ab ?_;refine Cm ?_;refine Cm ?_;refine Ad (R_shr U (by exact .yes1 U U U U) U (.tmp U (by exact id)) (.tmp U (by exact id)) (fun hq=>by first|omega|(simp at hq;omega))) U ?_;refine Ad (R_and1 U (by exact .yes1 U U U U) U (.tmp U (by exact id)) (.const U) (fun _=>by first|exact Int.natCast_nonneg _|omega)) U ?_;refine Ad (R_eq U (by exact .yes1 U U U U) U (.tmp U (by exact id)) (.const U)) U ?_;refine Ck ?_;refine Aa (Ai (.tm U) (fun h16=>?_) (fun h16=>?_))
 · try simp only [bit_at,bit_zero,shr_zero] at h16
   try simp only [Int.toNat_natCast] at h16
   try simp at h16
   obtain⟨hx0,hbit⟩:0≤x∧m.testBit x.toNat=false:=h16
   obtain⟨f',rfl⟩:∃ f',f=f'+1:=⟨f-1,by omega⟩
   have h2x:=pow_12 ha (x:=x.toNat) (by omega)
   have h2p:=Nat.two_pow_pos x.toNat
   have hun:=unset_or (n:=a.Accept.length) hbit (by omega)
   obtain⟨row,hr1,hr2,hr3,hn1,hn2⟩:=validA_next ha (s:=x) (k:=6+v) hx0 hk.2.2.2 (by omega) (by omega)
   refine Aj (AW.block (Ae (Ar (Av [1,2,3,6,7] []) ?_)));refine Ac (Ab ?_);refine Ab ?_;refine Ad (R_shlN U (.no U) U (.const U) (.tm U) (fun _=>by omega)) U ?_;refine Ad (R_or_int U (.no U) U (.tm U) (.tm U) (fun _=>by omega)) U ?_;refine Ag ?_;refine Aa (Ac (Bg C4 ?_));refine Aq ty34 ?_;refine Ab ?_;refine Ad (As U (.no U) U (.tm U) (.tm U) Tryz.underlying34 Bz (fun _=>⟨by omega,(by exact Al hr1)⟩)) U ?_;refine Aq Bz ?_;refine Ab ?_;refine Ad (C7 U (.no U) U (.const U) (.tm U) (fun _=>by omega)) U ?_;refine Ad (As U (.no U) U (.tm U) (.tm U) Tryz.underlying40 ty3 (fun _=>⟨by omega,(by exact Al hr3)⟩)) U ?_;refine Aq ty3 ?_;refine Ag ?_;refine Aa ?_
   repeat (with_reducible refine Au ?_)
   refine Round3.next (nextOf a x (6+v)) (m|||2^x.toNat) (f') ⟨⟨by omega,or_pow_lt hk.2.1 (by omega),hn1,hn2⟩,by rw [he,clos_on hx0 hbit]⟩ (by omega) (Ap rfl ⟨rfl,rfl,rfl,rfl,rfl,Y⟩ trivial)
 try simp only [bit_at,bit_zero,shr_zero] at h16
 try simp only [Int.toNat_natCast] at h16
 try simp at h16
 refine Bb (Ae (Ar (Av [1,2,3,6,7] []) ?_));refine Ac (Ab ?_);refine Ag ?_;refine Aa (Am (Bp U U ?_))
 rw [he];obtain⟨f',rfl⟩:∃ f',f=f'+1:=⟨f-1,by omega⟩;rw [clos_stop (by rcases Int.lt_or_le x 0 with h|h;exact .inl h;exact .inr (h16 h))]
theorem specl14Accepts (g:TGraph) (a:TAutomaton) (ha:validA a=true) (hg:validG g=true) (x s v:Int) (hx:0≤x) (hxv:g.Values[x.toNat]?=some v) (hst:0≤s∧s<a.Accept.length):FnT Tryz.prog 163 [.agg (cGraph g),.agg (cAutomaton a),.one (.v (.int .i64 x)),.one (.v (.int .i64 s))] (.a (.one (.v (.bool (acc a s v))))):=by
 refine A7 Tryz.func163 U (by kernel_rfl) Tryz.ntmps163 U fun hlen w0=>?_
 try simp [cEdge,cGraph,cAutomaton] at hlen
 have hA:=validA_len ha
 have hv:=validG_val hg hxv
 have hcl:=closure_lt ha hv hst.2
 have hP:=pow_le_12 ha
 refine Af (Ad (Bm U U U (.tm U) (ts:=_) (by rfl)) U ?_);refine Ad (Bm U U U (.tm U) (ts:=_) (by rfl)) U ?_;refine Ak ?_;refine Aa (Ae (B8 9 (nthB [[],[],[],[2],[],[2,3,4],[2,3,4,5],[0,1,2,3,4,5,6],[0,1,2,3,4,5,6,7]]) (by kernel_rfl) (by kernel_rfl) (by kernel_rfl) ?_));refine Bj Bt ?_;refine Aw ?_;refine B9 Cl ?_;refine Bj Bz ?_;refine Aw ?_;refine DrawC.s (fun _ hs=>(As U (.no U) (Ah hs U) (hs.tm U) (hs.tm U) Tryz.underlying40 ty3 (fun _=>⟨by omega,Al hxv⟩))) ?_;refine Bj ty3 ?_;refine DrawC.s (fun _ hs=>Bc (FnT.fr (specl14Closure a ha s v ⟨by omega,hst.2⟩ hv)) U (.no U) (Ah hs U) (.cons (hs.tm U) (readA_sup hs U) (.cons (hs.tm U) (readA_sup hs U) (.cons (hs.tm U) (readA_sup hs U) .nil)))) ?_;refine DrawC.s (fun _ hs=>Da U (.no U) (Ah hs U) (hs.tm U)) ?_;refine DrawC.fin U U ?_;refine Aa (Ae (Ae (Ar (Av [0,1,2,3,4,5,8,9] []) ?_)));refine Ac (Ak ?_)
 refine Aa (AW.block (By (fun (k:Nat)=>(k≤a.Accept.length∧∀ j,j<k→((closure a s v).testBit j&&accAt a j)=false)∧True) (fun (k:Nat)=>⟨_,[(10,(true,.a (.one (.t (.v (.int .i64 (k:Nat))))))),(5,_),(9,_)],[]⟩) (fun (k:Nat)=>a.Accept.length-k) (0) ⟨⟨Nat.zero_le _,fun j hj=>absurd hj (Nat.not_lt_zero j)⟩,Y⟩ (Ap U ⟨U,U,U,Y⟩ trivial) ?_))
 rintro k ⟨hk,he⟩
 refine Ae (Af (Ab ?_));refine Bg C0 ?_;refine Aq ty33 ?_;refine Be (.t) Tryz.underlying33 ?_;refine AWl.lt ?_;refine Aa (Ai (.tm U) (fun h23=>?_) (fun h23=>?_))
 · try simp only [bit_at,bit_zero,shr_zero] at h23
   try simp only [Int.toNat_natCast] at h23
   try simp at h23
   refine Aj (Ae (AW.block (Af (Ab ?_))));refine Ab ?_;refine Ad (R_shr U (.no U) U (.tm U) (.tm U) (fun _=>by omega)) U ?_;refine Ad (R_and1 U (.no U) U (.tm U) (.const U) (fun _=>by first|exact Int.natCast_nonneg _|omega)) U ?_;refine Bs ?_;refine Ab ?_;refine AWl.fy C0 ?_;refine Dj ty33 ?_;refine Cm ?_;refine Ad ((As U (by exact .yes1 U U U U) U (.tmp U (by exact id)) (.tmp U (by exact id)) Tryz.underlying33 ty4 (fun _=>⟨by omega,Al (l:=a.Accept) (x:=accAt a k) (getD_at (by omega))⟩))) U ?_;refine Dj ty4 ?_;refine Ck ?_;refine Aa (Ai (.tm U) (fun h37=>?_) (fun h37=>?_))
   · skip
     simp only [bit_at] at h37;simp only [Int.toNat_natCast] at h37
     refine Ae (Ar (Av [5,9,10] []) ?_);refine Ac (Ak ?_);refine Aa (Am (Bp U U ?_))
     rw [acc_eq hcl (by omega),range_any (by omega) h37]
   skip
   simp only [bit_at] at h37;simp only [Int.toNat_natCast] at h37
   refine Aj (Ar (Av [5,9,10] []) ?_);refine Ac (Ab ?_);refine A8 ?_;refine Ag ?_;refine Aa ?_
   repeat (with_reducible refine Au ?_)
   refine Round1.next (k+1) ⟨⟨by omega,lt_succ_cases hk.2 h37⟩,Y⟩ (by omega) (Ap rfl ⟨rfl,rfl,rfl,Y⟩ trivial)
 try simp only [bit_at,bit_zero,shr_zero] at h23
 try simp only [Int.toNat_natCast] at h23
 try simp at h23
 refine Bb (Af (Ak ?_));refine Aa (Am (Bp U U ?_))
 rw [acc_eq hcl (by omega),range_none (by omega) hk.2]
theorem implacceptsAt (a:TAutomaton) (ha:validA a=true) (m:Nat) (hm:m<2^a.Accept.length) (v:Int) (hv:0≤v∧v≤2):FnT Tryz.prog 178 [.agg (cAutomaton a),.one (.v (.int .i64 (m:Int))),.one (.v (.int .i64 v))] (.a (.one (.v (.bool (accS a m v))))):=by
 refine A7 Tryz.func178 U (by kernel_rfl) Tryz.ntmps178 U fun hlen w0=>?_
 try simp [cEdge,cGraph,cAutomaton] at hlen
 have hA:=validA_len ha
 have hP:=pow_le_12 ha
 have hbl:=bitsI_le m
 refine Af (Ad (Bm U U U (.tm U) (ts:=_) (by rfl)) U ?_);refine Ak ?_;refine Aa (Ae (Af (Ab ?_)));refine Ad (Bc (FnT.fr (implmembers m (by omega))) U (.no U) U (.cons (.tm U) U .nil)) U ?_;refine Be (.t) Tryz.underlying40 ?_;refine Ad (Bh U (.no U) U (.const U)) U ?_;refine Aa (AW.block (C2 (β:=Nat) (fun x=>x≤(bitsI m).length∧∀ j y,j<x→(bitsI m)[j]?=some y→(fun s=>!acc a s v) y=true) (fun x=>⟨_,[(14,(true,.a (.one (.t (.v (.int .i64 (x:Nat))))))),(2,_),(3,_),(12,_),(13,_)],[]⟩) (fun x=>(bitsI m).length-x) (0) ⟨Nat.zero_le _,fun j y hj=>absurd hj (Nat.not_lt_zero j)⟩ (Ap U ⟨U,U,U,U,U,Y⟩ trivial) ?_));intro k hk;refine Af (AWl.lt ?_);refine Aa (Ae (Ai (.tm U) (fun hlt=>?_) (fun hlt=>?_)))
 · try simp at hlt
   obtain⟨x,hx⟩:∃ ξ,(bitsI m)[k]?=some ξ:=⟨_,List.getElem?_eq_getElem (by exact hlt)⟩
   obtain⟨q,rfl,hq⟩:=bitsI_at hx
   have hqn:=bits_lt hm (List.mem_of_getElem? hq)
   have hcl:=closure_lt ha (s:=(q:Int)) hv (by omega)
   have hbc:=bitsI_le (closure a q v)
   refine Aj (Ae (AW.block (Af (Ad ((As U (.no U) U (.tm U) (.tm U) Tryz.underlying40 ty3 (fun _=>⟨by omega,(by exact Al (by assumption))⟩))) U ?_))));refine Aq ty3 ?_;refine Ag ?_;refine Aa (Af (Aq Bt ?_));refine Ab ?_;refine Ab ?_;refine Ad (Bc (FnT.fr (implclosure a ha _ _ (by omega) hv)) U (.no U) U (.cons (.tm U) U (.cons (.tm U) U (.cons (.tm U) U .nil)))) U ?_;refine Ad (Bc (FnT.fr (implmembers (closure a q v) (by omega))) U (.no U) U (.cons (.tm U) U .nil)) U ?_;refine Be (.t) Tryz.underlying40 ?_;refine Ad (Bh U (.no U) U (.const U)) U ?_
   refine Aa (AW.block (C2 (β:=Nat) (fun x=>x≤(bitsI (closure a q v)).length∧∀ j y,j<x→(bitsI (closure a q v))[j]?=some y→(fun t=>!accAt a t.toNat) y=true) (fun x=>⟨_,[(24,(true,.a (.one (.t (.v (.int .i64 (x:Nat))))))),(2,_),(3,_),(12,_),(13,_),(14,_),(22,_),(23,_)],[]⟩) (fun x=>(bitsI (closure a q v)).length-x) (0) ⟨Nat.zero_le _,fun j y hj=>absurd hj (Nat.not_lt_zero j)⟩ (Ap U ⟨U,U,U,U,U,U,U,U,Y⟩ trivial) ?_));intro k1 hk1;refine Af (AWl.lt ?_);refine Aa (Ae (Ai (.tm U) (fun hlt1=>?_) (fun hlt1=>?_)))
   · try simp at hlt1
     obtain⟨x1,hx1⟩:∃ ξ,(bitsI (closure a q v))[k1]?=some ξ:=⟨_,List.getElem?_eq_getElem (by exact hlt1)⟩
     obtain⟨t,rfl,ht⟩:=bitsI_at hx1
     have htn:=bits_lt hcl (List.mem_of_getElem? ht)
     refine Aj (Ae (AW.block (Af (Ad ((As U (.no U) U (.tm U) (.tm U) Tryz.underlying40 ty3 (fun _=>⟨by omega,(by exact Al (by assumption))⟩))) U ?_))));refine Aq ty3 ?_;refine Ag ?_;refine Aa (Af (Bg C0 ?_));refine Aq ty33 ?_;refine Ab ?_;refine Ad ((As U (.no U) U (.tm U) (.tm U) Tryz.underlying33 ty4 (fun _=>⟨by omega,Al (l:=a.Accept) (x:=accAt a t) (getD_at (by omega))⟩))) U ?_;refine Aq ty4 ?_;refine Aa (Ai (.tm U) (fun h32=>?_) (fun h32=>?_))
     · try simp at h32
       refine Ae (Ar (Av [2,3,10,12,13,14,22,23,24] []) ?_);refine Ac (Ak ?_);refine Aa (Am (Bp U U ?_))
       rw [accS_I,any_at hx (by rw [acc_I];exact any_at hx1 h32)]
     try simp at h32
     refine Aj (Ar (Av [2,3,10,12,13,14,22,23,24] []) ?_);refine Ac (A8 ?_);refine Ab ?_;refine Aa ?_;refine Round.next (k1+1) ⟨by omega,each_succ hk1.2 hx1 (by rw [Int.toNat_natCast,h32];rfl)⟩ (by omega) (Ap rfl ⟨rfl,rfl,rfl,rfl,rfl,rfl,rfl,rfl,Y⟩ trivial)
   try simp at hlt1
   refine Bb (Ac (A8 ?_));refine Ab ?_;refine Aa ?_;refine Round.next (k+1) ⟨by omega,each_succ hk.2 hx (by rw [acc_I,any_none hk1.2 (by omega)];rfl)⟩ (by omega) (Ap rfl ⟨rfl,rfl,rfl,rfl,rfl,Y⟩ trivial)
 try simp at hlt
 refine Bb (Af (Ak ?_));refine Aa (Am (Bp U U ?_))
 rw [accS_I,any_none hk.2 (by omega)]
theorem implafter (a:TAutomaton) (ha:validA a=true) (m:Nat) (hm:m<2^a.Accept.length) (v k:Int) (hv:0≤v∧v≤2) (hkk:0≤k∧k<9):FnT Tryz.prog 155 [.agg (cAutomaton a),.one (.v (.int .i64 (m:Int))),.one (.v (.int .i64 v)),.one (.v (.int .i64 k))] (.a (.one (.v (.int .i64 (aftS a m v k:Nat))))):=by
 refine A7 Tryz.func155 U (by kernel_rfl) Tryz.ntmps155 U fun hlen w0=>?_
 try simp [cEdge,cGraph,cAutomaton] at hlen
 have hA:=validA_len ha
 have hP:=pow_le_12 ha
 have hbl:=bitsI_le m
 refine Af (Ad (Bm U U U (.tm U) (ts:=_) (by rfl)) U ?_);refine Ak ?_;refine Aa (Af (Ak ?_));refine Aa (Ae (Af (Ab ?_)));refine Ad (Bc (FnT.fr (implmembers m (by omega))) U (.no U) U (.cons (.tm U) U .nil)) U ?_;refine Be (.t) Tryz.underlying40 ?_;refine Ad (Bh U (.no U) U (.const U)) U ?_;refine Aa (AW.block (Cz (fun (i:Nat) (o:Nat)=>(i≤(bitsI m).length∧o<2^a.Accept.length)∧o=((bitsN m).take i).foldl (fun out (s:Nat)=>aftF a k (bitsN (closure a s v)) out) 0) (fun (i:Nat) (o:Nat)=>⟨_,[(18,(true,.a (.one (.t (.v (.int .i64 (i:Nat))))))),(9,(true,.a (.one (.t (.v (.int .i64 (o:Nat))))))),(2,_),(3,_),(4,_),(8,_),(16,_),(17,_)],[]⟩) (fun (i:Nat) (o:Nat)=>(bitsI m).length-i) (0) (0) ⟨⟨Nat.zero_le _,Nat.two_pow_pos _⟩,U⟩ (Ap U ⟨U,U,U,U,U,U,U,U,Y⟩ trivial) ?_))
 rintro i o ⟨hk,he⟩
 refine Af (AWl.lt ?_);refine Aa (Ae (Ai (.tm U) (fun h19=>?_) (fun h19=>?_)))
 · try simp at h19
   obtain⟨x,hx⟩:∃ ξ,(bitsI m)[i]?=some ξ:=⟨_,List.getElem?_eq_getElem (by omega)⟩
   obtain⟨q,rfl,hq⟩:=bitsI_at hx
   have hqn:=bits_lt hm (List.mem_of_getElem? hq)
   have hcl:=closure_lt ha (s:=(q:Int)) hv (by omega)
   have hbc:=bitsI_le (closure a q v)
   refine Aj (Ae (AW.block (Af (Ad (As U (.no U) U (.tm U) (.tm U) Tryz.underlying40 ty3 (fun _=>⟨by omega,(by exact Al hx)⟩)) U ?_))));refine Aq ty3 ?_;refine Ag ?_;refine Aa (Af (Aq Bt ?_));refine Ab ?_;refine Ab ?_;refine Ad (Bc (FnT.fr (implclosure a ha _ _ (by omega) hv)) U (.no U) U (.cons (.tm U) U (.cons (.tm U) U (.cons (.tm U) U .nil)))) U ?_;refine Ad (Bc (FnT.fr (implmembers (closure a q v) (by omega))) U (.no U) U (.cons (.tm U) U .nil)) U ?_;refine Be (.t) Tryz.underlying40 ?_;refine Ad (Bh U (.no U) U (.const U)) U ?_
   refine Aa (AW.block (Cz (fun (j:Nat) (p:Nat)=>(j≤(bitsI (closure a q v)).length∧p<2^a.Accept.length)∧p=aftF a k ((bitsN (closure a q v)).take j) o) (fun (j:Nat) (p:Nat)=>⟨_,[(28,(true,.a (.one (.t (.v (.int .i64 (j:Nat))))))),(9,(true,.a (.one (.t (.v (.int .i64 (p:Nat))))))),(2,_),(3,_),(4,_),(8,_),(16,_),(17,_),(18,_),(26,_),(27,_)],[]⟩) (fun (j:Nat) (p:Nat)=>(bitsI (closure a q v)).length-j) (0) (o) ⟨⟨Nat.zero_le _,hk.2⟩,by simp [aftF]⟩ (Ap U ⟨U,U,U,U,U,U,U,U,U,U,U,Y⟩ trivial) ?_))
   rintro j p ⟨hk1,he1⟩
   refine Af (AWl.lt ?_);refine Aa (Ae (Ai (.tm U) (fun h29=>?_) (fun h29=>?_)))
   · try simp at h29
     obtain⟨y,hy⟩:∃ ξ,(bitsI (closure a q v))[j]?=some ξ:=⟨_,List.getElem?_eq_getElem (by omega)⟩
     obtain⟨t,rfl,ht⟩:=bitsI_at hy
     have htn:=bits_lt hcl (List.mem_of_getElem? ht)
     obtain⟨_,_,_,_,hn1,hn2⟩:=validA_next ha (s:=(t:Int)) (k:=k) (by omega) (by omega) hkk.1 hkk.2
     refine Aj (Ae (AW.block (Af (Ad (As U (.no U) U (.tm U) (.tm U) Tryz.underlying40 ty3 (fun _=>⟨by omega,(by exact Al hy)⟩)) U ?_))));refine Aq ty3 ?_;refine Ag ?_;refine Aa (Af (Aq Bt ?_));refine Ab ?_;refine Ab ?_;refine Bv (implmoveN a ha t k htn hkk) ?_;refine Ag ?_;refine Aa (Ae (Ar (Av [2,3,4,8,9,13,14,16,17,18,26,27,28] []) ?_));refine Ac (Ab ?_);refine AWl.gd ?_;refine Aa (Ai (.tm U) (fun h37=>?_) (fun h37=>?_))
     · try simp at h37
       have h2x:=pow_12 ha (x:=(nextOf a t k).toNat) (by omega)
       have h2p:=Nat.two_pow_pos (nextOf a t k).toNat
       refine Ac (Ab ?_);refine Ab ?_;refine Ad (R_shlN U (.no U) U (.const U) (.tm U) (fun _=>by omega)) U ?_;refine Ad (R_or_int U (.no U) U (.tm U) (.tm U) (fun _=>by omega)) U ?_;refine Ag ?_;refine Aa (Ar (Av [2,3,4,8,9,13,14,16,17,18,26,27,28] []) ?_);refine Ac (A8 ?_);refine Ab ?_;refine Aa ?_
       repeat (with_reducible refine Au ?_)
       refine Round2.next (j+1) (p|||2^(nextOf a t k).toNat) ⟨⟨by omega,or_pow_lt hk1.2 (by omega)⟩,by rw [aftF_at ht,if_pos h37,he1]⟩ (by omega) (Ap rfl ⟨rfl,rfl,rfl,rfl,rfl,rfl,rfl,rfl,rfl,rfl,rfl,Y⟩ trivial)
     try simp at h37
     refine Aj (Ac (A8 ?_));refine Ab ?_;refine Aa ?_
     repeat (with_reducible refine Au ?_)
     refine Round2.next (j+1) (p) ⟨⟨by omega,hk1.2⟩,by rw [aftF_at ht,if_neg (by omega),he1]⟩ (by omega) (Ap rfl ⟨rfl,rfl,rfl,rfl,rfl,rfl,rfl,rfl,rfl,rfl,rfl,Y⟩ trivial)
   try simp at h29
   refine Bb (Ac (A8 ?_));refine Ab ?_;refine Aa ?_
   repeat (with_reducible refine Au ?_)
   refine Round2.next (i+1) (p) ⟨⟨by omega,hk1.2⟩,by rw [aftS_at hq,←he,he1,List.take_of_length_le (by have:=bitsI_len (closure a q v);omega)]⟩ (by omega) (Ap rfl ⟨rfl,rfl,rfl,rfl,rfl,rfl,rfl,rfl,Y⟩ trivial)
 try simp at h19
 refine Bb (Af (Ab ?_));refine Ag ?_;refine Aa (Am (Bp U U ?_))
 rw [he,List.take_of_length_le (by have:=bitsI_len m;omega)];rfl
theorem implbothOk (g:TGraph) (a:TAutomaton) (l:List Int):FnT Tryz.prog 72 [.agg (cGraph g),.agg (cAutomaton a),.one (.sl 1 (l.map cInt))] (.a (.one (.v (.bool (bothB g a l))))):=by
 refine A7 Tryz.func72 U (by kernel_rfl) Tryz.ntmps72 U fun hlen w0=>?_
 try simp [cEdge,cGraph,cAutomaton] at hlen
 skip
 refine Af (Ad (Bm U U U (.tm U) (ts:=_) (by rfl)) U ?_);refine Ad (Bm U U U (.tm U) (ts:=_) (by rfl)) U ?_;refine Ak ?_;refine Aa (Ae (Af (Ab ?_)));refine Be (.t) Tryz.underlying40 ?_;refine Ad (Bh U (.no U) U (.const U)) U ?_;refine Aa (AW.block (C2 (β:=Nat) (fun x=>x≤(l).length∧∀ j y,j<x→(l)[j]?=some y→(fun x=>inB x 0 (g.Values.length-1)) y=true) (fun x=>⟨_,[(11,(true,.a (.one (.t (.v (.int .i64 (x:Nat))))))),(3,_),(4,_),(9,_),(10,_)],[]⟩) (fun x=>(l).length-x) (0) ⟨Nat.zero_le _,fun j y hj=>absurd hj (Nat.not_lt_zero j)⟩ (Ap U ⟨U,U,U,U,U,Y⟩ trivial) ?_));intro k hk;refine Af (AWl.lt ?_);refine Aa (Ae (Ai (.tm U) (fun hlt=>?_) (fun hlt=>?_)))
 · try simp at hlt
   obtain⟨x,hx⟩:∃ ξ,(l)[k]?=some ξ:=⟨_,List.getElem?_eq_getElem (by exact hlt)⟩
   refine Aj (Ae (AW.block (Af (Ad ((As U (.no U) U (.tm U) (.tm U) Tryz.underlying40 ty3 (fun _=>⟨by omega,(by exact Al (by assumption))⟩))) U ?_))));refine Aq ty3 ?_;refine Ag ?_;refine Aa (Af (Ab ?_));refine Bg Cl ?_;refine Aq Bz ?_;refine Be (.t) Tryz.underlying40 ?_;refine C8 ?_;refine Bv (implwithin _ _ _) ?_;refine C1 ?_;refine Aa (Ai (.tm U) (fun h21=>?_) (fun h21=>?_))
   · try simp at h21
     refine Ae (Ar (Av [3,4,8,9,10,11] []) ?_);refine Ac (Ak ?_);refine Aa (Am (Bp U U ?_))
     unfold bothB;rw [not_all hx h21];rfl
   try simp at h21
   refine Aj (Ar (Av [3,4,8,9,10,11] []) ?_);refine Ac (A8 ?_);refine Ab ?_;refine Aa ?_;refine Round.next (k+1) ⟨by omega,each_succ hk.2 hx (h21)⟩ (by omega) (Ap rfl ⟨rfl,rfl,rfl,rfl,rfl,Y⟩ trivial)
 try simp at hlt
 refine Bb (Af (Aq Bx ?_));refine Bv (implIsValidGraph _) ?_;refine Ab ?_;refine Ad (Ca U (by exact .yes1 U U U U) U (.tmp U (by exact fun _=>rfl)) Bt U U) U ?_;refine Ad (Bc (FnT.fr (implIsValidAutomaton _)) U (by exact .yes1 U U U U) U (.cons (.tmp U (by exact id)) U .nil)) U ?_;refine Ck ?_;refine Ag ?_;refine Aa (Am (Bp U U ?_))
 unfold bothB;rw [each_all hk.2 (by omega)];rfl
theorem specl14Good (g:TGraph) (a:TAutomaton) (x s:Int):FnT Tryz.prog 76 [.agg (cGraph g),.agg (cAutomaton a),.one (.v (.int .i64 x)),.one (.v (.int .i64 s))] (.a (.one (.v (.bool (goodB g a x s))))):=by
 refine A7 Tryz.func76 U (by kernel_rfl) Tryz.ntmps76 U fun hlen w0=>?_
 try simp [cEdge,cGraph,cAutomaton] at hlen
 skip
 refine Af (Ad (Bm U U U (.tm U) (ts:=_) (by rfl)) U ?_);refine Ad (Bm U U U (.tm U) (ts:=_) (by rfl)) U ?_;refine Ak ?_;refine Aa (Af (Aq Bx ?_));refine Bv (specIsValidGraph _) ?_;refine Ab ?_;refine Ad (Ca U (by exact .yes1 U U U U) U (.tmp U (by exact fun _=>rfl)) Bt U U) U ?_;refine Ad (Bc (FnT.fr (specIsValidAutomaton _)) U (by exact .yes1 U U U U) U (.cons (.tmp U (by exact id)) U .nil)) U ?_;refine Ck ?_;refine Ab ?_;refine Cm ?_;refine AWl.fy Cl ?_;refine Dj Bz ?_;refine Ad (Dp U (by exact .yes1 U U U U) U (.tmp U (by exact id)) (by exact .t) Tryz.underlying40) U ?_;refine Ad (Dx U (by exact .yes1 U U U U) U (.tmp U (by exact id)) (.const U) (fun hq=>by first|omega|(simp at hq;omega))) U ?_;refine Ad (Bc (FnT.fr (specl1In _ _ _)) U (by exact .yes1 U U U U) U (.cons (.tmp U (by exact id)) U (.cons (.const U) U (.cons (.tmp U (by exact id)) U .nil)))) U ?_;refine Ck ?_;refine Ab ?_
 refine Cm ?_;refine AWl.fy C0 ?_;refine Dj ty33 ?_;refine Ad (Dp U (by exact .yes1 U U U U) U (.tmp U (by exact id)) (by exact .t) Tryz.underlying33) U ?_;refine Ad (Dx U (by exact .yes1 U U U U) U (.tmp U (by exact id)) (.const U) (fun hq=>by first|omega|(simp at hq;omega))) U ?_;refine Ad (Bc (FnT.fr (specl1In _ _ _)) U (by exact .yes1 U U U U) U (.cons (.tmp U (by exact id)) U (.cons (.const U) U (.cons (.tmp U (by exact id)) U .nil)))) U ?_;refine Ck ?_;refine Ag ?_;refine Aa (Am (Bp U U ?_))
 rfl
theorem implgoals (g:TGraph) (a:TAutomaton) (ha:validA a=true) (hg:validG g=true) (y v:Int) (hy:0≤y) (hyv:g.Values[y.toNat]?=some v):FnT Tryz.prog 158 [.agg (cGraph g),.agg (cAutomaton a),.one (.v (.int .i64 y))] (.a (.one (.sl 1 ((goalsL a y v).map cInt)))):=by
 refine A7 Tryz.func158 U (by kernel_rfl) Tryz.ntmps158 U fun hlen w0=>?_
 try simp [cEdge,cGraph,cAutomaton] at hlen
 have hA:=validA_len ha
 have hG:=validG_len hg
 have hyl:=(List.getElem?_eq_some_iff.1 hyv).1
 have hv:=validG_val hg hyv
 refine Af (Ad (Bm U U U (.tm U) (ts:=_) (by rfl)) U ?_);refine Ad (Bm U U U (.tm U) (ts:=_) (by rfl)) U ?_;refine Ak ?_;refine Cb (i:=6) 20001 1 U U ?_;refine Aa (Af (Bg C0 ?_));refine Aq ty33 ?_;refine Be (.t) Tryz.underlying33 ?_;refine Ag ?_;refine Aa (Af (A6 (Cu 13 U U U Tryz.underlying40 ty3 U) U ?_));refine Ag ?_;refine Aa (Ae (Af (Ak ?_)));refine Aa (AW.block (By (fun (s:Nat)=>(s≤a.Accept.length)∧True) (fun (s:Nat)=>⟨_,[(9,(true,.a (.one (.t (.v (.int .i64 (s:Nat))))))),(8,(true,.a (.one (.rf 13)))),(2,_),(3,_),(4,_),(6,_),(7,_)],[(13,.row 1 ((((List.range s).filter fun (s:Nat)=>acc a s v).map fun (s:Nat)=>y*a.Accept.length+s).map cInt))]⟩) (fun (s:Nat)=>a.Accept.length-s) (0) ⟨Nat.zero_le _,Y⟩ A4 ?_))
 rintro s ⟨hk,he⟩
 refine Ae (Af (Ab ?_));refine Ab ?_;refine AWl.lt ?_;refine Aa (Ai (.tm U) (fun h16=>?_) (fun h16=>?_))
 · try simp at h16
   have hl:((List.range s).filter fun (s:Nat)=>acc a s v).length≤12:=Nat.le_trans (List.length_filter_le _ _) (by simp;omega)
   have hnl:y*a.Accept.length≤48∧0≤y*a.Accept.length:=⟨Int.le_trans (Int.mul_le_mul (show y≤4 by omega) (show (a.Accept.length:Int)≤12 by omega) (by omega) (by omega)) (by omega),Int.mul_nonneg hy (by omega)⟩
   refine Aj (Ae (AW.block (Ae (B8 9 (nthB [[],[],[1],[],[3],[],[3,4,5],[3,4,5,6],[0,1,2,3,4,5,6,7]]) (by kernel_rfl) (by kernel_rfl) (by kernel_rfl) ?_))));refine Bj Bt ?_;refine Aw ?_;refine DrawC.s (fun _ hs=>R_shlN U (.no U) (Ah hs U) (.const U) (hs.tm U) (fun _=>by omega)) ?_;refine B9 Cl ?_;refine Bj Bz ?_;refine Aw ?_;refine DrawC.s (fun _ hs=>(As U (.no U) (Ah hs U) (hs.tm U) (hs.tm U) Tryz.underlying40 ty3 (fun _=>⟨by omega,Al hyv⟩))) ?_;refine Bj ty3 ?_;refine DrawC.s (fun _ hs=>Bc (FnT.fr (implacceptsAt a ha (2^s) (Nat.pow_lt_pow_right (by omega) (by omega)) v hv)) U (.no U) (Ah hs U) (.cons (hs.tm U) (readA_sup hs U) (.cons (hs.tm U) (readA_sup hs U) (.cons (hs.tm U) (readA_sup hs U) .nil)))) ?_;refine DrawC.fin U U ?_;refine Aa (Ai (.tm U) (fun h27=>?_) (fun h27=>?_))
   · skip
     rw [accS_pow a v (by omega)] at h27
     refine Ar (Av [2,3,4,6,7,8,9] [13]) ?_;refine Ac (Ab ?_);refine Ab ?_;refine Ab ?_;refine Ad (Dn U (.no U) U (.tm U) (.tm U) (fun _=>by omega)) U ?_;refine Ab ?_;refine Ad (C7 U (.no U) U (.tm U) (.tm U) (fun _=>by omega)) U ?_;refine Bn (Ce (xs:=[.tmp 33]) 34 U U U (.cons (.tm U) U U .nil) Tryz.underlying40 in3 U U U U) U ?_;refine Bl (Bw U U U (.tm U) U (.tm U) (by exact .rf U) (by rfl) Tryz.underlying40 in3 U (by (simp [chunk];omega)) (by (unfold maxLen;simp [chunk];omega))) U ?_;refine Bq (Av [2,3,4,6,7,8,9,35] [13,34]) ?_;refine Ag ?_;refine Aa (Ac (Ab ?_));refine A8 ?_;refine Ag ?_;refine Aa ?_
     repeat (with_reducible refine Au ?_)
     refine Round1.next (s+1) ⟨by omega,Y⟩ (by omega) (Ap rfl ⟨rfl,rfl,rfl,rfl,rfl,rfl,rfl,Y⟩ ⟨congrArg (fun r=>some (R.row 1 r)) (by rw [range_filter_succ,h27];simp [chunk,cInt]),Y⟩)
   skip
   rw [accS_pow a v (by omega)] at h27
   refine Aj (Ar (Av [2,3,4,6,7,8,9] [13]) ?_);refine Ac (Ab ?_);refine A8 ?_;refine Ag ?_;refine Aa ?_
   repeat (with_reducible refine Au ?_)
   refine Round1.next (s+1) ⟨by omega,Y⟩ (by omega) (Ap rfl ⟨rfl,rfl,rfl,rfl,rfl,rfl,rfl,Y⟩ ⟨congrArg (fun r=>some (R.row 1 r)) (by rw [range_filter_succ,h27];simp),Y⟩)
 try simp at h16
 refine Bb (Af (Ab ?_));refine Ag ?_;refine Aa (Am (Res.one U (.tmp U .nil) U ?_))
 unfold goalsL;rw [show s=a.Accept.length by omega];rfl
end Go.Proofs.YtbecibmlbiebeaaGreat
