import Derived.WalkKit
import Derived.ProofKit
import Derived.OpenShut
import Derived.ShutString
import Derived.ChangeOld
import Derived.Below
import Derived.BigQuiet
import Derived.StillTail
import Derived.Test.YtdhojcaoljhbiaaGreatProg
import Derived.ChangeAgain
import Derived.Lib.LaidTab
import Derived.Lib.ItoaNum
import Derived.HandedShaped
import Derived.LaidSub
set_option linter.unusedVariables false
set_option linter.unusedSimpArgs false
namespace Go.Q
open Go.RowKit
theorem hid {p:Prop} (h:p):Hid p:=h
def Ext (w w':World):Prop:=Below w.heap.size w w'
theorem Ext.refl (w:World):Ext w w:=Below.refl _ _
theorem Ext.trans {a b c:World} (h:Ext a b) (k:Ext b c):Ext a c:=Below.trans h (Below.mono k h.size)
theorem Ext.trans' {a b c:World} (h:Ext a b) (h1:c.os=b.os) (h2:c.tape=b.tape) (h3:c.output=b.output) (h4:b.heap.size≤c.heap.size) (h5:∀ k,k<a.heap.size→c.heap[k]?=b.heap[k]?):Ext a c:=
 ⟨h1.trans h.os,h2.trans h.tape,h3.trans h.output,Nat.le_trans h.size h4,fun k hk=>(h5 k hk).trans (h.block k hk)⟩
theorem Ext.drew {a w:World} (h:Ext a w):Ext a w.drew:=Below.drew h
theorem Ext.drawn {a w:World} (h:Ext a w):Ext a { w with drawn:=w.drawn+1 }:=Below.drew h
theorem Ext.alloc {a w:World} (h:Ext a w) (o:Obj):Ext a (w.alloc o):=Below.alloc h h.size o
theorem Ext.setCell {a w:World} (h:Ext a w) {p:Addr} (hp:a.heap.size≤p.block) (u:Value):Ext a (w.setCell p u):=Below.setCell h hp u
theorem Ext.size {a w:World} (h:Ext a w):a.heap.size≤w.heap.size:=Below.size h
theorem Ext.block {w w':World} (h:Ext w w') {b:Nat} (hb:b<w.heap.size):w'.heap[b]?=w.heap[b]?:=Below.block h b hb
theorem Ext.cell {w w':World} (h:Ext w w') {p:Addr} {v:Value} (hc:w.cell? p=some v):w'.cell? p=some v:=
 (Below.cell h (World.block_lt_of_cell? w p hc)).trans hc
theorem Ext.grown {a w w':World} {row:Option Nat} (h:Ext a w) (hg:w.grownBy w' row) (hr:∀ k,row=some k→a.heap.size≤k):Ext a w':=Below.grown h hg h.size hr
class Rd (α:Type) where
 k:Nat
 agg:Bool
 rd:World→List Value→α→List Nat→Prop
 len:∀ {w:World} {cs:List Value} {a:α} {F:List Nat},rd w cs a F→cs.length=k
 congr:∀ {w w':World} {cs:List Value} {a:α} {F:List Nat},rd w cs a F→(∀ b∈F,w'.heap[b]?=w.heap[b]?)→rd w' cs a F
 lt:∀ {w:World} {cs:List Value} {a:α} {F:List Nat},rd w cs a F→∀ b∈F,b<w.heap.size
open Rd (rd)
theorem Rd.mono {α:Type} [Rd α] {w w':World} {cs:List Value} {a:α} {F:List Nat} (h:rd w cs a F) (he:Ext w w'):rd w' cs a F:=
 Rd.congr h fun b hb=>he.block (Rd.lt h b hb)

class Flat (α:Type) where
 k:Nat
 agg:Bool
 enc:α→List Value
 len:∀ a,(enc a).length=k
instance {α:Type} [Flat α]:Rd α where
 k:=Flat.k α
 agg:=Flat.agg α
 rd _ cs a F:=cs=Flat.enc a∧F=[]
 len h:=by obtain⟨rfl,_⟩:=h;exact Flat.len _
 congr h _:=h
 lt h:=by obtain⟨_,rfl⟩:=h;intro b hb;cases hb

instance:Flat Int:=⟨1,false,fun a=>[.int .i64 a],fun _=>rfl⟩
instance:Flat Bool:=⟨1,false,fun a=>[.bool a],fun _=>rfl⟩

structure Sl {α:Type} [Rd α] (w:World) (a:Option Addr) (len cap:Nat) (l:List α) (F:List Nat):Prop where
 hlen:l.length=len
 hcap:len≤cap
 hmax:cap≤maxLen
 els:∃ (css:List (List Value)) (Fs:List (List Nat)),css.length=len∧Fs.length=len∧
  (∀ (i:Nat) (x:α) (cs:List Value) (f:List Nat),l[i]?=some x→css[i]?=some cs→Fs[i]?=some f→rd w cs x f)∧
  ((len=0∧F=[])∨∃ b off,a=some ⟨b,off,none⟩∧F=b::Fs.flatten∧b<w.heap.size∧
   ∀ (i:Nat) (cs:List Value) (j:Nat) (u:Value),css[i]?=some cs→cs[j]?=some u→w.cell? ⟨b,off+i*Rd.k α+j,none⟩=some u)

theorem Sl.congr {α:Type} [Rd α] {w w':World} {a:Option Addr} {len cap:Nat} {l:List α} {F:List Nat} (h:Sl w a len cap l F) (hc:∀ b∈F,w'.heap[b]?=w.heap[b]?):Sl w' a len cap l F:=by
 obtain⟨h1,h2,h3,css,Fs,h4,h5,h6,h7⟩:=h
 refine⟨h1,h2,h3,css,Fs,h4,h5,?_,?_⟩
 · intro i x cs f hx hcs hf
   have hi:i<len:=by have:=(List.getElem?_eq_some_iff.1 hf).1;omega
   refine Rd.congr (h6 i x cs f hx hcs hf) fun b hb=>hc b ?_
   rcases h7 with ⟨h0,_⟩|⟨b0,off,_,rfl,_⟩
   · omega
   exact List.mem_cons_of_mem _ (List.mem_flatten.2 ⟨f,List.mem_of_getElem? hf,hb⟩)
 rcases h7 with h0|⟨b0,off,ha,rfl,hlt,hcell⟩
 · exact .inl h0
 refine .inr ⟨b0,off,ha,rfl,?_,fun i cs j u hcs hu=>?_⟩
 · have:=hc b0 (by simp)
   rw [Array.getElem?_eq_getElem hlt] at this
   exact (Array.getElem?_eq_some_iff.1 this).1
 rw [World.cell?_of_block (w:=w) (a:=⟨b0,_,none⟩) (hc b0 (by simp))]
 exact hcell i cs j u hcs hu
theorem Sl.lt {α:Type} [Rd α] {w:World} {a:Option Addr} {len cap:Nat} {l:List α} {F:List Nat} (h:Sl w a len cap l F):∀ b∈F,b<w.heap.size:=by
 obtain⟨h1,h2,h3,css,Fs,h4,h5,h6,h7⟩:=h
 rcases h7 with ⟨_,rfl⟩|⟨b0,off,ha,rfl,hlt,hcell⟩
 · intro b hb;cases hb
 intro b hb
 rcases List.mem_cons.1 hb with rfl|hb
 · exact hlt
 obtain⟨f,hf,hbf⟩:=List.mem_flatten.1 hb
 obtain⟨i,hi⟩:=List.getElem?_of_mem hf
 have hil:i<len:=by have:=(List.getElem?_eq_some_iff.1 hi).1;omega
 exact Rd.lt (h6 i (l[i]'(by omega)) (css[i]'(by omega)) f (List.getElem?_eq_getElem _) (List.getElem?_eq_getElem _) hi) b hbf
theorem Sl.mono {α:Type} [Rd α] {w w':World} {a:Option Addr} {len cap:Nat} {l:List α} {F:List Nat} (h:Sl w a len cap l F) (he:Ext w w'):Sl w' a len cap l F:=
 h.congr fun b hb=>he.block (h.lt b hb)
theorem Sl.le {α:Type} [Rd α] {w:World} {a:Option Addr} {len cap:Nat} {l:List α} {F:List Nat} (h:Sl w a len cap l F):len≤9223372036854775807:=by
 have:=h.hcap;have:=h.hmax;unfold maxLen at *;omega
theorem Sl.at {α:Type} [Rd α] {w:World} {a:Option Addr} {len cap:Nat} {l:List α} {F:List Nat} (h:Sl w a len cap l F) {i:Nat} (hi:i<len) :
 ∃ b off x cs f,a=some ⟨b,off,none⟩∧l[i]?=some x∧rd w cs x f∧(∀ b'∈f,b'∈F)∧∀ (j:Nat) (u:Value),cs[j]?=some u→w.cell? ⟨b,off+i*Rd.k α+j,none⟩=some u:=by
 obtain⟨h1,h2,h3,css,Fs,h4,h5,h6,h7⟩:=h
 rcases h7 with ⟨h0,_⟩|⟨b0,off,ha,rfl,hlt,hcell⟩
 · omega
 refine⟨b0,off,l[i]'(by omega),css[i]'(by omega),Fs[i]'(by omega),ha,List.getElem?_eq_getElem _,
  h6 i _ _ _ (List.getElem?_eq_getElem _) (List.getElem?_eq_getElem _) (List.getElem?_eq_getElem _),fun b' hb'=>?_,fun j u hj=>hcell i _ j u (List.getElem?_eq_getElem _) hj⟩
 exact List.mem_cons_of_mem _ (List.mem_flatten.2 ⟨_,List.getElem_mem _,hb'⟩)
theorem Sl.flat {α:Type} [Flat α] {w:World} {a:Option Addr} {len cap:Nat} {l:List α} {F:List Nat} (h:Sl w a len cap l F) {i:Nat} (hi:i<len) :
 ∃ b off x,a=some ⟨b,off,none⟩∧l[i]?=some x∧∀ (j:Nat) (u:Value),(Flat.enc x)[j]?=some u→w.cell? ⟨b,off+i*Flat.k α+j,none⟩=some u:=by
 obtain⟨b,off,x,cs,f,ha,hx,hr,_,hc⟩:=h.at hi
 obtain⟨rfl,_⟩:cs=Flat.enc x∧f=[]:=hr
 exact⟨b,off,x,ha,hx,hc⟩
theorem Sl.int {w:World} {a:Option Addr} {len cap:Nat} {l:List Int} {F:List Nat} (h:Sl w a len cap l F) {i:Nat} (hi:i<len) :
 ∃ b off x,a=some ⟨b,off,none⟩∧l[i]?=some x∧w.cell? ⟨b,off+i,none⟩=some (.int .i64 x):=by
 obtain⟨b,off,x,ha,hx,hc⟩:=h.flat hi
 exact⟨b,off,x,ha,hx,by simpa [Flat.k] using hc 0 _ rfl⟩
theorem Sl.bool {w:World} {a:Option Addr} {len cap:Nat} {l:List Bool} {F:List Nat} (h:Sl w a len cap l F) {i:Nat} (hi:i<len) :
 ∃ b off x,a=some ⟨b,off,none⟩∧l[i]?=some x∧w.cell? ⟨b,off+i,none⟩=some (.bool x):=by
 obtain⟨b,off,x,ha,hx,hc⟩:=h.flat hi
 exact⟨b,off,x,ha,hx,by simpa [Flat.k] using hc 0 _ rfl⟩
instance {α:Type} [Rd α]:Rd (List α) where
 k:=1
 agg:=false
 rd w cs l F:=∃ a len cap,cs=[.slice a len cap]∧Sl w a len cap l F
 len:=by rintro w cs a F ⟨_,_,_,rfl,_⟩;rfl
 congr:=by rintro w w' cs l F ⟨a,len,cap,rfl,h⟩ hc;exact⟨a,len,cap,rfl,h.congr hc⟩
 lt:=by rintro w cs l F ⟨a,len,cap,rfl,h⟩;exact h.lt

def Vl {α:Type} [Rd α] (w:World) (v:Value) (x:α) (F:List Nat):Prop:=∃ cs,rd w cs x F∧v=if Rd.agg α then .agg cs.toArray else cs.headD undef
theorem Vl.mono {α:Type} [Rd α] {w w':World} {v:Value} {x:α} {F:List Nat} (h:Vl w v x F) (he:Ext w w'):Vl w' v x F:=
 let ⟨cs,hr,hv⟩:=h;⟨cs,Rd.mono hr he,hv⟩
theorem Vl.sl {α:Type} [Rd α] {w:World} {v:Value} {l:List α} {F:List Nat} (h:Vl w v l F):∃ a len cap,v=.slice a len cap∧Sl w a len cap l F:=by
 obtain⟨cs,⟨a,len,cap,rfl,hs⟩,rfl⟩:=h
 exact⟨a,len,cap,rfl,hs⟩
theorem Sl.vl {α:Type} [Rd α] {w:World} {l:List α} {F:List Nat} {a:Option Addr} {len cap:Nat} (h:Sl w a len cap l F):Vl w (.slice a len cap) l F:=
 ⟨_,⟨a,len,cap,rfl,h⟩,rfl⟩

def encs {α:Type} [Flat α] (l:List α):List Value:=l.flatMap Flat.enc
theorem encs_length {α:Type} [Flat α] (l:List α):(encs l).length=l.length*Flat.k α:=by
 induction l with
 | nil=>simp [encs]
 | cons x l ih=>
  have h:encs (x::l)=Flat.enc x++encs l:=by simp [encs]
  rw [h,List.length_append,ih,Flat.len,List.length_cons,Nat.add_mul,Nat.one_mul,Nat.add_comm]
theorem encs_append {α:Type} [Flat α] (l m:List α):encs (l++m)=encs l++encs m:=by simp [encs]
theorem encs_at {α:Type} [Flat α]:∀ (l:List α) (i:Nat) (x:α) (j:Nat) (u:Value),l[i]?=some x→(Flat.enc x)[j]?=some u→(encs l)[i*Flat.k α+j]?=some u
 | [],i,x,j,u,h,_=>by simp at h
 | y::l,0,x,j,u,h,hu=>by
  simp at h;subst h
  have h:encs (y::l)=Flat.enc y++encs l:=by simp [encs]
  have hj:=(List.getElem?_eq_some_iff.1 hu).1
  rw [h,Nat.zero_mul,Nat.zero_add,List.getElem?_append_left hj];exact hu
 | y::l,i+1,x,j,u,h,hu=>by
  simp at h
  have hh:encs (y::l)=Flat.enc y++encs l:=by simp [encs]
  have e:(i+1)*Flat.k α+j=(Flat.enc y).length+(i*Flat.k α+j):=by rw [Flat.len,Nat.add_mul,Nat.one_mul];omega
  rw [hh,e,List.getElem?_append_right (by omega),Nat.add_sub_cancel_left]
  exact encs_at l i x j u h hu

def ThB:Array Value ⊕ Array MapEntry→Nat→Obj
 | .inl c,e=>.cells c e (0,0)
 | .inr m,k=>.map m k
instance:Coe (Array Value) (Array Value ⊕ Array MapEntry):=⟨.inl⟩
def Thaw (w:World) (b:Nat):Prop:=∃ c e,w.heap[b]?=some (ThB c e)
def New {α:Type} [Rd α] (w w':World) (v:Value) (x:α):Prop:=∃ F,Vl w' v x F∧(∀ b∈F,w.heap.size≤b∧Thaw w' b)∧F.Nodup

theorem Sl.of_owns {α:Type} [Flat α] {w:World} {base:Nat} {e:TypeId} {v:Value} {l:List α} (h:w.ownsRow base e (Flat.k α) v l.length (encs l)) :
 ∃ a cap F,v=.slice a l.length cap∧Sl w a l.length cap l F∧(∀ b∈F,base≤b∧Thaw w b∧v.ownBlock=some b)∧F.Nodup:=by
 rcases h.2 with ⟨rfl,h0⟩|⟨g,cap,cur,rfl,hg,hgg,hn,hm,hs,ht⟩
 · have:l=[]:=List.eq_nil_of_length_eq_zero h0
   subst this
   exact⟨none,0,[],rfl,⟨rfl,Nat.le_refl _,by simp,[],[],rfl,rfl,by simp,.inl ⟨rfl,rfl⟩⟩,by simp,by simp⟩
 by_cases h0:l.length=0
 · refine⟨_,cap,[],rfl,⟨rfl,hn,hm,l.map Flat.enc,l.map fun _=>[],by simp,by simp,?_,.inl ⟨h0,rfl⟩⟩,by simp,by simp⟩
   intro i x cs f hx;have:=(List.getElem?_eq_some_iff.1 hx).1;omega
 refine⟨_,cap,[g],rfl,⟨rfl,hn,hm,l.map Flat.enc,l.map fun _=>[],by simp,by simp,?_,.inr ⟨g,0,rfl,?_,(Array.getElem?_eq_some_iff.1 hgg).1,?_⟩⟩,?_,by simp⟩
 · intro i x cs f hx hcs hf
   rw [List.getElem?_map,hx] at hcs hf
   simp at hcs hf
   exact⟨hcs.symm,hf⟩
 · simp
 · intro i cs j u hcs hu
   simp at hcs
   obtain⟨x,hx,rfl⟩:=hcs
   have hxi:=encs_at l i x j u hx hu
   have hlt:=(List.getElem?_eq_some_iff.1 hxi).1
   rw [encs_length] at hlt
   show w.cell? ⟨g,0+i*Flat.k α+j,none⟩=some u
   rw [Nat.zero_add,h.cellAt _ hlt]
   exact hxi
 intro b hb
 simp at hb
 subst hb
 exact⟨hg,⟨cur,e,hgg⟩,rfl⟩

def Box (w:World) (b:Nat) (vs:List Value) (t:TypeId):Prop:=w.heap[b]?=some (.cells vs.toArray t (0,0))
theorem Box.lt {w:World} {b:Nat} {vs:List Value} {t:TypeId} (h:Box w b vs t):b<w.heap.size:=(Array.getElem?_eq_some_iff.1 h).1
theorem Box.mono {w w':World} {b:Nat} {vs:List Value} {t:TypeId} (h:Box w b vs t) (he:Ext w w'):Box w' b vs t:=(he.block h.lt).trans h
theorem Box.new (w:World) (vs:Array Value) (t:TypeId):Box (w.alloc (.cells vs t)) w.heap.size vs.toList t:=by
 unfold Box;exact heap_alloc_new w _
theorem Box.alloc {w:World} {b:Nat} {vs:List Value} {t:TypeId} (h:Box w b vs t) (o:Obj):Box (w.alloc o) b vs t:=h.mono ((Ext.refl w).alloc o)
theorem boxes1 (w:World) (A:Array Value) (ta:TypeId):∃ u,u=w.alloc (.cells A ta)∧Ext w u∧Box u w.heap.size A.toList ta:=
 ⟨_,rfl,(Ext.refl w).alloc _,Box.new w A ta⟩
theorem Box.at {w:World} {b:Nat} {vs:List Value} {t:TypeId} (h:Box w b vs t) (i:Nat) {u:Value} (hu:vs[i]?=some u):w.cell? ⟨b,i,none⟩=some u:=by
 rw [cell_of_row w b i vs.toArray t (0,0) h];simpa using hu
theorem Box.thaw {w:World} {b:Nat} {vs:List Value} {t:TypeId} (h:Box w b vs t) (i:Nat):w.frozen? ⟨b,i,none⟩=false:=frozen_of_row w b i vs.toArray t h
theorem Box.set {w:World} {b:Nat} {vs:List Value} {t:TypeId} (h:Box w b vs t) (i:Nat) (u:Value):Box (w.setCell ⟨b,i,none⟩ u) b (vs.set i u) t:=by
 unfold Box
 have:=heap_setCell_same w b i vs.toArray t u h
 rw [this];simp
theorem Box.other {w:World} {b:Nat} {vs:List Value} {t:TypeId} (h:Box w b vs t) {p:Addr} (hp:p.block≠b) (u:Value):Box (w.setCell p u) b vs t:=by
 unfold Box
 rw [heap_setCell_other w p b u (Ne.symm hp)];exact h
theorem Rd.set {α:Type} [Rd α] {w:World} {cs:List Value} {x:α} {F:List Nat} (h:rd w cs x F) {p:Addr} (hp:p.block∉F) (u:Value):rd (w.setCell p u) cs x F:=
 Rd.congr h fun b hb=>heap_setCell_other w p b u (fun e=>hp (e▸hb))
theorem Sl.set {α:Type} [Rd α] {w:World} {a:Option Addr} {len cap:Nat} {l:List α} {F:List Nat} (h:Sl w a len cap l F) {p:Addr} (hp:p.block∉F) (u:Value):Sl (w.setCell p u) a len cap l F:=
 h.congr fun b hb=>heap_setCell_other w p b u (fun e=>hp (e▸hb))
theorem Vl.set {α:Type} [Rd α] {w:World} {v:Value} {x:α} {F:List Nat} (h:Vl w v x F) {p:Addr} (hp:p.block∉F) (u:Value):Vl (w.setCell p u) v x F:=
 let ⟨cs,hr,hv⟩:=h;⟨cs,Rd.set hr hp u,hv⟩
theorem Thaw.set {w:World} {b:Nat} (h:Thaw w b) (p:Addr) (u:Value):Thaw (w.setCell p u) b:=by
 obtain⟨c,e,h⟩:=h
 by_cases hp:p.block=b
 · subst hp
   unfold Thaw World.setCell
   simp only [Array.getElem?_modify,if_true,h,Option.map_some]
   cases c with
   | inl c=>exact⟨.inl _,_,rfl⟩
   | inr m=>exact⟨.inr _,_,rfl⟩
 exact⟨c,e,by rw [heap_setCell_other w p b u (Ne.symm hp)];exact h⟩
theorem New.set {α:Type} [Rd α] {w w':World} {v:Value} {x:α} (h:New w w' v x) {p:Addr} (hp:p.block<w.heap.size) (u:Value):New w (w'.setCell p u) v x:=by
 obtain⟨F,h1,h2,h3⟩:=h
 exact⟨F,h1.set (fun hb=>by have:=(h2 _ hb).1;omega) u,fun b hb=>⟨(h2 b hb).1,(h2 b hb).2.set p u⟩,h3⟩
theorem Ext.set {a w:World} (h:Ext a w) {b i:Nat} (hp:a.heap.size≤b) (u:Value):Ext a (w.setCell ⟨b,i,none⟩ u):=h.setCell hp u

theorem ownsRow_ext {w w':World} {base:Nat} {e:TypeId} {size:Nat} {v:Value} {n:Nat} {xs:List Value} (h:w.ownsRow base e size v n xs) (he:Ext w w'):w'.ownsRow base e size v n xs:=by
 refine⟨h.1,?_⟩
 rcases h.2 with h0|⟨g,cap,cur,hv,hg,hgg,r⟩
 · exact .inl h0
 exact .inr ⟨g,cap,cur,hv,hg,(he.block (Array.getElem?_eq_some_iff.1 hgg).1).trans hgg,r⟩
def setAll (xs:List Value) (m:Nat):List Value→List Value
 | []=>xs
 | u::us=>setAll (xs.set m u) (m+1) us
theorem setAll_mid:∀ (us A C D:List Value),C.length=us.length→setAll (A++(C++D)) A.length us=A++(us++D)
 | [],A,C,D,h=>by
  have:C=[]:=List.eq_nil_of_length_eq_zero (by simpa using h)
  subst this;rfl
 | u::us,A,C,D,h=>by
  match C,h with
  | c::C,h=>
   have e:(A++(c::C++D)).set A.length u=(A++[u])++(C++D):=by simp
   rw [setAll,e]
   have:=setAll_mid us (A++[u]) C D (by simpa using h)
   rw [List.length_append] at this
   simp only [List.length_cons,List.length_nil] at this
   rw [this];simp
theorem New.of_owns {α:Type} [Flat α] {w w':World} {e:TypeId} {v:Value} {l:List α} {n:Nat} {xs:List Value} (h:w'.ownsRow w.heap.size e (Flat.k α) v n xs) (hn:n=l.length) (hx:xs=encs l):New w w' v l:=by
 subst hn;subst hx
 obtain⟨a,cap,F,rfl,hs,hF,hnd⟩:=Sl.of_owns h
 exact⟨F,hs.vl,fun b hb=>⟨(hF b hb).1,(hF b hb).2.1⟩,hnd⟩

def Pc {α:Type} [Rd α] (lo hi:Nat) (w:World) (v:Value) (x:α):Prop:=∃ F,Vl w v x F∧(∀ b∈F,lo≤b∧b<hi∧Thaw w b)∧F.Nodup
theorem Vl.lt {α:Type} [Rd α] {w:World} {v:Value} {x:α} {F:List Nat} (h:Vl w v x F):∀ b∈F,b<w.heap.size:=let ⟨_,hr,_⟩:=h;Rd.lt hr
theorem Pc.new {α:Type} [Rd α] {lo hi:Nat} {w w':World} {v:Value} {x:α} (h:Pc lo hi w' v x) (hl:w.heap.size≤lo):New w w' v x:=
 let ⟨F,h1,h2,h3⟩:=h;⟨F,h1,fun b hb=>⟨Nat.le_trans hl (h2 b hb).1,(h2 b hb).2.2⟩,h3⟩
theorem Thaw.ext {w w':World} {b:Nat} (h:Thaw w b) (he:Ext w w'):Thaw w' b:=by
 obtain⟨c,e,h⟩:=h
 exact⟨c,e,(he.block (Array.getElem?_eq_some_iff.1 h).1).trans h⟩
theorem Pc.mono {α:Type} [Rd α] {lo hi:Nat} {w w':World} {v:Value} {x:α} (h:Pc lo hi w v x) (he:Ext w w'):Pc lo hi w' v x:=
 let ⟨F,h1,h2,h3⟩:=h;⟨F,h1.mono he,fun b hb=>⟨(h2 b hb).1,(h2 b hb).2.1,(h2 b hb).2.2.ext he⟩,h3⟩
theorem Pc.set {α:Type} [Rd α] {lo hi:Nat} {w:World} {v:Value} {x:α} (h:Pc lo hi w v x) {p:Addr} (hp:p.block<lo) (u:Value):Pc lo hi (w.setCell p u) v x:=
 let ⟨F,h1,h2,h3⟩:=h;⟨F,h1.set (fun hb=>by have:=(h2 _ hb).1;omega) u,fun b hb=>⟨(h2 b hb).1,(h2 b hb).2.1,(h2 b hb).2.2.set p u⟩,h3⟩
theorem nodup_app {F G:List Nat} {m:Nat} (hF:F.Nodup) (hG:G.Nodup) (h1:∀ b∈F,b<m) (h2:∀ b∈G,m≤b):(F++G).Nodup:=
 List.nodup_append.2 ⟨hF,hG,fun a ha b hb e=>by have:=h1 a ha;have:=h2 b hb;omega⟩
def RowsN {α:Type} [Rd α] (w:World) (lo:Nat) (l:List α) (zs:List Value) (k:Nat) (cells:List Value):Prop:=
 ∃ (css:List (List Value)) (Fs:List (List Nat)),css.length=k∧Fs.length=k∧
  (∀ (i:Nat) (x:α) (cs:List Value) (f:List Nat),l[i]?=some x→css[i]?=some cs→Fs[i]?=some f→rd w cs x f)∧
  (∀ cs∈css,cs.length=Rd.k α)∧cells=css.flatten++zs.drop (k*Rd.k α)∧(∀ b∈Fs.flatten,lo≤b∧b<w.heap.size∧Thaw w b)∧Fs.flatten.Nodup
theorem RowsN.zero {α:Type} [Rd α] (w:World) (lo:Nat) (l:List α) (zs:List Value):RowsN w lo l zs 0 zs:=
 ⟨[],[],rfl,rfl,by simp,by simp,by simp,by simp,by simp⟩
theorem RowsN.set {α:Type} [Rd α] {w:World} {lo:Nat} {l:List α} {zs:List Value} {k:Nat} {cells:List Value} (h:RowsN w lo l zs k cells) {p:Addr} (hp:p.block<lo) (u:Value) :
 RowsN (w.setCell p u) lo l zs k cells:=by
 obtain⟨css,Fs,h1,h2,h3,h4,h5,h6,h7⟩:=h
 refine⟨css,Fs,h1,h2,fun i x cs f hx hcs hf=>Rd.set (h3 i x cs f hx hcs hf) (fun hb=>?_) u,h4,h5,fun b hb=>⟨(h6 b hb).1,by simpa [World.setCell] using (h6 b hb).2.1,(h6 b hb).2.2.set p u⟩,h7⟩
 have:=(h6 _ (List.mem_flatten.2 ⟨f,List.mem_of_getElem? hf,hb⟩)).1
 omega
theorem flatten_length {α:Type} {K:Nat}:∀ (css:List (List α)),(∀ cs∈css,cs.length=K)→css.flatten.length=css.length*K
 | [],_=>by simp
 | c::css,h=>by
  rw [List.flatten_cons,List.length_append,flatten_length css (fun cs hc=>h cs (List.mem_cons_of_mem _ hc)),h c (by simp),List.length_cons,Nat.add_mul,Nat.one_mul,Nat.add_comm]
theorem RowsN.push {α:Type} [Rd α] {w w2:World} {lo:Nat} {l:List α} {zs:List Value} {k:Nat} {cells:List Value} (h:RowsN w lo l zs k cells) (he:Ext w w2) {cs:List Value} {x:α} {F:List Nat}
 (hr:rd w2 cs x F) (hF:∀ b∈F,w.heap.size≤b∧Thaw w2 b) (hnd:F.Nodup) (hx:l[k]?=some x) (hlo:lo≤w.heap.size) (hz:zs.length=l.length*Rd.k α) :
 RowsN w2 lo l zs (k+1) (setAll cells (k*Rd.k α) cs):=by
 obtain⟨css,Fs,h1,h2,h3,h4,h5,h6,h7⟩:=h
 have hk:=(List.getElem?_eq_some_iff.1 hx).1
 have hl:=flatten_length css h4
 rw [h1] at hl
 refine⟨css++[cs],Fs++[F],by simp [h1],by simp [h2],fun i x' cs' f' hx' hcs' hf'=>?_,fun c hc=>?_,?_,fun b hb=>?_,?_⟩
 · rcases Nat.lt_trichotomy i k with hi|hi|hi
   · rw [List.getElem?_append_left (by omega)] at hcs' hf'
     exact Rd.mono (h3 i x' cs' f' hx' hcs' hf') he
   · subst hi
     rw [List.getElem?_append_right (by omega),h1] at hcs'
     rw [List.getElem?_append_right (by omega),h2] at hf'
     simp at hcs' hf'
     subst hcs';subst hf'
     rw [hx] at hx'
     cases hx'
     exact hr
   rw [List.getElem?_append_right (by omega),h1] at hcs'
   rw [List.getElem?_eq_none (by simp;omega)] at hcs'
   cases hcs'
 · rcases List.mem_append.1 hc with hc|hc
   · exact h4 c hc
   simp at hc;subst hc;exact Rd.len hr
 · have h8:=Nat.mul_le_mul_right (Rd.k α) (show k+1≤l.length by omega)
   rw [Nat.add_mul,Nat.one_mul] at h8
   have e:zs.drop (k*Rd.k α)=(zs.drop (k*Rd.k α)).take (Rd.k α)++zs.drop ((k+1)*Rd.k α):=by
    rw [Nat.add_mul,Nat.one_mul,←List.drop_drop,List.take_append_drop]
   rw [h5,e,←hl,setAll_mid _ _ _ _ (by rw [Rd.len hr,List.length_take,List.length_drop];omega)]
   simp
 · simp only [List.flatten_append,List.flatten_singleton,List.mem_append] at hb
   rcases hb with hb|hb
   · exact⟨(h6 b hb).1,Nat.lt_of_lt_of_le (h6 b hb).2.1 he.size,(h6 b hb).2.2.ext he⟩
   exact⟨Nat.le_trans hlo (hF b hb).1,Rd.lt hr b hb,(hF b hb).2⟩
 simp only [List.flatten_append,List.flatten_singleton]
 exact nodup_app h7 hnd (fun b hb=>(h6 b hb).2.1) (fun b hb=>(hF b hb).1)
theorem RowsN.done {α:Type} [Rd α] {w w':World} {lo:Nat} {l:List α} {zs cells:List Value} {g e cap:Nat} (h:RowsN w' lo l zs l.length cells) (hg:g<lo) (hb:w.heap.size≤g)
 (hown:w'.ownsRow w.heap.size e (Rd.k α) (.slice (some ⟨g,0,none⟩) l.length cap) l.length cells) (hz:zs.length=l.length*Rd.k α):New w w' (.slice (some ⟨g,0,none⟩) l.length cap) l:=by
 obtain⟨css,Fs,h1,h2,h3,h4,h5,h6,h7⟩:=h
 rw [List.drop_eq_nil_of_le (by omega),List.append_nil] at h5
 rcases hown.2 with ⟨hc,_⟩|⟨g',cap',cur,hv,hg',hgg,hn,hm,hs,ht⟩
 · simp at hc
 simp only [Value.slice.injEq,Option.some.injEq,Addr.mk.injEq,and_true,true_and] at hv
 obtain⟨rfl,rfl⟩:=hv
 by_cases h0:l.length=0
 · refine⟨[],Sl.vl ⟨rfl,hn,hm,css,Fs,h1,h2,h3,.inl ⟨h0,rfl⟩⟩,by simp,by simp⟩
 refine⟨g::Fs.flatten,Sl.vl ⟨rfl,hn,hm,css,Fs,h1,h2,h3,.inr ⟨g,0,rfl,rfl,(Array.getElem?_eq_some_iff.1 hgg).1,fun i cs j u hcs hu=>?_⟩⟩,fun b hb'=>?_,?_⟩
 · have hcl:cs.length=Rd.k α:=h4 cs (List.mem_of_getElem? hcs)
   have hi:i<css.length:=(List.getElem?_eq_some_iff.1 hcs).1
   have hj:j<cs.length:=(List.getElem?_eq_some_iff.1 hu).1
   have hh:=Nat.mul_le_mul_right (Rd.k α) (show i+1≤l.length by omega)
   rw [Nat.add_mul,Nat.one_mul] at hh
   rw [Nat.zero_add,hown.cellAt _ (by omega),h5]
   clear h3 h6 h7 hown ht hh h5 h1
   induction css generalizing i with
   | nil=>simp at hcs
   | cons c css ih=>
    rw [List.flatten_cons]
    match i,hcs,hi with
    | 0,hcs,hi=>
     simp at hcs;subst hcs
     rw [Nat.zero_mul,Nat.zero_add,List.getElem?_append_left hj];exact hu
    | i+1,hcs,hi=>
     have hc':c.length=Rd.k α:=h4 c (by simp)
     rw [List.getElem?_append_right (by rw [hc',Nat.add_mul,Nat.one_mul];omega)]
     have e':(i+1)*Rd.k α+j-c.length=i*Rd.k α+j:=by rw [hc',Nat.add_mul,Nat.one_mul];omega
     rw [e']
     exact ih (fun cs hc=>h4 cs (List.mem_cons_of_mem _ hc)) i (by simpa using hcs) (by simpa using hi)
 · rcases List.mem_cons.1 hb' with rfl|hb'
   · exact⟨hb,cur,e,hgg⟩
   exact⟨Nat.le_trans hb (Nat.le_trans (Nat.le_of_lt hg) (h6 b hb').1),(h6 b hb').2.2⟩
 exact List.nodup_cons.2 ⟨fun hm'=>by have:=(h6 _ hm').1;omega,h7⟩
end Go.Q
namespace Go.Q
open Go.RowKit
def GoodX (w:World):Prop:=w.ShapedOpen Go.Proofs.Tryz.prog∧True∧True
structure Good (w:World) (H:List Nat):Prop where
 low:Go.Proofs.Tryz.prog.low≤w.heap.size
 ex:∃ w0,GoodX w0∧∀ k,k<Go.Proofs.Tryz.prog.low→w.heap[k]?=w0.heap[k]?
 off:∀ b∈H,Go.Proofs.Tryz.prog.low≤b
theorem Good.nil {w:World} {H:List Nat} (h:Good w H):Good w []:=⟨h.low,h.ex,fun _ hb=>by cases hb⟩
theorem Good.step {w w':World} {H G:List Nat} (h:Good w H) (hs:w.heap.size≤w'.heap.size) (hk:∀ k,k<w.heap.size→k∉H→w'.heap[k]?=w.heap[k]?) (hG:∀ b∈G,w.heap.size≤b∨b∈H):Good w' G:=by
 obtain⟨w0,h0,h1⟩:=h.ex
 refine⟨Nat.le_trans h.low hs,⟨w0,h0,fun k hlt=>(hk k (Nat.lt_of_lt_of_le hlt h.low) fun hm=>by have:=h.off k hm;omega).trans (h1 k hlt)⟩,fun b hb=>?_⟩
 rcases hG b hb with g|g
 · exact Nat.le_trans h.low g
 exact h.off b g
theorem Good.ext {w w':World} {H:List Nat} (h:Good w H) (hx:Ext w w'):Good w' []:=
 h.nil.step hx.size (fun k hk _=>hx.block hk) fun _ hb=>by cases hb
theorem Good.get {w:World} {H:List Nat} (h:Good w H) {k:Nat} {p:Option Obj→Prop} (hk:k<Go.Proofs.Tryz.prog.low) (hp:∀ w0,GoodX w0→p w0.heap[k]?):p w.heap[k]?:=by
 obtain⟨w0,h0,h1⟩:=h.ex
 rw [h1 k hk];exact hp w0 h0
theorem low_lt:Go.Proofs.Tryz.prog.globals.size<Go.Proofs.Tryz.prog.low:=of_decide_eq_true (by kernel_rfl)
theorem good_of {w:World} (h:GoodX w):Good w []:=by
 have e:Go.Proofs.Tryz.prog.low≤w.heap.size:=by
  have hl:=low_lt
  obtain⟨o,_,h1,_⟩:=h.1.2 (Go.Proofs.Tryz.prog.low-1) (by omega) (by show Go.Proofs.Tryz.prog.low-1<Go.Proofs.Tryz.prog.low;omega)
  have:=(Array.getElem?_eq_some_iff.1 h1).1
  omega
 exact⟨e,⟨w,h,fun _ _=>rfl⟩,fun _ hb=>by cases hb⟩
end Go.Q
namespace Go.Q
open Go.RowKit
inductive T where
 | v (x:Value)
 | sl (k:Nat) (rows:List (List T))
 | ad (cs:List T)
 | fn (f:Fn) (first caps:List T)
mutual
def C (o:Bool) (w:World):T→Value→List Nat→Prop
 | .v x,c,F=>c=x∧F=[]∧x.oneCell'=true
 | .sl k rows,c,F=>∃ a len cap,c=.slice a len cap∧rows.length=len∧len≤cap∧cap≤maxLen∧
  ((len=0∧F=[]∧(o=true→cap=0))∨∃ b off G,a=some ⟨b,off,none⟩∧F=b::G∧b<w.heap.size∧
   (o=true→off=0∧∃ cur e,w.heap[b]?=some (.cells cur e (0,0))∧cur.size=cap*k)∧Rws o w b k off rows G)
 | .ad cs,c,F=>∃ b off G,c=.pointer (some ⟨b,off,none⟩)∧F=b::G∧b<w.heap.size∧Ms o w b off cs G
 | .fn f first caps,c,F=>∃ xs ys G1 G2,c=.func f (List.toArray xs) (List.toArray ys)∧Cs o w first xs G1∧Cs o w caps ys G2∧F=G1++G2
def Cs (o:Bool) (w:World):List T→List Value→List Nat→Prop
 | [],cs,F=>cs=[]∧F=[]
 | t::r,cs,F=>∃ c cr G1 G2,cs=c::cr∧C o w t c G1∧Cs o w r cr G2∧F=G1++G2
def Ms (o:Bool) (w:World) (b:Nat):Nat→List T→List Nat→Prop
 | _,[],F=>F=[]
 | off,t::r,F=>∃ c G1 G2,w.cell? ⟨b,off,none⟩=some c∧C o w t c G1∧Ms o w b (off+1) r G2∧F=G1++G2
def Rws (o:Bool) (w:World) (b k:Nat):Nat→List (List T)→List Nat→Prop
 | _,[],F=>F=[]
 | off,row::r,F=>∃ G1 G2,row.length=k∧Ms o w b off row G1∧Rws o w b k (off+k) r G2∧F=G1++G2
end

theorem heap_lt {w w':World} {b:Nat} (h:w'.heap[b]?=w.heap[b]?) (hb:b<w.heap.size):b<w'.heap.size:=by
 rw [Array.getElem?_eq_getElem hb] at h
 exact (Array.getElem?_eq_some_iff.1 h).1
mutual
theorem C.congr {o:Bool} {w w':World}:∀ {t:T} {c:Value} {F:List Nat},C o w t c F→(∀ b∈F,w'.heap[b]?=w.heap[b]?)→C o w' t c F
 | .v _,_,_,h,_=>by simpa only [C] using h
 | .sl k rows,c,F,h,hc=>by
  simp only [C] at h ⊢
  obtain⟨a,len,cap,h1,h2,h3,h4,h5⟩:=h
  refine⟨a,len,cap,h1,h2,h3,h4,?_⟩
  rcases h5 with h5|⟨b,off,G,h6,rfl,h7,h8,h9⟩
  · exact .inl h5
  refine .inr ⟨b,off,G,h6,rfl,heap_lt (hc b (by simp)) h7,fun ho=>?_,Rws.congr h9 (hc b (by simp)) fun b' hb'=>hc b' (by simp [hb'])⟩
  obtain⟨h10,cur,e,h11,h12⟩:=h8 ho
  exact⟨h10,cur,e,(hc b (by simp)).trans h11,h12⟩
 | .ad cs,c,F,h,hc=>by
  simp only [C] at h ⊢
  obtain⟨b,off,G,h1,rfl,h2,h3⟩:=h
  exact⟨b,off,G,h1,rfl,heap_lt (hc b (by simp)) h2,Ms.congr h3 (hc b (by simp)) fun b' hb'=>hc b' (by simp [hb'])⟩
 | .fn f first caps,c,F,h,hc=>by
  simp only [C] at h ⊢
  obtain⟨xs,ys,G1,G2,h1,h2,h3,rfl⟩:=h
  exact⟨xs,ys,G1,G2,h1,Cs.congr h2 fun b hb=>hc b (by simp [hb]),Cs.congr h3 fun b hb=>hc b (by simp [hb]),rfl⟩
theorem Cs.congr {o:Bool} {w w':World}:∀ {ts:List T} {cs:List Value} {F:List Nat},Cs o w ts cs F→(∀ b∈F,w'.heap[b]?=w.heap[b]?)→Cs o w' ts cs F
 | [],_,_,h,_=>by simpa only [Cs] using h
 | t::r,cs,F,h,hc=>by
  simp only [Cs] at h ⊢
  obtain⟨c,cr,G1,G2,h1,h2,h3,rfl⟩:=h
  exact⟨c,cr,G1,G2,h1,C.congr h2 fun b hb=>hc b (by simp [hb]),Cs.congr h3 fun b hb=>hc b (by simp [hb]),rfl⟩
theorem Ms.congr {o:Bool} {w w':World} {b:Nat}:∀ {ts:List T} {off:Nat} {F:List Nat},Ms o w b off ts F→w'.heap[b]?=w.heap[b]?→(∀ b∈F,w'.heap[b]?=w.heap[b]?)→Ms o w' b off ts F
 | [],_,_,h,_,_=>by simpa only [Ms] using h
 | t::r,off,F,h,h0,hc=>by
  simp only [Ms] at h ⊢
  obtain⟨c,G1,G2,h1,h2,h3,rfl⟩:=h
  exact⟨c,G1,G2,(World.cell?_of_block (a:=⟨b,off,none⟩) h0).trans h1,C.congr h2 fun b hb=>hc b (by simp [hb]),Ms.congr h3 h0 fun b hb=>hc b (by simp [hb]),rfl⟩
theorem Rws.congr {o:Bool} {w w':World} {b k:Nat}:∀ {rs:List (List T)} {off:Nat} {F:List Nat},Rws o w b k off rs F→w'.heap[b]?=w.heap[b]?→(∀ b∈F,w'.heap[b]?=w.heap[b]?)→Rws o w' b k off rs F
 | [],_,_,h,_,_=>by simpa only [Rws] using h
 | t::r,off,F,h,h0,hc=>by
  simp only [Rws] at h ⊢
  obtain⟨G1,G2,h1,h2,h3,rfl⟩:=h
  exact⟨G1,G2,h1,Ms.congr h2 h0 fun b hb=>hc b (by simp [hb]),Rws.congr h3 h0 fun b hb=>hc b (by simp [hb]),rfl⟩
end
mutual
theorem C.lt {o:Bool} {w:World}:∀ {t:T} {c:Value} {F:List Nat},C o w t c F→∀ b∈F,b<w.heap.size
 | .v _,_,F,h,b,hb=>by simp only [C] at h;obtain⟨_,rfl,_⟩:=h;cases hb
 | .sl k rows,c,F,h,b,hb=>by
  simp only [C] at h
  obtain⟨a,len,cap,h1,h2,h3,h4,h5⟩:=h
  rcases h5 with ⟨_,rfl,_⟩|⟨b',off,G,h6,rfl,h7,h8,h9⟩
  · cases hb
  rcases List.mem_cons.1 hb with rfl|hb
  · exact h7
  exact Rws.lt h9 b hb
 | .ad cs,c,F,h,b,hb=>by
  simp only [C] at h
  obtain⟨b',off,G,h1,rfl,h2,h3⟩:=h
  rcases List.mem_cons.1 hb with rfl|hb
  · exact h2
  exact Ms.lt h3 b hb
 | .fn f first caps,c,F,h,b,hb=>by
  simp only [C] at h
  obtain⟨xs,ys,G1,G2,h1,h2,h3,rfl⟩:=h
  rcases List.mem_append.1 hb with hb|hb
  · exact Cs.lt h2 b hb
  exact Cs.lt h3 b hb
theorem Cs.lt {o:Bool} {w:World}:∀ {ts:List T} {cs:List Value} {F:List Nat},Cs o w ts cs F→∀ b∈F,b<w.heap.size
 | [],_,F,h,b,hb=>by simp only [Cs] at h;obtain⟨_,rfl⟩:=h;cases hb
 | t::r,cs,F,h,b,hb=>by
  simp only [Cs] at h
  obtain⟨c,cr,G1,G2,h1,h2,h3,rfl⟩:=h
  rcases List.mem_append.1 hb with hb|hb
  · exact C.lt h2 b hb
  exact Cs.lt h3 b hb
theorem Ms.lt {o:Bool} {w:World} {b0:Nat}:∀ {ts:List T} {off:Nat} {F:List Nat},Ms o w b0 off ts F→∀ b∈F,b<w.heap.size
 | [],_,F,h,b,hb=>by simp only [Ms] at h;subst h;cases hb
 | t::r,off,F,h,b,hb=>by
  simp only [Ms] at h
  obtain⟨c,G1,G2,h1,h2,h3,rfl⟩:=h
  rcases List.mem_append.1 hb with hb|hb
  · exact C.lt h2 b hb
  exact Ms.lt h3 b hb
theorem Rws.lt {o:Bool} {w:World} {b0 k:Nat}:∀ {rs:List (List T)} {off:Nat} {F:List Nat},Rws o w b0 k off rs F→∀ b∈F,b<w.heap.size
 | [],_,F,h,b,hb=>by simp only [Rws] at h;subst h;cases hb
 | t::r,off,F,h,b,hb=>by
  simp only [Rws] at h
  obtain⟨G1,G2,h1,h2,h3,rfl⟩:=h
  rcases List.mem_append.1 hb with hb|hb
  · exact Ms.lt h2 b hb
  exact Rws.lt h3 b hb
end
mutual
theorem C.read {w:World}:∀ {t:T} {c:Value} {F:List Nat},C true w t c F→C false w t c F
 | .v _,_,_,h=>by simpa only [C] using h
 | .sl k rows,c,F,h=>by
  simp only [C] at h ⊢
  obtain⟨a,len,cap,h1,h2,h3,h4,h5⟩:=h
  refine⟨a,len,cap,h1,h2,h3,h4,?_⟩
  rcases h5 with ⟨h5,h6,_⟩|⟨b,off,G,h6,rfl,h7,h8,h9⟩
  · exact .inl ⟨h5,h6,by simp⟩
  exact .inr ⟨b,off,G,h6,rfl,h7,by simp,Rws.read h9⟩
 | .ad cs,c,F,h=>by
  simp only [C] at h ⊢
  obtain⟨b,off,G,h1,rfl,h2,h3⟩:=h
  exact⟨b,off,G,h1,rfl,h2,Ms.read h3⟩
 | .fn f first caps,c,F,h=>by
  simp only [C] at h ⊢
  obtain⟨xs,ys,G1,G2,h1,h2,h3,rfl⟩:=h
  exact⟨xs,ys,G1,G2,h1,Cs.read h2,Cs.read h3,rfl⟩
theorem Cs.read {w:World}:∀ {ts:List T} {cs:List Value} {F:List Nat},Cs true w ts cs F→Cs false w ts cs F
 | [],_,_,h=>by simpa only [Cs] using h
 | t::r,cs,F,h=>by
  simp only [Cs] at h ⊢
  obtain⟨c,cr,G1,G2,h1,h2,h3,rfl⟩:=h
  exact⟨c,cr,G1,G2,h1,C.read h2,Cs.read h3,rfl⟩
theorem Ms.read {w:World} {b:Nat}:∀ {ts:List T} {off:Nat} {F:List Nat},Ms true w b off ts F→Ms false w b off ts F
 | [],_,_,h=>by simpa only [Ms] using h
 | t::r,off,F,h=>by
  simp only [Ms] at h ⊢
  obtain⟨c,G1,G2,h1,h2,h3,rfl⟩:=h
  exact⟨c,G1,G2,h1,C.read h2,Ms.read h3,rfl⟩
theorem Rws.read {w:World} {b k:Nat}:∀ {rs:List (List T)} {off:Nat} {F:List Nat},Rws true w b k off rs F→Rws false w b k off rs F
 | [],_,_,h=>by simpa only [Rws] using h
 | t::r,off,F,h=>by
  simp only [Rws] at h ⊢
  obtain⟨G1,G2,h1,h2,h3,rfl⟩:=h
  exact⟨G1,G2,h1,Ms.read h2,Rws.read h3,rfl⟩
end
theorem C.read' {o:Bool} {w:World} {t:T} {c:Value} {F:List Nat} (h:C o w t c F):C false w t c F:=by cases o;exact h;exact h.read
theorem C.mono {o:Bool} {w w':World} {t:T} {c:Value} {F:List Nat} (h:C o w t c F) (he:Ext w w'):C o w' t c F:=h.congr fun b hb=>he.block (h.lt b hb)
theorem Cs.mono {o:Bool} {w w':World} {t:List T} {c:List Value} {F:List Nat} (h:Cs o w t c F) (he:Ext w w'):Cs o w' t c F:=h.congr fun b hb=>he.block (h.lt b hb)
theorem Rws.get {o:Bool} {w:World} {b k:Nat}:∀ {rs:List (List T)} {off:Nat} {F:List Nat},Rws o w b k off rs F→∀ {i:Nat} {row:List T},rs[i]?=some row→∃ G,Ms o w b (off+i*k) row G∧row.length=k∧∀ x∈G,x∈F
 | [],_,_,_,i,row,hi=>by simp at hi
 | r::rs,off,F,h,i,row,hi=>by
  simp only [Rws] at h
  obtain⟨G1,G2,h1,h2,h3,rfl⟩:=h
  match i,hi with
  | 0,hi=>
   simp at hi;subst hi
   exact⟨G1,by simpa using h2,h1,fun x hx=>by simp [hx]⟩
  | i+1,hi=>
   obtain⟨G,g1,g2,g3⟩:=h3.get (i:=i) (by simpa using hi)
   exact⟨G,by rw [Nat.add_mul,Nat.one_mul,Nat.add_comm (i*k),←Nat.add_assoc];exact g1,g2,fun x hx=>by simp [g3 x hx]⟩
theorem Ms.drop {o:Bool} {w:World} {b:Nat}:∀ {ts:List T} {off:Nat} {F:List Nat},Ms o w b off ts F→∀ j,∃ G,Ms o w b (off+j) (ts.drop j) G∧∀ x∈G,x∈F
 | ts,off,F,h,0=>⟨F,by simpa using h,fun _ h=>h⟩
 | [],off,F,h,j+1=>⟨[],by simp [Ms],fun _ h=>by cases h⟩
 | t::ts,off,F,h,j+1=>by
  simp only [Ms] at h
  obtain⟨c,G1,G2,h1,h2,h3,rfl⟩:=h
  obtain⟨G,g1,g2⟩:=h3.drop j
  exact⟨G,by rw [List.drop_succ_cons];simpa [Nat.add_comm,Nat.add_left_comm] using g1,fun x hx=>by simp [g2 x hx]⟩
theorem Ms.take {o:Bool} {w:World} {b:Nat}:∀ {ts:List T} {off:Nat} {F:List Nat},Ms o w b off ts F→∀ j,∃ G,Ms o w b off (ts.take j) G∧∀ x∈G,x∈F
 | ts,off,F,h,0=>⟨[],by simp [Ms],fun _ h=>by cases h⟩
 | [],off,F,h,j+1=>⟨[],by simp [Ms],fun _ h=>by cases h⟩
 | t::ts,off,F,h,j+1=>by
  simp only [Ms] at h
  obtain⟨c,G1,G2,h1,h2,h3,rfl⟩:=h
  obtain⟨G,g1,g2⟩:=h3.take j
  refine⟨G1++G,by rw [List.take_succ_cons];simp only [Ms];exact⟨c,G1,G,h1,h2,g1,rfl⟩,fun x hx=>?_⟩
  rcases List.mem_append.1 hx with hx|hx
  · simp [hx]
  simp [g2 x hx]
theorem Ms.cells {o:Bool} {w:World} {b:Nat}:∀ {ts:List T} {off:Nat} {F:List Nat},Ms o w b off ts F→∃ cs,Cs o w ts cs F∧cs.length=ts.length∧∀ (j:Nat) (u:Value),cs[j]?=some u→w.cell? ⟨b,off+j,none⟩=some u
 | [],off,F,h=>⟨[],by simp only [Ms] at h;simp [Cs,h],rfl,by simp⟩
 | t::r,off,F,h=>by
  simp only [Ms] at h
  obtain⟨c,G1,G2,h1,h2,h3,rfl⟩:=h
  obtain⟨cs,g1,g2,g3⟩:=h3.cells
  refine⟨c::cs,by simp only [Cs];exact⟨c,cs,G1,G2,rfl,h2,g1,rfl⟩,by simp [g2],fun j u hj=>?_⟩
  match j,hj with
  | 0,hj=>simp at hj;subst hj;simpa using h1
  | j+1,hj=>have:=g3 j u (by simpa using hj);simpa [Nat.add_comm,Nat.add_left_comm] using this
theorem Cs.len {o:Bool} {w:World}:∀ {ts:List T} {cs:List Value} {F:List Nat},Cs o w ts cs F→cs.length=ts.length
 | [],_,_,h=>by simp only [Cs] at h;obtain⟨rfl,_⟩:=h;rfl
 | t::r,_,_,h=>by
  simp only [Cs] at h
  obtain⟨c,cr,G1,G2,rfl,h2,h3,rfl⟩:=h
  simp [h3.len]
theorem Cs.get {o:Bool} {w:World}:∀ {ts:List T} {cs:List Value} {F:List Nat},Cs o w ts cs F→∀ {i:Nat} {t:T},ts[i]?=some t→∃ c G,cs[i]?=some c∧C o w t c G∧∀ x∈G,x∈F
 | [],_,_,_,i,t,hi=>by simp at hi
 | t'::r,_,_,h,i,t,hi=>by
  simp only [Cs] at h
  obtain⟨c,cr,G1,G2,rfl,h2,h3,rfl⟩:=h
  match i,hi with
  | 0,hi=>simp at hi;subst hi;exact⟨c,G1,rfl,h2,fun x hx=>by simp [hx]⟩
  | i+1,hi=>
   obtain⟨c',G,g1,g2,g3⟩:=h3.get (i:=i) (by simpa using hi)
   exact⟨c',G,by simpa using g1,g2,fun x hx=>by simp [g3 x hx]⟩
theorem Cs.append {o:Bool} {w:World}:∀ {xs ys:List T} {cs ds:List Value} {F G:List Nat},Cs o w xs cs F→Cs o w ys ds G→Cs o w (xs++ys) (cs++ds) (F++G)
 | [],ys,cs,ds,F,G,h,h'=>by simp only [Cs] at h;obtain⟨rfl,rfl⟩:=h;exact h'
 | t::xs,ys,cs,ds,F,G,h,h'=>by
  simp only [Cs,List.cons_append] at h ⊢
  obtain⟨c,cr,G1,G2,rfl,h2,h3,rfl⟩:=h
  exact⟨c,cr++ds,G1,G2++G,rfl,h2,h3.append h',by simp⟩
theorem Rws.flat {o:Bool} {w:World} {b k:Nat}:∀ {rs:List (List T)} {off:Nat} {F:List Nat},Rws o w b k off rs F→(∀ row∈rs,row.length=k)∧∃ xs,Cs o w rs.flatten xs F∧xs.length=rs.length*k∧∀ (j:Nat) (u:Value),xs[j]?=some u→w.cell? ⟨b,off+j,none⟩=some u
 | [],off,F,h=>by simp only [Rws] at h;subst h;exact⟨by simp,[],by simp [Cs],by simp,by simp⟩
 | r::rs,off,F,h=>by
  simp only [Rws] at h
  obtain⟨G1,G2,h1,h2,h3,rfl⟩:=h
  obtain⟨g1,xs,g2,g3,g4⟩:=h3.flat
  obtain⟨cs,k1,k2,k3⟩:=h2.cells
  refine⟨fun row hr=>?_,cs++xs,by rw [List.flatten_cons];exact k1.append g2,by rw [List.length_append,k2,h1,g3,List.length_cons,Nat.add_mul,Nat.one_mul,Nat.add_comm],fun j u hj=>?_⟩
  · rcases List.mem_cons.1 hr with rfl|hr
    · exact h1
    exact g1 row hr
  by_cases hl:j<cs.length
  · rw [List.getElem?_append_left hl] at hj;exact k3 j u hj
  rw [List.getElem?_append_right (by omega)] at hj
  have:=g4 _ u hj
  rw [k2,h1] at this hl
  rw [show off+j=off+k+(j-k) by omega];exact this
theorem Cs.split {o:Bool} {w:World}:∀ {xs ys:List T} {cs:List Value} {F:List Nat},Cs o w (xs++ys) cs F→∃ c1 c2 F1 F2,cs=c1++c2∧F=F1++F2∧Cs o w xs c1 F1∧Cs o w ys c2 F2∧c1.length=xs.length
 | [],ys,cs,F,h=>⟨[],cs,[],F,rfl,rfl,by simp [Cs],h,rfl⟩
 | t::xs,ys,cs,F,h=>by
  simp only [Cs,List.cons_append] at h
  obtain⟨c,cr,G1,G2,rfl,h2,h3,rfl⟩:=h
  obtain⟨c1,c2,F1,F2,rfl,rfl,h4,h5,h6⟩:=h3.split
  exact⟨c::c1,c2,G1++F1,F2,rfl,by simp,by simp only [Cs];exact⟨c,c1,G1,F1,rfl,h2,h4,rfl⟩,h5,by simp [h6]⟩
theorem Ms.of {o:Bool} {w:World} {b:Nat}:∀ {ts:List T} {cs:List Value} {G:List Nat} {off:Nat},Cs o w ts cs G→(∀ (j:Nat) (u:Value),cs[j]?=some u→w.cell? ⟨b,off+j,none⟩=some u)→Ms o w b off ts G
 | [],cs,G,off,h,_=>by simp only [Cs] at h;simp only [Ms];exact h.2
 | t::r,cs,G,off,h,hc=>by
  simp only [Cs] at h
  obtain⟨c,cr,G1,G2,rfl,h2,h3,rfl⟩:=h
  simp only [Ms]
  exact⟨c,G1,G2,by simpa using hc 0 c rfl,h2,Ms.of h3 fun j u hj=>by have:=hc (j+1) u (by simpa using hj);simpa [Nat.add_comm,Nat.add_left_comm] using this,rfl⟩
theorem Rws.of {o:Bool} {w:World} {b k:Nat}:∀ {rs:List (List T)} {xs:List Value} {off:Nat} {F:List Nat},(∀ row∈rs,row.length=k)→Cs o w rs.flatten xs F→(∀ (j:Nat) (u:Value),xs[j]?=some u→w.cell? ⟨b,off+j,none⟩=some u)→Rws o w b k off rs F
 | [],xs,off,F,_,h,_=>by simp only [List.flatten_nil,Cs] at h;simp only [Rws];exact h.2
 | r::rs,xs,off,F,hk,h,hc=>by
  rw [List.flatten_cons] at h
  obtain⟨c1,c2,F1,F2,rfl,rfl,h1,h2,h3⟩:=h.split
  have hr:=hk r (by simp)
  simp only [Rws]
  refine⟨F1,F2,hr,Ms.of h1 fun j u hj=>hc j u ?_,Rws.of (fun row hm=>hk row (by simp [hm])) h2 fun j u hj=>?_,rfl⟩
  · rw [List.getElem?_append_left (List.getElem?_eq_some_iff.1 hj).1];exact hj
  have:=hc (k+j) u (by rw [List.getElem?_append_right (by omega),show k+j-c1.length=j by omega];exact hj)
  rw [Nat.add_assoc];exact this
end Go.Q
