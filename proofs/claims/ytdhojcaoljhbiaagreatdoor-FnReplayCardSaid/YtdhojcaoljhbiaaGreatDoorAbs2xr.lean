import Derived.WalkKit
import Derived.ProofKit
import Derived.OpenShut
import Derived.ShutString
import Derived.ChangeOld
import Derived.Below
import Derived.BigQuiet
import Derived.StillTail
import Derived.Test.YtdhojcaoljhbiaaGreatDoorProg
import Derived.ChangeAgain
import Derived.Lib.LaidTab
import Derived.Lib.ItoaNum
import Derived.HandedShaped
import Derived.LaidSub
import Derived.Laws.OwnMore
import Derived.Orders
set_option linter.unusedVariables false
set_option linter.unusedSimpArgs false
namespace Go.Q
open Go.RowKit
theorem hid {p:Prop} (h:p):Hid p:=h
def Ext (w w':World):Prop:=Below w.heap.size w w'
theorem Ext.refl (w:World):Ext w w:=Below.refl _ _
theorem Ext.trans {a b c:World} (h:Ext a b) (k:Ext b c):Ext a c:=Below.trans h (Below.mono k h.size)
theorem Ext.trans' {a b c:World} (h:Ext a b) (h1:c.os=b.os) (h2:c.tape=b.tape) (h3:c.output=b.output) (h4:b.heap.size≤c.heap.size) (h5:∀ k,k<a.heap.size→c.heap[k]?=b.heap[k]?):Ext a c:=
 ⟨h1.trans h.os,h2.trans h.tape,h3.trans h.output,Nat.le_trans h.size h4,fun k hk=>(h5 k hk).trans (h.block k hk)⟩
theorem Ext.drew {a w:World} (h:Ext a w):Ext a w.drew:=Below.drew h
theorem Ext.drawn {a w:World} (h:Ext a w):Ext a { w with drawn:=w.drawn+1 }:=Below.drew h
theorem Ext.alloc {a w:World} (h:Ext a w) (o:Obj):Ext a (w.alloc o):=Below.alloc h h.size o
theorem Ext.setCell {a w:World} (h:Ext a w) {p:Addr} (hp:a.heap.size≤p.block) (u:Value):Ext a (w.setCell p u):=Below.setCell h hp u
theorem Ext.size {a w:World} (h:Ext a w):a.heap.size≤w.heap.size:=Below.size h
theorem Ext.block {w w':World} (h:Ext w w') {b:Nat} (hb:b<w.heap.size):w'.heap[b]?=w.heap[b]?:=Below.block h b hb
theorem Ext.cell {w w':World} (h:Ext w w') {p:Addr} {v:Value} (hc:w.cell? p=some v):w'.cell? p=some v:=
 (Below.cell h (World.block_lt_of_cell? w p hc)).trans hc
theorem Ext.grown {a w w':World} {row:Option Nat} (h:Ext a w) (hg:w.grownBy w' row) (hr:∀ k,row=some k→a.heap.size≤k):Ext a w':=Below.grown h hg h.size hr
class Rd (α:Type) where
 k:Nat
 agg:Bool
 rd:World→List Value→α→List Nat→Prop
 len:∀ {w:World} {cs:List Value} {a:α} {F:List Nat},rd w cs a F→cs.length=k
 congr:∀ {w w':World} {cs:List Value} {a:α} {F:List Nat},rd w cs a F→(∀ b∈F,w'.heap[b]?=w.heap[b]?)→rd w' cs a F
 lt:∀ {w:World} {cs:List Value} {a:α} {F:List Nat},rd w cs a F→∀ b∈F,b<w.heap.size
open Rd (rd)
theorem Rd.mono {α:Type} [Rd α] {w w':World} {cs:List Value} {a:α} {F:List Nat} (h:rd w cs a F) (he:Ext w w'):rd w' cs a F:=
 Rd.congr h fun b hb=>he.block (Rd.lt h b hb)

class Flat (α:Type) where
 k:Nat
 agg:Bool
 enc:α→List Value
 len:∀ a,(enc a).length=k
instance {α:Type} [Flat α]:Rd α where
 k:=Flat.k α
 agg:=Flat.agg α
 rd _ cs a F:=cs=Flat.enc a∧F=[]
 len h:=by obtain⟨rfl,_⟩:=h;exact Flat.len _
 congr h _:=h
 lt h:=by obtain⟨_,rfl⟩:=h;intro b hb;cases hb

instance:Flat Int:=⟨1,false,fun a=>[.int .i64 a],fun _=>rfl⟩
instance:Flat Bool:=⟨1,false,fun a=>[.bool a],fun _=>rfl⟩

structure Sl {α:Type} [Rd α] (w:World) (a:Option Addr) (len cap:Nat) (l:List α) (F:List Nat):Prop where
 hlen:l.length=len
 hcap:len≤cap
 hmax:cap≤maxLen
 els:∃ (css:List (List Value)) (Fs:List (List Nat)),css.length=len∧Fs.length=len∧
  (∀ (i:Nat) (x:α) (cs:List Value) (f:List Nat),l[i]?=some x→css[i]?=some cs→Fs[i]?=some f→rd w cs x f)∧
  ((len=0∧F=[])∨∃ b off,a=some ⟨b,off,none⟩∧F=b::Fs.flatten∧b<w.heap.size∧
   ∀ (i:Nat) (cs:List Value) (j:Nat) (u:Value),css[i]?=some cs→cs[j]?=some u→w.cell? ⟨b,off+i*Rd.k α+j,none⟩=some u)

theorem Sl.congr {α:Type} [Rd α] {w w':World} {a:Option Addr} {len cap:Nat} {l:List α} {F:List Nat} (h:Sl w a len cap l F) (hc:∀ b∈F,w'.heap[b]?=w.heap[b]?):Sl w' a len cap l F:=by
 obtain⟨h1,h2,h3,css,Fs,h4,h5,h6,h7⟩:=h
 refine⟨h1,h2,h3,css,Fs,h4,h5,?_,?_⟩
 · intro i x cs f hx hcs hf
   have hi:i<len:=by have:=(List.getElem?_eq_some_iff.1 hf).1;omega
   refine Rd.congr (h6 i x cs f hx hcs hf) fun b hb=>hc b ?_
   rcases h7 with ⟨h0,_⟩|⟨b0,off,_,rfl,_⟩
   · omega
   exact List.mem_cons_of_mem _ (List.mem_flatten.2 ⟨f,List.mem_of_getElem? hf,hb⟩)
 rcases h7 with h0|⟨b0,off,ha,rfl,hlt,hcell⟩
 · exact .inl h0
 refine .inr ⟨b0,off,ha,rfl,?_,fun i cs j u hcs hu=>?_⟩
 · have:=hc b0 (by simp)
   rw [Array.getElem?_eq_getElem hlt] at this
   exact (Array.getElem?_eq_some_iff.1 this).1
 rw [World.cell?_of_block (w:=w) (a:=⟨b0,_,none⟩) (hc b0 (by simp))]
 exact hcell i cs j u hcs hu
theorem Sl.lt {α:Type} [Rd α] {w:World} {a:Option Addr} {len cap:Nat} {l:List α} {F:List Nat} (h:Sl w a len cap l F):∀ b∈F,b<w.heap.size:=by
 obtain⟨h1,h2,h3,css,Fs,h4,h5,h6,h7⟩:=h
 rcases h7 with ⟨_,rfl⟩|⟨b0,off,ha,rfl,hlt,hcell⟩
 · intro b hb;cases hb
 intro b hb
 rcases List.mem_cons.1 hb with rfl|hb
 · exact hlt
 obtain⟨f,hf,hbf⟩:=List.mem_flatten.1 hb
 obtain⟨i,hi⟩:=List.getElem?_of_mem hf
 have hil:i<len:=by have:=(List.getElem?_eq_some_iff.1 hi).1;omega
 exact Rd.lt (h6 i (l[i]'(by omega)) (css[i]'(by omega)) f (List.getElem?_eq_getElem _) (List.getElem?_eq_getElem _) hi) b hbf
theorem Sl.mono {α:Type} [Rd α] {w w':World} {a:Option Addr} {len cap:Nat} {l:List α} {F:List Nat} (h:Sl w a len cap l F) (he:Ext w w'):Sl w' a len cap l F:=
 h.congr fun b hb=>he.block (h.lt b hb)
theorem Sl.le {α:Type} [Rd α] {w:World} {a:Option Addr} {len cap:Nat} {l:List α} {F:List Nat} (h:Sl w a len cap l F):len≤9223372036854775807:=by
 have:=h.hcap;have:=h.hmax;unfold maxLen at *;omega
theorem Sl.at {α:Type} [Rd α] {w:World} {a:Option Addr} {len cap:Nat} {l:List α} {F:List Nat} (h:Sl w a len cap l F) {i:Nat} (hi:i<len) :
 ∃ b off x cs f,a=some ⟨b,off,none⟩∧l[i]?=some x∧rd w cs x f∧(∀ b'∈f,b'∈F)∧∀ (j:Nat) (u:Value),cs[j]?=some u→w.cell? ⟨b,off+i*Rd.k α+j,none⟩=some u:=by
 obtain⟨h1,h2,h3,css,Fs,h4,h5,h6,h7⟩:=h
 rcases h7 with ⟨h0,_⟩|⟨b0,off,ha,rfl,hlt,hcell⟩
 · omega
 refine⟨b0,off,l[i]'(by omega),css[i]'(by omega),Fs[i]'(by omega),ha,List.getElem?_eq_getElem _,
  h6 i _ _ _ (List.getElem?_eq_getElem _) (List.getElem?_eq_getElem _) (List.getElem?_eq_getElem _),fun b' hb'=>?_,fun j u hj=>hcell i _ j u (List.getElem?_eq_getElem _) hj⟩
 exact List.mem_cons_of_mem _ (List.mem_flatten.2 ⟨_,List.getElem_mem _,hb'⟩)
theorem Sl.flat {α:Type} [Flat α] {w:World} {a:Option Addr} {len cap:Nat} {l:List α} {F:List Nat} (h:Sl w a len cap l F) {i:Nat} (hi:i<len) :
 ∃ b off x,a=some ⟨b,off,none⟩∧l[i]?=some x∧∀ (j:Nat) (u:Value),(Flat.enc x)[j]?=some u→w.cell? ⟨b,off+i*Flat.k α+j,none⟩=some u:=by
 obtain⟨b,off,x,cs,f,ha,hx,hr,_,hc⟩:=h.at hi
 obtain⟨rfl,_⟩:cs=Flat.enc x∧f=[]:=hr
 exact⟨b,off,x,ha,hx,hc⟩
theorem Sl.int {w:World} {a:Option Addr} {len cap:Nat} {l:List Int} {F:List Nat} (h:Sl w a len cap l F) {i:Nat} (hi:i<len) :
 ∃ b off x,a=some ⟨b,off,none⟩∧l[i]?=some x∧w.cell? ⟨b,off+i,none⟩=some (.int .i64 x):=by
 obtain⟨b,off,x,ha,hx,hc⟩:=h.flat hi
 exact⟨b,off,x,ha,hx,by simpa [Flat.k] using hc 0 _ rfl⟩
theorem Sl.bool {w:World} {a:Option Addr} {len cap:Nat} {l:List Bool} {F:List Nat} (h:Sl w a len cap l F) {i:Nat} (hi:i<len) :
 ∃ b off x,a=some ⟨b,off,none⟩∧l[i]?=some x∧w.cell? ⟨b,off+i,none⟩=some (.bool x):=by
 obtain⟨b,off,x,ha,hx,hc⟩:=h.flat hi
 exact⟨b,off,x,ha,hx,by simpa [Flat.k] using hc 0 _ rfl⟩
instance {α:Type} [Rd α]:Rd (List α) where
 k:=1
 agg:=false
 rd w cs l F:=∃ a len cap,cs=[.slice a len cap]∧Sl w a len cap l F
 len:=by rintro w cs a F ⟨_,_,_,rfl,_⟩;rfl
 congr:=by rintro w w' cs l F ⟨a,len,cap,rfl,h⟩ hc;exact⟨a,len,cap,rfl,h.congr hc⟩
 lt:=by rintro w cs l F ⟨a,len,cap,rfl,h⟩;exact h.lt

def Vl {α:Type} [Rd α] (w:World) (v:Value) (x:α) (F:List Nat):Prop:=∃ cs,rd w cs x F∧v=if Rd.agg α then .agg cs.toArray else cs.headD undef
theorem Vl.mono {α:Type} [Rd α] {w w':World} {v:Value} {x:α} {F:List Nat} (h:Vl w v x F) (he:Ext w w'):Vl w' v x F:=
 let ⟨cs,hr,hv⟩:=h;⟨cs,Rd.mono hr he,hv⟩
theorem Vl.sl {α:Type} [Rd α] {w:World} {v:Value} {l:List α} {F:List Nat} (h:Vl w v l F):∃ a len cap,v=.slice a len cap∧Sl w a len cap l F:=by
 obtain⟨cs,⟨a,len,cap,rfl,hs⟩,rfl⟩:=h
 exact⟨a,len,cap,rfl,hs⟩
theorem Sl.vl {α:Type} [Rd α] {w:World} {l:List α} {F:List Nat} {a:Option Addr} {len cap:Nat} (h:Sl w a len cap l F):Vl w (.slice a len cap) l F:=
 ⟨_,⟨a,len,cap,rfl,h⟩,rfl⟩

def encs {α:Type} [Flat α] (l:List α):List Value:=l.flatMap Flat.enc
def ThB:Array Value ⊕ Array MapEntry→Nat→Obj
 | .inl c,e=>.cells c e (0,0)
 | .inr m,k=>.map m k
instance:Coe (Array Value) (Array Value ⊕ Array MapEntry):=⟨.inl⟩
def Thaw (w:World) (b:Nat):Prop:=∃ c e,w.heap[b]?=some (ThB c e)
def New {α:Type} [Rd α] (w w':World) (v:Value) (x:α):Prop:=∃ F,Vl w' v x F∧(∀ b∈F,w.heap.size≤b∧Thaw w' b)∧F.Nodup

def Box (w:World) (b:Nat) (vs:List Value) (t:TypeId):Prop:=w.heap[b]?=some (.cells vs.toArray t (0,0))
theorem Box.lt {w:World} {b:Nat} {vs:List Value} {t:TypeId} (h:Box w b vs t):b<w.heap.size:=(Array.getElem?_eq_some_iff.1 h).1
theorem Box.mono {w w':World} {b:Nat} {vs:List Value} {t:TypeId} (h:Box w b vs t) (he:Ext w w'):Box w' b vs t:=(he.block h.lt).trans h
theorem Box.new (w:World) (vs:Array Value) (t:TypeId):Box (w.alloc (.cells vs t)) w.heap.size vs.toList t:=by
 unfold Box;exact heap_alloc_new w _
theorem Box.alloc {w:World} {b:Nat} {vs:List Value} {t:TypeId} (h:Box w b vs t) (o:Obj):Box (w.alloc o) b vs t:=h.mono ((Ext.refl w).alloc o)
theorem Box.at {w:World} {b:Nat} {vs:List Value} {t:TypeId} (h:Box w b vs t) (i:Nat) {u:Value} (hu:vs[i]?=some u):w.cell? ⟨b,i,none⟩=some u:=by
 rw [cell_of_row w b i vs.toArray t (0,0) h];simpa using hu
theorem Box.thaw {w:World} {b:Nat} {vs:List Value} {t:TypeId} (h:Box w b vs t) (i:Nat):w.frozen? ⟨b,i,none⟩=false:=frozen_of_row w b i vs.toArray t h
theorem Box.set {w:World} {b:Nat} {vs:List Value} {t:TypeId} (h:Box w b vs t) (i:Nat) (u:Value):Box (w.setCell ⟨b,i,none⟩ u) b (vs.set i u) t:=by
 unfold Box
 have:=heap_setCell_same w b i vs.toArray t u h
 rw [this];simp
theorem Box.other {w:World} {b:Nat} {vs:List Value} {t:TypeId} (h:Box w b vs t) {p:Addr} (hp:p.block≠b) (u:Value):Box (w.setCell p u) b vs t:=by
 unfold Box
 rw [heap_setCell_other w p b u (Ne.symm hp)];exact h
theorem Rd.set {α:Type} [Rd α] {w:World} {cs:List Value} {x:α} {F:List Nat} (h:rd w cs x F) {p:Addr} (hp:p.block∉F) (u:Value):rd (w.setCell p u) cs x F:=
 Rd.congr h fun b hb=>heap_setCell_other w p b u (fun e=>hp (e▸hb))
theorem Sl.set {α:Type} [Rd α] {w:World} {a:Option Addr} {len cap:Nat} {l:List α} {F:List Nat} (h:Sl w a len cap l F) {p:Addr} (hp:p.block∉F) (u:Value):Sl (w.setCell p u) a len cap l F:=
 h.congr fun b hb=>heap_setCell_other w p b u (fun e=>hp (e▸hb))
theorem Vl.set {α:Type} [Rd α] {w:World} {v:Value} {x:α} {F:List Nat} (h:Vl w v x F) {p:Addr} (hp:p.block∉F) (u:Value):Vl (w.setCell p u) v x F:=
 let ⟨cs,hr,hv⟩:=h;⟨cs,Rd.set hr hp u,hv⟩
theorem Thaw.set {w:World} {b:Nat} (h:Thaw w b) (p:Addr) (u:Value):Thaw (w.setCell p u) b:=by
 obtain⟨c,e,h⟩:=h
 by_cases hp:p.block=b
 · subst hp
   unfold Thaw World.setCell
   simp only [Array.getElem?_modify,if_true,h,Option.map_some]
   cases c with
   | inl c=>exact⟨.inl _,_,rfl⟩
   | inr m=>exact⟨.inr _,_,rfl⟩
 exact⟨c,e,by rw [heap_setCell_other w p b u (Ne.symm hp)];exact h⟩
theorem New.set {α:Type} [Rd α] {w w':World} {v:Value} {x:α} (h:New w w' v x) {p:Addr} (hp:p.block<w.heap.size) (u:Value):New w (w'.setCell p u) v x:=by
 obtain⟨F,h1,h2,h3⟩:=h
 exact⟨F,h1.set (fun hb=>by have:=(h2 _ hb).1;omega) u,fun b hb=>⟨(h2 b hb).1,(h2 b hb).2.set p u⟩,h3⟩
theorem Ext.set {a w:World} (h:Ext a w) {b i:Nat} (hp:a.heap.size≤b) (u:Value):Ext a (w.setCell ⟨b,i,none⟩ u):=h.setCell hp u

def setAll (xs:List Value) (m:Nat):List Value→List Value
 | []=>xs
 | u::us=>setAll (xs.set m u) (m+1) us
theorem setAll_mid:∀ (us A C D:List Value),C.length=us.length→setAll (A++(C++D)) A.length us=A++(us++D)
 | [],A,C,D,h=>by
  have:C=[]:=List.eq_nil_of_length_eq_zero (by simpa using h)
  subst this;rfl
 | u::us,A,C,D,h=>by
  match C,h with
  | c::C,h=>
   have e:(A++(c::C++D)).set A.length u=(A++[u])++(C++D):=by simp
   rw [setAll,e]
   have:=setAll_mid us (A++[u]) C D (by simpa using h)
   rw [List.length_append] at this
   simp only [List.length_cons,List.length_nil] at this
   rw [this];simp
def Pc {α:Type} [Rd α] (lo hi:Nat) (w:World) (v:Value) (x:α):Prop:=∃ F,Vl w v x F∧(∀ b∈F,lo≤b∧b<hi∧Thaw w b)∧F.Nodup
theorem Vl.lt {α:Type} [Rd α] {w:World} {v:Value} {x:α} {F:List Nat} (h:Vl w v x F):∀ b∈F,b<w.heap.size:=let ⟨_,hr,_⟩:=h;Rd.lt hr
theorem Pc.new {α:Type} [Rd α] {lo hi:Nat} {w w':World} {v:Value} {x:α} (h:Pc lo hi w' v x) (hl:w.heap.size≤lo):New w w' v x:=
 let ⟨F,h1,h2,h3⟩:=h;⟨F,h1,fun b hb=>⟨Nat.le_trans hl (h2 b hb).1,(h2 b hb).2.2⟩,h3⟩
theorem Thaw.ext {w w':World} {b:Nat} (h:Thaw w b) (he:Ext w w'):Thaw w' b:=by
 obtain⟨c,e,h⟩:=h
 exact⟨c,e,(he.block (Array.getElem?_eq_some_iff.1 h).1).trans h⟩
theorem Pc.mono {α:Type} [Rd α] {lo hi:Nat} {w w':World} {v:Value} {x:α} (h:Pc lo hi w v x) (he:Ext w w'):Pc lo hi w' v x:=
 let ⟨F,h1,h2,h3⟩:=h;⟨F,h1.mono he,fun b hb=>⟨(h2 b hb).1,(h2 b hb).2.1,(h2 b hb).2.2.ext he⟩,h3⟩
theorem Pc.set {α:Type} [Rd α] {lo hi:Nat} {w:World} {v:Value} {x:α} (h:Pc lo hi w v x) {p:Addr} (hp:p.block<lo) (u:Value):Pc lo hi (w.setCell p u) v x:=
 let ⟨F,h1,h2,h3⟩:=h;⟨F,h1.set (fun hb=>by have:=(h2 _ hb).1;omega) u,fun b hb=>⟨(h2 b hb).1,(h2 b hb).2.1,(h2 b hb).2.2.set p u⟩,h3⟩
theorem nodup_app {F G:List Nat} {m:Nat} (hF:F.Nodup) (hG:G.Nodup) (h1:∀ b∈F,b<m) (h2:∀ b∈G,m≤b):(F++G).Nodup:=
 List.nodup_append.2 ⟨hF,hG,fun a ha b hb e=>by have:=h1 a ha;have:=h2 b hb;omega⟩
def RowsN {α:Type} [Rd α] (w:World) (lo:Nat) (l:List α) (zs:List Value) (k:Nat) (cells:List Value):Prop:=
 ∃ (css:List (List Value)) (Fs:List (List Nat)),css.length=k∧Fs.length=k∧
  (∀ (i:Nat) (x:α) (cs:List Value) (f:List Nat),l[i]?=some x→css[i]?=some cs→Fs[i]?=some f→rd w cs x f)∧
  (∀ cs∈css,cs.length=Rd.k α)∧cells=css.flatten++zs.drop (k*Rd.k α)∧(∀ b∈Fs.flatten,lo≤b∧b<w.heap.size∧Thaw w b)∧Fs.flatten.Nodup
theorem RowsN.zero {α:Type} [Rd α] (w:World) (lo:Nat) (l:List α) (zs:List Value):RowsN w lo l zs 0 zs:=
 ⟨[],[],rfl,rfl,by simp,by simp,by simp,by simp,by simp⟩
theorem RowsN.set {α:Type} [Rd α] {w:World} {lo:Nat} {l:List α} {zs:List Value} {k:Nat} {cells:List Value} (h:RowsN w lo l zs k cells) {p:Addr} (hp:p.block<lo) (u:Value) :
 RowsN (w.setCell p u) lo l zs k cells:=by
 obtain⟨css,Fs,h1,h2,h3,h4,h5,h6,h7⟩:=h
 refine⟨css,Fs,h1,h2,fun i x cs f hx hcs hf=>Rd.set (h3 i x cs f hx hcs hf) (fun hb=>?_) u,h4,h5,fun b hb=>⟨(h6 b hb).1,by simpa [World.setCell] using (h6 b hb).2.1,(h6 b hb).2.2.set p u⟩,h7⟩
 have:=(h6 _ (List.mem_flatten.2 ⟨f,List.mem_of_getElem? hf,hb⟩)).1
 omega
theorem flatten_length {α:Type} {K:Nat}:∀ (css:List (List α)),(∀ cs∈css,cs.length=K)→css.flatten.length=css.length*K
 | [],_=>by simp
 | c::css,h=>by
  rw [List.flatten_cons,List.length_append,flatten_length css (fun cs hc=>h cs (List.mem_cons_of_mem _ hc)),h c (by simp),List.length_cons,Nat.add_mul,Nat.one_mul,Nat.add_comm]
theorem RowsN.push {α:Type} [Rd α] {w w2:World} {lo:Nat} {l:List α} {zs:List Value} {k:Nat} {cells:List Value} (h:RowsN w lo l zs k cells) (he:Ext w w2) {cs:List Value} {x:α} {F:List Nat}
 (hr:rd w2 cs x F) (hF:∀ b∈F,w.heap.size≤b∧Thaw w2 b) (hnd:F.Nodup) (hx:l[k]?=some x) (hlo:lo≤w.heap.size) (hz:zs.length=l.length*Rd.k α) :
 RowsN w2 lo l zs (k+1) (setAll cells (k*Rd.k α) cs):=by
 obtain⟨css,Fs,h1,h2,h3,h4,h5,h6,h7⟩:=h
 have hk:=(List.getElem?_eq_some_iff.1 hx).1
 have hl:=flatten_length css h4
 rw [h1] at hl
 refine⟨css++[cs],Fs++[F],by simp [h1],by simp [h2],fun i x' cs' f' hx' hcs' hf'=>?_,fun c hc=>?_,?_,fun b hb=>?_,?_⟩
 · rcases Nat.lt_trichotomy i k with hi|hi|hi
   · rw [List.getElem?_append_left (by omega)] at hcs' hf'
     exact Rd.mono (h3 i x' cs' f' hx' hcs' hf') he
   · subst hi
     rw [List.getElem?_append_right (by omega),h1] at hcs'
     rw [List.getElem?_append_right (by omega),h2] at hf'
     simp at hcs' hf'
     subst hcs';subst hf'
     rw [hx] at hx'
     cases hx'
     exact hr
   rw [List.getElem?_append_right (by omega),h1] at hcs'
   rw [List.getElem?_eq_none (by simp;omega)] at hcs'
   cases hcs'
 · rcases List.mem_append.1 hc with hc|hc
   · exact h4 c hc
   simp at hc;subst hc;exact Rd.len hr
 · have h8:=Nat.mul_le_mul_right (Rd.k α) (show k+1≤l.length by omega)
   rw [Nat.add_mul,Nat.one_mul] at h8
   have e:zs.drop (k*Rd.k α)=(zs.drop (k*Rd.k α)).take (Rd.k α)++zs.drop ((k+1)*Rd.k α):=by
    rw [Nat.add_mul,Nat.one_mul,←List.drop_drop,List.take_append_drop]
   rw [h5,e,←hl,setAll_mid _ _ _ _ (by rw [Rd.len hr,List.length_take,List.length_drop];omega)]
   simp
 · simp only [List.flatten_append,List.flatten_singleton,List.mem_append] at hb
   rcases hb with hb|hb
   · exact⟨(h6 b hb).1,Nat.lt_of_lt_of_le (h6 b hb).2.1 he.size,(h6 b hb).2.2.ext he⟩
   exact⟨Nat.le_trans hlo (hF b hb).1,Rd.lt hr b hb,(hF b hb).2⟩
 simp only [List.flatten_append,List.flatten_singleton]
 exact nodup_app h7 hnd (fun b hb=>(h6 b hb).2.1) (fun b hb=>(hF b hb).1)
theorem RowsN.done {α:Type} [Rd α] {w w':World} {lo:Nat} {l:List α} {zs cells:List Value} {g e cap:Nat} (h:RowsN w' lo l zs l.length cells) (hg:g<lo) (hb:w.heap.size≤g)
 (hown:w'.ownsRow w.heap.size e (Rd.k α) (.slice (some ⟨g,0,none⟩) l.length cap) l.length cells) (hz:zs.length=l.length*Rd.k α):New w w' (.slice (some ⟨g,0,none⟩) l.length cap) l:=by
 obtain⟨css,Fs,h1,h2,h3,h4,h5,h6,h7⟩:=h
 rw [List.drop_eq_nil_of_le (by omega),List.append_nil] at h5
 rcases hown.2 with ⟨hc,_⟩|⟨g',cap',cur,hv,hg',hgg,hn,hm,hs,ht⟩
 · simp at hc
 simp only [Value.slice.injEq,Option.some.injEq,Addr.mk.injEq,and_true,true_and] at hv
 obtain⟨rfl,rfl⟩:=hv
 by_cases h0:l.length=0
 · refine⟨[],Sl.vl ⟨rfl,hn,hm,css,Fs,h1,h2,h3,.inl ⟨h0,rfl⟩⟩,by simp,by simp⟩
 refine⟨g::Fs.flatten,Sl.vl ⟨rfl,hn,hm,css,Fs,h1,h2,h3,.inr ⟨g,0,rfl,rfl,(Array.getElem?_eq_some_iff.1 hgg).1,fun i cs j u hcs hu=>?_⟩⟩,fun b hb'=>?_,?_⟩
 · have hcl:cs.length=Rd.k α:=h4 cs (List.mem_of_getElem? hcs)
   have hi:i<css.length:=(List.getElem?_eq_some_iff.1 hcs).1
   have hj:j<cs.length:=(List.getElem?_eq_some_iff.1 hu).1
   have hh:=Nat.mul_le_mul_right (Rd.k α) (show i+1≤l.length by omega)
   rw [Nat.add_mul,Nat.one_mul] at hh
   rw [Nat.zero_add,hown.cellAt _ (by omega),h5]
   clear h3 h6 h7 hown ht hh h5 h1
   induction css generalizing i with
   | nil=>simp at hcs
   | cons c css ih=>
    rw [List.flatten_cons]
    match i,hcs,hi with
    | 0,hcs,hi=>
     simp at hcs;subst hcs
     rw [Nat.zero_mul,Nat.zero_add,List.getElem?_append_left hj];exact hu
    | i+1,hcs,hi=>
     have hc':c.length=Rd.k α:=h4 c (by simp)
     rw [List.getElem?_append_right (by rw [hc',Nat.add_mul,Nat.one_mul];omega)]
     have e':(i+1)*Rd.k α+j-c.length=i*Rd.k α+j:=by rw [hc',Nat.add_mul,Nat.one_mul];omega
     rw [e']
     exact ih (fun cs hc=>h4 cs (List.mem_cons_of_mem _ hc)) i (by simpa using hcs) (by simpa using hi)
 · rcases List.mem_cons.1 hb' with rfl|hb'
   · exact⟨hb,cur,e,hgg⟩
   exact⟨Nat.le_trans hb (Nat.le_trans (Nat.le_of_lt hg) (h6 b hb').1),(h6 b hb').2.2⟩
 exact List.nodup_cons.2 ⟨fun hm'=>by have:=(h6 _ hm').1;omega,h7⟩
end Go.Q
namespace Go.Q
open Go.RowKit
def GoodX (w:World):Prop:=w.ShapedOpen Go.Proofs.Tryz.prog∧(Lib.TabIs Go.Proofs.Tryz.prog w "internal/strconv.uint64pow10" .u64 Lib.pow10Tab)∧(∃ tp p,w.var? Go.Proofs.Tryz.prog "strconv.ErrSyntax"=some #[.iface tp p])
structure Good (w:World) (H:List Nat):Prop where
 low:Go.Proofs.Tryz.prog.low≤w.heap.size
 ex:∃ w0,GoodX w0∧∀ k,k<Go.Proofs.Tryz.prog.low→w.heap[k]?=w0.heap[k]?
 off:∀ b∈H,Go.Proofs.Tryz.prog.low≤b
theorem Good.nil {w:World} {H:List Nat} (h:Good w H):Good w []:=⟨h.low,h.ex,fun _ hb=>by cases hb⟩
theorem Good.step {w w':World} {H G:List Nat} (h:Good w H) (hs:w.heap.size≤w'.heap.size) (hk:∀ k,k<w.heap.size→k∉H→w'.heap[k]?=w.heap[k]?) (hG:∀ b∈G,w.heap.size≤b∨b∈H):Good w' G:=by
 obtain⟨w0,h0,h1⟩:=h.ex
 refine⟨Nat.le_trans h.low hs,⟨w0,h0,fun k hlt=>(hk k (Nat.lt_of_lt_of_le hlt h.low) fun hm=>by have:=h.off k hm;omega).trans (h1 k hlt)⟩,fun b hb=>?_⟩
 rcases hG b hb with g|g
 · exact Nat.le_trans h.low g
 exact h.off b g
theorem Good.ext {w w':World} {H:List Nat} (h:Good w H) (hx:Ext w w'):Good w' []:=
 h.nil.step hx.size (fun k hk _=>hx.block hk) fun _ hb=>by cases hb
theorem Good.get {w:World} {H:List Nat} (h:Good w H) {k:Nat} {p:Option Obj→Prop} (hk:k<Go.Proofs.Tryz.prog.low) (hp:∀ w0,GoodX w0→p w0.heap[k]?):p w.heap[k]?:=by
 obtain⟨w0,h0,h1⟩:=h.ex
 rw [h1 k hk];exact hp w0 h0
theorem low_lt:Go.Proofs.Tryz.prog.globals.size<Go.Proofs.Tryz.prog.low:=of_decide_eq_true (by kernel_rfl)
theorem good_of {w:World} (h:GoodX w):Good w []:=by
 have e:Go.Proofs.Tryz.prog.low≤w.heap.size:=by
  have hl:=low_lt
  obtain⟨o,_,h1,_⟩:=h.1.2 (Go.Proofs.Tryz.prog.low-1) (by omega) (by show Go.Proofs.Tryz.prog.low-1<Go.Proofs.Tryz.prog.low;omega)
  have:=(Array.getElem?_eq_some_iff.1 h1).1
  omega
 exact⟨e,⟨w,h,fun _ _=>rfl⟩,fun _ hb=>by cases hb⟩
theorem frame_laid {H:Type} {enc:TypeId×Value→H} {C:Checked} {os:Os} {f:FuncId} {fn:Func} {s:ChangeSpec} {conds:List PathCond} {apart fresh handsOn again:Bool} {X:World→Prop}
 (hX:∀ (w w':World),w.heap=w'.heap→X w→X w')
 (own:ownKnob C.prog.godebug=none) (started:os.Started) (noInit:C.prog.inits.idxOf? f=none) (hfn:C.prog.funcs[f]?=some fn)
 (witness:∃ (w:World) (tape:Tape) (i:Input),w.os=os∧(w.forCall tape i).Shaped C.prog∧i.vars=[]∧Input.okWide C.prog (w.forCall tape i) .any w.heap.size f i∧
  ((s.pre enc C.prog fn conds apart (w.forCall tape i).memory i.args∧X (w.forCall tape i).memory)∧sizedMet enc C.prog fn (OpenSpec.ofChange s) apart (w.forCall tape i).memory i.args)∧({}:Assume).holds C.prog (lone (Frame.enter C.prog f i.args .normal) [] (w.forCall tape i)))
 (contract:∀ (W:World) (base:Nat) (args:Array Value) (ds gs:List (DataW H)) (before:List MemPlace),
  (∀ (j:Nat) t v,fn.params[j]?=some t→args[j]?=some v→Value.okWide C.prog W .any base t v)→
  DataW.Whole enc C.prog fn.params.toList s.vars apart W args.toList ds gs before→
  X W→W.ShapedOpen C.prog→
  Calls C.prog f args W fun e W'=>∃ v,e=.returned v∧s.post enc C.prog fn apart fresh handsOn again W args v W') :
 ReturnsInHanded {} C os f .any (fun w args=>(s.pre enc C.prog fn conds apart w args∧X w)∧sizedMet enc C.prog fn (OpenSpec.ofChange s) apart w args) (s.post enc C.prog fn apart fresh handsOn again):=by
 refine returnsInHanded_of_calls own started noInit witness ?_;intro w tape i _ hsh _ hok hpre _
 obtain⟨_,_,_,fn',hfn',_,_,_,_,hval⟩:=hok
 have e:fn'=fn:=Option.some.inj (hfn'.symm.trans hfn)
 subst e
 obtain⟨⟨⟨ds,gs,before,hw,hc⟩,hx⟩,hz⟩:=hpre
 have hw':=DataW.Whole.of_heap (w':=w.forCall tape i) (by rfl) hw
 refine (contract (w.forCall tape i) w.heap.size i.args ds gs before hval hw' (hX _ _ (by rfl) hx) hsh).mono fun e W' ⟨v,he,hp⟩=>?_;subst he;exact ChangeSpec.post_blind hp
theorem laid_one {P:Program} {w:World} {l:List (String×DataW Unit)} (n:String) {x:String×DataW Unit} (h:laidMet P l w) (e:(l.filter fun y=>y.1 == n)=[x]):laidMet P [x] w:=by
 have:=laidMet.filter (fun y=>y.1 == n) h
 rw [e] at this;exact this
end Go.Q
namespace Go.Q
open Go.RowKit
open Rd (rd)

def Later (w:World):Type:={ w':World // Ext w w' }
instance {w:World}:Nonempty (Later w):=⟨⟨w,Ext.refl w⟩⟩
instance {w:World}:Inhabited (Later w):=⟨⟨w,Ext.refl w⟩⟩
theorem wp_region_later {P:Program} {id:Nat} {Q:Exit→Act→World→Prop} {a:Act} {w:World} {l:List Oper} (hm:P.follows .mixedOrders=true) (hB:Region.lexB .any l.toArray=true)
 (h:wpQuiet P l.toArray (fun w'=>∃ x:Later w,w'=x.1) (fun a'=>∀ w',(∃ x:Later w,w'=x.1)→Q .normal a' w') l a):(Code.region id l.toArray true).wp P Q a w:=
 wp_region_quiet (C:=fun w'=>∃ x:Later w,w'=x.1) hm hB ⟨⟨_,(Ext.refl w).drawn⟩,rfl⟩ (by simpa using h)
theorem Later.cell {w:World} {p:Addr} {v:Value} (hc:w.cell? p=some v):∀ x:Later w,x.1.cell? p=some v:=fun x=>x.2.cell hc
theorem Later.ext {w:World} (x:Later w):Ext w x.1:=x.2

structure MP where
 on:List Nat
 p:(Nat→Value)→Value→World→Prop
 mono:∀ {vs v w w'},p vs v w→Ext w w'→p vs v w'
 loc:∀ {vs vs' v w},(∀ j∈on,vs' j=vs j)→p vs v w→p vs' v w
def MP.is (u:Value):MP:=⟨[],fun _ v _=>v=u,fun h _=>h,fun _ h=>h⟩
def MP.any:MP:=⟨[],fun _ _ _=>True,fun h _=>h,fun _ h=>h⟩
def MP.vl {α:Type} [Rd α] (x:α):MP:=⟨[],fun _ v w=>∃ F,Vl w v x F,fun ⟨F,h⟩ he=>⟨F,h.mono he⟩,fun _ h=>h⟩
def MP.new2 {α β:Type} [Rd α] [Rd β] (j:Nat) (u:World) (x:α) (y:β):MP:=
 ⟨[j],fun vs v w=>∃ m n,u.heap.size≤m∧Pc u.heap.size m w (vs j) x∧Pc m n w v y,fun ⟨m,n,l,h,k⟩ he=>⟨m,n,l,h.mono he,k.mono he⟩,fun hv ⟨m,n,l,h,k⟩=>⟨m,n,l,by rw [hv j (by simp)];exact h,k⟩⟩
def MP.new3 {α β γ:Type} [Rd α] [Rd β] [Rd γ] (i j:Nat) (u:World) (x:α) (y:β) (z:γ):MP:=
 ⟨[i,j],fun vs v w=>∃ m n o,u.heap.size≤m∧m≤n∧Pc u.heap.size m w (vs i) x∧Pc m n w (vs j) y∧Pc n o w v z,fun ⟨m,n,o,l1,l2,h,k,l⟩ he=>⟨m,n,o,l1,l2,h.mono he,k.mono he,l.mono he⟩,
  fun hv ⟨m,n,o,l1,l2,h,k,l⟩=>⟨m,n,o,l1,l2,by rw [hv i (by simp)];exact h,by rw [hv j (by simp)];exact k,l⟩⟩
theorem Thaw.mono {w w':World} {b:Nat} (h:Thaw w b) (he:Ext w w'):Thaw w' b:=by
 obtain⟨c,e,h⟩:=h
 exact⟨c,e,(he.block (Array.getElem?_eq_some_iff.1 h).1).trans h⟩
theorem New.mono {α:Type} [Rd α] {w w' w'':World} {v:Value} {x:α} (h:New w w' v x) (he:Ext w' w''):New w w'' v x:=
 let ⟨F,h1,h2,h3⟩:=h;⟨F,h1.mono he,fun b hb=>⟨(h2 b hb).1,(h2 b hb).2.mono he⟩,h3⟩
theorem New.old {α:Type} [Rd α] {w0 w w':World} {v:Value} {x:α} (h:New w w' v x) (he:Ext w0 w):New w0 w' v x:=
 let ⟨F,h1,h2,h3⟩:=h;⟨F,h1,fun b hb=>⟨Nat.le_trans he.size (h2 b hb).1,(h2 b hb).2⟩,h3⟩
theorem New.vl {α:Type} [Rd α] {w w':World} {v:Value} {x:α} (h:New w w' v x):∃ F,Vl w' v x F:=let ⟨F,h1,_⟩:=h;⟨F,h1⟩
def MP.new {α:Type} [Rd α] (w0:World) (x:α):MP:=⟨[],fun _ v w=>New w0 w v x,fun h he=>h.mono he,fun _ h=>h⟩

def deps (o:Oper):List Nat:=(o.after.toList.filter (Region.binds .any ·)).map (·.on)

theorem mem_deps {o:Oper} {j:Nat}:j∈deps o↔∃ e∈o.after,Region.binds .any e=true∧e.on=j:=by
 simp [deps,List.mem_filter,and_assoc]

def unl (N:Nat) (listed:Array Bool):Nat:=(List.range N).countP fun j=>!listed.getD j false
theorem unl_set (listed:Array Bool) (i:Nat) (hu:listed.getD i false=false) (hs:i<listed.size):∀ N,unl N listed=unl N (listed.setIfInBounds i true)+if i<N then 1 else 0
 | 0=>by simp [unl]
 | N+1=>by
  have ih:=unl_set listed i hu hs N
  unfold unl at *
  rw [List.range_succ,List.countP_append,List.countP_append]
  simp only [List.countP_cons,List.countP_nil,Nat.zero_add]
  by_cases hiN:i=N
  · subst hiN
    have h1:(listed.setIfInBounds i true).getD i false=true:=by simp [hs]
    rw [ih,h1,hu]
    simp
  rw [getD_set_ne false hiN,ih]
  have e:(i<N+1)=(i<N):=propext ⟨fun h=>by omega,fun h=>by omega⟩
  simp only [e]
  omega

section
variable {P:Program} {ops:Array Oper} {N:Nat}

end
end Go.Q
namespace Go.Q
open Go.RowKit
open Rd (rd)
theorem encs_get {α:Type} [Flat α]:∀ (l:List α) (j:Nat) (u:Value),(encs l)[j]?=some u→∃ i x r,l[i]?=some x∧(Flat.enc x)[r]?=some u∧j=i*Flat.k α+r
 | [],j,u,h=>by simp [encs] at h
 | y::l,j,u,h=>by
  have e:encs (y::l)=Flat.enc y++encs l:=by simp [encs]
  rw [e] at h
  by_cases hj:j<(Flat.enc y).length
  · rw [List.getElem?_append_left hj] at h
    exact⟨0,y,j,rfl,h,by omega⟩
  rw [List.getElem?_append_right (by omega)] at h
  obtain⟨i,x,r,h1,h2,h3⟩:=encs_get l _ u h
  refine⟨i+1,x,r,by simpa using h1,h2,?_⟩
  rw [Flat.len] at h3 hj
  rw [Nat.add_mul,Nat.one_mul]
  omega
theorem Sl.news {α:Type} [Flat α] {w:World} {ad:Addr} {m c:Nat} {l:List α} {F:List Nat} (h:Sl w (some ad) m c l F):∀ j u,(encs l)[j]?=some u→w.cell? (ad.add j)=some u:=by
 intro j u hu
 obtain⟨i,x,r,h1,h2,rfl⟩:=encs_get l j u hu
 have hi:i<m:=by rw [←h.hlen];exact (List.getElem?_eq_some_iff.1 h1).1
 obtain⟨b,off,y,ha,hy,hc⟩:=h.flat hi
 cases ha
 rw [h1] at hy
 cases hy
 have:=hc r u h2
 rw [Addr.add_lit]
 simpa [Nat.add_assoc] using this
section
variable {P:Program}
end
end Go.Q
namespace Go.Q
open Go.RowKit
inductive T where
 | v (x:Value)
 | sl (k:Nat) (rows:List (List T))
 | ad (cs:List T)
 | fn (f:Fn) (first caps:List T)
mutual
def C (o:Bool) (w:World):T→Value→List Nat→Prop
 | .v x,c,F=>c=x∧F=[]∧x.oneCell'=true
 | .sl k rows,c,F=>∃ a len cap,c=.slice a len cap∧rows.length=len∧len≤cap∧cap≤maxLen∧
  ((len=0∧F=[]∧(o=true→cap=0))∨∃ b off G,a=some ⟨b,off,none⟩∧F=b::G∧b<w.heap.size∧
   (o=true→off=0∧∃ cur e,w.heap[b]?=some (.cells cur e (0,0))∧cur.size=cap*k)∧Rws o w b k off rows G)
 | .ad cs,c,F=>∃ b off G,c=.pointer (some ⟨b,off,none⟩)∧F=b::G∧b<w.heap.size∧Ms o w b off cs G
 | .fn f first caps,c,F=>∃ xs ys G1 G2,c=.func f (List.toArray xs) (List.toArray ys)∧Cs o w first xs G1∧Cs o w caps ys G2∧F=G1++G2
def Cs (o:Bool) (w:World):List T→List Value→List Nat→Prop
 | [],cs,F=>cs=[]∧F=[]
 | t::r,cs,F=>∃ c cr G1 G2,cs=c::cr∧C o w t c G1∧Cs o w r cr G2∧F=G1++G2
def Ms (o:Bool) (w:World) (b:Nat):Nat→List T→List Nat→Prop
 | _,[],F=>F=[]
 | off,t::r,F=>∃ c G1 G2,w.cell? ⟨b,off,none⟩=some c∧C o w t c G1∧Ms o w b (off+1) r G2∧F=G1++G2
def Rws (o:Bool) (w:World) (b k:Nat):Nat→List (List T)→List Nat→Prop
 | _,[],F=>F=[]
 | off,row::r,F=>∃ G1 G2,row.length=k∧Ms o w b off row G1∧Rws o w b k (off+k) r G2∧F=G1++G2
end

theorem heap_lt {w w':World} {b:Nat} (h:w'.heap[b]?=w.heap[b]?) (hb:b<w.heap.size):b<w'.heap.size:=by
 rw [Array.getElem?_eq_getElem hb] at h
 exact (Array.getElem?_eq_some_iff.1 h).1
mutual
theorem C.congr {o:Bool} {w w':World}:∀ {t:T} {c:Value} {F:List Nat},C o w t c F→(∀ b∈F,w'.heap[b]?=w.heap[b]?)→C o w' t c F
 | .v _,_,_,h,_=>by simpa only [C] using h
 | .sl k rows,c,F,h,hc=>by
  simp only [C] at h ⊢
  obtain⟨a,len,cap,h1,h2,h3,h4,h5⟩:=h
  refine⟨a,len,cap,h1,h2,h3,h4,?_⟩
  rcases h5 with h5|⟨b,off,G,h6,rfl,h7,h8,h9⟩
  · exact .inl h5
  refine .inr ⟨b,off,G,h6,rfl,heap_lt (hc b (by simp)) h7,fun ho=>?_,Rws.congr h9 (hc b (by simp)) fun b' hb'=>hc b' (by simp [hb'])⟩
  obtain⟨h10,cur,e,h11,h12⟩:=h8 ho
  exact⟨h10,cur,e,(hc b (by simp)).trans h11,h12⟩
 | .ad cs,c,F,h,hc=>by
  simp only [C] at h ⊢
  obtain⟨b,off,G,h1,rfl,h2,h3⟩:=h
  exact⟨b,off,G,h1,rfl,heap_lt (hc b (by simp)) h2,Ms.congr h3 (hc b (by simp)) fun b' hb'=>hc b' (by simp [hb'])⟩
 | .fn f first caps,c,F,h,hc=>by
  simp only [C] at h ⊢
  obtain⟨xs,ys,G1,G2,h1,h2,h3,rfl⟩:=h
  exact⟨xs,ys,G1,G2,h1,Cs.congr h2 fun b hb=>hc b (by simp [hb]),Cs.congr h3 fun b hb=>hc b (by simp [hb]),rfl⟩
theorem Cs.congr {o:Bool} {w w':World}:∀ {ts:List T} {cs:List Value} {F:List Nat},Cs o w ts cs F→(∀ b∈F,w'.heap[b]?=w.heap[b]?)→Cs o w' ts cs F
 | [],_,_,h,_=>by simpa only [Cs] using h
 | t::r,cs,F,h,hc=>by
  simp only [Cs] at h ⊢
  obtain⟨c,cr,G1,G2,h1,h2,h3,rfl⟩:=h
  exact⟨c,cr,G1,G2,h1,C.congr h2 fun b hb=>hc b (by simp [hb]),Cs.congr h3 fun b hb=>hc b (by simp [hb]),rfl⟩
theorem Ms.congr {o:Bool} {w w':World} {b:Nat}:∀ {ts:List T} {off:Nat} {F:List Nat},Ms o w b off ts F→w'.heap[b]?=w.heap[b]?→(∀ b∈F,w'.heap[b]?=w.heap[b]?)→Ms o w' b off ts F
 | [],_,_,h,_,_=>by simpa only [Ms] using h
 | t::r,off,F,h,h0,hc=>by
  simp only [Ms] at h ⊢
  obtain⟨c,G1,G2,h1,h2,h3,rfl⟩:=h
  exact⟨c,G1,G2,(World.cell?_of_block (a:=⟨b,off,none⟩) h0).trans h1,C.congr h2 fun b hb=>hc b (by simp [hb]),Ms.congr h3 h0 fun b hb=>hc b (by simp [hb]),rfl⟩
theorem Rws.congr {o:Bool} {w w':World} {b k:Nat}:∀ {rs:List (List T)} {off:Nat} {F:List Nat},Rws o w b k off rs F→w'.heap[b]?=w.heap[b]?→(∀ b∈F,w'.heap[b]?=w.heap[b]?)→Rws o w' b k off rs F
 | [],_,_,h,_,_=>by simpa only [Rws] using h
 | t::r,off,F,h,h0,hc=>by
  simp only [Rws] at h ⊢
  obtain⟨G1,G2,h1,h2,h3,rfl⟩:=h
  exact⟨G1,G2,h1,Ms.congr h2 h0 fun b hb=>hc b (by simp [hb]),Rws.congr h3 h0 fun b hb=>hc b (by simp [hb]),rfl⟩
end
mutual
theorem C.lt {o:Bool} {w:World}:∀ {t:T} {c:Value} {F:List Nat},C o w t c F→∀ b∈F,b<w.heap.size
 | .v _,_,F,h,b,hb=>by simp only [C] at h;obtain⟨_,rfl,_⟩:=h;cases hb
 | .sl k rows,c,F,h,b,hb=>by
  simp only [C] at h
  obtain⟨a,len,cap,h1,h2,h3,h4,h5⟩:=h
  rcases h5 with ⟨_,rfl,_⟩|⟨b',off,G,h6,rfl,h7,h8,h9⟩
  · cases hb
  rcases List.mem_cons.1 hb with rfl|hb
  · exact h7
  exact Rws.lt h9 b hb
 | .ad cs,c,F,h,b,hb=>by
  simp only [C] at h
  obtain⟨b',off,G,h1,rfl,h2,h3⟩:=h
  rcases List.mem_cons.1 hb with rfl|hb
  · exact h2
  exact Ms.lt h3 b hb
 | .fn f first caps,c,F,h,b,hb=>by
  simp only [C] at h
  obtain⟨xs,ys,G1,G2,h1,h2,h3,rfl⟩:=h
  rcases List.mem_append.1 hb with hb|hb
  · exact Cs.lt h2 b hb
  exact Cs.lt h3 b hb
theorem Cs.lt {o:Bool} {w:World}:∀ {ts:List T} {cs:List Value} {F:List Nat},Cs o w ts cs F→∀ b∈F,b<w.heap.size
 | [],_,F,h,b,hb=>by simp only [Cs] at h;obtain⟨_,rfl⟩:=h;cases hb
 | t::r,cs,F,h,b,hb=>by
  simp only [Cs] at h
  obtain⟨c,cr,G1,G2,h1,h2,h3,rfl⟩:=h
  rcases List.mem_append.1 hb with hb|hb
  · exact C.lt h2 b hb
  exact Cs.lt h3 b hb
theorem Ms.lt {o:Bool} {w:World} {b0:Nat}:∀ {ts:List T} {off:Nat} {F:List Nat},Ms o w b0 off ts F→∀ b∈F,b<w.heap.size
 | [],_,F,h,b,hb=>by simp only [Ms] at h;subst h;cases hb
 | t::r,off,F,h,b,hb=>by
  simp only [Ms] at h
  obtain⟨c,G1,G2,h1,h2,h3,rfl⟩:=h
  rcases List.mem_append.1 hb with hb|hb
  · exact C.lt h2 b hb
  exact Ms.lt h3 b hb
theorem Rws.lt {o:Bool} {w:World} {b0 k:Nat}:∀ {rs:List (List T)} {off:Nat} {F:List Nat},Rws o w b0 k off rs F→∀ b∈F,b<w.heap.size
 | [],_,F,h,b,hb=>by simp only [Rws] at h;subst h;cases hb
 | t::r,off,F,h,b,hb=>by
  simp only [Rws] at h
  obtain⟨G1,G2,h1,h2,h3,rfl⟩:=h
  rcases List.mem_append.1 hb with hb|hb
  · exact Ms.lt h2 b hb
  exact Rws.lt h3 b hb
end
mutual
theorem C.read {w:World}:∀ {t:T} {c:Value} {F:List Nat},C true w t c F→C false w t c F
 | .v _,_,_,h=>by simpa only [C] using h
 | .sl k rows,c,F,h=>by
  simp only [C] at h ⊢
  obtain⟨a,len,cap,h1,h2,h3,h4,h5⟩:=h
  refine⟨a,len,cap,h1,h2,h3,h4,?_⟩
  rcases h5 with ⟨h5,h6,_⟩|⟨b,off,G,h6,rfl,h7,h8,h9⟩
  · exact .inl ⟨h5,h6,by simp⟩
  exact .inr ⟨b,off,G,h6,rfl,h7,by simp,Rws.read h9⟩
 | .ad cs,c,F,h=>by
  simp only [C] at h ⊢
  obtain⟨b,off,G,h1,rfl,h2,h3⟩:=h
  exact⟨b,off,G,h1,rfl,h2,Ms.read h3⟩
 | .fn f first caps,c,F,h=>by
  simp only [C] at h ⊢
  obtain⟨xs,ys,G1,G2,h1,h2,h3,rfl⟩:=h
  exact⟨xs,ys,G1,G2,h1,Cs.read h2,Cs.read h3,rfl⟩
theorem Cs.read {w:World}:∀ {ts:List T} {cs:List Value} {F:List Nat},Cs true w ts cs F→Cs false w ts cs F
 | [],_,_,h=>by simpa only [Cs] using h
 | t::r,cs,F,h=>by
  simp only [Cs] at h ⊢
  obtain⟨c,cr,G1,G2,h1,h2,h3,rfl⟩:=h
  exact⟨c,cr,G1,G2,h1,C.read h2,Cs.read h3,rfl⟩
theorem Ms.read {w:World} {b:Nat}:∀ {ts:List T} {off:Nat} {F:List Nat},Ms true w b off ts F→Ms false w b off ts F
 | [],_,_,h=>by simpa only [Ms] using h
 | t::r,off,F,h=>by
  simp only [Ms] at h ⊢
  obtain⟨c,G1,G2,h1,h2,h3,rfl⟩:=h
  exact⟨c,G1,G2,h1,C.read h2,Ms.read h3,rfl⟩
theorem Rws.read {w:World} {b k:Nat}:∀ {rs:List (List T)} {off:Nat} {F:List Nat},Rws true w b k off rs F→Rws false w b k off rs F
 | [],_,_,h=>by simpa only [Rws] using h
 | t::r,off,F,h=>by
  simp only [Rws] at h ⊢
  obtain⟨G1,G2,h1,h2,h3,rfl⟩:=h
  exact⟨G1,G2,h1,Ms.read h2,Rws.read h3,rfl⟩
end
theorem C.read' {o:Bool} {w:World} {t:T} {c:Value} {F:List Nat} (h:C o w t c F):C false w t c F:=by cases o;exact h;exact h.read
theorem C.mono {o:Bool} {w w':World} {t:T} {c:Value} {F:List Nat} (h:C o w t c F) (he:Ext w w'):C o w' t c F:=h.congr fun b hb=>he.block (h.lt b hb)
theorem Cs.mono {o:Bool} {w w':World} {t:List T} {c:List Value} {F:List Nat} (h:Cs o w t c F) (he:Ext w w'):Cs o w' t c F:=h.congr fun b hb=>he.block (h.lt b hb)
theorem Rws.get {o:Bool} {w:World} {b k:Nat}:∀ {rs:List (List T)} {off:Nat} {F:List Nat},Rws o w b k off rs F→∀ {i:Nat} {row:List T},rs[i]?=some row→∃ G,Ms o w b (off+i*k) row G∧row.length=k∧∀ x∈G,x∈F
 | [],_,_,_,i,row,hi=>by simp at hi
 | r::rs,off,F,h,i,row,hi=>by
  simp only [Rws] at h
  obtain⟨G1,G2,h1,h2,h3,rfl⟩:=h
  match i,hi with
  | 0,hi=>
   simp at hi;subst hi
   exact⟨G1,by simpa using h2,h1,fun x hx=>by simp [hx]⟩
  | i+1,hi=>
   obtain⟨G,g1,g2,g3⟩:=h3.get (i:=i) (by simpa using hi)
   exact⟨G,by rw [Nat.add_mul,Nat.one_mul,Nat.add_comm (i*k),←Nat.add_assoc];exact g1,g2,fun x hx=>by simp [g3 x hx]⟩
theorem Ms.drop {o:Bool} {w:World} {b:Nat}:∀ {ts:List T} {off:Nat} {F:List Nat},Ms o w b off ts F→∀ j,∃ G,Ms o w b (off+j) (ts.drop j) G∧∀ x∈G,x∈F
 | ts,off,F,h,0=>⟨F,by simpa using h,fun _ h=>h⟩
 | [],off,F,h,j+1=>⟨[],by simp [Ms],fun _ h=>by cases h⟩
 | t::ts,off,F,h,j+1=>by
  simp only [Ms] at h
  obtain⟨c,G1,G2,h1,h2,h3,rfl⟩:=h
  obtain⟨G,g1,g2⟩:=h3.drop j
  exact⟨G,by rw [List.drop_succ_cons];simpa [Nat.add_comm,Nat.add_left_comm] using g1,fun x hx=>by simp [g2 x hx]⟩
theorem Ms.take {o:Bool} {w:World} {b:Nat}:∀ {ts:List T} {off:Nat} {F:List Nat},Ms o w b off ts F→∀ j,∃ G,Ms o w b off (ts.take j) G∧∀ x∈G,x∈F
 | ts,off,F,h,0=>⟨[],by simp [Ms],fun _ h=>by cases h⟩
 | [],off,F,h,j+1=>⟨[],by simp [Ms],fun _ h=>by cases h⟩
 | t::ts,off,F,h,j+1=>by
  simp only [Ms] at h
  obtain⟨c,G1,G2,h1,h2,h3,rfl⟩:=h
  obtain⟨G,g1,g2⟩:=h3.take j
  refine⟨G1++G,by rw [List.take_succ_cons];simp only [Ms];exact⟨c,G1,G,h1,h2,g1,rfl⟩,fun x hx=>?_⟩
  rcases List.mem_append.1 hx with hx|hx
  · simp [hx]
  simp [g2 x hx]
theorem Ms.cells {o:Bool} {w:World} {b:Nat}:∀ {ts:List T} {off:Nat} {F:List Nat},Ms o w b off ts F→∃ cs,Cs o w ts cs F∧cs.length=ts.length∧∀ (j:Nat) (u:Value),cs[j]?=some u→w.cell? ⟨b,off+j,none⟩=some u
 | [],off,F,h=>⟨[],by simp only [Ms] at h;simp [Cs,h],rfl,by simp⟩
 | t::r,off,F,h=>by
  simp only [Ms] at h
  obtain⟨c,G1,G2,h1,h2,h3,rfl⟩:=h
  obtain⟨cs,g1,g2,g3⟩:=h3.cells
  refine⟨c::cs,by simp only [Cs];exact⟨c,cs,G1,G2,rfl,h2,g1,rfl⟩,by simp [g2],fun j u hj=>?_⟩
  match j,hj with
  | 0,hj=>simp at hj;subst hj;simpa using h1
  | j+1,hj=>have:=g3 j u (by simpa using hj);simpa [Nat.add_comm,Nat.add_left_comm] using this
theorem Cs.len {o:Bool} {w:World}:∀ {ts:List T} {cs:List Value} {F:List Nat},Cs o w ts cs F→cs.length=ts.length
 | [],_,_,h=>by simp only [Cs] at h;obtain⟨rfl,_⟩:=h;rfl
 | t::r,_,_,h=>by
  simp only [Cs] at h
  obtain⟨c,cr,G1,G2,rfl,h2,h3,rfl⟩:=h
  simp [h3.len]
theorem Cs.get {o:Bool} {w:World}:∀ {ts:List T} {cs:List Value} {F:List Nat},Cs o w ts cs F→∀ {i:Nat} {t:T},ts[i]?=some t→∃ c G,cs[i]?=some c∧C o w t c G∧∀ x∈G,x∈F
 | [],_,_,_,i,t,hi=>by simp at hi
 | t'::r,_,_,h,i,t,hi=>by
  simp only [Cs] at h
  obtain⟨c,cr,G1,G2,rfl,h2,h3,rfl⟩:=h
  match i,hi with
  | 0,hi=>simp at hi;subst hi;exact⟨c,G1,rfl,h2,fun x hx=>by simp [hx]⟩
  | i+1,hi=>
   obtain⟨c',G,g1,g2,g3⟩:=h3.get (i:=i) (by simpa using hi)
   exact⟨c',G,by simpa using g1,g2,fun x hx=>by simp [g3 x hx]⟩
theorem Cs.append {o:Bool} {w:World}:∀ {xs ys:List T} {cs ds:List Value} {F G:List Nat},Cs o w xs cs F→Cs o w ys ds G→Cs o w (xs++ys) (cs++ds) (F++G)
 | [],ys,cs,ds,F,G,h,h'=>by simp only [Cs] at h;obtain⟨rfl,rfl⟩:=h;exact h'
 | t::xs,ys,cs,ds,F,G,h,h'=>by
  simp only [Cs,List.cons_append] at h ⊢
  obtain⟨c,cr,G1,G2,rfl,h2,h3,rfl⟩:=h
  exact⟨c,cr++ds,G1,G2++G,rfl,h2,h3.append h',by simp⟩
theorem Rws.flat {o:Bool} {w:World} {b k:Nat}:∀ {rs:List (List T)} {off:Nat} {F:List Nat},Rws o w b k off rs F→(∀ row∈rs,row.length=k)∧∃ xs,Cs o w rs.flatten xs F∧xs.length=rs.length*k∧∀ (j:Nat) (u:Value),xs[j]?=some u→w.cell? ⟨b,off+j,none⟩=some u
 | [],off,F,h=>by simp only [Rws] at h;subst h;exact⟨by simp,[],by simp [Cs],by simp,by simp⟩
 | r::rs,off,F,h=>by
  simp only [Rws] at h
  obtain⟨G1,G2,h1,h2,h3,rfl⟩:=h
  obtain⟨g1,xs,g2,g3,g4⟩:=h3.flat
  obtain⟨cs,k1,k2,k3⟩:=h2.cells
  refine⟨fun row hr=>?_,cs++xs,by rw [List.flatten_cons];exact k1.append g2,by rw [List.length_append,k2,h1,g3,List.length_cons,Nat.add_mul,Nat.one_mul,Nat.add_comm],fun j u hj=>?_⟩
  · rcases List.mem_cons.1 hr with rfl|hr
    · exact h1
    exact g1 row hr
  by_cases hl:j<cs.length
  · rw [List.getElem?_append_left hl] at hj;exact k3 j u hj
  rw [List.getElem?_append_right (by omega)] at hj
  have:=g4 _ u hj
  rw [k2,h1] at this hl
  rw [show off+j=off+k+(j-k) by omega];exact this
theorem Cs.split {o:Bool} {w:World}:∀ {xs ys:List T} {cs:List Value} {F:List Nat},Cs o w (xs++ys) cs F→∃ c1 c2 F1 F2,cs=c1++c2∧F=F1++F2∧Cs o w xs c1 F1∧Cs o w ys c2 F2∧c1.length=xs.length
 | [],ys,cs,F,h=>⟨[],cs,[],F,rfl,rfl,by simp [Cs],h,rfl⟩
 | t::xs,ys,cs,F,h=>by
  simp only [Cs,List.cons_append] at h
  obtain⟨c,cr,G1,G2,rfl,h2,h3,rfl⟩:=h
  obtain⟨c1,c2,F1,F2,rfl,rfl,h4,h5,h6⟩:=h3.split
  exact⟨c::c1,c2,G1++F1,F2,rfl,by simp,by simp only [Cs];exact⟨c,c1,G1,F1,rfl,h2,h4,rfl⟩,h5,by simp [h6]⟩
theorem Ms.of {o:Bool} {w:World} {b:Nat}:∀ {ts:List T} {cs:List Value} {G:List Nat} {off:Nat},Cs o w ts cs G→(∀ (j:Nat) (u:Value),cs[j]?=some u→w.cell? ⟨b,off+j,none⟩=some u)→Ms o w b off ts G
 | [],cs,G,off,h,_=>by simp only [Cs] at h;simp only [Ms];exact h.2
 | t::r,cs,G,off,h,hc=>by
  simp only [Cs] at h
  obtain⟨c,cr,G1,G2,rfl,h2,h3,rfl⟩:=h
  simp only [Ms]
  exact⟨c,G1,G2,by simpa using hc 0 c rfl,h2,Ms.of h3 fun j u hj=>by have:=hc (j+1) u (by simpa using hj);simpa [Nat.add_comm,Nat.add_left_comm] using this,rfl⟩
theorem Rws.of {o:Bool} {w:World} {b k:Nat}:∀ {rs:List (List T)} {xs:List Value} {off:Nat} {F:List Nat},(∀ row∈rs,row.length=k)→Cs o w rs.flatten xs F→(∀ (j:Nat) (u:Value),xs[j]?=some u→w.cell? ⟨b,off+j,none⟩=some u)→Rws o w b k off rs F
 | [],xs,off,F,_,h,_=>by simp only [List.flatten_nil,Cs] at h;simp only [Rws];exact h.2
 | r::rs,xs,off,F,hk,h,hc=>by
  rw [List.flatten_cons] at h
  obtain⟨c1,c2,F1,F2,rfl,rfl,h1,h2,h3⟩:=h.split
  have hr:=hk r (by simp)
  simp only [Rws]
  refine⟨F1,F2,hr,Ms.of h1 fun j u hj=>hc j u ?_,Rws.of (fun row hm=>hk row (by simp [hm])) h2 fun j u hj=>?_,rfl⟩
  · rw [List.getElem?_append_left (List.getElem?_eq_some_iff.1 hj).1];exact hj
  have:=hc (k+j) u (by rw [List.getElem?_append_right (by omega),show k+j-c1.length=j by omega];exact hj)
  rw [Nat.add_assoc];exact this
end Go.Q
namespace Go.Q
open Go.RowKit
inductive E where
 | t (x:T)
 | rf (id:Nat)
 | vw (id:Nat) (x:T)
 | pp (id off:Nat)
 | pr (id k i j:Nat)
 | sb (id k i j:Nat)
 | tl (id k j:Nat)
 | pf (id k m:Nat)
 | no
inductive A where
 | one (e:E)
 | agg (l:List E)
inductive S where
 | a (x:A)
 | tup (l:List A)
theorem U {α:Sort _} {a:α}:a=a:=rfl
theorem Y:True:=trivial
inductive R where
 | row (k:Nat) (rows:List (List T))
 | box (cs:List E)
 | hdr (j:Option Nat) (x:Value)
 | blk (j:Option Nat) (b:Nat)
 | kept (K:List (Nat×Obj))
 | opq
 | cur (g:Nat×Value)
 | mp (b:Nat) (f:Int→Int→Int→Int)
structure St where
 n:Nat
 slots:List (Nat×(Bool×S))
 res:List (Nat×R)
def inZ (P:Program) (t:TypeId):Option (Option Value×Nat×Nat):=(P.info? t).map fun i=>(i.zero,i.size,i.bytes)
def stB (P:Program) (t:TypeId):Bool:=(match P.underlying t with|some (.struct fs)=>fs.all (fun f=>(P.info? f.type).isSome)|_=>false)
def look {α:Type}:List (Nat×α)→Nat→Option α
 | [],_=>none
 | (i,x)::r,j=>bif Nat.beq i j then some x else look r j
theorem look_cons {α:Type} (i:Nat) (x:α) (r:List (Nat×α)) (j:Nat):look ((i,x)::r) j=if i=j then some x else look r j:=by
 rw [look]
 by_cases h:i=j
 · subst h;simp [Nat.beq_refl]
 have:Nat.beq i j=false:=by
  cases hb:Nat.beq i j with
  | false=>rfl
  | true=>exact absurd (Nat.eq_of_beq_eq_true hb) h
 rw [this,if_neg h];rfl
structure Ip where
 Z:Nat→Prop
 F:Nat→List Nat
 hd:Nat→Value
 B:Nat→Nat
def VE (I:Ip) (w:World):E→Value→Prop
 | .t x,c=>∃ G,C false w x c G∧∀ b∈G,I.Z b
 | .rf id,c=>c=I.hd id∧∃ a l k,c=.slice a l k
 | .vw id x,c=>∃ G,C false w x c G∧∀ b∈G,b∈I.F id
 | .pp id off,c=>c=.pointer (some ⟨I.B id,off,none⟩)
 | .pr id k i j,c=>∃ g n m,I.hd id=.slice (some ⟨g,0,none⟩) n m∧c=.pointer (some ⟨g,i*k+j,none⟩)
 | .sb id k i j,c=>∃ g n m,I.hd id=.slice (some ⟨g,0,none⟩) n m∧g∈I.F id∧g<w.heap.size∧w.cell? ⟨g,i*k+j,none⟩=some c
 | .tl id k j,c=>∃ a a' n m,I.hd id=.slice a n m∧c=.slice a' (n-j) (m-j)∧j≤n∧n≤m∧(j<m→∃ g,a=some ⟨g,0,none⟩∧a'=some ⟨g,j*k,none⟩)
 | .pf id _ m,c=>∃ a n M,I.hd id=.slice a n M∧c=.slice a m M∧m≤n
 | .no,_=>True
def VEs (I:Ip) (w:World):List E→List Value→Prop
 | [],cs=>cs=[]
 | e::r,cs=>∃ c cr,cs=c::cr∧VE I w e c∧VEs I w r cr
def VA (I:Ip) (w:World):A→Value→Prop
 | .one e,v=>VE I w e v
 | .agg l,v=>∃ cs,v=.agg (List.toArray cs)∧VEs I w l cs
def VAs (I:Ip) (w:World):List A→List Value→Prop
 | [],cs=>cs=[]
 | e::r,cs=>∃ c cr,cs=c::cr∧VA I w e c∧VAs I w r cr
def VS (I:Ip) (w:World):Bool×S→Value→Prop
 | (p,x),v=>if p=true then (match x with|.a x=>VA I w x v|.tup l=>∃ vs,v=.tuple (List.toArray vs)∧VAs I w l vs) else v=undef
def byR (bs:List Int):List (List T):=bs.map fun n=>[.v (.int .u8 n)]
def CuB (Z:Nat→Prop) (w:World) (g:Nat×Value):Prop:=∃ i h e G bs,w.heap[g.1]?=some (.cells #[g.2,.int .i64 i,.int .i64 h] e (0,0))∧C false w (.sl 1 (byR bs)) g.2 G∧(∀ b∈G,Z b)∧0≤i∧∀ n∈bs,0≤n∧n<256
theorem CuB.congr {Z Z':Nat→Prop} {w w':World} {g:Nat×Value} (h:CuB Z w g) (h0:w'.heap[g.1]?=w.heap[g.1]?) (hZ:∀ b,b<w.heap.size→Z b→Z' b∧w'.heap[b]?=w.heap[b]?):CuB Z' w' g:=by
 obtain⟨i,x,e,G,bs,h1,h2,h3,h4,h5⟩:=h
 exact⟨i,x,e,G,bs,h0.trans h1,h2.congr fun b hb=>(hZ b (h2.lt b hb) (h3 b hb)).2,fun b hb=>(hZ b (h2.lt b hb) (h3 b hb)).1,h4,h5⟩
theorem CuB.lt {Z:Nat→Prop} {w:World} {g:Nat×Value} (h:CuB Z w g):g.1<w.heap.size:=by
 obtain⟨i,x,e,G,bs,h1,_⟩:=h
 exact (Array.getElem?_eq_some_iff.1 h1).1
def wfI (x:Int):Prop:= -9223372036854775808≤x∧x≤9223372036854775807
def MapB (w:World) (b:Nat) (f:Int→Int→Int→Int):Prop:=∃ es k,w.heap[b]?=some (.map es k)∧∀ e∈es.toList,∃ x y z:Int,e.key=.agg #[.int .i64 x,.int .i64 y,.int .i64 z]∧(wfI x∧wfI y∧wfI z)∧e.val=.int .i64 (f x y z)
theorem MapB.congr {w w':World} {b:Nat} {f:Int→Int→Int→Int} (h:MapB w b f) (h0:w'.heap[b]?=w.heap[b]?):MapB w' b f:=by
 obtain⟨es,k,h1,h2⟩:=h
 exact⟨es,k,h0.trans h1,h2⟩
theorem MapB.lt {w:World} {b:Nat} {f:Int→Int→Int→Int} (h:MapB w b f):b<w.heap.size:=by
 obtain⟨es,k,h1,_⟩:=h
 exact (Array.getElem?_eq_some_iff.1 h1).1
def RR (I:Ip) (w:World) (id:Nat):R→Prop
 | .row k rows=>C true w (.sl k rows) (I.hd id) (I.F id)
 | .box cs=>I.F id=[I.B id]∧∃ vs e,w.heap[I.B id]?=some (.cells (List.toArray vs) e (0,0))∧VEs I w cs vs
 | .hdr j x=>I.F id=[]∧∀ i,j=some i→I.hd i=x
 | .blk j b=>I.F id=[]∧∀ i,j=some i→I.B i=b
 | .kept K=>I.F id=[]∧∀ x∈K,w.heap[x.1]?=some x.2∧I.Z x.1
 | .opq=>True
 | .cur g=>I.F id=[g.1]∧I.B id=g.1∧CuB I.Z w g
 | .mp b f=>I.F id=[b]∧MapB w b f
structure Chg (w w':World) (G:List Nat):Prop where
 os:w'.os=w.os
 tape:w'.tape=w.tape
 output:w'.output=w.output
 size:w.heap.size≤w'.heap.size
 block:∀ k,k<w.heap.size→k∉G→w'.heap[k]?=w.heap[k]?
theorem Chg.refl (w:World) (G:List Nat):Chg w w G:=⟨rfl,rfl,rfl,Nat.le_refl _,fun _ _ _=>rfl⟩
theorem Chg.later {w w' w1:World} {G:List Nat} (h:Chg w w' G) (hx:Ext w' w1):Chg w w1 G:=
 ⟨hx.os.trans h.os,hx.tape.trans h.tape,hx.output.trans h.output,Nat.le_trans h.size hx.size,fun k hk hn=>(hx.block (Nat.lt_of_lt_of_le hk h.size)).trans (h.block k hk hn)⟩
theorem Chg.toExt {w w':World} (h:Chg w w' []):Ext w w':=(Ext.refl w).trans' h.os h.tape h.output h.size fun k hk=>h.block k hk (by simp)
structure Base where
 W:World
 H:List Nat
 good:Good W H
def Base.own (w0:Base) (b:Nat):Prop:=w0.W.heap.size≤b∨b∈w0.H
structure RelI (I:Ip) (w0:Base) (σ:St) (a:Act) (w:World):Prop where
 ext:Chg w0.W w w0.H
 defers:a.defers=[]
 size:a.tmps.size=σ.n
 slots:∀ i x,look σ.slots i=some x→VS I w x (a.tmps.getD i undef)
 res:∀ id r,look σ.res id=some r→RR I w id r
 old:∀ b,I.Z b→b<w.heap.size
 lt:∀ id,∀ b∈I.F id,b<w.heap.size∧¬ I.Z b
 own:∀ id r,look σ.res id=some r→(I.F id).Nodup∧∀ b∈I.F id,w0.own b∧Thaw w b
 apart:∀ i j,i≠j→∀ b∈I.F i,b∉I.F j
def Rel (w0:Base) (σ:St) (a:Act) (w:World):Prop:=∃ I,RelI I w0 σ a w
theorem RelI.goodF {I:Ip} {w0:Base} {σ:St} {a:Act} {w:World} (h:RelI I w0 σ a w) {G:List Nat} (hG:∀ b∈G,w0.own b):Good w G:=w0.good.step h.ext.size h.ext.block hG
theorem RelI.good {I:Ip} {w0:Base} {σ:St} {a:Act} {w:World} (h:RelI I w0 σ a w):Good w []:=h.goodF fun _ hb=>by cases hb

theorem VE.mono {I:Ip} {w w':World} (hx:Ext w w') {e:E} {c:Value} (h:VE I w e c):VE I w' e c:=by
 cases e with
 | t x=>obtain⟨G,h1,h2⟩:=h;exact⟨G,h1.mono hx,h2⟩
 | vw id x=>obtain⟨G,h1,h2⟩:=h;exact⟨G,h1.mono hx,h2⟩
 | rf id=>exact h
 | tl id k j=>exact h
 | pf id k j=>exact h
 | pp id o=>exact h
 | pr id k i j=>exact h
 | sb id k i j=>obtain⟨g,n,m,h1,h2,h3,h4⟩:=h;exact⟨g,n,m,h1,h2,heap_lt (hx.block h3) h3,(World.cell?_of_block (a:=⟨g,_,none⟩) (hx.block h3)).trans h4⟩
 | no=>trivial
theorem VEs.mono {I:Ip} {w w':World} (hx:Ext w w'):∀ {l:List E} {cs:List Value},VEs I w l cs→VEs I w' l cs
 | [],_,h=>h
 | _::_,_,⟨c,cr,h1,h2,h3⟩=>⟨c,cr,h1,h2.mono hx,h3.mono hx⟩
theorem VA.mono {I:Ip} {w w':World} (hx:Ext w w') {x:A} {v:Value} (h:VA I w x v):VA I w' x v:=by
 cases x with
 | one e=>exact VE.mono hx h
 | agg l=>obtain⟨cs,h1,h2⟩:=h;exact⟨cs,h1,h2.mono hx⟩
theorem VAs.mono {I:Ip} {w w':World} (hx:Ext w w'):∀ {l:List A} {cs:List Value},VAs I w l cs→VAs I w' l cs
 | [],_,h=>h
 | _::_,_,⟨c,cr,h1,h2,h3⟩=>⟨c,cr,h1,h2.mono hx,h3.mono hx⟩
theorem VS.mono {I:Ip} {w w':World} (hx:Ext w w') {x:Bool×S} {v:Value} (h:VS I w x v):VS I w' x v:=by
 obtain⟨p,x⟩:=x
 cases p
 · exact h
 cases x with
 | a x=>exact VA.mono hx h
 | tup l=>obtain⟨vs,h1,h2⟩:=h;exact⟨vs,h1,h2.mono hx⟩
theorem RR.mono {I:Ip} {w w':World} (hx:Ext w w') {id:Nat} {r:R} (h:RR I w id r):RR I w' id r:=by
 cases r with
 | row k rows=>exact C.mono h hx
 | box cs=>
  obtain⟨h1,vs,e,h2,h3⟩:=h
  exact⟨h1,vs,e,(hx.block (Array.getElem?_eq_some_iff.1 h2).1).trans h2,h3.mono hx⟩
 | hdr j x=>exact h
 | blk j b=>exact h
 | opq=>trivial
 | cur g=>exact⟨h.1,h.2.1,h.2.2.congr (hx.block h.2.2.lt) fun b hb hz=>⟨hz,hx.block hb⟩⟩
 | mp b f=>exact⟨h.1,h.2.congr (hx.block h.2.lt)⟩
 | kept K=>exact⟨h.1,fun x hx'=>⟨(hx.block (Array.getElem?_eq_some_iff.1 (h.2 x hx').1).1).trans (h.2 x hx').1,(h.2 x hx').2⟩⟩
theorem RelI.later {I:Ip} {w0:Base} {w w':World} {σ:St} {a:Act} (h:RelI I w0 σ a w) (hx:Ext w w'):RelI I w0 σ a w':=
 ⟨h.ext.later hx,h.defers,h.size,fun i x hi=>(h.slots i x hi).mono hx,fun id r hi=>(h.res id r hi).mono hx,fun b hb=>Nat.lt_of_lt_of_le (h.old b hb) hx.size,
  fun id b hb=>⟨Nat.lt_of_lt_of_le (h.lt id b hb).1 hx.size,(h.lt id b hb).2⟩,
  fun id r hi=>⟨(h.own id r hi).1,fun b hb=>⟨((h.own id r hi).2 b hb).1,((h.own id r hi).2 b hb).2.ext hx⟩⟩,h.apart⟩
def St.put (σ:St) (d:Option Tmp) (x:Bool×S):St:=match d with|some d=>{ σ with slots:=(d,x)::σ.slots }|none=>σ
theorem RelI.put {I:Ip} {w0:Base} {w:World} {σ:St} {a:Act} (h:RelI I w0 σ a w) {d:Option Tmp} {x:Bool×S} {v:Value} (hd:d.all (fun d=>Nat.blt d σ.n)=true) (hv:VS I w x v):RelI I w0 (σ.put d x) (a.put d v) w:=by
 cases d with
 | none=>exact h
 | some d=>
  have hd':d<a.tmps.size:=by rw [h.size];have h2:Nat.blt d σ.n=true:=hd;exact Nat.le_of_ble_eq_true h2
  refine⟨h.ext,h.defers,by simp [Act.put,St.put,h.size],fun i y hi=>?_,h.res,h.old,h.lt,h.own,h.apart⟩
  rw [St.put,look_cons] at hi
  by_cases e:d=i
  · subst e
    rw [if_pos rfl] at hi
    cases hi
    simpa [Act.put,hd'] using hv
  rw [if_neg e] at hi
  have:=h.slots i y hi
  simpa [Act.put,Array.getElem?_setIfInBounds_ne e] using this
def E.has (id:Nat):E→Bool
 | .rf i|.vw i _|.pp i _|.pr i _ _ _|.sb i _ _ _|.tl i _ _|.pf i _ _=>Nat.beq i id
 | _=>false
def A.has (id:Nat):A→Bool
 | .one e=>e.has id
 | .agg l=>l.any (E.has id)
def S.has (id:Nat):S→Bool
 | .a x=>x.has id
 | .tup l=>l.any (A.has id)
def R.has (id:Nat):R→Bool
 | .row _ _=>false
 | .box cs=>cs.any (E.has id)
 | .hdr (some j) _=>Nat.beq j id
 | .hdr none _=>false
 | .blk (some j) _=>Nat.beq j id
 | .blk none _=>false
 | .kept _=>false
 | .opq=>false
 | .cur _=>false
 | .mp _ _=>false
def St.has (σ:St) (id:Nat):Bool:=σ.slots.any (fun x=>x.2.2.has id)||σ.res.any (fun x=>Nat.beq x.1 id||x.2.has id)
def Ip.set (I:Ip) (id:Nat) (G:List Nat) (v:Value) (b:Nat):Ip:=
 ⟨I.Z,fun i=>if i=id then G else I.F i,fun i=>if i=id then v else I.hd i,fun i=>if i=id then b else I.B i⟩
theorem beq_ne {i j:Nat} (h:Nat.beq i j=false):i≠j:=fun e=>by subst e;rw [Nat.beq_refl] at h;cases h
theorem VE.set {I:Ip} {w:World} {id:Nat} {G:List Nat} {u:Value} {b:Nat} {e:E} {c:Value} (he:e.has id=false) (h:VE I w e c):VE (I.set id G u b) w e c:=by
 cases e with
 | t x=>exact h
 | no=>trivial
 | rf i=>simp only [VE,Ip.set] at h ⊢;rw [if_neg (beq_ne he)];exact h
 | tl i k j=>simp only [VE,Ip.set] at h ⊢;simp only [if_neg (beq_ne he)];exact h
 | pf i k j=>simp only [VE,Ip.set] at h ⊢;simp only [if_neg (beq_ne he)];exact h
 | vw i x=>simp only [VE,Ip.set] at h ⊢;simp only [if_neg (beq_ne he)];exact h
 | pp i o=>simp only [VE,Ip.set] at h ⊢;rw [if_neg (beq_ne he)];exact h
 | pr i k p q=>simp only [VE,Ip.set] at h ⊢;rw [if_neg (beq_ne he)];exact h
 | sb i k p q=>simp only [VE,Ip.set] at h ⊢;simp only [if_neg (beq_ne he)];exact h
theorem VEs.set {I:Ip} {w:World} {id:Nat} {G:List Nat} {u:Value} {b:Nat}:∀ {l:List E} {cs:List Value},l.any (E.has id)=false→VEs I w l cs→VEs (I.set id G u b) w l cs
 | [],_,_,h=>h
 | _::_,_,he,⟨c,cr,h1,h2,h3⟩=>by
  simp only [List.any_cons,Bool.or_eq_false_iff] at he
  exact⟨c,cr,h1,h2.set he.1,h3.set he.2⟩
theorem VA.set {I:Ip} {w:World} {id:Nat} {G:List Nat} {u:Value} {b:Nat} {x:A} {v:Value} (he:x.has id=false) (h:VA I w x v):VA (I.set id G u b) w x v:=by
 cases x with
 | one e=>exact VE.set he h
 | agg l=>obtain⟨cs,h1,h2⟩:=h;exact⟨cs,h1,h2.set he⟩
theorem VAs.set {I:Ip} {w:World} {id:Nat} {G:List Nat} {u:Value} {b:Nat}:∀ {l:List A} {cs:List Value},l.any (A.has id)=false→VAs I w l cs→VAs (I.set id G u b) w l cs
 | [],_,_,h=>h
 | _::_,_,he,⟨c,cr,h1,h2,h3⟩=>by
  simp only [List.any_cons,Bool.or_eq_false_iff] at he
  exact⟨c,cr,h1,h2.set he.1,h3.set he.2⟩
theorem VS.set {I:Ip} {w:World} {id:Nat} {G:List Nat} {u:Value} {b:Nat} {x:Bool×S} {v:Value} (he:x.2.has id=false) (h:VS I w x v):VS (I.set id G u b) w x v:=by
 obtain⟨p,x⟩:=x
 cases p
 · exact h
 cases x with
 | a x=>exact VA.set he h
 | tup l=>obtain⟨vs,h1,h2⟩:=h;exact⟨vs,h1,h2.set he⟩
theorem RR.set {I:Ip} {w:World} {id:Nat} {G:List Nat} {u:Value} {b:Nat} {i:Nat} {r:R} (hi:i≠id) (he:r.has id=false) (h:RR I w i r):RR (I.set id G u b) w i r:=by
 cases r with
 | row k rows=>simp only [RR,Ip.set,if_neg hi] at h ⊢;exact h
 | box cs=>
  obtain⟨h1,vs,e,h2,h3⟩:=h
  refine⟨by simp only [Ip.set,if_neg hi];exact h1,vs,e,by simp only [Ip.set,if_neg hi];exact h2,h3.set he⟩
 | kept K=>exact⟨by simp only [Ip.set,if_neg hi];exact h.1,h.2⟩
 | opq=>trivial
 | cur g=>simp only [RR,Ip.set,if_neg hi] at h ⊢;exact h
 | mp b f=>simp only [RR,Ip.set,if_neg hi] at h ⊢;exact h
 | hdr j x=>
  refine⟨by simp only [Ip.set,if_neg hi];exact h.1,fun k hk=>?_⟩
  subst hk
  simp only [Ip.set,if_neg (beq_ne he)]
  exact h.2 k rfl
 | blk j b=>
  refine⟨by simp only [Ip.set,if_neg hi];exact h.1,fun k hk=>?_⟩
  subst hk
  simp only [Ip.set,if_neg (beq_ne he)]
  exact h.2 k rfl
theorem look_mem {α:Type}:∀ {l:List (Nat×α)} {i:Nat} {x:α},look l i=some x→(i,x)∈l
 | [],_,_,h=>by cases h
 | (j,y)::l,i,x,h=>by
  rw [look_cons] at h
  by_cases e:j=i
  · subst e;rw [if_pos rfl] at h;cases h;simp
  rw [if_neg e] at h;simp [look_mem h]
theorem St.has_slot {σ:St} {id i:Nat} {x:Bool×S} (h:σ.has id=false) (hi:look σ.slots i=some x):x.2.has id=false:=by
 simp only [St.has,Bool.or_eq_false_iff,List.any_eq_false] at h
 simpa using h.1 _ (look_mem hi)
theorem St.has_res {σ:St} {id i:Nat} {r:R} (h:σ.has id=false) (hi:look σ.res i=some r):i≠id∧r.has id=false:=by
 simp only [St.has,Bool.or_eq_false_iff,List.any_eq_false] at h
 have:=h.2 _ (look_mem hi)
 simp only [Bool.or_eq_true,not_or,Bool.not_eq_true] at this
 exact⟨beq_ne this.1,this.2⟩
def St.add (σ:St) (id:Nat) (r:R):St:={ σ with res:=(id,r)::σ.res }
theorem RelI.add {I:Ip} {w0:Base} {w w':World} {σ:St} {a:Act} (h:RelI I w0 σ a w) {id:Nat} (hf:σ.has id=false) (hx:Ext w w') {G:List Nat} {u:Value} {b:Nat} {r:R}
 (hG:G.Nodup∧∀ b∈G,w.heap.size≤b∧b<w'.heap.size∧Thaw w' b) (hr:RR (I.set id G u b) w' id r):RelI (I.set id G u b) w0 (σ.add id r) a w':=by
 have h':=h.later hx
 have key:∀ i r',look (σ.add id r).res i=some r'→(i=id∧r'=r)∨(i≠id∧look σ.res i=some r'):=by
  intro i r' hi
  rw [St.add,look_cons] at hi
  by_cases e:id=i
  · rw [if_pos e] at hi;cases hi;exact .inl ⟨e.symm,rfl⟩
  rw [if_neg e] at hi;exact .inr ⟨fun e'=>e e'.symm,hi⟩
 have Fid:(I.set id G u b).F id=G:=by simp [Ip.set]
 have Foth:∀ i,i≠id→(I.set id G u b).F i=I.F i:=fun i hi=>by simp [Ip.set,hi]
 refine⟨h'.ext,h'.defers,h'.size,fun i x hi=>(h'.slots i x hi).set (St.has_slot hf hi),fun i r' hi=>?_,h'.old,fun i b hb=>?_,fun i r' hi=>?_,fun i j hne=>?_⟩
 · rcases key i r' hi with ⟨rfl,rfl⟩|⟨e,hi⟩
   · exact hr
   exact (h'.res i r' hi).set e (St.has_res hf hi).2
 · by_cases e:i=id
   · rw [e,Fid] at hb
     exact⟨(hG.2 b hb).2.1,fun hz=>by have:=h.old b hz;have:=(hG.2 b hb).1;omega⟩
   rw [Foth i e] at hb;exact h'.lt i b hb
 · rcases key i r' hi with ⟨rfl,rfl⟩|⟨e,hi⟩
   · rw [Fid]
     exact⟨hG.1,fun b hb=>⟨.inl (Nat.le_trans h.ext.size (hG.2 b hb).1),(hG.2 b hb).2.2⟩⟩
   rw [Foth i e];exact h'.own i r' hi
 by_cases ei:i=id
 · by_cases ej:j=id
   · exact absurd (ei.trans ej.symm) hne
   rw [ei,Fid,Foth j ej]
   exact fun b hb hb'=>by have:=(h.lt j b hb').1;have:=(hG.2 b hb).1;omega
 by_cases ej:j=id
 · rw [ej,Fid,Foth i ei]
   exact fun b hb hb'=>by have:=(h.lt i b hb).1;have:=(hG.2 b hb').1;omega
 rw [Foth i ei,Foth j ej];exact h.apart i j hne
def E.pur (id:Nat):E→E
 | .rf i=>bif Nat.beq i id then .no else .rf i
 | .vw i x=>bif Nat.beq i id then .no else .vw i x
 | .pr i k p q=>bif Nat.beq i id then .no else .pr i k p q
 | .sb i k p q=>bif Nat.beq i id then .no else .sb i k p q
 | .tl i k j=>bif Nat.beq i id then .no else .tl i k j
 | .pf i k j=>bif Nat.beq i id then .no else .pf i k j
 | e=>e
def A.pur (id:Nat):A→A
 | .one e=>.one (e.pur id)
 | .agg l=>.agg (l.map (E.pur id))
def S.pur (id:Nat):S→S
 | .a x=>.a (x.pur id)
 | .tup l=>.tup (l.map (A.pur id))
def R.pur (id:Nat):R→R
 | .row k rows=>.row k rows
 | .box cs=>.box (cs.map (E.pur id))
 | .hdr j x=>.hdr (match j with|some j=>bif Nat.beq j id then none else some j|none=>none) x
 | .blk j b=>.blk (match j with|some j=>bif Nat.beq j id then none else some j|none=>none) b
 | .kept K=>.kept K
 | .opq=>.opq
 | .cur g=>.cur g
 | .mp b f=>.mp b f
def setR:List (Nat×R)→Nat→R→List (Nat×R)
 | [],_,_=>[]
 | (i,x)::l,id,r=>bif Nat.beq i id then (i,r)::l else (i,x)::setR l id r
def St.pur (σ:St) (id:Nat):St:={ σ with slots:=σ.slots.map (fun x=>(x.1,(x.2.1,x.2.2.pur id))),res:=σ.res.map (fun x=>(x.1,x.2.pur id)) }
def St.chg (σ:St) (id:Nat) (r:R):St:={ σ.pur id with res:=setR (σ.pur id).res id r }
theorem look_map {α β:Type} (f:α→β):∀ (l:List (Nat×α)) (i:Nat),look (l.map fun x=>(x.1,f x.2)) i=(look l i).map f
 | [],_=>rfl
 | (j,y)::l,i=>by
  rw [List.map_cons,look_cons,look_cons]
  by_cases e:j=i
  · rw [if_pos e,if_pos e];rfl
  rw [if_neg e,if_neg e];exact look_map f l i
theorem look_setR:∀ (l:List (Nat×R)) (id:Nat) (r:R) (i:Nat) (x:R),look (setR l id r) i=some x→(i=id∧x=r∧∃ y,look l id=some y)∨(i≠id∧look l i=some x)
 | [],_,_,_,_,h=>by cases h
 | (j,y)::l,id,r,i,x,h=>by
  rw [setR] at h
  by_cases e:j=id
  · subst e
    simp only [Nat.beq_refl,cond_true] at h
    rw [look_cons] at h
    by_cases e:j=i
    · rw [if_pos e] at h;cases h;exact .inl ⟨e.symm,rfl,y,by rw [look_cons,if_pos rfl]⟩
    rw [if_neg e] at h;exact .inr ⟨fun h=>e h.symm,by rw [look_cons,if_neg e];exact h⟩
  have eb:Nat.beq j id=false:=by
   cases hb:Nat.beq j id with
   | false=>rfl
   | true=>exact absurd (Nat.eq_of_beq_eq_true hb) e
  simp only [eb,cond_false] at h
  rw [look_cons] at h
  by_cases e':j=i
  · rw [if_pos e'] at h;cases h
    exact .inr ⟨fun h=>e (e'.trans h),by rw [look_cons,if_pos e']⟩
  rw [if_neg e'] at h
  rcases look_setR l id r i x h with ⟨h1,h2,y',h3⟩|⟨h1,h2⟩
  · exact .inl ⟨h1,h2,y',by rw [look_cons,if_neg e];exact h3⟩
  exact .inr ⟨h1,by rw [look_cons,if_neg e'];exact h2⟩
theorem Chg.ext {w0:Base} {w w':World} {G:List Nat} (h:Chg w0.W w w0.H) (hc:Chg w w' G) (hG:∀ b∈G,w0.own b):Chg w0.W w' w0.H:=
 ⟨hc.os.trans h.os,hc.tape.trans h.tape,hc.output.trans h.output,Nat.le_trans h.size hc.size,fun k hk hn=>(hc.block k (Nat.lt_of_lt_of_le hk h.size) fun hm=>by
  rcases hG k hm with g|g
  · omega
  exact hn g).trans (h.block k hk hn)⟩
theorem VE.pur {I:Ip} {w w':World} {id:Nat} {G:List Nat} {u:Value} (hc:Chg w w' (I.F id)) (hZ:∀ b,I.Z b→b∉I.F id) (hv:∀ i,i≠id→∀ b∈I.F i,b∉I.F id) {e:E} {c:Value} (h:VE I w e c) :
 VE (I.set id G u (I.B id)) w' (e.pur id) c:=by
 have hb:∀ (i:Nat),(bif Nat.beq i id then true else false)=true↔i=id:=fun i=>by
  cases hb:Nat.beq i id with
  | false=>simp [beq_ne hb]
  | true=>simp [Nat.eq_of_beq_eq_true hb]
 cases e with
 | t x=>obtain⟨G,h1,h2⟩:=h;exact⟨G,h1.congr fun b hb=>hc.block b (h1.lt b hb) (hZ b (h2 b hb)),h2⟩
 | no=>trivial
 | rf i=>
  simp only [E.pur]
  cases e:Nat.beq i id with
  | true=>trivial
  | false=>simp only [cond_false,VE,Ip.set] at h ⊢;rw [if_neg (beq_ne e)];exact h
 | tl i k j=>
  simp only [E.pur]
  cases e:Nat.beq i id with
  | true=>trivial
  | false=>simp only [cond_false,VE,Ip.set] at h ⊢;simp only [if_neg (beq_ne e)];exact h
 | pf i k j=>
  simp only [E.pur]
  cases e:Nat.beq i id with
  | true=>trivial
  | false=>simp only [cond_false,VE,Ip.set] at h ⊢;simp only [if_neg (beq_ne e)];exact h
 | vw i x=>
  simp only [E.pur]
  cases e:Nat.beq i id with
  | true=>trivial
  | false=>
   obtain⟨G',h1,h2⟩:=h
   simp only [cond_false,VE,Ip.set,if_neg (beq_ne e)]
   exact⟨G',h1.congr fun b hb=>hc.block b (h1.lt b hb) (hv i (beq_ne e) b (h2 b hb)),h2⟩
 | pr i k p q=>
  simp only [E.pur]
  cases e:Nat.beq i id with
  | true=>trivial
  | false=>simp only [cond_false,VE,Ip.set] at h ⊢;rw [if_neg (beq_ne e)];exact h
 | sb i k p q=>
  simp only [E.pur]
  cases e:Nat.beq i id with
  | true=>trivial
  | false=>
   obtain⟨g,n,m,h1,h2,h3,h4⟩:=h
   have hb':=hc.block g h3 (hv i (beq_ne e) g h2)
   simp only [cond_false,VE,Ip.set,if_neg (beq_ne e)]
   exact⟨g,n,m,h1,h2,heap_lt hb' h3,(World.cell?_of_block (a:=⟨g,_,none⟩) hb').trans h4⟩
 | pp i o=>
  simp only [E.pur,VE,Ip.set] at h ⊢
  by_cases e:i=id
  · rw [if_pos e,←e];exact h
  rw [if_neg e];exact h
theorem VEs.pur {I:Ip} {w w':World} {id:Nat} {G:List Nat} {u:Value} (hc:Chg w w' (I.F id)) (hZ:∀ b,I.Z b→b∉I.F id) (hv:∀ i,i≠id→∀ b∈I.F i,b∉I.F id):∀ {l:List E} {cs:List Value},VEs I w l cs→
 VEs (I.set id G u (I.B id)) w' (l.map (E.pur id)) cs
 | [],_,h=>h
 | _::_,_,⟨c,cr,h1,h2,h3⟩=>⟨c,cr,h1,h2.pur hc hZ hv,h3.pur hc hZ hv⟩
theorem VA.pur {I:Ip} {w w':World} {id:Nat} {G:List Nat} {u:Value} (hc:Chg w w' (I.F id)) (hZ:∀ b,I.Z b→b∉I.F id) (hv:∀ i,i≠id→∀ b∈I.F i,b∉I.F id) {x:A} {v:Value} (h:VA I w x v) :
 VA (I.set id G u (I.B id)) w' (x.pur id) v:=by
 cases x with
 | one e=>exact VE.pur hc hZ hv h
 | agg l=>obtain⟨cs,h1,h2⟩:=h;exact⟨cs,h1,h2.pur hc hZ hv⟩
theorem VAs.pur {I:Ip} {w w':World} {id:Nat} {G:List Nat} {u:Value} (hc:Chg w w' (I.F id)) (hZ:∀ b,I.Z b→b∉I.F id) (hv:∀ i,i≠id→∀ b∈I.F i,b∉I.F id):∀ {l:List A} {cs:List Value},VAs I w l cs→
 VAs (I.set id G u (I.B id)) w' (l.map (A.pur id)) cs
 | [],_,h=>h
 | _::_,_,⟨c,cr,h1,h2,h3⟩=>⟨c,cr,h1,h2.pur hc hZ hv,h3.pur hc hZ hv⟩
theorem VS.pur {I:Ip} {w w':World} {id:Nat} {G:List Nat} {u:Value} (hc:Chg w w' (I.F id)) (hZ:∀ b,I.Z b→b∉I.F id) (hv:∀ i,i≠id→∀ b∈I.F i,b∉I.F id) {x:Bool×S} {v:Value} (h:VS I w x v) :
 VS (I.set id G u (I.B id)) w' (x.1,x.2.pur id) v:=by
 obtain⟨p,x⟩:=x
 cases p
 · exact h
 cases x with
 | a x=>exact VA.pur hc hZ hv h
 | tup l=>obtain⟨vs,h1,h2⟩:=h;exact⟨vs,h1,h2.pur hc hZ hv⟩
theorem Thaw.chg {w w':World} {G:List Nat} (hc:Chg w w' G) {b:Nat} (h:Thaw w b) (hb:b∉G):Thaw w' b:=by
 obtain⟨c,e,h⟩:=h
 exact⟨c,e,(hc.block b (Array.getElem?_eq_some_iff.1 h).1 hb).trans h⟩
def Free (I:Ip) (w0:Base) (w:World) (b:Nat):Prop:=w0.own b∧b<w.heap.size∧Thaw w b∧¬ I.Z b∧∀ i,b∉I.F i
theorem RelI.chg {I:Ip} {w0:Base} {w w':World} {σ:St} {a:Act} (h:RelI I w0 σ a w) {id:Nat} {r0:R} (h0:look σ.res id=some r0) (hc:Chg w w' (I.F id)) {G:List Nat} {u:Value} {r:R}
 (hG:G.Nodup∧∀ b∈G,w0.own b∧b<w'.heap.size∧Thaw w' b∧(b∈I.F id∨w.heap.size≤b∨Free I w0 w b)) (hr:RR (I.set id G u (I.B id)) w' id r):RelI (I.set id G u (I.B id)) w0 (σ.chg id r) a w':=by
 have hZ:∀ b,I.Z b→b∉I.F id:=fun b hz hb=>(h.lt id b hb).2 hz
 have hv:∀ i,i≠id→∀ b∈I.F i,b∉I.F id:=fun i hi=>h.apart i id hi
 have Fid:(I.set id G u (I.B id)).F id=G:=by simp [Ip.set]
 have Foth:∀ i,i≠id→(I.set id G u (I.B id)).F i=I.F i:=fun i hi=>by simp [Ip.set,hi]
 have key:∀ i r',look (σ.chg id r).res i=some r'→(i=id∧r'=r)∨(i≠id∧∃ y,look σ.res i=some y∧r'=y.pur id):=by
  intro i r' hi
  rcases look_setR _ _ _ _ _ hi with ⟨h1,h2,_⟩|⟨h1,h2⟩
  · exact .inl ⟨h1,h2⟩
  refine .inr ⟨h1,?_⟩
  rw [St.pur,look_map] at h2
  obtain⟨y,hy,e⟩:=Option.map_eq_some_iff.1 h2
  exact⟨y,hy,e.symm⟩
 refine⟨Chg.ext h.ext hc fun b hb=>((h.own id r0 h0).2 b hb).1,h.defers,h.size,fun i x hi=>?_,fun i r' hi=>?_,fun b hb=>Nat.lt_of_lt_of_le (h.old b hb) hc.size,fun i b hb=>?_,fun i r' hi=>?_,fun i j hne=>?_⟩
 · have hi':look (σ.slots.map fun x=>(x.1,(x.2.1,x.2.2.pur id))) i=some x:=hi
   rw [look_map (fun x:Bool×S=>(x.1,x.2.pur id))] at hi'
   obtain⟨y,hy,rfl⟩:=Option.map_eq_some_iff.1 hi'
   exact (h.slots i y hy).pur hc hZ hv
 · rcases key i r' hi with ⟨rfl,rfl⟩|⟨e,y,hy,rfl⟩
   · exact hr
   have:=h.res i y hy
   cases y with
   | row k rows=>
    have this:C true w (.sl k rows) (I.hd i) (I.F i):=this
    show C true w' (.sl k rows) _ _
    simp only [Ip.set,if_neg e]
    exact this.congr fun b hb=>hc.block b (this.lt b hb) (hv i e b hb)
   | box cs=>
    obtain⟨h1,vs,t,h2,h3⟩:=this
    refine⟨by simpa only [Ip.set,if_neg e] using h1,vs,t,?_,h3.pur hc hZ hv⟩
    simp only [Ip.set,if_neg e]
    exact (hc.block _ (Array.getElem?_eq_some_iff.1 h2).1 (hv i e _ (by rw [h1];simp))).trans h2
   | opq=>trivial
   | cur g=>
    have this:I.F i=[g.1]∧I.B i=g.1∧CuB I.Z w g:=this
    refine⟨by simpa only [Ip.set,if_neg e] using this.1,by simpa only [Ip.set,if_neg e] using this.2.1,?_⟩
    exact this.2.2.congr (hc.block _ this.2.2.lt (hv i e _ (by rw [this.1];simp))) fun b hb hz=>⟨hz,hc.block b hb (hZ b hz)⟩
   | mp b f=>
    have this:I.F i=[b]∧MapB w b f:=this
    exact⟨by simpa only [Ip.set,if_neg e] using this.1,this.2.congr (hc.block _ this.2.lt (hv i e _ (by rw [this.1];simp)))⟩
   | kept K=>exact⟨by simp only [Ip.set,if_neg e];exact this.1,fun x hx=>⟨(hc.block x.1 (h.old _ (this.2 x hx).2) (hZ _ (this.2 x hx).2)).trans (this.2 x hx).1,(this.2 x hx).2⟩⟩
   | hdr j x=>
    refine⟨by simp only [Ip.set,if_neg e];exact this.1,fun k hk=>?_⟩
    cases j with
    | none=>cases hk
    | some j=>
     simp only at hk
     cases hb:Nat.beq j id with
     | true=>rw [hb] at hk;cases hk
     | false=>
      rw [hb] at hk
      cases hk
      simp only [Ip.set,if_neg (beq_ne hb)]
      exact this.2 _ rfl
   | blk j b=>
    refine⟨by simp only [Ip.set,if_neg e];exact this.1,fun k hk=>?_⟩
    cases j with
    | none=>cases hk
    | some j=>
     simp only at hk
     cases hb:Nat.beq j id with
     | true=>rw [hb] at hk;cases hk
     | false=>
      rw [hb] at hk
      cases hk
      simp only [Ip.set,if_neg (beq_ne hb)]
      exact this.2 _ rfl
 · by_cases e:i=id
   · rw [e,Fid] at hb
     have g:=hG.2 b hb
     refine⟨g.2.1,fun hz=>?_⟩
     rcases g.2.2.2 with g|g|g
     · exact (h.lt id b g).2 hz
     · have:=h.old b hz;omega
     exact g.2.2.2.1 hz
   rw [Foth i e] at hb
   exact⟨Nat.lt_of_lt_of_le (h.lt i b hb).1 hc.size,(h.lt i b hb).2⟩
 · rcases key i r' hi with ⟨rfl,rfl⟩|⟨e,y,hy,rfl⟩
   · rw [Fid];exact⟨hG.1,fun b hb=>⟨(hG.2 b hb).1,(hG.2 b hb).2.2.1⟩⟩
   rw [Foth i e]
   exact⟨(h.own i y hy).1,fun b hb=>⟨((h.own i y hy).2 b hb).1,((h.own i y hy).2 b hb).2.chg hc (hv i e b hb)⟩⟩
 by_cases ei:i=id
 · by_cases ej:j=id
   · exact absurd (ei.trans ej.symm) hne
   rw [ei,Fid,Foth j ej]
   intro b hb hb'
   rcases (hG.2 b hb).2.2.2 with g|g|g
   · exact h.apart id j (fun e=>ej e.symm) b g hb'
   · have:=(h.lt j b hb').1;omega
   exact g.2.2.2.2 j hb'
 by_cases ej:j=id
 · rw [ej,Fid,Foth i ei]
   intro b hb hb'
   rcases (hG.2 b hb').2.2.2 with g|g|g
   · exact h.apart i id ei b hb g
   · have:=(h.lt i b hb).1;omega
   exact g.2.2.2.2 i hb
 rw [Foth i ei,Foth j ej];exact h.apart i j hne
end Go.Q
