import Derived.WalkKit
import Derived.ProofKit
import Derived.OpenShut
import Derived.ShutString
import Derived.ChangeOld
import Derived.Below
import Derived.BigQuiet
import Derived.StillTail
import Derived.Test.YtdhojcaoljhbiaaGreatProg
import Derived.ChangeAgain
import Derived.Lib.LaidTab
import Derived.Lib.ItoaNum
import Derived.HandedShaped
import Derived.LaidSub
import Derived.Laws.OwnMore
import Derived.Orders
import Derived.Deep.LoopGhost
set_option linter.unusedVariables false
set_option linter.unusedSimpArgs false
open Nat renaming beq->Z9,blt->ZA,le_trans->ZC,add_mul->ZF,one_mul->ZG,lt_of_lt_of_le->ZI,eq_of_beq_eq_true->ZN,add_comm->ZO,add_assoc->ZV,beq_refl->ZW,le_of_ble_eq_true->ZX,ble->ZZ,zero_add->Aae,add_left_comm->Aaf,le_refl->Aag,mul_le_mul_right->Aai
open Array renaming getElem?_eq_some_iff->ZB,getElem?_eq_getElem->ZS,getD_eq_getD_getElem?->Aaq,replicate->Aar
open Go.Proofs.Tryz renaming prog->ZD
open List renaming getElem?_eq_some_iff->ZE,toArray->ZH,mem_cons->ZJ,getElem?_eq_getElem->ZK,getElem?_append_right->ZL,mem_append->ZM,getElem?_append_left->ZP,mem_cons_of_mem->ZQ,mem_flatten->ZR,flatten_cons->ZU,mem_of_getElem?->Aaa,length_append->Aab,length_cons->Aac,length_take->Aad,flatten_append->Aaj,flatten_singleton->Aak,countP_append->Aal,cons_append->Aam,any_cons->Aan,any_eq_false->Aao
open Go.World renaming cell?_of_block->ZT,setCell->Aah
open Bool renaming or_eq_false_iff->ZY,and_eq_true->Aas
namespace Go.Q
section
open Go.RowKit
theorem hid {p:Prop} (h:p):Hid p:=h
def Ext (w w':World):Prop:=Below w.heap.size w w'
theorem Ext.refl (w:World):Ext w w:=Below.refl _ _
theorem Ext.trans {a b c:World} (h:Ext a b) (k:Ext b c):Ext a c:=Below.trans h (Below.mono k h.size)
theorem Ext.trans' {a b c:World} (h:Ext a b) (h1:c.os=b.os) (h2:c.tape=b.tape) (h3:c.output=b.output) (h4:b.heap.size≤c.heap.size) (h5:∀ k,k<a.heap.size→c.heap[k]?=b.heap[k]?):Ext a c:=
 ⟨h1.trans h.os,h2.trans h.tape,h3.trans h.output,ZC h.size h4,fun k hk=>(h5 k hk).trans (h.block k hk)⟩
theorem Ext.drew {a w:World} (h:Ext a w):Ext a w.drew:=Below.drew h
theorem Ext.drawn {a w:World} (h:Ext a w):Ext a { w with drawn:=w.drawn+1 }:=Below.drew h
theorem Ext.alloc {a w:World} (h:Ext a w) (o:Obj):Ext a (w.alloc o):=Below.alloc h h.size o
theorem Ext.setCell {a w:World} (h:Ext a w) {p:Addr} (hp:a.heap.size≤p.block) (u:Value):Ext a (w.setCell p u):=Below.setCell h hp u
theorem Ext.size {a w:World} (h:Ext a w):a.heap.size≤w.heap.size:=Below.size h
theorem Ext.block {w w':World} (h:Ext w w') {b:Nat} (hb:b<w.heap.size):w'.heap[b]?=w.heap[b]?:=Below.block h b hb
theorem Ext.cell {w w':World} (h:Ext w w') {p:Addr} {v:Value} (hc:w.cell? p=some v):w'.cell? p=some v:=
 (Below.cell h (World.block_lt_of_cell? w p hc)).trans hc
theorem Ext.grown {a w w':World} {row:Option Nat} (h:Ext a w) (hg:w.grownBy w' row) (hr:∀ k,row=some k→a.heap.size≤k):Ext a w':=Below.grown h hg h.size hr
class Rd (α:Type) where
 k:Nat
 agg:Bool
 rd:World→List Value→α→List Nat→Prop
 len:∀ {w:World} {cs:List Value} {a:α} {F:List Nat},rd w cs a F→cs.length=k
 congr:∀ {w w':World} {cs:List Value} {a:α} {F:List Nat},rd w cs a F→(∀ b∈F,w'.heap[b]?=w.heap[b]?)→rd w' cs a F
 lt:∀ {w:World} {cs:List Value} {a:α} {F:List Nat},rd w cs a F→∀ b∈F,b<w.heap.size
open Rd (rd)
theorem Rd.mono {α:Type} [Rd α] {w w':World} {cs:List Value} {a:α} {F:List Nat} (h:rd w cs a F) (he:Ext w w'):rd w' cs a F:=
 Rd.congr h fun b hb=>he.block (Rd.lt h b hb)
class Gy (α:Type) where
 k:Nat
 agg:Bool
 enc:α→List Value
 len:∀ a,(enc a).length=k
instance {α:Type} [Gy α]:Rd α where
 k:=Gy.k α
 agg:=Gy.agg α
 rd _ cs a F:=cs=Gy.enc a∧F=[]
 len h:=by obtain⟨rfl,_⟩:=h;exact Gy.len _
 congr h _:=h
 lt h:=by obtain⟨_,rfl⟩:=h;intro b hb;cases hb
instance:Gy Int:=⟨1,false,fun a=>[.int .i64 a],fun _=>rfl⟩
instance:Gy Bool:=⟨1,false,fun a=>[.bool a],fun _=>rfl⟩
structure Sl {α:Type} [Rd α] (w:World) (a:Option Addr) (len cap:Nat) (l:List α) (F:List Nat):Prop where
 hlen:l.length=len
 hcap:len≤cap
 hmax:cap≤maxLen
 els:∃ (css:List (List Value)) (Fs:List (List Nat)),css.length=len∧Fs.length=len∧
  (∀ (i:Nat) (x:α) (cs:List Value) (f:List Nat),l[i]?=some x→css[i]?=some cs→Fs[i]?=some f→rd w cs x f)∧
  ((len=0∧F=[])∨∃ b off,a=some ⟨b,off,none⟩∧F=b::Fs.flatten∧b<w.heap.size∧
   ∀ (i:Nat) (cs:List Value) (j:Nat) (u:Value),css[i]?=some cs→cs[j]?=some u→w.cell? ⟨b,off+i*Rd.k α+j,none⟩=some u)
theorem Sl.congr {α:Type} [Rd α] {w w':World} {a:Option Addr} {len cap:Nat} {l:List α} {F:List Nat} (h:Sl w a len cap l F) (hc:∀ b∈F,w'.heap[b]?=w.heap[b]?):Sl w' a len cap l F:=by
 obtain⟨h1,h2,h3,css,Fs,h4,h5,h6,h7⟩:=h
 refine⟨h1,h2,h3,css,Fs,h4,h5,?_,?_⟩
 · intro i x cs f hx hcs hf
   have hi:i<len:=by have:=(ZE.1 hf).1;omega
   refine Rd.congr (h6 i x cs f hx hcs hf) fun b hb=>hc b ?_
   rcases h7 with ⟨h0,_⟩|⟨b0,off,_,rfl,_⟩
   · omega
   exact ZQ _ (ZR.2 ⟨f,Aaa hf,hb⟩)
 rcases h7 with h0|⟨b0,off,ha,rfl,hlt,hcell⟩
 · exact .inl h0
 refine .inr ⟨b0,off,ha,rfl,?_,fun i cs j u hcs hu=>?_⟩
 · have:=hc b0 (by simp)
   rw [ZS hlt] at this
   exact (ZB.1 this).1
 rw [ZT (w:=w) (a:=⟨b0,_,none⟩) (hc b0 (by simp))]
 exact hcell i cs j u hcs hu
theorem Sl.lt {α:Type} [Rd α] {w:World} {a:Option Addr} {len cap:Nat} {l:List α} {F:List Nat} (h:Sl w a len cap l F):∀ b∈F,b<w.heap.size:=by
 obtain⟨h1,h2,h3,css,Fs,h4,h5,h6,h7⟩:=h
 rcases h7 with ⟨_,rfl⟩|⟨b0,off,ha,rfl,hlt,hcell⟩
 · intro b hb;cases hb
 intro b hb
 rcases ZJ.1 hb with rfl|hb
 · exact hlt
 obtain⟨f,hf,hbf⟩:=ZR.1 hb
 obtain⟨i,hi⟩:=List.getElem?_of_mem hf
 have hil:i<len:=by have:=(ZE.1 hi).1;omega
 exact Rd.lt (h6 i (l[i]'(by omega)) (css[i]'(by omega)) f (ZK _) (ZK _) hi) b hbf
theorem Sl.mono {α:Type} [Rd α] {w w':World} {a:Option Addr} {len cap:Nat} {l:List α} {F:List Nat} (h:Sl w a len cap l F) (he:Ext w w'):Sl w' a len cap l F:=
 h.congr fun b hb=>he.block (h.lt b hb)
theorem Sl.le {α:Type} [Rd α] {w:World} {a:Option Addr} {len cap:Nat} {l:List α} {F:List Nat} (h:Sl w a len cap l F):len≤9223372036854775807:=by
 have:=h.hcap;have:=h.hmax;unfold maxLen at *;omega
theorem Sl.at {α:Type} [Rd α] {w:World} {a:Option Addr} {len cap:Nat} {l:List α} {F:List Nat} (h:Sl w a len cap l F) {i:Nat} (hi:i<len) :
 ∃ b off x cs f,a=some ⟨b,off,none⟩∧l[i]?=some x∧rd w cs x f∧(∀ b'∈f,b'∈F)∧∀ (j:Nat) (u:Value),cs[j]?=some u→w.cell? ⟨b,off+i*Rd.k α+j,none⟩=some u:=by
 obtain⟨h1,h2,h3,css,Fs,h4,h5,h6,h7⟩:=h
 rcases h7 with ⟨h0,_⟩|⟨b0,off,ha,rfl,hlt,hcell⟩
 · omega
 refine⟨b0,off,l[i]'(by omega),css[i]'(by omega),Fs[i]'(by omega),ha,ZK _,
  h6 i _ _ _ (ZK _) (ZK _) (ZK _),fun b' hb'=>?_,fun j u hj=>hcell i _ j u (ZK _) hj⟩
 exact ZQ _ (ZR.2 ⟨_,List.getElem_mem _,hb'⟩)
theorem Sl.flat {α:Type} [Gy α] {w:World} {a:Option Addr} {len cap:Nat} {l:List α} {F:List Nat} (h:Sl w a len cap l F) {i:Nat} (hi:i<len) :
 ∃ b off x,a=some ⟨b,off,none⟩∧l[i]?=some x∧∀ (j:Nat) (u:Value),(Gy.enc x)[j]?=some u→w.cell? ⟨b,off+i*Gy.k α+j,none⟩=some u:=by
 obtain⟨b,off,x,cs,f,ha,hx,hr,_,hc⟩:=h.at hi
 obtain⟨rfl,_⟩:cs=Gy.enc x∧f=[]:=hr
 exact⟨b,off,x,ha,hx,hc⟩
theorem Sl.int {w:World} {a:Option Addr} {len cap:Nat} {l:List Int} {F:List Nat} (h:Sl w a len cap l F) {i:Nat} (hi:i<len) :
 ∃ b off x,a=some ⟨b,off,none⟩∧l[i]?=some x∧w.cell? ⟨b,off+i,none⟩=some (.int .i64 x):=by
 obtain⟨b,off,x,ha,hx,hc⟩:=h.flat hi
 exact⟨b,off,x,ha,hx,by simpa [Gy.k] using hc 0 _ rfl⟩
theorem Sl.bool {w:World} {a:Option Addr} {len cap:Nat} {l:List Bool} {F:List Nat} (h:Sl w a len cap l F) {i:Nat} (hi:i<len) :
 ∃ b off x,a=some ⟨b,off,none⟩∧l[i]?=some x∧w.cell? ⟨b,off+i,none⟩=some (.bool x):=by
 obtain⟨b,off,x,ha,hx,hc⟩:=h.flat hi
 exact⟨b,off,x,ha,hx,by simpa [Gy.k] using hc 0 _ rfl⟩
instance {α:Type} [Rd α]:Rd (List α) where
 k:=1
 agg:=false
 rd w cs l F:=∃ a len cap,cs=[.slice a len cap]∧Sl w a len cap l F
 len:=by rintro w cs a F ⟨_,_,_,rfl,_⟩;rfl
 congr:=by rintro w w' cs l F ⟨a,len,cap,rfl,h⟩ hc;exact⟨a,len,cap,rfl,h.congr hc⟩
 lt:=by rintro w cs l F ⟨a,len,cap,rfl,h⟩;exact h.lt
def Vl {α:Type} [Rd α] (w:World) (v:Value) (x:α) (F:List Nat):Prop:=∃ cs,rd w cs x F∧v=if Rd.agg α then .agg cs.toArray else cs.headD undef
theorem Vl.mono {α:Type} [Rd α] {w w':World} {v:Value} {x:α} {F:List Nat} (h:Vl w v x F) (he:Ext w w'):Vl w' v x F:=
 let ⟨cs,hr,hv⟩:=h;⟨cs,Rd.mono hr he,hv⟩
theorem Vl.sl {α:Type} [Rd α] {w:World} {v:Value} {l:List α} {F:List Nat} (h:Vl w v l F):∃ a len cap,v=.slice a len cap∧Sl w a len cap l F:=by
 obtain⟨cs,⟨a,len,cap,rfl,hs⟩,rfl⟩:=h
 exact⟨a,len,cap,rfl,hs⟩
theorem Sl.vl {α:Type} [Rd α] {w:World} {l:List α} {F:List Nat} {a:Option Addr} {len cap:Nat} (h:Sl w a len cap l F):Vl w (.slice a len cap) l F:=
 ⟨_,⟨a,len,cap,rfl,h⟩,rfl⟩
def UD {α:Type} [Gy α] (l:List α):List Value:=l.flatMap Gy.enc
def ThB:Array Value ⊕ Array MapEntry→Nat→Obj
 | .inl c,e=>.cells c e (0,0)
 | .inr m,k=>.map m k
instance:Coe (Array Value) (Array Value ⊕ Array MapEntry):=⟨.inl⟩
def DJ (w:World) (b:Nat):Prop:=∃ c e,w.heap[b]?=some (ThB c e)
def New {α:Type} [Rd α] (w w':World) (v:Value) (x:α):Prop:=∃ F,Vl w' v x F∧(∀ b∈F,w.heap.size≤b∧DJ w' b)∧F.Nodup
def Box (w:World) (b:Nat) (vs:List Value) (t:TypeId):Prop:=w.heap[b]?=some (.cells vs.toArray t (0,0))
theorem Box.lt {w:World} {b:Nat} {vs:List Value} {t:TypeId} (h:Box w b vs t):b<w.heap.size:=(ZB.1 h).1
theorem Box.mono {w w':World} {b:Nat} {vs:List Value} {t:TypeId} (h:Box w b vs t) (he:Ext w w'):Box w' b vs t:=(he.block h.lt).trans h
theorem Box.new (w:World) (vs:Array Value) (t:TypeId):Box (w.alloc (.cells vs t)) w.heap.size vs.toList t:=by
 unfold Box;exact heap_alloc_new w _
theorem Box.alloc {w:World} {b:Nat} {vs:List Value} {t:TypeId} (h:Box w b vs t) (o:Obj):Box (w.alloc o) b vs t:=h.mono ((Ext.refl w).alloc o)
theorem Box.at {w:World} {b:Nat} {vs:List Value} {t:TypeId} (h:Box w b vs t) (i:Nat) {u:Value} (hu:vs[i]?=some u):w.cell? ⟨b,i,none⟩=some u:=by
 rw [cell_of_row w b i vs.toArray t (0,0) h];simpa using hu
theorem Box.thaw {w:World} {b:Nat} {vs:List Value} {t:TypeId} (h:Box w b vs t) (i:Nat):w.frozen? ⟨b,i,none⟩=false:=frozen_of_row w b i vs.toArray t h
theorem Box.set {w:World} {b:Nat} {vs:List Value} {t:TypeId} (h:Box w b vs t) (i:Nat) (u:Value):Box (w.setCell ⟨b,i,none⟩ u) b (vs.set i u) t:=by
 unfold Box
 have:=heap_setCell_same w b i vs.toArray t u h
 rw [this];simp
theorem Box.other {w:World} {b:Nat} {vs:List Value} {t:TypeId} (h:Box w b vs t) {p:Addr} (hp:p.block≠b) (u:Value):Box (w.setCell p u) b vs t:=by
 unfold Box
 rw [heap_setCell_other w p b u (Ne.symm hp)];exact h
theorem Rd.set {α:Type} [Rd α] {w:World} {cs:List Value} {x:α} {F:List Nat} (h:rd w cs x F) {p:Addr} (hp:p.block∉F) (u:Value):rd (w.setCell p u) cs x F:=
 Rd.congr h fun b hb=>heap_setCell_other w p b u (fun e=>hp (e▸hb))
theorem Sl.set {α:Type} [Rd α] {w:World} {a:Option Addr} {len cap:Nat} {l:List α} {F:List Nat} (h:Sl w a len cap l F) {p:Addr} (hp:p.block∉F) (u:Value):Sl (w.setCell p u) a len cap l F:=
 h.congr fun b hb=>heap_setCell_other w p b u (fun e=>hp (e▸hb))
theorem Vl.set {α:Type} [Rd α] {w:World} {v:Value} {x:α} {F:List Nat} (h:Vl w v x F) {p:Addr} (hp:p.block∉F) (u:Value):Vl (w.setCell p u) v x F:=
 let ⟨cs,hr,hv⟩:=h;⟨cs,Rd.set hr hp u,hv⟩
theorem DJ.set {w:World} {b:Nat} (h:DJ w b) (p:Addr) (u:Value):DJ (w.setCell p u) b:=by
 obtain⟨c,e,h⟩:=h
 by_cases hp:p.block=b
 · subst hp
   unfold DJ Aah
   simp only [Array.getElem?_modify,if_true,h,Option.map_some]
   cases c with
   | inl c=>exact⟨.inl _,_,rfl⟩
   | inr m=>exact⟨.inr _,_,rfl⟩
 exact⟨c,e,by rw [heap_setCell_other w p b u (Ne.symm hp)];exact h⟩
theorem New.set {α:Type} [Rd α] {w w':World} {v:Value} {x:α} (h:New w w' v x) {p:Addr} (hp:p.block<w.heap.size) (u:Value):New w (w'.setCell p u) v x:=by
 obtain⟨F,h1,h2,h3⟩:=h
 exact⟨F,h1.set (fun hb=>by have:=(h2 _ hb).1;omega) u,fun b hb=>⟨(h2 b hb).1,(h2 b hb).2.set p u⟩,h3⟩
theorem Ext.set {a w:World} (h:Ext a w) {b i:Nat} (hp:a.heap.size≤b) (u:Value):Ext a (w.setCell ⟨b,i,none⟩ u):=h.setCell hp u
def K2 (xs:List Value) (m:Nat):List Value→List Value
 | []=>xs
 | u::us=>K2 (xs.set m u) (m+1) us
theorem K1:∀ (us A C D:List Value),C.length=us.length→K2 (A++(C++D)) A.length us=A++(us++D)
 | [],A,C,D,h=>by
  have:C=[]:=List.eq_nil_of_length_eq_zero (by simpa using h)
  subst this;rfl
 | u::us,A,C,D,h=>by
  match C,h with
  | c::C,h=>
   have e:(A++(c::C++D)).set A.length u=(A++[u])++(C++D):=by simp
   rw [K2,e]
   have:=K1 us (A++[u]) C D (by simpa using h)
   rw [Aab] at this
   simp only [Aac,List.length_nil] at this
   rw [this];simp
def Pc {α:Type} [Rd α] (lo hi:Nat) (w:World) (v:Value) (x:α):Prop:=∃ F,Vl w v x F∧(∀ b∈F,lo≤b∧b<hi∧DJ w b)∧F.Nodup
theorem Vl.lt {α:Type} [Rd α] {w:World} {v:Value} {x:α} {F:List Nat} (h:Vl w v x F):∀ b∈F,b<w.heap.size:=let ⟨_,hr,_⟩:=h;Rd.lt hr
theorem Pc.new {α:Type} [Rd α] {lo hi:Nat} {w w':World} {v:Value} {x:α} (h:Pc lo hi w' v x) (hl:w.heap.size≤lo):New w w' v x:=
 let ⟨F,h1,h2,h3⟩:=h;⟨F,h1,fun b hb=>⟨ZC hl (h2 b hb).1,(h2 b hb).2.2⟩,h3⟩
theorem DJ.ext {w w':World} {b:Nat} (h:DJ w b) (he:Ext w w'):DJ w' b:=by
 obtain⟨c,e,h⟩:=h
 exact⟨c,e,(he.block (ZB.1 h).1).trans h⟩
theorem Pc.mono {α:Type} [Rd α] {lo hi:Nat} {w w':World} {v:Value} {x:α} (h:Pc lo hi w v x) (he:Ext w w'):Pc lo hi w' v x:=
 let ⟨F,h1,h2,h3⟩:=h;⟨F,h1.mono he,fun b hb=>⟨(h2 b hb).1,(h2 b hb).2.1,(h2 b hb).2.2.ext he⟩,h3⟩
theorem Pc.set {α:Type} [Rd α] {lo hi:Nat} {w:World} {v:Value} {x:α} (h:Pc lo hi w v x) {p:Addr} (hp:p.block<lo) (u:Value):Pc lo hi (w.setCell p u) v x:=
 let ⟨F,h1,h2,h3⟩:=h;⟨F,h1.set (fun hb=>by have:=(h2 _ hb).1;omega) u,fun b hb=>⟨(h2 b hb).1,(h2 b hb).2.1,(h2 b hb).2.2.set p u⟩,h3⟩
theorem U1 {F G:List Nat} {m:Nat} (hF:F.Nodup) (hG:G.Nodup) (h1:∀ b∈F,b<m) (h2:∀ b∈G,m≤b):(F++G).Nodup:=
 List.nodup_append.2 ⟨hF,hG,fun a ha b hb e=>by have:=h1 a ha;have:=h2 b hb;omega⟩
def Kq {α:Type} [Rd α] (w:World) (lo:Nat) (l:List α) (zs:List Value) (k:Nat) (cells:List Value):Prop:=
 ∃ (css:List (List Value)) (Fs:List (List Nat)),css.length=k∧Fs.length=k∧
  (∀ (i:Nat) (x:α) (cs:List Value) (f:List Nat),l[i]?=some x→css[i]?=some cs→Fs[i]?=some f→rd w cs x f)∧
  (∀ cs∈css,cs.length=Rd.k α)∧cells=css.flatten++zs.drop (k*Rd.k α)∧(∀ b∈Fs.flatten,lo≤b∧b<w.heap.size∧DJ w b)∧Fs.flatten.Nodup
theorem Kq.zero {α:Type} [Rd α] (w:World) (lo:Nat) (l:List α) (zs:List Value):Kq w lo l zs 0 zs:=
 ⟨[],[],rfl,rfl,by simp,by simp,by simp,by simp,by simp⟩
theorem Kq.set {α:Type} [Rd α] {w:World} {lo:Nat} {l:List α} {zs:List Value} {k:Nat} {cells:List Value} (h:Kq w lo l zs k cells) {p:Addr} (hp:p.block<lo) (u:Value) :
 Kq (w.setCell p u) lo l zs k cells:=by
 obtain⟨css,Fs,h1,h2,h3,h4,h5,h6,h7⟩:=h
 refine⟨css,Fs,h1,h2,fun i x cs f hx hcs hf=>Rd.set (h3 i x cs f hx hcs hf) (fun hb=>?_) u,h4,h5,fun b hb=>⟨(h6 b hb).1,by simpa [Aah] using (h6 b hb).2.1,(h6 b hb).2.2.set p u⟩,h7⟩
 have:=(h6 _ (ZR.2 ⟨f,Aaa hf,hb⟩)).1
 omega
theorem Jm {α:Type} {K:Nat}:∀ (css:List (List α)),(∀ cs∈css,cs.length=K)→css.flatten.length=css.length*K
 | [],_=>by simp
 | c::css,h=>by
  rw [ZU,Aab,Jm css (fun cs hc=>h cs (ZQ _ hc)),h c (by simp),Aac,ZF,ZG,ZO]
theorem Kq.push {α:Type} [Rd α] {w w2:World} {lo:Nat} {l:List α} {zs:List Value} {k:Nat} {cells:List Value} (h:Kq w lo l zs k cells) (he:Ext w w2) {cs:List Value} {x:α} {F:List Nat}
 (hr:rd w2 cs x F) (hF:∀ b∈F,w.heap.size≤b∧DJ w2 b) (hnd:F.Nodup) (hx:l[k]?=some x) (hlo:lo≤w.heap.size) (hz:zs.length=l.length*Rd.k α) :
 Kq w2 lo l zs (k+1) (K2 cells (k*Rd.k α) cs):=by
 obtain⟨css,Fs,h1,h2,h3,h4,h5,h6,h7⟩:=h
 have hk:=(ZE.1 hx).1
 have hl:=Jm css h4
 rw [h1] at hl
 refine⟨css++[cs],Fs++[F],by simp [h1],by simp [h2],fun i x' cs' f' hx' hcs' hf'=>?_,fun c hc=>?_,?_,fun b hb=>?_,?_⟩
 · rcases Nat.lt_trichotomy i k with hi|hi|hi
   · rw [ZP (by omega)] at hcs' hf'
     exact Rd.mono (h3 i x' cs' f' hx' hcs' hf') he
   · subst hi
     rw [ZL (by omega),h1] at hcs'
     rw [ZL (by omega),h2] at hf'
     simp at hcs' hf'
     subst hcs';subst hf'
     rw [hx] at hx'
     cases hx'
     exact hr
   rw [ZL (by omega),h1] at hcs'
   rw [List.getElem?_eq_none (by simp;omega)] at hcs'
   cases hcs'
 · rcases ZM.1 hc with hc|hc
   · exact h4 c hc
   simp at hc;subst hc;exact Rd.len hr
 · have h8:=Aai (Rd.k α) (show k+1≤l.length by omega)
   rw [ZF,ZG] at h8
   have e:zs.drop (k*Rd.k α)=(zs.drop (k*Rd.k α)).take (Rd.k α)++zs.drop ((k+1)*Rd.k α):=by
    rw [ZF,ZG,←List.drop_drop,List.take_append_drop]
   rw [h5,e,←hl,K1 _ _ _ _ (by rw [Rd.len hr,Aad,List.length_drop];omega)]
   simp
 · simp only [Aaj,Aak,ZM] at hb
   rcases hb with hb|hb
   · exact⟨(h6 b hb).1,ZI (h6 b hb).2.1 he.size,(h6 b hb).2.2.ext he⟩
   exact⟨ZC hlo (hF b hb).1,Rd.lt hr b hb,(hF b hb).2⟩
 simp only [Aaj,Aak]
 exact U1 h7 hnd (fun b hb=>(h6 b hb).2.1) (fun b hb=>(hF b hb).1)
theorem Kq.done {α:Type} [Rd α] {w w':World} {lo:Nat} {l:List α} {zs cells:List Value} {g e cap:Nat} (h:Kq w' lo l zs l.length cells) (hg:g<lo) (hb:w.heap.size≤g)
 (hown:w'.ownsRow w.heap.size e (Rd.k α) (.slice (some ⟨g,0,none⟩) l.length cap) l.length cells) (hz:zs.length=l.length*Rd.k α):New w w' (.slice (some ⟨g,0,none⟩) l.length cap) l:=by
 obtain⟨css,Fs,h1,h2,h3,h4,h5,h6,h7⟩:=h
 rw [List.drop_eq_nil_of_le (by omega),List.append_nil] at h5
 rcases hown.2 with ⟨hc,_⟩|⟨g',cap',cur,hv,hg',hgg,hn,hm,hs,ht⟩
 · simp at hc
 simp only [Value.slice.injEq,Option.some.injEq,Addr.mk.injEq,and_true,true_and] at hv
 obtain⟨rfl,rfl⟩:=hv
 by_cases h0:l.length=0
 · refine⟨[],Sl.vl ⟨rfl,hn,hm,css,Fs,h1,h2,h3,.inl ⟨h0,rfl⟩⟩,by simp,by simp⟩
 refine⟨g::Fs.flatten,Sl.vl ⟨rfl,hn,hm,css,Fs,h1,h2,h3,.inr ⟨g,0,rfl,rfl,(ZB.1 hgg).1,fun i cs j u hcs hu=>?_⟩⟩,fun b hb'=>?_,?_⟩
 · have hcl:cs.length=Rd.k α:=h4 cs (Aaa hcs)
   have hi:i<css.length:=(ZE.1 hcs).1
   have hj:j<cs.length:=(ZE.1 hu).1
   have hh:=Aai (Rd.k α) (show i+1≤l.length by omega)
   rw [ZF,ZG] at hh
   rw [Aae,hown.cellAt _ (by omega),h5]
   clear h3 h6 h7 hown ht hh h5 h1
   induction css generalizing i with
   | nil=>simp at hcs
   | cons c css ih=>
    rw [ZU]
    match i,hcs,hi with
    | 0,hcs,hi=>
     simp at hcs;subst hcs
     rw [Nat.zero_mul,Aae,ZP hj];exact hu
    | i+1,hcs,hi=>
     have hc':c.length=Rd.k α:=h4 c (by simp)
     rw [ZL (by rw [hc',ZF,ZG];omega)]
     have e':(i+1)*Rd.k α+j-c.length=i*Rd.k α+j:=by rw [hc',ZF,ZG];omega
     rw [e']
     exact ih (fun cs hc=>h4 cs (ZQ _ hc)) i (by simpa using hcs) (by simpa using hi)
 · rcases ZJ.1 hb' with rfl|hb'
   · exact⟨hb,cur,e,hgg⟩
   exact⟨ZC hb (ZC (Nat.le_of_lt hg) (h6 b hb').1),(h6 b hb').2.2⟩
 exact List.nodup_cons.2 ⟨fun hm'=>by have:=(h6 _ hm').1;omega,h7⟩
end
open Go.RowKit
def W3 (w:World):Prop:=w.ShapedOpen ZD∧True∧True
structure Good (w:World) (H:List Nat):Prop where
 low:ZD.low≤w.heap.size
 ex:∃ w0,W3 w0∧∀ k,k<ZD.low→w.heap[k]?=w0.heap[k]?
 off:∀ b∈H,ZD.low≤b
theorem Good.nil {w:World} {H:List Nat} (h:Good w H):Good w []:=⟨h.low,h.ex,fun _ hb=>by cases hb⟩
theorem Good.step {w w':World} {H G:List Nat} (h:Good w H) (hs:w.heap.size≤w'.heap.size) (hk:∀ k,k<w.heap.size→k∉H→w'.heap[k]?=w.heap[k]?) (hG:∀ b∈G,w.heap.size≤b∨b∈H):Good w' G:=by
 obtain⟨w0,h0,h1⟩:=h.ex
 refine⟨ZC h.low hs,⟨w0,h0,fun k hlt=>(hk k (ZI hlt h.low) fun hm=>by have:=h.off k hm;omega).trans (h1 k hlt)⟩,fun b hb=>?_⟩
 rcases hG b hb with g|g
 · exact ZC h.low g
 exact h.off b g
theorem Good.ext {w w':World} {H:List Nat} (h:Good w H) (hx:Ext w w'):Good w' []:=
 h.nil.step hx.size (fun k hk _=>hx.block hk) fun _ hb=>by cases hb
theorem Good.get {w:World} {H:List Nat} (h:Good w H) {k:Nat} {p:Option Obj→Prop} (hk:k<ZD.low) (hp:∀ w0,W3 w0→p w0.heap[k]?):p w.heap[k]?:=by
 obtain⟨w0,h0,h1⟩:=h.ex
 rw [h1 k hk];exact hp w0 h0
theorem Yz:ZD.globals.size<ZD.low:=of_decide_eq_true (by kernel_rfl)
theorem good_of {w:World} (h:W3 w):Good w []:=by
 have e:ZD.low≤w.heap.size:=by
  have hl:=Yz
  obtain⟨o,_,h1,_⟩:=h.1.2 (ZD.low-1) (by omega) (by show ZD.low-1<ZD.low;omega)
  have:=(ZB.1 h1).1
  omega
 exact⟨e,⟨w,h,fun _ _=>rfl⟩,fun _ hb=>by cases hb⟩
section
open Rd (rd)
def GY (w:World):Type:={ w':World // Ext w w' }
instance {w:World}:Nonempty (GY w):=⟨⟨w,Ext.refl w⟩⟩
instance {w:World}:Inhabited (GY w):=⟨⟨w,Ext.refl w⟩⟩
theorem Gf {P:Program} {id:Nat} {Q:Exit→Act→World→Prop} {a:Act} {w:World} {l:List Oper} (hm:P.follows .mixedOrders=true) (hB:Region.lexB .any l.toArray=true)
 (h:wpQuiet P l.toArray (fun w'=>∃ x:GY w,w'=x.1) (fun a'=>∀ w',(∃ x:GY w,w'=x.1)→Q .normal a' w') l a):(Code.region id l.toArray true).wp P Q a w:=
 wp_region_quiet (C:=fun w'=>∃ x:GY w,w'=x.1) hm hB ⟨⟨_,(Ext.refl w).drawn⟩,rfl⟩ (by simpa using h)
theorem GY.cell {w:World} {p:Addr} {v:Value} (hc:w.cell? p=some v):∀ x:GY w,x.1.cell? p=some v:=fun x=>x.2.cell hc
theorem GY.ext {w:World} (x:GY w):Ext w x.1:=x.2
structure MP where
 on:List Nat
 p:(Nat→Value)→Value→World→Prop
 mono:∀ {vs v w w'},p vs v w→Ext w w'→p vs v w'
 loc:∀ {vs vs' v w},(∀ j∈on,vs' j=vs j)→p vs v w→p vs' v w
def MP.is (u:Value):MP:=⟨[],fun _ v _=>v=u,fun h _=>h,fun _ h=>h⟩
def MP.any:MP:=⟨[],fun _ _ _=>True,fun h _=>h,fun _ h=>h⟩
def MP.vl {α:Type} [Rd α] (x:α):MP:=⟨[],fun _ v w=>∃ F,Vl w v x F,fun ⟨F,h⟩ he=>⟨F,h.mono he⟩,fun _ h=>h⟩
def MP.new2 {α β:Type} [Rd α] [Rd β] (j:Nat) (u:World) (x:α) (y:β):MP:=
 ⟨[j],fun vs v w=>∃ m n,u.heap.size≤m∧Pc u.heap.size m w (vs j) x∧Pc m n w v y,fun ⟨m,n,l,h,k⟩ he=>⟨m,n,l,h.mono he,k.mono he⟩,fun hv ⟨m,n,l,h,k⟩=>⟨m,n,l,by rw [hv j (by simp)];exact h,k⟩⟩
def MP.new3 {α β γ:Type} [Rd α] [Rd β] [Rd γ] (i j:Nat) (u:World) (x:α) (y:β) (z:γ):MP:=
 ⟨[i,j],fun vs v w=>∃ m n o,u.heap.size≤m∧m≤n∧Pc u.heap.size m w (vs i) x∧Pc m n w (vs j) y∧Pc n o w v z,fun ⟨m,n,o,l1,l2,h,k,l⟩ he=>⟨m,n,o,l1,l2,h.mono he,k.mono he,l.mono he⟩,
  fun hv ⟨m,n,o,l1,l2,h,k,l⟩=>⟨m,n,o,l1,l2,by rw [hv i (by simp)];exact h,by rw [hv j (by simp)];exact k,l⟩⟩
theorem DJ.mono {w w':World} {b:Nat} (h:DJ w b) (he:Ext w w'):DJ w' b:=by
 obtain⟨c,e,h⟩:=h
 exact⟨c,e,(he.block (ZB.1 h).1).trans h⟩
theorem New.mono {α:Type} [Rd α] {w w' w'':World} {v:Value} {x:α} (h:New w w' v x) (he:Ext w' w''):New w w'' v x:=
 let ⟨F,h1,h2,h3⟩:=h;⟨F,h1.mono he,fun b hb=>⟨(h2 b hb).1,(h2 b hb).2.mono he⟩,h3⟩
theorem New.old {α:Type} [Rd α] {w0 w w':World} {v:Value} {x:α} (h:New w w' v x) (he:Ext w0 w):New w0 w' v x:=
 let ⟨F,h1,h2,h3⟩:=h;⟨F,h1,fun b hb=>⟨ZC he.size (h2 b hb).1,(h2 b hb).2⟩,h3⟩
theorem New.vl {α:Type} [Rd α] {w w':World} {v:Value} {x:α} (h:New w w' v x):∃ F,Vl w' v x F:=let ⟨F,h1,_⟩:=h;⟨F,h1⟩
def MP.new {α:Type} [Rd α] (w0:World) (x:α):MP:=⟨[],fun _ v w=>New w0 w v x,fun h he=>h.mono he,fun _ h=>h⟩
def Gu (o:Oper):List Nat:=(o.after.toList.filter (Region.binds .any ·)).map (·.on)
theorem H9 {o:Oper} {j:Nat}:j∈Gu o↔∃ e∈o.after,Region.binds .any e=true∧e.on=j:=by
 simp [Gu,List.mem_filter,and_assoc]
def unl (N:Nat) (listed:Array Bool):Nat:=(List.range N).countP fun j=>!listed.getD j false
theorem Tq (listed:Array Bool) (i:Nat) (hu:listed.getD i false=false) (hs:i<listed.size):∀ N,unl N listed=unl N (listed.setIfInBounds i true)+if i<N then 1 else 0
 | 0=>by simp [unl]
 | N+1=>by
  have ih:=Tq listed i hu hs N
  unfold unl at *
  rw [List.range_succ,Aal,Aal]
  simp only [List.countP_cons,List.countP_nil,Aae]
  by_cases hiN:i=N
  · subst hiN
    have h1:(listed.setIfInBounds i true).getD i false=true:=by simp [hs]
    rw [ih,h1,hu]
    simp
  rw [getD_set_ne false hiN,ih]
  have e:(i<N+1)=(i<N):=propext ⟨fun h=>by omega,fun h=>by omega⟩
  simp only [e]
  omega
section
variable {P:Program} {ops:Array Oper} {N:Nat}
end
end
section
open Rd (rd)
theorem R8 {α:Type} [Gy α]:∀ (l:List α) (j:Nat) (u:Value),(UD l)[j]?=some u→∃ i x r,l[i]?=some x∧(Gy.enc x)[r]?=some u∧j=i*Gy.k α+r
 | [],j,u,h=>by simp [UD] at h
 | y::l,j,u,h=>by
  have e:UD (y::l)=Gy.enc y++UD l:=by simp [UD]
  rw [e] at h
  by_cases hj:j<(Gy.enc y).length
  · rw [ZP hj] at h
    exact⟨0,y,j,rfl,h,by omega⟩
  rw [ZL (by omega)] at h
  obtain⟨i,x,r,h1,h2,h3⟩:=R8 l _ u h
  refine⟨i+1,x,r,by simpa using h1,h2,?_⟩
  rw [Gy.len] at h3 hj
  rw [ZF,ZG]
  omega
theorem Sl.news {α:Type} [Gy α] {w:World} {ad:Addr} {m c:Nat} {l:List α} {F:List Nat} (h:Sl w (some ad) m c l F):∀ j u,(UD l)[j]?=some u→w.cell? (ad.add j)=some u:=by
 intro j u hu
 obtain⟨i,x,r,h1,h2,rfl⟩:=R8 l j u hu
 have hi:i<m:=by rw [←h.hlen];exact (ZE.1 h1).1
 obtain⟨b,off,y,ha,hy,hc⟩:=h.flat hi
 cases ha
 rw [h1] at hy
 cases hy
 have:=hc r u h2
 rw [Addr.add_lit]
 simpa [ZV] using this
section
variable {P:Program}
end
end
inductive T where
 | v (x:Value)
 | sl (k:Nat) (rows:List (List T))
 | ad (cs:List T)
 | fn (f:Fn) (first caps:List T)
mutual
def C (o:Bool) (w:World):T→Value→List Nat→Prop
 | .v x,c,F=>c=x∧F=[]∧x.oneCell'=true
 | .sl k rows,c,F=>∃ a len cap,c=.slice a len cap∧rows.length=len∧len≤cap∧cap≤maxLen∧
  ((len=0∧F=[]∧(o=true→cap=0))∨∃ b off G,a=some ⟨b,off,none⟩∧F=b::G∧b<w.heap.size∧
   (o=true→off=0∧∃ cur e,w.heap[b]?=some (.cells cur e (0,0))∧cur.size=cap*k)∧Rws o w b k off rows G)
 | .ad cs,c,F=>∃ b off G,c=.pointer (some ⟨b,off,none⟩)∧F=b::G∧b<w.heap.size∧Ms o w b off cs G
 | .fn f first caps,c,F=>∃ xs ys G1 G2,c=.func f (ZH xs) (ZH ys)∧Cs o w first xs G1∧Cs o w caps ys G2∧F=G1++G2
def Cs (o:Bool) (w:World):List T→List Value→List Nat→Prop
 | [],cs,F=>cs=[]∧F=[]
 | t::r,cs,F=>∃ c cr G1 G2,cs=c::cr∧C o w t c G1∧Cs o w r cr G2∧F=G1++G2
def Ms (o:Bool) (w:World) (b:Nat):Nat→List T→List Nat→Prop
 | _,[],F=>F=[]
 | off,t::r,F=>∃ c G1 G2,w.cell? ⟨b,off,none⟩=some c∧C o w t c G1∧Ms o w b (off+1) r G2∧F=G1++G2
def Rws (o:Bool) (w:World) (b k:Nat):Nat→List (List T)→List Nat→Prop
 | _,[],F=>F=[]
 | off,row::r,F=>∃ G1 G2,row.length=k∧Ms o w b off row G1∧Rws o w b k (off+k) r G2∧F=G1++G2
end
theorem Ij {w w':World} {b:Nat} (h:w'.heap[b]?=w.heap[b]?) (hb:b<w.heap.size):b<w'.heap.size:=by
 rw [ZS hb] at h
 exact (ZB.1 h).1
mutual
theorem C.congr {o:Bool} {w w':World}:∀ {t:T} {c:Value} {F:List Nat},C o w t c F→(∀ b∈F,w'.heap[b]?=w.heap[b]?)→C o w' t c F
 | .v _,_,_,h,_=>by simpa only [C] using h
 | .sl k rows,c,F,h,hc=>by
  simp only [C] at h ⊢
  obtain⟨a,len,cap,h1,h2,h3,h4,h5⟩:=h
  refine⟨a,len,cap,h1,h2,h3,h4,?_⟩
  rcases h5 with h5|⟨b,off,G,h6,rfl,h7,h8,h9⟩
  · exact .inl h5
  refine .inr ⟨b,off,G,h6,rfl,Ij (hc b (by simp)) h7,fun ho=>?_,Rws.congr h9 (hc b (by simp)) fun b' hb'=>hc b' (by simp [hb'])⟩
  obtain⟨h10,cur,e,h11,h12⟩:=h8 ho
  exact⟨h10,cur,e,(hc b (by simp)).trans h11,h12⟩
 | .ad cs,c,F,h,hc=>by
  simp only [C] at h ⊢
  obtain⟨b,off,G,h1,rfl,h2,h3⟩:=h
  exact⟨b,off,G,h1,rfl,Ij (hc b (by simp)) h2,Ms.congr h3 (hc b (by simp)) fun b' hb'=>hc b' (by simp [hb'])⟩
 | .fn f first caps,c,F,h,hc=>by
  simp only [C] at h ⊢
  obtain⟨xs,ys,G1,G2,h1,h2,h3,rfl⟩:=h
  exact⟨xs,ys,G1,G2,h1,Cs.congr h2 fun b hb=>hc b (by simp [hb]),Cs.congr h3 fun b hb=>hc b (by simp [hb]),rfl⟩
theorem Cs.congr {o:Bool} {w w':World}:∀ {ts:List T} {cs:List Value} {F:List Nat},Cs o w ts cs F→(∀ b∈F,w'.heap[b]?=w.heap[b]?)→Cs o w' ts cs F
 | [],_,_,h,_=>by simpa only [Cs] using h
 | t::r,cs,F,h,hc=>by
  simp only [Cs] at h ⊢
  obtain⟨c,cr,G1,G2,h1,h2,h3,rfl⟩:=h
  exact⟨c,cr,G1,G2,h1,C.congr h2 fun b hb=>hc b (by simp [hb]),Cs.congr h3 fun b hb=>hc b (by simp [hb]),rfl⟩
theorem Ms.congr {o:Bool} {w w':World} {b:Nat}:∀ {ts:List T} {off:Nat} {F:List Nat},Ms o w b off ts F→w'.heap[b]?=w.heap[b]?→(∀ b∈F,w'.heap[b]?=w.heap[b]?)→Ms o w' b off ts F
 | [],_,_,h,_,_=>by simpa only [Ms] using h
 | t::r,off,F,h,h0,hc=>by
  simp only [Ms] at h ⊢
  obtain⟨c,G1,G2,h1,h2,h3,rfl⟩:=h
  exact⟨c,G1,G2,(ZT (a:=⟨b,off,none⟩) h0).trans h1,C.congr h2 fun b hb=>hc b (by simp [hb]),Ms.congr h3 h0 fun b hb=>hc b (by simp [hb]),rfl⟩
theorem Rws.congr {o:Bool} {w w':World} {b k:Nat}:∀ {rs:List (List T)} {off:Nat} {F:List Nat},Rws o w b k off rs F→w'.heap[b]?=w.heap[b]?→(∀ b∈F,w'.heap[b]?=w.heap[b]?)→Rws o w' b k off rs F
 | [],_,_,h,_,_=>by simpa only [Rws] using h
 | t::r,off,F,h,h0,hc=>by
  simp only [Rws] at h ⊢
  obtain⟨G1,G2,h1,h2,h3,rfl⟩:=h
  exact⟨G1,G2,h1,Ms.congr h2 h0 fun b hb=>hc b (by simp [hb]),Rws.congr h3 h0 fun b hb=>hc b (by simp [hb]),rfl⟩
end
mutual
theorem C.lt {o:Bool} {w:World}:∀ {t:T} {c:Value} {F:List Nat},C o w t c F→∀ b∈F,b<w.heap.size
 | .v _,_,F,h,b,hb=>by simp only [C] at h;obtain⟨_,rfl,_⟩:=h;cases hb
 | .sl k rows,c,F,h,b,hb=>by
  simp only [C] at h
  obtain⟨a,len,cap,h1,h2,h3,h4,h5⟩:=h
  rcases h5 with ⟨_,rfl,_⟩|⟨b',off,G,h6,rfl,h7,h8,h9⟩
  · cases hb
  rcases ZJ.1 hb with rfl|hb
  · exact h7
  exact Rws.lt h9 b hb
 | .ad cs,c,F,h,b,hb=>by
  simp only [C] at h
  obtain⟨b',off,G,h1,rfl,h2,h3⟩:=h
  rcases ZJ.1 hb with rfl|hb
  · exact h2
  exact Ms.lt h3 b hb
 | .fn f first caps,c,F,h,b,hb=>by
  simp only [C] at h
  obtain⟨xs,ys,G1,G2,h1,h2,h3,rfl⟩:=h
  rcases ZM.1 hb with hb|hb
  · exact Cs.lt h2 b hb
  exact Cs.lt h3 b hb
theorem Cs.lt {o:Bool} {w:World}:∀ {ts:List T} {cs:List Value} {F:List Nat},Cs o w ts cs F→∀ b∈F,b<w.heap.size
 | [],_,F,h,b,hb=>by simp only [Cs] at h;obtain⟨_,rfl⟩:=h;cases hb
 | t::r,cs,F,h,b,hb=>by
  simp only [Cs] at h
  obtain⟨c,cr,G1,G2,h1,h2,h3,rfl⟩:=h
  rcases ZM.1 hb with hb|hb
  · exact C.lt h2 b hb
  exact Cs.lt h3 b hb
theorem Ms.lt {o:Bool} {w:World} {b0:Nat}:∀ {ts:List T} {off:Nat} {F:List Nat},Ms o w b0 off ts F→∀ b∈F,b<w.heap.size
 | [],_,F,h,b,hb=>by simp only [Ms] at h;subst h;cases hb
 | t::r,off,F,h,b,hb=>by
  simp only [Ms] at h
  obtain⟨c,G1,G2,h1,h2,h3,rfl⟩:=h
  rcases ZM.1 hb with hb|hb
  · exact C.lt h2 b hb
  exact Ms.lt h3 b hb
theorem Rws.lt {o:Bool} {w:World} {b0 k:Nat}:∀ {rs:List (List T)} {off:Nat} {F:List Nat},Rws o w b0 k off rs F→∀ b∈F,b<w.heap.size
 | [],_,F,h,b,hb=>by simp only [Rws] at h;subst h;cases hb
 | t::r,off,F,h,b,hb=>by
  simp only [Rws] at h
  obtain⟨G1,G2,h1,h2,h3,rfl⟩:=h
  rcases ZM.1 hb with hb|hb
  · exact Ms.lt h2 b hb
  exact Rws.lt h3 b hb
end
mutual
theorem C.read {w:World}:∀ {t:T} {c:Value} {F:List Nat},C true w t c F→C false w t c F
 | .v _,_,_,h=>by simpa only [C] using h
 | .sl k rows,c,F,h=>by
  simp only [C] at h ⊢
  obtain⟨a,len,cap,h1,h2,h3,h4,h5⟩:=h
  refine⟨a,len,cap,h1,h2,h3,h4,?_⟩
  rcases h5 with ⟨h5,h6,_⟩|⟨b,off,G,h6,rfl,h7,h8,h9⟩
  · exact .inl ⟨h5,h6,by simp⟩
  exact .inr ⟨b,off,G,h6,rfl,h7,by simp,Rws.read h9⟩
 | .ad cs,c,F,h=>by
  simp only [C] at h ⊢
  obtain⟨b,off,G,h1,rfl,h2,h3⟩:=h
  exact⟨b,off,G,h1,rfl,h2,Ms.read h3⟩
 | .fn f first caps,c,F,h=>by
  simp only [C] at h ⊢
  obtain⟨xs,ys,G1,G2,h1,h2,h3,rfl⟩:=h
  exact⟨xs,ys,G1,G2,h1,Cs.read h2,Cs.read h3,rfl⟩
theorem Cs.read {w:World}:∀ {ts:List T} {cs:List Value} {F:List Nat},Cs true w ts cs F→Cs false w ts cs F
 | [],_,_,h=>by simpa only [Cs] using h
 | t::r,cs,F,h=>by
  simp only [Cs] at h ⊢
  obtain⟨c,cr,G1,G2,h1,h2,h3,rfl⟩:=h
  exact⟨c,cr,G1,G2,h1,C.read h2,Cs.read h3,rfl⟩
theorem Ms.read {w:World} {b:Nat}:∀ {ts:List T} {off:Nat} {F:List Nat},Ms true w b off ts F→Ms false w b off ts F
 | [],_,_,h=>by simpa only [Ms] using h
 | t::r,off,F,h=>by
  simp only [Ms] at h ⊢
  obtain⟨c,G1,G2,h1,h2,h3,rfl⟩:=h
  exact⟨c,G1,G2,h1,C.read h2,Ms.read h3,rfl⟩
theorem Rws.read {w:World} {b k:Nat}:∀ {rs:List (List T)} {off:Nat} {F:List Nat},Rws true w b k off rs F→Rws false w b k off rs F
 | [],_,_,h=>by simpa only [Rws] using h
 | t::r,off,F,h=>by
  simp only [Rws] at h ⊢
  obtain⟨G1,G2,h1,h2,h3,rfl⟩:=h
  exact⟨G1,G2,h1,Ms.read h2,Rws.read h3,rfl⟩
end
theorem C.read' {o:Bool} {w:World} {t:T} {c:Value} {F:List Nat} (h:C o w t c F):C false w t c F:=by cases o;exact h;exact h.read
theorem C.mono {o:Bool} {w w':World} {t:T} {c:Value} {F:List Nat} (h:C o w t c F) (he:Ext w w'):C o w' t c F:=h.congr fun b hb=>he.block (h.lt b hb)
theorem Cs.mono {o:Bool} {w w':World} {t:List T} {c:List Value} {F:List Nat} (h:Cs o w t c F) (he:Ext w w'):Cs o w' t c F:=h.congr fun b hb=>he.block (h.lt b hb)
theorem Rws.get {o:Bool} {w:World} {b k:Nat}:∀ {rs:List (List T)} {off:Nat} {F:List Nat},Rws o w b k off rs F→∀ {i:Nat} {row:List T},rs[i]?=some row→∃ G,Ms o w b (off+i*k) row G∧row.length=k∧∀ x∈G,x∈F
 | [],_,_,_,i,row,hi=>by simp at hi
 | r::rs,off,F,h,i,row,hi=>by
  simp only [Rws] at h
  obtain⟨G1,G2,h1,h2,h3,rfl⟩:=h
  match i,hi with
  | 0,hi=>
   simp at hi;subst hi
   exact⟨G1,by simpa using h2,h1,fun x hx=>by simp [hx]⟩
  | i+1,hi=>
   obtain⟨G,g1,g2,g3⟩:=h3.get (i:=i) (by simpa using hi)
   exact⟨G,by rw [ZF,ZG,ZO (i*k),←ZV];exact g1,g2,fun x hx=>by simp [g3 x hx]⟩
theorem Ms.drop {o:Bool} {w:World} {b:Nat}:∀ {ts:List T} {off:Nat} {F:List Nat},Ms o w b off ts F→∀ j,∃ G,Ms o w b (off+j) (ts.drop j) G∧∀ x∈G,x∈F
 | ts,off,F,h,0=>⟨F,by simpa using h,fun _ h=>h⟩
 | [],off,F,h,j+1=>⟨[],by simp [Ms],fun _ h=>by cases h⟩
 | t::ts,off,F,h,j+1=>by
  simp only [Ms] at h
  obtain⟨c,G1,G2,h1,h2,h3,rfl⟩:=h
  obtain⟨G,g1,g2⟩:=h3.drop j
  exact⟨G,by rw [List.drop_succ_cons];simpa [ZO,Aaf] using g1,fun x hx=>by simp [g2 x hx]⟩
theorem Ms.take {o:Bool} {w:World} {b:Nat}:∀ {ts:List T} {off:Nat} {F:List Nat},Ms o w b off ts F→∀ j,∃ G,Ms o w b off (ts.take j) G∧∀ x∈G,x∈F
 | ts,off,F,h,0=>⟨[],by simp [Ms],fun _ h=>by cases h⟩
 | [],off,F,h,j+1=>⟨[],by simp [Ms],fun _ h=>by cases h⟩
 | t::ts,off,F,h,j+1=>by
  simp only [Ms] at h
  obtain⟨c,G1,G2,h1,h2,h3,rfl⟩:=h
  obtain⟨G,g1,g2⟩:=h3.take j
  refine⟨G1++G,by rw [List.take_succ_cons];simp only [Ms];exact⟨c,G1,G,h1,h2,g1,rfl⟩,fun x hx=>?_⟩
  rcases ZM.1 hx with hx|hx
  · simp [hx]
  simp [g2 x hx]
theorem Ms.cells {o:Bool} {w:World} {b:Nat}:∀ {ts:List T} {off:Nat} {F:List Nat},Ms o w b off ts F→∃ cs,Cs o w ts cs F∧cs.length=ts.length∧∀ (j:Nat) (u:Value),cs[j]?=some u→w.cell? ⟨b,off+j,none⟩=some u
 | [],off,F,h=>⟨[],by simp only [Ms] at h;simp [Cs,h],rfl,by simp⟩
 | t::r,off,F,h=>by
  simp only [Ms] at h
  obtain⟨c,G1,G2,h1,h2,h3,rfl⟩:=h
  obtain⟨cs,g1,g2,g3⟩:=h3.cells
  refine⟨c::cs,by simp only [Cs];exact⟨c,cs,G1,G2,rfl,h2,g1,rfl⟩,by simp [g2],fun j u hj=>?_⟩
  match j,hj with
  | 0,hj=>simp at hj;subst hj;simpa using h1
  | j+1,hj=>have:=g3 j u (by simpa using hj);simpa [ZO,Aaf] using this
theorem Cs.len {o:Bool} {w:World}:∀ {ts:List T} {cs:List Value} {F:List Nat},Cs o w ts cs F→cs.length=ts.length
 | [],_,_,h=>by simp only [Cs] at h;obtain⟨rfl,_⟩:=h;rfl
 | t::r,_,_,h=>by
  simp only [Cs] at h
  obtain⟨c,cr,G1,G2,rfl,h2,h3,rfl⟩:=h
  simp [h3.len]
theorem Cs.get {o:Bool} {w:World}:∀ {ts:List T} {cs:List Value} {F:List Nat},Cs o w ts cs F→∀ {i:Nat} {t:T},ts[i]?=some t→∃ c G,cs[i]?=some c∧C o w t c G∧∀ x∈G,x∈F
 | [],_,_,_,i,t,hi=>by simp at hi
 | t'::r,_,_,h,i,t,hi=>by
  simp only [Cs] at h
  obtain⟨c,cr,G1,G2,rfl,h2,h3,rfl⟩:=h
  match i,hi with
  | 0,hi=>simp at hi;subst hi;exact⟨c,G1,rfl,h2,fun x hx=>by simp [hx]⟩
  | i+1,hi=>
   obtain⟨c',G,g1,g2,g3⟩:=h3.get (i:=i) (by simpa using hi)
   exact⟨c',G,by simpa using g1,g2,fun x hx=>by simp [g3 x hx]⟩
theorem Cs.append {o:Bool} {w:World}:∀ {xs ys:List T} {cs ds:List Value} {F G:List Nat},Cs o w xs cs F→Cs o w ys ds G→Cs o w (xs++ys) (cs++ds) (F++G)
 | [],ys,cs,ds,F,G,h,h'=>by simp only [Cs] at h;obtain⟨rfl,rfl⟩:=h;exact h'
 | t::xs,ys,cs,ds,F,G,h,h'=>by
  simp only [Cs,Aam] at h ⊢
  obtain⟨c,cr,G1,G2,rfl,h2,h3,rfl⟩:=h
  exact⟨c,cr++ds,G1,G2++G,rfl,h2,h3.append h',by simp⟩
theorem Rws.flat {o:Bool} {w:World} {b k:Nat}:∀ {rs:List (List T)} {off:Nat} {F:List Nat},Rws o w b k off rs F→(∀ row∈rs,row.length=k)∧∃ xs,Cs o w rs.flatten xs F∧xs.length=rs.length*k∧∀ (j:Nat) (u:Value),xs[j]?=some u→w.cell? ⟨b,off+j,none⟩=some u
 | [],off,F,h=>by simp only [Rws] at h;subst h;exact⟨by simp,[],by simp [Cs],by simp,by simp⟩
 | r::rs,off,F,h=>by
  simp only [Rws] at h
  obtain⟨G1,G2,h1,h2,h3,rfl⟩:=h
  obtain⟨g1,xs,g2,g3,g4⟩:=h3.flat
  obtain⟨cs,k1,k2,k3⟩:=h2.cells
  refine⟨fun row hr=>?_,cs++xs,by rw [ZU];exact k1.append g2,by rw [Aab,k2,h1,g3,Aac,ZF,ZG,ZO],fun j u hj=>?_⟩
  · rcases ZJ.1 hr with rfl|hr
    · exact h1
    exact g1 row hr
  by_cases hl:j<cs.length
  · rw [ZP hl] at hj;exact k3 j u hj
  rw [ZL (by omega)] at hj
  have:=g4 _ u hj
  rw [k2,h1] at this hl
  rw [show off+j=off+k+(j-k) by omega];exact this
theorem Cs.split {o:Bool} {w:World}:∀ {xs ys:List T} {cs:List Value} {F:List Nat},Cs o w (xs++ys) cs F→∃ c1 c2 F1 F2,cs=c1++c2∧F=F1++F2∧Cs o w xs c1 F1∧Cs o w ys c2 F2∧c1.length=xs.length
 | [],ys,cs,F,h=>⟨[],cs,[],F,rfl,rfl,by simp [Cs],h,rfl⟩
 | t::xs,ys,cs,F,h=>by
  simp only [Cs,Aam] at h
  obtain⟨c,cr,G1,G2,rfl,h2,h3,rfl⟩:=h
  obtain⟨c1,c2,F1,F2,rfl,rfl,h4,h5,h6⟩:=h3.split
  exact⟨c::c1,c2,G1++F1,F2,rfl,by simp,by simp only [Cs];exact⟨c,c1,G1,F1,rfl,h2,h4,rfl⟩,h5,by simp [h6]⟩
theorem Ms.of {o:Bool} {w:World} {b:Nat}:∀ {ts:List T} {cs:List Value} {G:List Nat} {off:Nat},Cs o w ts cs G→(∀ (j:Nat) (u:Value),cs[j]?=some u→w.cell? ⟨b,off+j,none⟩=some u)→Ms o w b off ts G
 | [],cs,G,off,h,_=>by simp only [Cs] at h;simp only [Ms];exact h.2
 | t::r,cs,G,off,h,hc=>by
  simp only [Cs] at h
  obtain⟨c,cr,G1,G2,rfl,h2,h3,rfl⟩:=h
  simp only [Ms]
  exact⟨c,G1,G2,by simpa using hc 0 c rfl,h2,Ms.of h3 fun j u hj=>by have:=hc (j+1) u (by simpa using hj);simpa [ZO,Aaf] using this,rfl⟩
theorem Rws.of {o:Bool} {w:World} {b k:Nat}:∀ {rs:List (List T)} {xs:List Value} {off:Nat} {F:List Nat},(∀ row∈rs,row.length=k)→Cs o w rs.flatten xs F→(∀ (j:Nat) (u:Value),xs[j]?=some u→w.cell? ⟨b,off+j,none⟩=some u)→Rws o w b k off rs F
 | [],xs,off,F,_,h,_=>by simp only [List.flatten_nil,Cs] at h;simp only [Rws];exact h.2
 | r::rs,xs,off,F,hk,h,hc=>by
  rw [ZU] at h
  obtain⟨c1,c2,F1,F2,rfl,rfl,h1,h2,h3⟩:=h.split
  have hr:=hk r (by simp)
  simp only [Rws]
  refine⟨F1,F2,hr,Ms.of h1 fun j u hj=>hc j u ?_,Rws.of (fun row hm=>hk row (by simp [hm])) h2 fun j u hj=>?_,rfl⟩
  · rw [ZP (ZE.1 hj).1];exact hj
  have:=hc (k+j) u (by rw [ZL (by omega),show k+j-c1.length=j by omega];exact hj)
  rw [ZV];exact this
inductive E where
 | t (x:T)
 | rf (id:Nat)
 | vw (id:Nat) (x:T)
 | pp (id off:Nat)
 | pr (id k i j:Nat)
 | sb (id k i j:Nat)
 | tl (id k j:Nat)
 | pf (id k m:Nat)
 | no
inductive A where
 | one (e:E)
 | agg (l:List E)
inductive S where
 | a (x:A)
 | tup (l:List A)
theorem U {α:Sort _} {a:α}:a=a:=rfl
theorem Y:True:=trivial
inductive R where
 | row (k:Nat) (rows:List (List T))
 | box (cs:List E)
 | hdr (j:Option Nat) (x:Value)
 | blk (j:Option Nat) (b:Nat)
 | kept (K:List (Nat×Obj))
 | opq
 | cur (g:Nat×Value)
 | mp (b:Nat) (f:Int→Int→Int→Int)
structure St where
 n:Nat
 slots:List (Nat×(Bool×S))
 res:List (Nat×R)
def inZ (P:Program) (t:TypeId):Option (Option Value×Nat×Nat):=(P.info? t).map fun i=>(i.zero,i.size,i.bytes)
def stB (P:Program) (t:TypeId):Bool:=(match P.underlying t with|some (.struct fs)=>fs.all (fun f=>(P.info? f.type).isSome)|_=>false)
def look {α:Type}:List (Nat×α)→Nat→Option α
 | [],_=>none
 | (i,x)::r,j=>bif Z9 i j then some x else look r j
theorem AF {α:Type} (i:Nat) (x:α) (r:List (Nat×α)) (j:Nat):look ((i,x)::r) j=if i=j then some x else look r j:=by
 rw [look]
 by_cases h:i=j
 · subst h;simp [ZW]
 have:Z9 i j=false:=by
  cases hb:Z9 i j with
  | false=>rfl
  | true=>exact absurd (ZN hb) h
 rw [this,if_neg h];rfl
structure Ip where
 Z:Nat→Prop
 F:Nat→List Nat
 hd:Nat→Value
 B:Nat→Nat
def VE (I:Ip) (w:World):E→Value→Prop
 | .t x,c=>∃ G,C false w x c G∧∀ b∈G,I.Z b
 | .rf id,c=>c=I.hd id∧∃ a l k,c=.slice a l k
 | .vw id x,c=>∃ G,C false w x c G∧∀ b∈G,b∈I.F id
 | .pp id off,c=>c=.pointer (some ⟨I.B id,off,none⟩)
 | .pr id k i j,c=>∃ g n m,I.hd id=.slice (some ⟨g,0,none⟩) n m∧c=.pointer (some ⟨g,i*k+j,none⟩)
 | .sb id k i j,c=>∃ g n m,I.hd id=.slice (some ⟨g,0,none⟩) n m∧g∈I.F id∧g<w.heap.size∧w.cell? ⟨g,i*k+j,none⟩=some c
 | .tl id k j,c=>∃ a a' n m,I.hd id=.slice a n m∧c=.slice a' (n-j) (m-j)∧j≤n∧n≤m∧(j<m→∃ g,a=some ⟨g,0,none⟩∧a'=some ⟨g,j*k,none⟩)
 | .pf id _ m,c=>∃ a n M,I.hd id=.slice a n M∧c=.slice a m M∧m≤n
 | .no,_=>True
def VEs (I:Ip) (w:World):List E→List Value→Prop
 | [],cs=>cs=[]
 | e::r,cs=>∃ c cr,cs=c::cr∧VE I w e c∧VEs I w r cr
def VA (I:Ip) (w:World):A→Value→Prop
 | .one e,v=>VE I w e v
 | .agg l,v=>∃ cs,v=.agg (ZH cs)∧VEs I w l cs
def VAs (I:Ip) (w:World):List A→List Value→Prop
 | [],cs=>cs=[]
 | e::r,cs=>∃ c cr,cs=c::cr∧VA I w e c∧VAs I w r cr
def VS (I:Ip) (w:World):Bool×S→Value→Prop
 | (p,x),v=>if p=true then (match x with|.a x=>VA I w x v|.tup l=>∃ vs,v=.tuple (ZH vs)∧VAs I w l vs) else v=undef
def byR (bs:List Int):List (List T):=bs.map fun n=>[.v (.int .u8 n)]
def CuB (Z:Nat→Prop) (w:World) (g:Nat×Value):Prop:=∃ i h e G bs,w.heap[g.1]?=some (.cells #[g.2,.int .i64 i,.int .i64 h] e (0,0))∧C false w (.sl 1 (byR bs)) g.2 G∧(∀ b∈G,Z b)∧0≤i∧∀ n∈bs,0≤n∧n<256
theorem CuB.congr {Z Z':Nat→Prop} {w w':World} {g:Nat×Value} (h:CuB Z w g) (h0:w'.heap[g.1]?=w.heap[g.1]?) (hZ:∀ b,b<w.heap.size→Z b→Z' b∧w'.heap[b]?=w.heap[b]?):CuB Z' w' g:=by
 obtain⟨i,x,e,G,bs,h1,h2,h3,h4,h5⟩:=h
 exact⟨i,x,e,G,bs,h0.trans h1,h2.congr fun b hb=>(hZ b (h2.lt b hb) (h3 b hb)).2,fun b hb=>(hZ b (h2.lt b hb) (h3 b hb)).1,h4,h5⟩
theorem CuB.lt {Z:Nat→Prop} {w:World} {g:Nat×Value} (h:CuB Z w g):g.1<w.heap.size:=by
 obtain⟨i,x,e,G,bs,h1,_⟩:=h
 exact (ZB.1 h1).1
def wfI (x:Int):Prop:= -9223372036854775808≤x∧x≤9223372036854775807
def FL (w:World) (b:Nat) (f:Int→Int→Int→Int):Prop:=∃ es k,w.heap[b]?=some (.map es k)∧∀ e∈es.toList,∃ x y z:Int,e.key=.agg #[.int .i64 x,.int .i64 y,.int .i64 z]∧(wfI x∧wfI y∧wfI z)∧e.val=.int .i64 (f x y z)
theorem FL.congr {w w':World} {b:Nat} {f:Int→Int→Int→Int} (h:FL w b f) (h0:w'.heap[b]?=w.heap[b]?):FL w' b f:=by
 obtain⟨es,k,h1,h2⟩:=h
 exact⟨es,k,h0.trans h1,h2⟩
theorem FL.lt {w:World} {b:Nat} {f:Int→Int→Int→Int} (h:FL w b f):b<w.heap.size:=by
 obtain⟨es,k,h1,_⟩:=h
 exact (ZB.1 h1).1
def RR (I:Ip) (w:World) (id:Nat):R→Prop
 | .row k rows=>C true w (.sl k rows) (I.hd id) (I.F id)
 | .box cs=>I.F id=[I.B id]∧∃ vs e,w.heap[I.B id]?=some (.cells (ZH vs) e (0,0))∧VEs I w cs vs
 | .hdr j x=>I.F id=[]∧∀ i,j=some i→I.hd i=x
 | .blk j b=>I.F id=[]∧∀ i,j=some i→I.B i=b
 | .kept K=>I.F id=[]∧∀ x∈K,w.heap[x.1]?=some x.2∧I.Z x.1
 | .opq=>True
 | .cur g=>I.F id=[g.1]∧I.B id=g.1∧CuB I.Z w g
 | .mp b f=>I.F id=[b]∧FL w b f
structure Chg (w w':World) (G:List Nat):Prop where
 os:w'.os=w.os
 tape:w'.tape=w.tape
 output:w'.output=w.output
 size:w.heap.size≤w'.heap.size
 block:∀ k,k<w.heap.size→k∉G→w'.heap[k]?=w.heap[k]?
theorem Chg.refl (w:World) (G:List Nat):Chg w w G:=⟨rfl,rfl,rfl,Aag _,fun _ _ _=>rfl⟩
theorem Chg.later {w w' w1:World} {G:List Nat} (h:Chg w w' G) (hx:Ext w' w1):Chg w w1 G:=
 ⟨hx.os.trans h.os,hx.tape.trans h.tape,hx.output.trans h.output,ZC h.size hx.size,fun k hk hn=>(hx.block (ZI hk h.size)).trans (h.block k hk hn)⟩
theorem Chg.toExt {w w':World} (h:Chg w w' []):Ext w w':=(Ext.refl w).trans' h.os h.tape h.output h.size fun k hk=>h.block k hk (by simp)
structure BB where
 W:World
 H:List Nat
 good:Good W H
def BB.own (w0:BB) (b:Nat):Prop:=w0.W.heap.size≤b∨b∈w0.H
structure AU (I:Ip) (w0:BB) (σ:St) (a:Act) (w:World):Prop where
 ext:Chg w0.W w w0.H
 defers:a.defers=[]
 size:a.tmps.size=σ.n
 slots:∀ i x,look σ.slots i=some x→VS I w x (a.tmps.getD i undef)
 res:∀ id r,look σ.res id=some r→RR I w id r
 old:∀ b,I.Z b→b<w.heap.size
 lt:∀ id,∀ b∈I.F id,b<w.heap.size∧¬ I.Z b
 own:∀ id r,look σ.res id=some r→(I.F id).Nodup∧∀ b∈I.F id,w0.own b∧DJ w b
 apart:∀ i j,i≠j→∀ b∈I.F i,b∉I.F j
def Rel (w0:BB) (σ:St) (a:Act) (w:World):Prop:=∃ I,AU I w0 σ a w
theorem AU.goodF {I:Ip} {w0:BB} {σ:St} {a:Act} {w:World} (h:AU I w0 σ a w) {G:List Nat} (hG:∀ b∈G,w0.own b):Good w G:=w0.good.step h.ext.size h.ext.block hG
theorem AU.good {I:Ip} {w0:BB} {σ:St} {a:Act} {w:World} (h:AU I w0 σ a w):Good w []:=h.goodF fun _ hb=>by cases hb
theorem VE.mono {I:Ip} {w w':World} (hx:Ext w w') {e:E} {c:Value} (h:VE I w e c):VE I w' e c:=by
 cases e with
 | t x=>obtain⟨G,h1,h2⟩:=h;exact⟨G,h1.mono hx,h2⟩
 | vw id x=>obtain⟨G,h1,h2⟩:=h;exact⟨G,h1.mono hx,h2⟩
 | rf id=>exact h
 | tl id k j=>exact h
 | pf id k j=>exact h
 | pp id o=>exact h
 | pr id k i j=>exact h
 | sb id k i j=>obtain⟨g,n,m,h1,h2,h3,h4⟩:=h;exact⟨g,n,m,h1,h2,Ij (hx.block h3) h3,(ZT (a:=⟨g,_,none⟩) (hx.block h3)).trans h4⟩
 | no=>trivial
theorem VEs.mono {I:Ip} {w w':World} (hx:Ext w w'):∀ {l:List E} {cs:List Value},VEs I w l cs→VEs I w' l cs
 | [],_,h=>h
 | _::_,_,⟨c,cr,h1,h2,h3⟩=>⟨c,cr,h1,h2.mono hx,h3.mono hx⟩
theorem VA.mono {I:Ip} {w w':World} (hx:Ext w w') {x:A} {v:Value} (h:VA I w x v):VA I w' x v:=by
 cases x with
 | one e=>exact VE.mono hx h
 | agg l=>obtain⟨cs,h1,h2⟩:=h;exact⟨cs,h1,h2.mono hx⟩
theorem VAs.mono {I:Ip} {w w':World} (hx:Ext w w'):∀ {l:List A} {cs:List Value},VAs I w l cs→VAs I w' l cs
 | [],_,h=>h
 | _::_,_,⟨c,cr,h1,h2,h3⟩=>⟨c,cr,h1,h2.mono hx,h3.mono hx⟩
theorem VS.mono {I:Ip} {w w':World} (hx:Ext w w') {x:Bool×S} {v:Value} (h:VS I w x v):VS I w' x v:=by
 obtain⟨p,x⟩:=x
 cases p
 · exact h
 cases x with
 | a x=>exact VA.mono hx h
 | tup l=>obtain⟨vs,h1,h2⟩:=h;exact⟨vs,h1,h2.mono hx⟩
theorem RR.mono {I:Ip} {w w':World} (hx:Ext w w') {id:Nat} {r:R} (h:RR I w id r):RR I w' id r:=by
 cases r with
 | row k rows=>exact C.mono h hx
 | box cs=>
  obtain⟨h1,vs,e,h2,h3⟩:=h
  exact⟨h1,vs,e,(hx.block (ZB.1 h2).1).trans h2,h3.mono hx⟩
 | hdr j x=>exact h
 | blk j b=>exact h
 | opq=>trivial
 | cur g=>exact⟨h.1,h.2.1,h.2.2.congr (hx.block h.2.2.lt) fun b hb hz=>⟨hz,hx.block hb⟩⟩
 | mp b f=>exact⟨h.1,h.2.congr (hx.block h.2.lt)⟩
 | kept K=>exact⟨h.1,fun x hx'=>⟨(hx.block (ZB.1 (h.2 x hx').1).1).trans (h.2 x hx').1,(h.2 x hx').2⟩⟩
theorem AU.later {I:Ip} {w0:BB} {w w':World} {σ:St} {a:Act} (h:AU I w0 σ a w) (hx:Ext w w'):AU I w0 σ a w':=
 ⟨h.ext.later hx,h.defers,h.size,fun i x hi=>(h.slots i x hi).mono hx,fun id r hi=>(h.res id r hi).mono hx,fun b hb=>ZI (h.old b hb) hx.size,
  fun id b hb=>⟨ZI (h.lt id b hb).1 hx.size,(h.lt id b hb).2⟩,
  fun id r hi=>⟨(h.own id r hi).1,fun b hb=>⟨((h.own id r hi).2 b hb).1,((h.own id r hi).2 b hb).2.ext hx⟩⟩,h.apart⟩
def St.put (σ:St) (d:Option Tmp) (x:Bool×S):St:=match d with|some d=>{ σ with slots:=(d,x)::σ.slots }|none=>σ
theorem AU.put {I:Ip} {w0:BB} {w:World} {σ:St} {a:Act} (h:AU I w0 σ a w) {d:Option Tmp} {x:Bool×S} {v:Value} (hd:d.all (fun d=>ZA d σ.n)=true) (hv:VS I w x v):AU I w0 (σ.put d x) (a.put d v) w:=by
 cases d with
 | none=>exact h
 | some d=>
  have hd':d<a.tmps.size:=by rw [h.size];have h2:ZA d σ.n=true:=hd;exact ZX h2
  refine⟨h.ext,h.defers,by simp [Act.put,St.put,h.size],fun i y hi=>?_,h.res,h.old,h.lt,h.own,h.apart⟩
  rw [St.put,AF] at hi
  by_cases e:d=i
  · subst e
    rw [if_pos rfl] at hi
    cases hi
    simpa [Act.put,hd'] using hv
  rw [if_neg e] at hi
  have:=h.slots i y hi
  simpa [Act.put,Array.getElem?_setIfInBounds_ne e] using this
def E.has (id:Nat):E→Bool
 | .rf i|.vw i _|.pp i _|.pr i _ _ _|.sb i _ _ _|.tl i _ _|.pf i _ _=>Z9 i id
 | _=>false
def A.has (id:Nat):A→Bool
 | .one e=>e.has id
 | .agg l=>l.any (E.has id)
def S.has (id:Nat):S→Bool
 | .a x=>x.has id
 | .tup l=>l.any (A.has id)
def R.has (id:Nat):R→Bool
 | .row _ _=>false
 | .box cs=>cs.any (E.has id)
 | .hdr (some j) _=>Z9 j id
 | .hdr none _=>false
 | .blk (some j) _=>Z9 j id
 | .blk none _=>false
 | .kept _=>false
 | .opq=>false
 | .cur _=>false
 | .mp _ _=>false
def St.has (σ:St) (id:Nat):Bool:=σ.slots.any (fun x=>x.2.2.has id)||σ.res.any (fun x=>Z9 x.1 id||x.2.has id)
def Ip.set (I:Ip) (id:Nat) (G:List Nat) (v:Value) (b:Nat):Ip:=
 ⟨I.Z,fun i=>if i=id then G else I.F i,fun i=>if i=id then v else I.hd i,fun i=>if i=id then b else I.B i⟩
theorem BT {i j:Nat} (h:Z9 i j=false):i≠j:=fun e=>by subst e;rw [ZW] at h;cases h
theorem VE.set {I:Ip} {w:World} {id:Nat} {G:List Nat} {u:Value} {b:Nat} {e:E} {c:Value} (he:e.has id=false) (h:VE I w e c):VE (I.set id G u b) w e c:=by
 cases e with
 | t x=>exact h
 | no=>trivial
 | rf i=>simp only [VE,Ip.set] at h ⊢;rw [if_neg (BT he)];exact h
 | tl i k j=>simp only [VE,Ip.set] at h ⊢;simp only [if_neg (BT he)];exact h
 | pf i k j=>simp only [VE,Ip.set] at h ⊢;simp only [if_neg (BT he)];exact h
 | vw i x=>simp only [VE,Ip.set] at h ⊢;simp only [if_neg (BT he)];exact h
 | pp i o=>simp only [VE,Ip.set] at h ⊢;rw [if_neg (BT he)];exact h
 | pr i k p q=>simp only [VE,Ip.set] at h ⊢;rw [if_neg (BT he)];exact h
 | sb i k p q=>simp only [VE,Ip.set] at h ⊢;simp only [if_neg (BT he)];exact h
theorem VEs.set {I:Ip} {w:World} {id:Nat} {G:List Nat} {u:Value} {b:Nat}:∀ {l:List E} {cs:List Value},l.any (E.has id)=false→VEs I w l cs→VEs (I.set id G u b) w l cs
 | [],_,_,h=>h
 | _::_,_,he,⟨c,cr,h1,h2,h3⟩=>by
  simp only [Aan,ZY] at he
  exact⟨c,cr,h1,h2.set he.1,h3.set he.2⟩
theorem VA.set {I:Ip} {w:World} {id:Nat} {G:List Nat} {u:Value} {b:Nat} {x:A} {v:Value} (he:x.has id=false) (h:VA I w x v):VA (I.set id G u b) w x v:=by
 cases x with
 | one e=>exact VE.set he h
 | agg l=>obtain⟨cs,h1,h2⟩:=h;exact⟨cs,h1,h2.set he⟩
theorem VAs.set {I:Ip} {w:World} {id:Nat} {G:List Nat} {u:Value} {b:Nat}:∀ {l:List A} {cs:List Value},l.any (A.has id)=false→VAs I w l cs→VAs (I.set id G u b) w l cs
 | [],_,_,h=>h
 | _::_,_,he,⟨c,cr,h1,h2,h3⟩=>by
  simp only [Aan,ZY] at he
  exact⟨c,cr,h1,h2.set he.1,h3.set he.2⟩
theorem VS.set {I:Ip} {w:World} {id:Nat} {G:List Nat} {u:Value} {b:Nat} {x:Bool×S} {v:Value} (he:x.2.has id=false) (h:VS I w x v):VS (I.set id G u b) w x v:=by
 obtain⟨p,x⟩:=x
 cases p
 · exact h
 cases x with
 | a x=>exact VA.set he h
 | tup l=>obtain⟨vs,h1,h2⟩:=h;exact⟨vs,h1,h2.set he⟩
theorem RR.set {I:Ip} {w:World} {id:Nat} {G:List Nat} {u:Value} {b:Nat} {i:Nat} {r:R} (hi:i≠id) (he:r.has id=false) (h:RR I w i r):RR (I.set id G u b) w i r:=by
 cases r with
 | row k rows=>simp only [RR,Ip.set,if_neg hi] at h ⊢;exact h
 | box cs=>
  obtain⟨h1,vs,e,h2,h3⟩:=h
  refine⟨by simp only [Ip.set,if_neg hi];exact h1,vs,e,by simp only [Ip.set,if_neg hi];exact h2,h3.set he⟩
 | kept K=>exact⟨by simp only [Ip.set,if_neg hi];exact h.1,h.2⟩
 | opq=>trivial
 | cur g=>simp only [RR,Ip.set,if_neg hi] at h ⊢;exact h
 | mp b f=>simp only [RR,Ip.set,if_neg hi] at h ⊢;exact h
 | hdr j x=>
  refine⟨by simp only [Ip.set,if_neg hi];exact h.1,fun k hk=>?_⟩
  subst hk
  simp only [Ip.set,if_neg (BT he)]
  exact h.2 k rfl
 | blk j b=>
  refine⟨by simp only [Ip.set,if_neg hi];exact h.1,fun k hk=>?_⟩
  subst hk
  simp only [Ip.set,if_neg (BT he)]
  exact h.2 k rfl
theorem HB {α:Type}:∀ {l:List (Nat×α)} {i:Nat} {x:α},look l i=some x→(i,x)∈l
 | [],_,_,h=>by cases h
 | (j,y)::l,i,x,h=>by
  rw [AF] at h
  by_cases e:j=i
  · subst e;rw [if_pos rfl] at h;cases h;simp
  rw [if_neg e] at h;simp [HB h]
theorem St.has_slot {σ:St} {id i:Nat} {x:Bool×S} (h:σ.has id=false) (hi:look σ.slots i=some x):x.2.has id=false:=by
 simp only [St.has,ZY,Aao] at h
 simpa using h.1 _ (HB hi)
theorem St.has_res {σ:St} {id i:Nat} {r:R} (h:σ.has id=false) (hi:look σ.res i=some r):i≠id∧r.has id=false:=by
 simp only [St.has,ZY,Aao] at h
 have:=h.2 _ (HB hi)
 simp only [Bool.or_eq_true,not_or,Bool.not_eq_true] at this
 exact⟨BT this.1,this.2⟩
def St.add (σ:St) (id:Nat) (r:R):St:={ σ with res:=(id,r)::σ.res }
theorem AU.add {I:Ip} {w0:BB} {w w':World} {σ:St} {a:Act} (h:AU I w0 σ a w) {id:Nat} (hf:σ.has id=false) (hx:Ext w w') {G:List Nat} {u:Value} {b:Nat} {r:R}
 (hG:G.Nodup∧∀ b∈G,w.heap.size≤b∧b<w'.heap.size∧DJ w' b) (hr:RR (I.set id G u b) w' id r):AU (I.set id G u b) w0 (σ.add id r) a w':=by
 have h':=h.later hx
 have key:∀ i r',look (σ.add id r).res i=some r'→(i=id∧r'=r)∨(i≠id∧look σ.res i=some r'):=by
  intro i r' hi
  rw [St.add,AF] at hi
  by_cases e:id=i
  · rw [if_pos e] at hi;cases hi;exact .inl ⟨e.symm,rfl⟩
  rw [if_neg e] at hi;exact .inr ⟨fun e'=>e e'.symm,hi⟩
 have Fid:(I.set id G u b).F id=G:=by simp [Ip.set]
 have Foth:∀ i,i≠id→(I.set id G u b).F i=I.F i:=fun i hi=>by simp [Ip.set,hi]
 refine⟨h'.ext,h'.defers,h'.size,fun i x hi=>(h'.slots i x hi).set (St.has_slot hf hi),fun i r' hi=>?_,h'.old,fun i b hb=>?_,fun i r' hi=>?_,fun i j hne=>?_⟩
 · rcases key i r' hi with ⟨rfl,rfl⟩|⟨e,hi⟩
   · exact hr
   exact (h'.res i r' hi).set e (St.has_res hf hi).2
 · by_cases e:i=id
   · rw [e,Fid] at hb
     exact⟨(hG.2 b hb).2.1,fun hz=>by have:=h.old b hz;have:=(hG.2 b hb).1;omega⟩
   rw [Foth i e] at hb;exact h'.lt i b hb
 · rcases key i r' hi with ⟨rfl,rfl⟩|⟨e,hi⟩
   · rw [Fid]
     exact⟨hG.1,fun b hb=>⟨.inl (ZC h.ext.size (hG.2 b hb).1),(hG.2 b hb).2.2⟩⟩
   rw [Foth i e];exact h'.own i r' hi
 by_cases ei:i=id
 · by_cases ej:j=id
   · exact absurd (ei.trans ej.symm) hne
   rw [ei,Fid,Foth j ej]
   exact fun b hb hb'=>by have:=(h.lt j b hb').1;have:=(hG.2 b hb).1;omega
 by_cases ej:j=id
 · rw [ej,Fid,Foth i ei]
   exact fun b hb hb'=>by have:=(h.lt i b hb).1;have:=(hG.2 b hb').1;omega
 rw [Foth i ei,Foth j ej];exact h.apart i j hne
def E.pur (id:Nat):E→E
 | .rf i=>bif Z9 i id then .no else .rf i
 | .vw i x=>bif Z9 i id then .no else .vw i x
 | .pr i k p q=>bif Z9 i id then .no else .pr i k p q
 | .sb i k p q=>bif Z9 i id then .no else .sb i k p q
 | .tl i k j=>bif Z9 i id then .no else .tl i k j
 | .pf i k j=>bif Z9 i id then .no else .pf i k j
 | e=>e
def A.pur (id:Nat):A→A
 | .one e=>.one (e.pur id)
 | .agg l=>.agg (l.map (E.pur id))
def S.pur (id:Nat):S→S
 | .a x=>.a (x.pur id)
 | .tup l=>.tup (l.map (A.pur id))
def R.pur (id:Nat):R→R
 | .row k rows=>.row k rows
 | .box cs=>.box (cs.map (E.pur id))
 | .hdr j x=>.hdr (match j with|some j=>bif Z9 j id then none else some j|none=>none) x
 | .blk j b=>.blk (match j with|some j=>bif Z9 j id then none else some j|none=>none) b
 | .kept K=>.kept K
 | .opq=>.opq
 | .cur g=>.cur g
 | .mp b f=>.mp b f
def FA:List (Nat×R)→Nat→R→List (Nat×R)
 | [],_,_=>[]
 | (i,x)::l,id,r=>bif Z9 i id then (i,r)::l else (i,x)::FA l id r
def St.pur (σ:St) (id:Nat):St:={ σ with slots:=σ.slots.map (fun x=>(x.1,(x.2.1,x.2.2.pur id))),res:=σ.res.map (fun x=>(x.1,x.2.pur id)) }
def St.chg (σ:St) (id:Nat) (r:R):St:={ σ.pur id with res:=FA (σ.pur id).res id r }
theorem DY {α β:Type} (f:α→β):∀ (l:List (Nat×α)) (i:Nat),look (l.map fun x=>(x.1,f x.2)) i=(look l i).map f
 | [],_=>rfl
 | (j,y)::l,i=>by
  rw [List.map_cons,AF,AF]
  by_cases e:j=i
  · rw [if_pos e,if_pos e];rfl
  rw [if_neg e,if_neg e];exact DY f l i
theorem HA:∀ (l:List (Nat×R)) (id:Nat) (r:R) (i:Nat) (x:R),look (FA l id r) i=some x→(i=id∧x=r∧∃ y,look l id=some y)∨(i≠id∧look l i=some x)
 | [],_,_,_,_,h=>by cases h
 | (j,y)::l,id,r,i,x,h=>by
  rw [FA] at h
  by_cases e:j=id
  · subst e
    simp only [ZW,cond_true] at h
    rw [AF] at h
    by_cases e:j=i
    · rw [if_pos e] at h;cases h;exact .inl ⟨e.symm,rfl,y,by rw [AF,if_pos rfl]⟩
    rw [if_neg e] at h;exact .inr ⟨fun h=>e h.symm,by rw [AF,if_neg e];exact h⟩
  have eb:Z9 j id=false:=by
   cases hb:Z9 j id with
   | false=>rfl
   | true=>exact absurd (ZN hb) e
  simp only [eb,cond_false] at h
  rw [AF] at h
  by_cases e':j=i
  · rw [if_pos e'] at h;cases h
    exact .inr ⟨fun h=>e (e'.trans h),by rw [AF,if_pos e']⟩
  rw [if_neg e'] at h
  rcases HA l id r i x h with ⟨h1,h2,y',h3⟩|⟨h1,h2⟩
  · exact .inl ⟨h1,h2,y',by rw [AF,if_neg e];exact h3⟩
  exact .inr ⟨h1,by rw [AF,if_neg e'];exact h2⟩
theorem Chg.ext {w0:BB} {w w':World} {G:List Nat} (h:Chg w0.W w w0.H) (hc:Chg w w' G) (hG:∀ b∈G,w0.own b):Chg w0.W w' w0.H:=
 ⟨hc.os.trans h.os,hc.tape.trans h.tape,hc.output.trans h.output,ZC h.size hc.size,fun k hk hn=>(hc.block k (ZI hk h.size) fun hm=>by
  rcases hG k hm with g|g
  · omega
  exact hn g).trans (h.block k hk hn)⟩
theorem VE.pur {I:Ip} {w w':World} {id:Nat} {G:List Nat} {u:Value} (hc:Chg w w' (I.F id)) (hZ:∀ b,I.Z b→b∉I.F id) (hv:∀ i,i≠id→∀ b∈I.F i,b∉I.F id) {e:E} {c:Value} (h:VE I w e c) :
 VE (I.set id G u (I.B id)) w' (e.pur id) c:=by
 have hb:∀ (i:Nat),(bif Z9 i id then true else false)=true↔i=id:=fun i=>by
  cases hb:Z9 i id with
  | false=>simp [BT hb]
  | true=>simp [ZN hb]
 cases e with
 | t x=>obtain⟨G,h1,h2⟩:=h;exact⟨G,h1.congr fun b hb=>hc.block b (h1.lt b hb) (hZ b (h2 b hb)),h2⟩
 | no=>trivial
 | rf i=>
  simp only [E.pur]
  cases e:Z9 i id with
  | true=>trivial
  | false=>simp only [cond_false,VE,Ip.set] at h ⊢;rw [if_neg (BT e)];exact h
 | tl i k j=>
  simp only [E.pur]
  cases e:Z9 i id with
  | true=>trivial
  | false=>simp only [cond_false,VE,Ip.set] at h ⊢;simp only [if_neg (BT e)];exact h
 | pf i k j=>
  simp only [E.pur]
  cases e:Z9 i id with
  | true=>trivial
  | false=>simp only [cond_false,VE,Ip.set] at h ⊢;simp only [if_neg (BT e)];exact h
 | vw i x=>
  simp only [E.pur]
  cases e:Z9 i id with
  | true=>trivial
  | false=>
   obtain⟨G',h1,h2⟩:=h
   simp only [cond_false,VE,Ip.set,if_neg (BT e)]
   exact⟨G',h1.congr fun b hb=>hc.block b (h1.lt b hb) (hv i (BT e) b (h2 b hb)),h2⟩
 | pr i k p q=>
  simp only [E.pur]
  cases e:Z9 i id with
  | true=>trivial
  | false=>simp only [cond_false,VE,Ip.set] at h ⊢;rw [if_neg (BT e)];exact h
 | sb i k p q=>
  simp only [E.pur]
  cases e:Z9 i id with
  | true=>trivial
  | false=>
   obtain⟨g,n,m,h1,h2,h3,h4⟩:=h
   have hb':=hc.block g h3 (hv i (BT e) g h2)
   simp only [cond_false,VE,Ip.set,if_neg (BT e)]
   exact⟨g,n,m,h1,h2,Ij hb' h3,(ZT (a:=⟨g,_,none⟩) hb').trans h4⟩
 | pp i o=>
  simp only [E.pur,VE,Ip.set] at h ⊢
  by_cases e:i=id
  · rw [if_pos e,←e];exact h
  rw [if_neg e];exact h
theorem VEs.pur {I:Ip} {w w':World} {id:Nat} {G:List Nat} {u:Value} (hc:Chg w w' (I.F id)) (hZ:∀ b,I.Z b→b∉I.F id) (hv:∀ i,i≠id→∀ b∈I.F i,b∉I.F id):∀ {l:List E} {cs:List Value},VEs I w l cs→
 VEs (I.set id G u (I.B id)) w' (l.map (E.pur id)) cs
 | [],_,h=>h
 | _::_,_,⟨c,cr,h1,h2,h3⟩=>⟨c,cr,h1,h2.pur hc hZ hv,h3.pur hc hZ hv⟩
theorem VA.pur {I:Ip} {w w':World} {id:Nat} {G:List Nat} {u:Value} (hc:Chg w w' (I.F id)) (hZ:∀ b,I.Z b→b∉I.F id) (hv:∀ i,i≠id→∀ b∈I.F i,b∉I.F id) {x:A} {v:Value} (h:VA I w x v) :
 VA (I.set id G u (I.B id)) w' (x.pur id) v:=by
 cases x with
 | one e=>exact VE.pur hc hZ hv h
 | agg l=>obtain⟨cs,h1,h2⟩:=h;exact⟨cs,h1,h2.pur hc hZ hv⟩
theorem VAs.pur {I:Ip} {w w':World} {id:Nat} {G:List Nat} {u:Value} (hc:Chg w w' (I.F id)) (hZ:∀ b,I.Z b→b∉I.F id) (hv:∀ i,i≠id→∀ b∈I.F i,b∉I.F id):∀ {l:List A} {cs:List Value},VAs I w l cs→
 VAs (I.set id G u (I.B id)) w' (l.map (A.pur id)) cs
 | [],_,h=>h
 | _::_,_,⟨c,cr,h1,h2,h3⟩=>⟨c,cr,h1,h2.pur hc hZ hv,h3.pur hc hZ hv⟩
theorem VS.pur {I:Ip} {w w':World} {id:Nat} {G:List Nat} {u:Value} (hc:Chg w w' (I.F id)) (hZ:∀ b,I.Z b→b∉I.F id) (hv:∀ i,i≠id→∀ b∈I.F i,b∉I.F id) {x:Bool×S} {v:Value} (h:VS I w x v) :
 VS (I.set id G u (I.B id)) w' (x.1,x.2.pur id) v:=by
 obtain⟨p,x⟩:=x
 cases p
 · exact h
 cases x with
 | a x=>exact VA.pur hc hZ hv h
 | tup l=>obtain⟨vs,h1,h2⟩:=h;exact⟨vs,h1,h2.pur hc hZ hv⟩
theorem DJ.chg {w w':World} {G:List Nat} (hc:Chg w w' G) {b:Nat} (h:DJ w b) (hb:b∉G):DJ w' b:=by
 obtain⟨c,e,h⟩:=h
 exact⟨c,e,(hc.block b (ZB.1 h).1 hb).trans h⟩
def EK (I:Ip) (w0:BB) (w:World) (b:Nat):Prop:=w0.own b∧b<w.heap.size∧DJ w b∧¬ I.Z b∧∀ i,b∉I.F i
theorem AU.chg {I:Ip} {w0:BB} {w w':World} {σ:St} {a:Act} (h:AU I w0 σ a w) {id:Nat} {r0:R} (h0:look σ.res id=some r0) (hc:Chg w w' (I.F id)) {G:List Nat} {u:Value} {r:R}
 (hG:G.Nodup∧∀ b∈G,w0.own b∧b<w'.heap.size∧DJ w' b∧(b∈I.F id∨w.heap.size≤b∨EK I w0 w b)) (hr:RR (I.set id G u (I.B id)) w' id r):AU (I.set id G u (I.B id)) w0 (σ.chg id r) a w':=by
 have hZ:∀ b,I.Z b→b∉I.F id:=fun b hz hb=>(h.lt id b hb).2 hz
 have hv:∀ i,i≠id→∀ b∈I.F i,b∉I.F id:=fun i hi=>h.apart i id hi
 have Fid:(I.set id G u (I.B id)).F id=G:=by simp [Ip.set]
 have Foth:∀ i,i≠id→(I.set id G u (I.B id)).F i=I.F i:=fun i hi=>by simp [Ip.set,hi]
 have key:∀ i r',look (σ.chg id r).res i=some r'→(i=id∧r'=r)∨(i≠id∧∃ y,look σ.res i=some y∧r'=y.pur id):=by
  intro i r' hi
  rcases HA _ _ _ _ _ hi with ⟨h1,h2,_⟩|⟨h1,h2⟩
  · exact .inl ⟨h1,h2⟩
  refine .inr ⟨h1,?_⟩
  rw [St.pur,DY] at h2
  obtain⟨y,hy,e⟩:=Option.map_eq_some_iff.1 h2
  exact⟨y,hy,e.symm⟩
 refine⟨Chg.ext h.ext hc fun b hb=>((h.own id r0 h0).2 b hb).1,h.defers,h.size,fun i x hi=>?_,fun i r' hi=>?_,fun b hb=>ZI (h.old b hb) hc.size,fun i b hb=>?_,fun i r' hi=>?_,fun i j hne=>?_⟩
 · have hi':look (σ.slots.map fun x=>(x.1,(x.2.1,x.2.2.pur id))) i=some x:=hi
   rw [DY (fun x:Bool×S=>(x.1,x.2.pur id))] at hi'
   obtain⟨y,hy,rfl⟩:=Option.map_eq_some_iff.1 hi'
   exact (h.slots i y hy).pur hc hZ hv
 · rcases key i r' hi with ⟨rfl,rfl⟩|⟨e,y,hy,rfl⟩
   · exact hr
   have:=h.res i y hy
   cases y with
   | row k rows=>
    have this:C true w (.sl k rows) (I.hd i) (I.F i):=this
    show C true w' (.sl k rows) _ _
    simp only [Ip.set,if_neg e]
    exact this.congr fun b hb=>hc.block b (this.lt b hb) (hv i e b hb)
   | box cs=>
    obtain⟨h1,vs,t,h2,h3⟩:=this
    refine⟨by simpa only [Ip.set,if_neg e] using h1,vs,t,?_,h3.pur hc hZ hv⟩
    simp only [Ip.set,if_neg e]
    exact (hc.block _ (ZB.1 h2).1 (hv i e _ (by rw [h1];simp))).trans h2
   | opq=>trivial
   | cur g=>
    have this:I.F i=[g.1]∧I.B i=g.1∧CuB I.Z w g:=this
    refine⟨by simpa only [Ip.set,if_neg e] using this.1,by simpa only [Ip.set,if_neg e] using this.2.1,?_⟩
    exact this.2.2.congr (hc.block _ this.2.2.lt (hv i e _ (by rw [this.1];simp))) fun b hb hz=>⟨hz,hc.block b hb (hZ b hz)⟩
   | mp b f=>
    have this:I.F i=[b]∧FL w b f:=this
    exact⟨by simpa only [Ip.set,if_neg e] using this.1,this.2.congr (hc.block _ this.2.lt (hv i e _ (by rw [this.1];simp)))⟩
   | kept K=>exact⟨by simp only [Ip.set,if_neg e];exact this.1,fun x hx=>⟨(hc.block x.1 (h.old _ (this.2 x hx).2) (hZ _ (this.2 x hx).2)).trans (this.2 x hx).1,(this.2 x hx).2⟩⟩
   | hdr j x=>
    refine⟨by simp only [Ip.set,if_neg e];exact this.1,fun k hk=>?_⟩
    cases j with
    | none=>cases hk
    | some j=>
     simp only at hk
     cases hb:Z9 j id with
     | true=>rw [hb] at hk;cases hk
     | false=>
      rw [hb] at hk
      cases hk
      simp only [Ip.set,if_neg (BT hb)]
      exact this.2 _ rfl
   | blk j b=>
    refine⟨by simp only [Ip.set,if_neg e];exact this.1,fun k hk=>?_⟩
    cases j with
    | none=>cases hk
    | some j=>
     simp only at hk
     cases hb:Z9 j id with
     | true=>rw [hb] at hk;cases hk
     | false=>
      rw [hb] at hk
      cases hk
      simp only [Ip.set,if_neg (BT hb)]
      exact this.2 _ rfl
 · by_cases e:i=id
   · rw [e,Fid] at hb
     have g:=hG.2 b hb
     refine⟨g.2.1,fun hz=>?_⟩
     rcases g.2.2.2 with g|g|g
     · exact (h.lt id b g).2 hz
     · have:=h.old b hz;omega
     exact g.2.2.2.1 hz
   rw [Foth i e] at hb
   exact⟨ZI (h.lt i b hb).1 hc.size,(h.lt i b hb).2⟩
 · rcases key i r' hi with ⟨rfl,rfl⟩|⟨e,y,hy,rfl⟩
   · rw [Fid];exact⟨hG.1,fun b hb=>⟨(hG.2 b hb).1,(hG.2 b hb).2.2.1⟩⟩
   rw [Foth i e]
   exact⟨(h.own i y hy).1,fun b hb=>⟨((h.own i y hy).2 b hb).1,((h.own i y hy).2 b hb).2.chg hc (hv i e b hb)⟩⟩
 by_cases ei:i=id
 · by_cases ej:j=id
   · exact absurd (ei.trans ej.symm) hne
   rw [ei,Fid,Foth j ej]
   intro b hb hb'
   rcases (hG.2 b hb).2.2.2 with g|g|g
   · exact h.apart id j (fun e=>ej e.symm) b g hb'
   · have:=(h.lt j b hb').1;omega
   exact g.2.2.2.2 j hb'
 by_cases ej:j=id
 · rw [ej,Fid,Foth i ei]
   intro b hb hb'
   rcases (hG.2 b hb').2.2.2 with g|g|g
   · exact h.apart i id ei b hb g
   · have:=(h.lt i b hb).1;omega
   exact g.2.2.2.2 i hb
 rw [Foth i ei,Foth j ej];exact h.apart i j hne
def lift (w0:BB) (Q:Exit→St→Prop):Exit→Act→World→Prop:=fun e a w=>∃ σ,Q e σ∧Rel w0 σ a w
def AW (P:Program) (w0:BB) (c:Code) (Q:Exit→St→Prop) (σ:St):Prop:=∀ a w,Rel w0 σ a w→c.wp P (lift w0 Q) a w
def AWl (P:Program) (w0:BB) (ops:Array Oper) (Q:Exit→St→Prop) (l:List Oper) (σ:St):Prop:=∀ a w,Rel w0 σ a w→wpList P ops (lift w0 Q) l a w
def Le (σ σ':St):Prop:=∀ w0 a w,Rel w0 σ a w→Rel w0 σ' a w
theorem Le.refl (σ:St):Le σ σ:=fun _ _ _ h=>h
inductive Get (σ:St) (q:Bool):Operand→A→Prop where
 | tmp {i:Nat} {p:Bool} {x:A} (h:look σ.slots i=some (p,.a x)) (hp:q=true→p=true):Get σ q (.tmp i) x
 | const {v:Value} (h:v.oneCell'=true):Get σ q (.const v) (.one (.t (.v v)))
 | func {f:FuncId}:Get σ q (.func f) (.one (.t (.fn (.func f) [] [])))
theorem Get.va {σ:St} {q:Bool} {x:Operand} {A0:A} (h:Get σ q x A0) {I:Ip} {w0:BB} {w:World} {a:Act} (hr:AU I w0 σ a w) (hq:q=true):VA I w A0 (a.eval x):=by
 cases h with
 | tmp h hp=>
  have:=hr.slots _ _ h
  rw [hp hq] at this
  exact this
 | const h=>exact⟨[],by simp [C,Act.eval,h],by simp⟩
 | func=>exact⟨[],by simp only [C];exact⟨[],[],[],[],rfl,by simp [Cs],by simp [Cs],rfl⟩,by simp⟩
theorem Get.int {σ:St} {q:Bool} {x:Operand} {v:Value} (h:Get σ q x (.one (.t (.v v)))) {I:Ip} {w0:BB} {w:World} {a:Act} (hr:AU I w0 σ a w) (hq:q=true):a.eval x=v:=by
 obtain⟨G,h1,_⟩:=h.va hr hq
 simp only [C] at h1
 exact h1.1
section
variable {P:Program} {w0:BB} {Q:Exit→St→Prop} {σ:St}
theorem As {c:Code} {σ':St} (hl:Le σ σ') (h:AW P w0 c Q σ'):AW P w0 c Q σ:=fun a w hr=>h a w (hl w0 a w hr)
def PA (K:St→Prop) (Q:Exit→St→Prop):Exit→St→Prop
 | .normal,σ=>K σ
 | e,σ=>Q e σ
theorem Ae {x y:Code} (h:AW P w0 x (PA (AW P w0 y Q) Q) σ):AW P w0 (.seq x y) Q σ:=fun a w hr=>by
 refine wp_seq (wp_mono (h a w hr) ?_)
 rintro e a' w' ⟨σ',h1,h2⟩
 cases e with
 | normal=>exact h1 a' w' h2
 | exit id=>exact⟨σ',h1,h2⟩
 | goto l=>exact⟨σ',h1,h2⟩
 | ret=>exact⟨σ',h1,h2⟩
 | panic c=>exact⟨σ',h1,h2⟩
 | outgrown=>exact⟨σ',h1,h2⟩
def I8 (id:Nat) (Q:Exit→St→Prop):Exit→St→Prop
 | .exit i,σ=>bif Z9 i id then Q .normal σ else Q (.exit i) σ
 | e,σ=>Q e σ
theorem AW.block {id:Nat} {c:Code} (h:AW P w0 c (I8 id Q) σ):AW P w0 (.block id c) Q σ:=fun a w hr=>by
 refine wp_block (wp_mono (h a w hr) ?_)
 rintro e a' w' ⟨σ',h1,h2⟩
 cases e with
 | normal=>exact⟨σ',h1,h2⟩
 | exit i=>
  simp only [I8] at h1
  simp only [Exit.inBlock]
  split
  · rename_i e;subst e;simp only [ZW,cond_true] at h1;exact⟨σ',h1,h2⟩
  rename_i e
  have eb:Z9 i id=false:=by
   cases hb:Z9 i id with
   | false=>rfl
   | true=>exact absurd (ZN hb) e
  simp only [eb,cond_false] at h1;exact⟨σ',h1,h2⟩
 | goto l=>exact⟨σ',h1,h2⟩
 | ret=>exact⟨σ',h1,h2⟩
 | panic c=>exact⟨σ',h1,h2⟩
 | outgrown=>exact⟨σ',h1,h2⟩
theorem Am (h:Q .normal σ):AW P w0 .skip Q σ:=fun _ _ hr=>wp_skip ⟨σ,h,hr⟩
theorem Aq (h:Q .ret σ):AW P w0 .ret Q σ:=fun _ _ hr=>wp_ret ⟨σ,h,hr⟩
theorem Bf {id:Nat} (h:Q (.exit id) σ):AW P w0 (.exit id) Q σ:=fun _ _ hr=>wp_exit ⟨σ,h,hr⟩
theorem Ai {c:Operand} {x y:Code} {b:Bool} (hc:Get σ true c (.one (.t (.v (.bool b))))) (ht:b=true→AW P w0 x Q σ) (hf:b=false→AW P w0 y Q σ):AW P w0 (.cond c x y) Q σ:=fun a w hr=>by
 obtain⟨I,hI⟩:=hr
 exact wp_cond_split (hc.int hI rfl) (fun e=>ht e a w ⟨I,hI⟩) (fun e=>hf e a w ⟨I,hI⟩)
def EX {β:Type} (Inv:β→Prop) (J:β→St) (m:β→Nat) (x:β) (Q:Exit→St→Prop):Exit→St→Prop:=PA (fun σ=>∃ y,Inv y∧m y<m x∧Le σ (J y)) Q
theorem De {β:Type} (Inv:β→Prop) (J:β→St) (m:β→Nat) (x0:β) {c:Code} (h0:Inv x0) (hs:Le σ (J x0)) (round:∀ x,Inv x→AW P w0 c (EX Inv J m x Q) (J x)):AW P w0 (.loop c) Q σ:=fun a w hr=>by
 refine wp_loop_ghost (fun n a w=>∃ x,Inv x∧m x=n∧Rel w0 (J x) a w) (m x0) ⟨x0,h0,rfl,hs w0 a w hr⟩ ?_
 rintro n a w ⟨x,hx,rfl,hr⟩
 refine wp_mono (round x hx a w hr) ?_
 rintro e a' w' ⟨σ',h1,h2⟩
 cases e with
 | normal=>
  obtain⟨y,hy,hm,hl⟩:=h1
  exact⟨m y,hm,y,hy,rfl,hl w0 a' w' h2⟩
 | exit id=>exact⟨σ',h1,h2⟩
 | goto l=>exact⟨σ',h1,h2⟩
 | ret=>exact⟨σ',h1,h2⟩
 | panic c=>exact⟨σ',h1,h2⟩
 | outgrown=>exact⟨σ',h1,h2⟩
theorem EX.next {β:Type} {Inv:β→Prop} {J:β→St} {m:β→Nat} {x:β} (y:β) (h1:Inv y) (h2:m y<m x) (h3:Le σ (J y)):EX Inv J m x Q .normal σ:=⟨y,h1,h2,h3⟩
theorem Ad {id:Nat} {l:List Oper} (h:AWl P w0 l.toArray Q l σ):AW P w0 (.region id l.toArray false) Q σ:=fun a w hr=>wp_region_lit (h a w hr)
theorem Aa {ops:Array Oper} (h:Q .normal σ):AWl P w0 ops Q [] σ:=fun _ _ hr=>wpList_nil ⟨σ,h,hr⟩
def Op1 (P:Program) (ops:Array Oper) (o:Oper) (σ σ':St):Prop:=∀ w0 a w,Rel w0 σ a w→∀ (K:Act→World→Prop) (Q:Exit→Act→World→Prop),(∀ a' w',Rel w0 σ' a' w'→K a' w')→
 if Region.wanted o (yielded ops a.tmps) then o.wp P a w K Q else K (a.put o.dst undef) w
theorem AWl.op {ops:Array Oper} {o:Oper} {l:List Oper} {σ':St} (ho:Op1 P ops o σ σ') (h:AWl P w0 ops Q l σ'):AWl P w0 ops Q (o::l) σ:=fun a w hr=>
 wpList_step fun K hK=>ho w0 a w hr K _ fun a' w' hr'=>hK a' w' (h a' w' hr')
end
inductive Grd (ops:Array Oper) (o:Oper) (σ:St):Bool→Prop where
 | no (hg:o.guard=none):Grd ops o σ true
 | yes {j d:Nat} {p b:Bool} (hg:o.guard=some (j,true)) (hd:(ops[j]?).bind (·.dst)=some d) (h:look σ.slots d=some (p,.a (.one (.t (.v (.bool b)))))) (hn:ZA d σ.n=true):Grd ops o σ (p&&b)
 | not {j d:Nat} {p b:Bool} (hg:o.guard=some (j,false)) (hd:(ops[j]?).bind (·.dst)=some d) (h:look σ.slots d=some (p,.a (.one (.t (.v (.bool b)))))) (hn:ZA d σ.n=true):Grd ops o σ (p&&!b)
 | yes1 {j d:Nat} {b:Bool} (hg:o.guard=some (j,true)) (hd:(ops[j]?).bind (·.dst)=some d) (h:look σ.slots d=some (true,.a (.one (.t (.v (.bool b)))))) (hn:ZA d σ.n=true):Grd ops o σ b
 | not1 {j d:Nat} {b:Bool} (hg:o.guard=some (j,false)) (hd:(ops[j]?).bind (·.dst)=some d) (h:look σ.slots d=some (true,.a (.one (.t (.v (.bool b)))))) (hn:ZA d σ.n=true):Grd ops o σ (!b)
theorem KJ {ops:Array Oper} {σ:St} {I:Ip} {w0:BB} {w:World} {a:Act} (hr:AU I w0 σ a w) {j d:Nat} {p b:Bool} (hd:(ops[j]?).bind (·.dst)=some d) (h:look σ.slots d=some (p,.a (.one (.t (.v (.bool b)))))) (hn:ZA d σ.n=true) :
 yielded ops a.tmps j=if p=true then some b else none:=by
 have hdn:d<a.tmps.size:=by rw [hr.size];exact ZX hn
 have hv:=hr.slots d _ h
 unfold yielded
 rw [hd]
 simp only [Option.bind_some,ZS hdn]
 rw [Aaq,ZS hdn,Option.getD_some] at hv
 cases p with
 | false=>
  have hv':a.tmps[d]=undef:=hv
  rw [hv'];rfl
 | true=>
  obtain⟨G,h1,_⟩:VA I w (.one (.t (.v (.bool b)))) a.tmps[d]:=hv
  simp only [C] at h1
  rw [h1.1];rfl
theorem Grd.wanted {ops:Array Oper} {o:Oper} {σ:St} {q:Bool} (h:Grd ops o σ q) {I:Ip} {w0:BB} {w:World} {a:Act} (hr:AU I w0 σ a w):Region.wanted o (yielded ops a.tmps)=q:=by
 cases h with
 | no hg=>simp [Region.wanted,hg]
 | yes hg hd h hn=>
  rename_i p b
  simp only [Region.wanted,hg]
  rw [KJ hr hd h hn]
  cases p<;>cases b<;>rfl
 | not hg hd h hn=>
  rename_i p b
  simp only [Region.wanted,hg]
  rw [KJ hr hd h hn]
  cases p<;>cases b<;>rfl
 | yes1 hg hd h hn=>
  simp only [Region.wanted,hg]
  rw [KJ hr hd h hn]
  cases q<;>rfl
 | not1 hg hd h hn=>
  rename_i b
  simp only [Region.wanted,hg]
  rw [KJ hr hd h hn]
  cases b<;>rfl
theorem Op1.val {P:Program} {ops:Array Oper} {o:Oper} {σ:St} {q:Bool} {x:S} (hg:Grd ops o σ q) (hd:o.dst.all (fun d=>ZA d σ.n)=true)
 (h:∀ I w0 a w,AU I w0 σ a w→q=true→∃ v,(execOp a.eval o).run P w=.ok (.value v) w∧VS I w (true,x) v):Op1 P ops o σ (σ.put o.dst (q,x)):=by
 rintro w0 a w ⟨I,hI⟩ K Q hK
 rw [hg.wanted hI]
 cases q with
 | true=>
  simp only [if_true]
  obtain⟨v,h1,h2⟩:=h I w0 a w hI rfl
  unfold Oper.wp
  rw [h1]
  exact hK _ _ ⟨I,hI.put hd h2⟩
 | false=>exact hK _ _ ⟨I,hI.put hd rfl⟩
inductive V0 where
 | one (t:T)
 | agg (l:List T)
inductive V where
 | a (x:V0)
 | tup (l:List V0)
def V0r (o:Bool) (w:World):V0→Value→List Nat→Prop
 | .one t,v,F=>C o w t v F
 | .agg l,v,F=>∃ cs,v=.agg (ZH cs)∧Cs o w l cs F
def V0s (o:Bool) (w:World):List V0→List Value→List Nat→Prop
 | [],vs,F=>vs=[]∧F=[]
 | x::r,vs,F=>∃ v vr G1 G2,vs=v::vr∧V0r o w x v G1∧V0s o w r vr G2∧F=G1++G2
def Vr (o:Bool) (w:World):V→Value→List Nat→Prop
 | .a x,v,F=>V0r o w x v F
 | .tup l,v,F=>∃ vs,v=.tuple (ZH vs)∧V0s o w l vs F
def O5 (w:World) (out:V) (e:Ending) (w':World):Prop:=∃ v F,e=.returned v∧Vr true w' out v F∧F.Nodup∧(∀ b∈F,w.heap.size≤b∧DJ w' b)∧Ext w w'
def Ek (P:Program) (f:FuncId):Prop:=∃ fn,P.funcs[f]?=some fn∧(fn.name == "runtime.NumGoroutine")=false∧fn.body.isNone=false
def FnT (P:Program) (f:FuncId) (ins:List V0) (out:V):Prop:=Ek P f∧∀ w vs F,Good w []→V0s false w ins vs F→Calls P f (ZH vs) w (O5 w out)
def Q8 (w:World) (out:V) (e:Ending) (w':World):Prop:=∃ v F,e=.returned v∧Vr false w' out v F∧(∀ b∈F,w.heap.size≤b)∧Ext w w'
def FrT (P:Program) (f:FuncId) (ins:List V0) (out:V):Prop:=Ek P f∧∀ w vs F,Good w []→V0s false w ins vs F→Calls P f (ZH vs) w (Q8 w out)
theorem V0r.read {w:World} {x:V0} {v:Value} {F:List Nat} (h:V0r true w x v F):V0r false w x v F:=by
 cases x with
 | one t=>exact C.read h
 | agg l=>obtain⟨cs,h1,h2⟩:=h;exact⟨cs,h1,h2.read⟩
theorem V0s.read {w:World}:∀ {l:List V0} {vs:List Value} {F:List Nat},V0s true w l vs F→V0s false w l vs F
 | [],_,_,h=>h
 | _::_,_,_,⟨v,vr,G1,G2,h1,h2,h3,h4⟩=>⟨v,vr,G1,G2,h1,h2.read,h3.read,h4⟩
theorem Vr.read {w:World} {x:V} {v:Value} {F:List Nat} (h:Vr true w x v F):Vr false w x v F:=by
 cases x with
 | a x=>exact V0r.read h
 | tup l=>obtain⟨vs,h1,h2⟩:=h;exact⟨vs,h1,h2.read⟩
theorem FnT.fr {P:Program} {f:FuncId} {ins:List V0} {out:V} (h:FnT P f ins out):FrT P f ins out:=⟨h.1,fun w vs F hg hv=>(h.2 w vs F hg hv).mono fun _ _ ⟨v,F,h1,h2,_,h4,h3⟩=>⟨v,F,h1,h2.read,fun b hb=>(h4 b hb).1,h3⟩⟩
def Res (P:Program) (fn:Func) (o:Bool) (out:V) (σ:St):Prop:=∀ I w0 a w,AU I w0 σ a w→∃ v F,(results fn a.tmps).run P w=.ok v w∧Vr o w out v F∧(∀ b∈F,w0.own b)∧(o=true→F.Nodup∧∀ b∈F,DJ w b)
def Th (P:Program) (fn:Func) (o:Bool) (out:V):Exit→St→Prop
 | .normal,σ=>Res P fn o out σ
 | .ret,σ=>Res P fn o out σ
 | _,_=>False
def inA:V0→A
 | .one t=>.one (.t t)
 | .agg l=>.agg (l.map .t)
def JJ:Nat→List V0→List (Nat×(Bool×S))
 | _,[]=>[]
 | i,x::r=>(i,(true,.a (inA x)))::JJ (i+1) r
def st0 (n:Nat) (ins:List V0):St:=⟨n,JJ 0 ins,[]⟩
def ip0 (w:World):Ip:=⟨fun b=>b<w.heap.size,fun _=>[],fun _=>undef,fun _=>0⟩
theorem Wq {w:World}:∀ {l:List T} {cs:List Value} {F:List Nat},Cs false w l cs F→VEs (ip0 w) w (l.map .t) cs
 | [],cs,F,h=>by simp only [Cs] at h;exact h.1
 | t::r,cs,F,h=>by
  simp only [Cs] at h
  obtain⟨c,cr,G1,G2,h1,h2,h3,_⟩:=h
  exact⟨c,cr,h1,⟨G1,h2,fun b hb=>h2.lt b hb⟩,Wq h3⟩
theorem Zf {w:World} {x:V0} {v:Value} {F:List Nat} (h:V0r false w x v F):VA (ip0 w) w (inA x) v:=by
 cases x with
 | one t=>exact⟨F,h,fun b hb=>C.lt h b hb⟩
 | agg l=>obtain⟨cs,h1,h2⟩:=h;exact⟨cs,h1,Wq h2⟩
theorem Rx {w:World}:∀ {ins:List V0} {vs:List Value} {F:List Nat} (k:Nat),V0s false w ins vs F→(vs.length=ins.length)∧∀ i x,look (JJ k ins) i=some x→∃ v,vs[i-k]?=some v∧k≤i∧VS (ip0 w) w x v
 | [],vs,F,k,h=>by obtain⟨rfl,_⟩:=h;exact⟨rfl,fun i x hi=>by cases hi⟩
 | y::r,vs,F,k,h=>by
  obtain⟨v,vr,G1,G2,rfl,h2,h3,_⟩:=h
  obtain⟨g1,g2⟩:=Rx (k+1) h3
  refine⟨by simp [g1],fun i x hi=>?_⟩
  rw [JJ,AF] at hi
  by_cases e:k=i
  · subst e
    rw [if_pos rfl] at hi
    cases hi
    exact⟨v,by simp,Aag _,Zf h2⟩
  rw [if_neg e] at hi
  obtain⟨u,h4,h5,h6⟩:=g2 i x hi
  exact⟨u,by rw [show i-k=(i-(k+1))+1 by omega];simpa using h4,by omega,h6⟩
theorem Vj {w:World} (hG:Good w []) {ins:List V0} {vs:List Value} {F:List Nat} (h:V0s false w ins vs F) {n:Nat} (hn:ZZ ins.length n=true):Rel ⟨w,[],hG⟩ (st0 n ins) ⟨vs.toArray++Aar (n-vs.toArray.size) undef,[]⟩ w:=by
 obtain⟨h1,h2⟩:=Rx 0 h
 have hn':ins.length≤n:=ZX hn
 refine⟨ip0 w,Chg.refl w [],rfl,by simp [h1,st0];omega,fun i x hi=>?_,fun id r hi=>(by cases hi),fun b hb=>hb,fun id b hb=>(by cases hb),fun id r hi=>(by cases hi),fun i j _ b hb=>(by cases hb)⟩
 obtain⟨v,h3,_,h5⟩:=h2 i x hi
 have hl:i<vs.length:=(ZE.1 h3).1
 have e:(vs.toArray++Aar (n-vs.toArray.size) undef).getD i undef=v:=by
  rw [Aaq,Array.getElem?_append_left (by simpa using hl)]
  simp at h3
  simp [h3]
 rw [e];exact h5
theorem FnT.intro {P:Program} {f:FuncId} {fn:Func} {c:Code} {ins:List V0} {out:V} (hf:P.funcs[f]?=some fn) (hb:fn.body=some c) (hname:(fn.name == "runtime.NumGoroutine")=false) (hn:ZZ ins.length fn.ntmps=true)
 (h:∀ w0,AW P w0 c (Th P fn true out) (st0 fn.ntmps ins)):FnT P f ins out:=⟨⟨fn,hf,hname,by rw [hb];rfl⟩,fun w vs F hG hv=>by
 refine calls_of_wp hf hb (Code.wp_mono ?_ (h ⟨w,[],hG⟩ _ _ (Vj hG hv hn)))
 rintro e a' w' ⟨σ,h1,I,hI⟩
 have key:Res P fn true out σ→a'.defers=[]∧∃ v,(results fn a'.tmps).run P w'=.ok v w'∧O5 w out (.returned v) w':=fun h1=>by
  obtain⟨v,F,g1,g2,g3⟩:=h1 I ⟨w,[],hG⟩ a' w' hI
  exact⟨hI.defers,v,g1,v,F,rfl,g2,(g3.2 rfl).1,fun b hb=>⟨(g3.1 b hb).resolve_right (by simp),(g3.2 rfl).2 b hb⟩,hI.ext.toExt⟩
 cases e with
 | normal=>exact key h1
 | ret=>exact key h1
 | exit id=>exact h1.elim
 | goto l=>exact h1.elim
 | panic c=>exact h1.elim
 | outgrown=>exact h1.elim⟩
theorem FrT.intro {P:Program} {f:FuncId} {fn:Func} {c:Code} {ins:List V0} {out:V} (hf:P.funcs[f]?=some fn) (hb:fn.body=some c) (hname:(fn.name == "runtime.NumGoroutine")=false) (hn:ZZ ins.length fn.ntmps=true)
 (h:∀ w0,AW P w0 c (Th P fn false out) (st0 fn.ntmps ins)):FrT P f ins out:=⟨⟨fn,hf,hname,by rw [hb];rfl⟩,fun w vs F hG hv=>by
 refine calls_of_wp hf hb (Code.wp_mono ?_ (h ⟨w,[],hG⟩ _ _ (Vj hG hv hn)))
 rintro e a' w' ⟨σ,h1,I,hI⟩
 have key:Res P fn false out σ→a'.defers=[]∧∃ v,(results fn a'.tmps).run P w'=.ok v w'∧Q8 w out (.returned v) w':=fun h1=>by
  obtain⟨v,F,g1,g2,g3⟩:=h1 I ⟨w,[],hG⟩ a' w' hI
  exact⟨hI.defers,v,g1,v,F,rfl,g2,fun b hb=>(g3.1 b hb).resolve_right (by simp),hI.ext.toExt⟩
 cases e with
 | normal=>exact key h1
 | ret=>exact key h1
 | exit id=>exact h1.elim
 | goto l=>exact h1.elim
 | panic c=>exact h1.elim
 | outgrown=>exact h1.elim⟩
theorem Ao {α β:Type} {f:α→β} {l:List α} {i:Nat} {x:α} (h:l[i]?=some x):(l.map f)[i]?=some (f x):=by simp [h]
def tyB (P:Program) (t:TypeId) (ag:Bool) (n:Nat):Bool:=match P.info? t,P.underlying t with
 | some i,some d=>Z9 i.size n&&(match d with|.struct _=>ag|.array _ _=>ag|_=>!ag)
 | _,_=>false
section
variable {P:Program} {ops:Array Oper} {o:Oper} {σ:St} {q:Bool}
theorem QG {t:TypeId} {ag:Bool} {n:Nat} (h:tyB P t ag n=true):∃ i d,P.info? t=some i∧P.underlying t=some d∧i.size=n∧(match d with|.struct _=>ag|.array _ _=>ag|_=>!ag)=true:=by
 unfold tyB at h
 cases h1:P.info? t with
 | none=>rw [h1] at h;cases h
 | some i=>
  cases h2:P.underlying t with
  | none=>rw [h1,h2] at h;cases h
  | some d=>
   rw [h1,h2] at h
   simp only [Aas] at h
   exact⟨i,d,rfl,rfl,ZN h.1,h.2⟩
theorem Ts {t:TypeId} {ag:Bool} {n:Nat} (h:tyB P t ag n=true) (w:World):(isAgg t).run P w=.ok ag w:=by
 obtain⟨i,d,_,h2,_,h4⟩:=QG h
 unfold isAgg
 simp only [Sem.run_bind,run_underlying h2,Result.andThen_ok]
 cases d<;>simp_all
theorem E6 {t:TypeId} {ag:Bool} {n:Nat} (h:tyB P t ag n=true) (w:World):(sizeOf t).run P w=.ok n w:=by
 obtain⟨i,d,h1,_,h3,_⟩:=QG h
 simp [sizeOf,typeInfo,h1,h3]
theorem Bh {x:Operand} {A0:A} (ho:o.op=.move x) (hg:Grd ops o σ q) (hd:o.dst.all (fun d=>ZA d σ.n)=true) (hx:Get σ q x A0):Op1 P ops o σ (σ.put o.dst (q,.a A0)):=
 .val hg hd fun I w0 a w hr hq=>⟨a.eval x,by simp [execOp,ho],hx.va hr hq⟩
theorem Cl {x:Operand} {A0:A} (ho:o.op=.assign x) (hg:Grd ops o σ q) (hd:o.dst.all (fun d=>ZA d σ.n)=true) (hx:Get σ q x A0):Op1 P ops o σ (σ.put o.dst (q,.a A0)):=
 .val hg hd fun I w0 a w hr hq=>⟨a.eval x,by simp [execOp,ho],hx.va hr hq⟩
theorem Ka {I:Ip} {w:World} (x:Value) (h:x.oneCell'=true:=by rfl):VS I w (true,.a (.one (.t (.v x)))) x:=⟨[],by simp [C,h],by simp⟩
theorem D9 {op:BinOp} {t t':TypeId} {x y:Operand} {u v r:Value} (ho:o.op=.binOp op t x y t') (hg:Grd ops o σ q) (hd:o.dst.all (fun d=>ZA d σ.n)=true) (hx:Get σ q x (.one (.t (.v u)))) (hy:Get σ q y (.one (.t (.v v))))
 (h1:∀ w,(eqGuard op t x y u v).run P w=.ok () w) (hr1:r.oneCell'=true:=by rfl) (h:q=true→∀ w,(binOp op t u v).run P w=.ok r w):Op1 P ops o σ (σ.put o.dst (q,.a (.one (.t (.v r))))):=
 .val hg hd fun I w0 a w hr hq=>⟨r,by simp [execOp,ho,hx.int hr hq,hy.int hr hq,h1,h hq],Ka r hr1⟩
theorem CP {op:BinOp} {t:TypeId} {x y:Operand} {k k':IntKind} {n m:Int} (w:World):(eqGuard op t x y (.int k n) (.int k' m)).run P w=.ok () w:=by
 unfold eqGuard;split<;>rfl
theorem Wv {t t':TypeId} {x y:Operand} {k:IntKind} {n m:Int} (ho:o.op=.binOp .lss t x y t') (hg:Grd ops o σ q) (hd:o.dst.all (fun d=>ZA d σ.n)=true) (hx:Get σ q x (.one (.t (.v (.int k n))))) (hy:Get σ q y (.one (.t (.v (.int k m))))) :
 Op1 P ops o σ (σ.put o.dst (q,.a (.one (.t (.v (.bool (decide (n<m)))))))):=D9 ho hg hd hx hy CP (h:=fun _ w=>by simp [binOp,Op.intCmp])
theorem MN {t t':TypeId} {x y:Operand} {k:IntKind} {n m:Int} (ho:o.op=.binOp .leq t x y t') (hg:Grd ops o σ q) (hd:o.dst.all (fun d=>ZA d σ.n)=true) (hx:Get σ q x (.one (.t (.v (.int k n))))) (hy:Get σ q y (.one (.t (.v (.int k m))))) :
 Op1 P ops o σ (σ.put o.dst (q,.a (.one (.t (.v (.bool (decide (n≤m)))))))):=D9 ho hg hd hx hy CP (h:=fun _ w=>by simp [binOp,Op.intCmp])
theorem MO {t t':TypeId} {x y:Operand} {k:IntKind} {n m:Int} (ho:o.op=.binOp .gtr t x y t') (hg:Grd ops o σ q) (hd:o.dst.all (fun d=>ZA d σ.n)=true) (hx:Get σ q x (.one (.t (.v (.int k n))))) (hy:Get σ q y (.one (.t (.v (.int k m))))) :
 Op1 P ops o σ (σ.put o.dst (q,.a (.one (.t (.v (.bool (decide (m<n)))))))):=D9 ho hg hd hx hy CP (h:=fun _ w=>by simp [binOp,Op.intCmp])
theorem O0 {t t':TypeId} {x y:Operand} {k:IntKind} {n m:Int} (ho:o.op=.binOp .geq t x y t') (hg:Grd ops o σ q) (hd:o.dst.all (fun d=>ZA d σ.n)=true) (hx:Get σ q x (.one (.t (.v (.int k n))))) (hy:Get σ q y (.one (.t (.v (.int k m))))) :
 Op1 P ops o σ (σ.put o.dst (q,.a (.one (.t (.v (.bool (decide (m≤n)))))))):=D9 ho hg hd hx hy CP (h:=fun _ w=>by simp [binOp,Op.intCmp])
theorem Kc {t t':TypeId} {x y:Operand} {k:IntKind} {n m:Int} (ho:o.op=.binOp .eql t x y t') (hg:Grd ops o σ q) (hd:o.dst.all (fun d=>ZA d σ.n)=true) (hx:Get σ q x (.one (.t (.v (.int k n))))) (hy:Get σ q y (.one (.t (.v (.int k m))))) :
 Op1 P ops o σ (σ.put o.dst (q,.a (.one (.t (.v (.bool (decide (n=m)))))))):=D9 ho hg hd hx hy CP (h:=fun _ w=>by simp [binOp,Op.intCmp];rfl)
theorem GX {t t':TypeId} {x y:Operand} {k:IntKind} {n m:Int} (ho:o.op=.binOp .neq t x y t') (hg:Grd ops o σ q) (hd:o.dst.all (fun d=>ZA d σ.n)=true) (hx:Get σ q x (.one (.t (.v (.int k n))))) (hy:Get σ q y (.one (.t (.v (.int k m))))) :
 Op1 P ops o σ (σ.put o.dst (q,.a (.one (.t (.v (.bool (!decide (n=m)))))))):=D9 ho hg hd hx hy CP (h:=fun _ w=>by simp [binOp,Op.intCmp];rfl)
theorem Gn {e:Int} (h:-9223372036854775808≤e∧e≤9223372036854775807):IntKind.i64.wrap e=e:=IntWalk.i64_in e h
theorem Dn {t t':TypeId} {x y:Operand} {n m:Int} (ho:o.op=.binOp .add t x y t') (hg:Grd ops o σ q) (hd:o.dst.all (fun d=>ZA d σ.n)=true) (hx:Get σ q x (.one (.t (.v (.int .i64 n))))) (hy:Get σ q y (.one (.t (.v (.int .i64 m)))))
 (hb:q=true→ -9223372036854775808≤n+m∧n+m≤9223372036854775807) :
 Op1 P ops o σ (σ.put o.dst (q,.a (.one (.t (.v (.int .i64 (n+m))))))):=D9 ho hg hd hx hy CP (h:=fun hq w=>by simp [binOp,Op.intArith,Gn (hb hq)])
theorem D8 {t t':TypeId} {x y:Operand} {n m:Int} (ho:o.op=.binOp .sub t x y t') (hg:Grd ops o σ q) (hd:o.dst.all (fun d=>ZA d σ.n)=true) (hx:Get σ q x (.one (.t (.v (.int .i64 n))))) (hy:Get σ q y (.one (.t (.v (.int .i64 m)))))
 (hb:q=true→ -9223372036854775808≤n-m∧n-m≤9223372036854775807) :
 Op1 P ops o σ (σ.put o.dst (q,.a (.one (.t (.v (.int .i64 (n-m))))))):=D9 ho hg hd hx hy CP (h:=fun hq w=>by simp [binOp,Op.intArith,Gn (hb hq)])
theorem Ge {t t':TypeId} {x y:Operand} {n m:Int} (ho:o.op=.binOp .mul t x y t') (hg:Grd ops o σ q) (hd:o.dst.all (fun d=>ZA d σ.n)=true) (hx:Get σ q x (.one (.t (.v (.int .i64 n))))) (hy:Get σ q y (.one (.t (.v (.int .i64 m)))))
 (hb:q=true→ -9223372036854775808≤n*m∧n*m≤9223372036854775807) :
 Op1 P ops o σ (σ.put o.dst (q,.a (.one (.t (.v (.int .i64 (n*m))))))):=D9 ho hg hd hx hy CP (h:=fun hq w=>by simp [binOp,Op.intArith,Gn (hb hq)])
theorem Uc {t t':TypeId} {x y:Operand} {n m:Int} (ho:o.op=.binOp .quo t x y t') (hg:Grd ops o σ q) (hd:o.dst.all (fun d=>ZA d σ.n)=true) (hx:Get σ q x (.one (.t (.v (.int .i64 n))))) (hy:Get σ q y (.one (.t (.v (.int .i64 m)))))
 (hb:q=true→0≤n∧n≤9223372036854775807∧0<m) :
 Op1 P ops o σ (σ.put o.dst (q,.a (.one (.t (.v (.int .i64 (n / m))))))):=D9 ho hg hd hx hy CP (h:=fun hq w=>by
  obtain⟨h1,h2,h3⟩:=hb hq
  have h4:¬ m=0:=by omega
  have h5:n / m≤n:=Int.ediv_le_self m h1
  have h6:0≤n / m:=Int.ediv_nonneg h1 (by omega)
  simp [binOp,Op.intDiv,h4,Int.tdiv_eq_ediv_of_nonneg h1,Gn (e:=n / m) ⟨by omega,by omega⟩])
theorem Sc {t t':TypeId} {x y:Operand} {n m:Int} (ho:o.op=.binOp .rem t x y t') (hg:Grd ops o σ q) (hd:o.dst.all (fun d=>ZA d σ.n)=true) (hx:Get σ q x (.one (.t (.v (.int .i64 n))))) (hy:Get σ q y (.one (.t (.v (.int .i64 m)))))
 (hb:q=true→0≤n∧0<m) :
 Op1 P ops o σ (σ.put o.dst (q,.a (.one (.t (.v (.int .i64 (n%m))))))):=D9 ho hg hd hx hy CP (h:=fun hq w=>by
  obtain⟨h1,h3⟩:=hb hq
  have h4:¬ m=0:=by omega
  simp [binOp,Op.intDiv,h4,Int.tmod_eq_emod_of_nonneg h1])
theorem Du {t:TypeId} {x:Operand} {b:Bool} (ho:o.op=.unOp .not t x) (hg:Grd ops o σ q) (hd:o.dst.all (fun d=>ZA d σ.n)=true) (hx:Get σ q x (.one (.t (.v (.bool b))))):Op1 P ops o σ (σ.put o.dst (q,.a (.one (.t (.v (.bool !b)))))):=
 .val hg hd fun I w0 a w hr hq=>⟨.bool !b,by simp [execOp,ho,hx.int hr hq,Op.unary],Ka _⟩
theorem OK {c y:Operand} {b b':Bool} (ho:o.op=.pick c (.const (.bool true)) y) (hg:Grd ops o σ q) (hd:o.dst.all (fun d=>ZA d σ.n)=true) (hx:Get σ q c (.one (.t (.v (.bool b))))) (hy:Get σ (q&&!b) y (.one (.t (.v (.bool b'))))) :
 Op1 P ops o σ (σ.put o.dst (q,.a (.one (.t (.v (.bool (b||b'))))))):=
 .val hg hd fun I w0 a w hr hq=>⟨.bool (b||b'),by
  cases b with
  | true=>have hc:a.eval (.const (.bool true))=.bool true:=rfl;simp [execOp,ho,hx.int hr hq,asBool,hc]
  | false=>simp [execOp,ho,hx.int hr hq,asBool,hy.int hr (by simp [hq])],Ka _⟩
theorem IJ {c x:Operand} {b b':Bool} (ho:o.op=.pick c x (.const (.bool false))) (hg:Grd ops o σ q) (hd:o.dst.all (fun d=>ZA d σ.n)=true) (hx:Get σ q c (.one (.t (.v (.bool b))))) (hy:Get σ (q&&b) x (.one (.t (.v (.bool b'))))) :
 Op1 P ops o σ (σ.put o.dst (q,.a (.one (.t (.v (.bool (b&&b'))))))):=
 .val hg hd fun I w0 a w hr hq=>⟨.bool (b&&b'),by
  cases b with
  | false=>have hc:a.eval (.const (.bool false))=.bool false:=rfl;simp [execOp,ho,hx.int hr hq,asBool,hc]
  | true=>simp [execOp,ho,hx.int hr hq,asBool,hy.int hr (by simp [hq])],Ka _⟩
inductive Sq (σ:St):A→Nat→List (List T)→Prop where
 | t {k:Nat} {rows:List (List T)}:Sq σ (.one (.t (.sl k rows))) k rows
 | rf {id k:Nat} {rows:List (List T)} (h:look σ.res id=some (.row k rows)):Sq σ (.one (.rf id)) k rows
 | vw {id k:Nat} {rows:List (List T)}:Sq σ (.one (.vw id (.sl k rows))) k rows
 | nil {k:Nat}:Sq σ (.one (.t (.v (.slice none 0 0)))) k []
theorem Sq.val {A0:A} {k:Nat} {rows:List (List T)} (h:Sq σ A0 k rows) {I:Ip} {w0:BB} {w:World} {a:Act} (hr:AU I w0 σ a w) {v:Value} (hv:VA I w A0 v):∃ F,C false w (.sl k rows) v F:=by
 cases h with
 | t=>obtain⟨G,h1,_⟩:=hv;exact⟨G,h1⟩
 | rf h=>have:=hr.res _ _ h;have hv':v=I.hd _:=hv.1;subst hv';exact⟨_,C.read this⟩
 | vw=>obtain⟨G,h1,_⟩:=hv;exact⟨G,h1⟩
 | nil=>
  obtain⟨G,h1,_⟩:=hv
  simp only [C] at h1
  obtain⟨rfl,_⟩:=h1
  exact⟨[],by unfold C;exact⟨none,0,0,rfl,rfl,Aag _,Nat.zero_le _,.inl ⟨rfl,rfl,by simp⟩⟩⟩
theorem Ye {x:Operand} {t:TypeId} {A0:A} {k:Nat} {rows:List (List T)} (ho:o.op=.call { callee:=.builtin .len,args:=#[x],argTypes:=#[t] }) (hg:Grd ops o σ q) (hd:o.dst.all (fun d=>ZA d σ.n)=true)
 (hx:Get σ q x A0) (hs:Sq σ A0 k rows) {e:TypeId} (hu:P.underlying t=some (.slice e)):Op1 P ops o σ (σ.put o.dst (q,.a (.one (.t (.v (.int .i64 rows.length)))))):=
 .val hg hd fun I w0 a w hr hq=>by
  obtain⟨F,hC⟩:=hs.val hr (hx.va hr hq)
  simp only [C] at hC
  obtain⟨b,len,cap,h1,h2,h3,h4,h5⟩:=hC
  refine⟨_,?_,Ka _⟩
  rw [h2]
  simp [execOp,ho,resolve,invoke,builtin,h1,Builtin.len_,goInt,run_underlying hu]
theorem Ue {x:Operand} {t:TypeId} {s:ByteArray} (ho:o.op=.call { callee:=.builtin .len,args:=#[x],argTypes:=#[t] }) (hg:Grd ops o σ q) (hd:o.dst.all (fun d=>ZA d σ.n)=true)
 (hx:Get σ q x (.one (.t (.v (.string s))))) (hu:P.underlying t=some .string):Op1 P ops o σ (σ.put o.dst (q,.a (.one (.t (.v (.int .i64 s.size)))))):=
 .val hg hd fun I w0 a w hr hq=>⟨_,by simp [execOp,ho,resolve,invoke,builtin,hx.int hr hq,Builtin.len_,goInt,run_underlying hu],Ka _⟩
theorem UP {w:World} {b off:Nat} {row:List T} {G:List Nat} (h:Ms false w b off row G) (hb:b<w.heap.size):C false w (.ad row) (.pointer (some ⟨b,off,none⟩)) (b::G):=by
 simp only [C];exact⟨b,off,G,rfl,rfl,hb,h⟩
theorem IY {t e:TypeId} {k:Nat} {ag:Bool} {w:World} {v:Value} {F:List Nat} {o:Bool} {rows:List (List T)} {n:Int} {row:List T} (hu:P.underlying t=some (.slice e)) (hk:tyB P e ag k=true) (hC:C o w (.sl k rows) v F) (h0:0≤n) (hi:rows[n.toNat]?=some row) :
 ∃ b off len cap,v=.slice (some ⟨b,off,none⟩) len cap∧(Instr.indexAt t v (.int .i64 n)).run P w=.ok (.pointer (some ⟨b,off+n.toNat*k,none⟩)) w∧b<w.heap.size∧b∈F∧(o=true→off=0)∧(o=true→∃ cur e,w.heap[b]?=some (.cells cur e (0,0))∧cur.size=cap*k∧len≤cap)∧
  ∃ G,Ms o w b (off+n.toNat*k) row G∧row.length=k∧∀ x∈G,x∈F:=by
 simp only [C] at hC
 obtain⟨b,len,cap,h1,h2,h3,h4,h5⟩:=hC
 have hlt:n.toNat<rows.length:=(ZE.1 hi).1
 rcases h5 with ⟨h6,_⟩|⟨b,off,G,rfl,rfl,h8,h9,h10⟩
 · omega
 obtain⟨G',g1,g2,g3⟩:=h10.get hi
 refine⟨b,off,len,cap,h1,?_,h8,by simp,fun ho=>(h9 ho).1,fun ho=>?_,G',g1,g2,fun x hx=>by simp [g3 x hx]⟩
 · have hn:n<(len:Int):=by omega
   subst h1
   simp [Instr.indexAt,asIntOf,run_underlying hu,h0,hn,E6 hk,Addr.add_lit]
 obtain⟨_,cur,e',h11,h12⟩:=h9 ho
 exact⟨cur,e',h11,h12,h3⟩
theorem Ak {t e:TypeId} {x y:Operand} {n:Int} {k:Nat} {ag:Bool} {rows:List (List T)} {row:List T} (ho:o.op=.indexAddr t x y) (hg:Grd ops o σ q) (hd:o.dst.all (fun d=>ZA d σ.n)=true) (hx:Get σ q x (.one (.t (.sl k rows))))
 (hy:Get σ q y (.one (.t (.v (.int .i64 n))))) (hu:P.underlying t=some (.slice e)) (hk:tyB P e ag k=true) (hi:q=true→0≤n∧rows[n.toNat]?=some row):Op1 P ops o σ (σ.put o.dst (q,.a (.one (.t (.ad row))))):=
 .val hg hd fun I w0 a w hr hq=>by
  obtain⟨F,hC,hF⟩:VA I w (.one (.t (.sl k rows))) (a.eval x):=hx.va hr hq
  obtain⟨b,off,len,cap,h1,h2,h3,h4,-,-,G,h5,h6,h7⟩:=IY hu hk hC (hi hq).1 (hi hq).2
  refine⟨_,by simp [execOp,ho,hy.int hr hq,h2],b::G,UP h5 h3,fun c hc=>?_⟩
  rcases ZJ.1 hc with rfl|hc
  · exact hF _ h4
  exact hF _ (h7 c hc)
theorem A3 {id:Nat} {t e:TypeId} {x y:Operand} {n:Int} {k:Nat} {ag:Bool} {rows:List (List T)} {row:List T} (ho:o.op=.indexAddr t x y) (hg:Grd ops o σ q) (hd:o.dst.all (fun d=>ZA d σ.n)=true) (hx:Get σ q x (.one (.rf id)))
 (hs:look σ.res id=some (.row k rows)) (hy:Get σ q y (.one (.t (.v (.int .i64 n))))) (hu:P.underlying t=some (.slice e)) (hk:tyB P e ag k=true) (hi:q=true→0≤n∧rows[n.toNat]?=some row):Op1 P ops o σ (σ.put o.dst (q,.a (.one (.pr id k n.toNat 0)))):=
 .val hg hd fun I w0 a w hr hq=>by
  have hv:a.eval x=I.hd id:=(show VE I w (.rf id) (a.eval x) from hx.va hr hq).1
  have hC:C true w (.sl k rows) _ _:=hr.res _ _ hs
  obtain⟨b,off,len,cap,h1,h2,h3,h4,h5,-,G,h6,h7,h8⟩:=IY hu hk hC (hi hq).1 (hi hq).2
  have h9:=h5 rfl
  subst h9
  exact⟨.pointer (some ⟨b,0+n.toNat*k,none⟩),by simp [execOp,ho,hy.int hr hq,hv,h2],b,len,cap,h1,by simp⟩
def DG (P:Program) (t:TypeId) (j off:Nat):Bool:=match P.underlying t with
 | some (.struct fs)=>match fs[j]? with
  | some f=>Z9 f.offset off&&(match P.info? f.type with|some i=>!(Z9 i.size 0)|none=>false)
  | none=>false
 | _=>false
theorem IZ {t:TypeId} {j off:Nat} (h:DG P t j off=true) (w:World) (b p:Nat):(Instr.fieldAt t (.pointer (some ⟨b,p,none⟩)) j).run P w=.ok (.pointer (some ⟨b,p+off,none⟩)) w:=by
 unfold DG at h
 split at h
 · rename_i fs hu
   split at h
   · rename_i f hf
     simp only [Aas] at h
     obtain⟨h1,h2⟩:=h
     have h1:=ZN h1
     split at h2
     · rename_i i hi
       have h3:¬ i.size=0:=by intro e;simp [e,Z9] at h2
       simp [Instr.fieldAt,run_underlying hu,hf,Instr.sureAddr,fieldPlace,sizeOf,typeInfo,hi,h3,Addr.add_lit,h1]
     cases h2
   cases h
 cases h
theorem Bu {t:TypeId} {x:Operand} {j off:Nat} {cs:List T} (ho:o.op=.fieldAddr t x j) (hg:Grd ops o σ q) (hd:o.dst.all (fun d=>ZA d σ.n)=true) (hx:Get σ q x (.one (.t (.ad cs)))) (hf:DG P t j off=true):Op1 P ops o σ (σ.put o.dst (q,.a (.one (.t (.ad (cs.drop off)))))):=
 .val hg hd fun I w0 a w hr hq=>by
  obtain⟨F,hC,hF⟩:VA I w (.one (.t (.ad cs))) (a.eval x):=hx.va hr hq
  simp only [C] at hC
  obtain⟨b,p,G,h1,rfl,h2,h3⟩:=hC
  obtain⟨G',h4,h5⟩:=h3.drop off
  refine⟨_,by simp [execOp,ho,h1,IZ hf],b::G',UP h4 h2,fun c hc=>hF c ?_⟩
  rcases ZJ.1 hc with rfl|hc
  · simp
  simp [h5 c hc]
theorem Bj {id p:Nat} {t:TypeId} {x:Operand} {j off:Nat} (ho:o.op=.fieldAddr t x j) (hg:Grd ops o σ q) (hd:o.dst.all (fun d=>ZA d σ.n)=true) (hx:Get σ q x (.one (.pp id p))) (hf:DG P t j off=true):Op1 P ops o σ (σ.put o.dst (q,.a (.one (.pp id (p+off))))):=
 .val hg hd fun I w0 a w hr hq=>by
  have hv:a.eval x=_:=hx.va hr hq
  exact⟨.pointer (some ⟨I.B id,p+off,none⟩),by simp [execOp,ho,hv,IZ hf],rfl⟩
theorem Dk {id k i p:Nat} {t:TypeId} {x:Operand} {j off:Nat} (ho:o.op=.fieldAddr t x j) (hg:Grd ops o σ q) (hd:o.dst.all (fun d=>ZA d σ.n)=true) (hx:Get σ q x (.one (.pr id k i p))) (hf:DG P t j off=true):Op1 P ops o σ (σ.put o.dst (q,.a (.one (.pr id k i (p+off))))):=
 .val hg hd fun I w0 a w hr hq=>by
  obtain⟨g,n,m,h1,hv⟩:VE I w (.pr id k i p) (a.eval x):=hx.va hr hq
  exact⟨.pointer (some ⟨g,i*k+p+off,none⟩),by simp [execOp,ho,hv,IZ hf],g,n,m,h1,by simp [ZV]⟩
def mkA (ag:Bool) (l:List E):A:=bif ag then .agg l else match l with|e::_=>.one e|[]=>.one .no
theorem KX {t:TypeId} {ag:Bool} {n b p:Nat} {w:World} (ht:tyB P t ag n=true) {cs:List Value} (hl:cs.length=n) (h1:ag=false→n=1) (hc:∀ (j:Nat) (u:Value),cs[j]?=some u→w.cell? ⟨b,p+j,none⟩=some u) :
 (Instr.loadAt t (.pointer (some ⟨b,p,none⟩))).run P w=.ok (if ag=true then .agg cs.toArray else cs.headD undef) w:=by
 cases ag with
 | true=>
  have:=run_loadCells_list (P:=P) w ⟨b,p,none⟩ cs (fun j v hj=>by rw [Addr.add_lit];exact hc j v hj)
  rw [hl] at this
  simp [Instr.loadAt,Instr.sureAddr,loadVar,Ts ht,E6 ht,this]
 | false=>
  have:=h1 rfl
  subst this
  match cs,hl with
  | [c],_=>
   have:=hc 0 c rfl
   simp only [Nat.add_zero] at this
   simp [Instr.loadAt,Instr.sureAddr,loadVar,Ts ht,this]
theorem P8 {I:Ip} {w:World} {ag:Bool} {l:List E} {cs:List Value} (h:VEs I w l cs) (h1:ag=false→l.length=1):VA I w (mkA ag l) (if ag=true then .agg cs.toArray else cs.headD undef):=by
 cases ag with
 | true=>exact⟨cs,rfl,h⟩
 | false=>
  match l,h1 rfl,h with
  | [e],_,h=>
   obtain⟨c,cr,h1,h2,h3⟩:=h
   subst h1;exact h2
theorem YO {I:Ip} {w:World}:∀ {l:List T} {cs:List Value} {F:List Nat},Cs false w l cs F→(∀ b∈F,I.Z b)→VEs I w (l.map .t) cs
 | [],cs,F,h,_=>by simp only [Cs] at h;exact h.1
 | t::r,cs,F,h,hF=>by
  simp only [Cs] at h
  obtain⟨c,cr,G1,G2,h1,h2,h3,rfl⟩:=h
  exact⟨c,cr,h1,⟨G1,h2,fun b hb=>hF b (by simp [hb])⟩,YO h3 fun b hb=>hF b (by simp [hb])⟩
def toE (id:Nat):T→E
 | .v x=>.t (.v x)
 | t=>.vw id t
theorem YD {I:Ip} {w:World} {id:Nat} {t:T} {c:Value} {G:List Nat} (h:C false w t c G) (hG:∀ b∈G,b∈I.F id):VE I w (toE id t) c:=by
 cases t with
 | v x=>
  simp only [C] at h
  obtain⟨rfl,_,h⟩:=h
  exact⟨[],by simp [C,h],by simp⟩
 | sl k rows=>exact⟨G,h,hG⟩
 | ad cs=>exact⟨G,h,hG⟩
 | fn f x y=>exact⟨G,h,hG⟩
theorem Yl {I:Ip} {w:World} {id:Nat}:∀ {l:List T} {cs:List Value} {F:List Nat},Cs false w l cs F→(∀ b∈F,b∈I.F id)→VEs I w (l.map (toE id)) cs
 | [],cs,F,h,_=>by simp only [Cs] at h;exact h.1
 | t::r,cs,F,h,hF=>by
  simp only [Cs] at h
  obtain⟨c,cr,G1,G2,h1,h2,h3,rfl⟩:=h
  exact⟨c,cr,h1,YD h2 fun b hb=>hF b (by simp [hb]),Yl h3 fun b hb=>hF b (by simp [hb])⟩
theorem Br {t:TypeId} {x:Operand} {cs:List T} {ag:Bool} {n:Nat} (ho:o.op=.load t x) (hg:Grd ops o σ q) (hd:o.dst.all (fun d=>ZA d σ.n)=true) (hx:Get σ q x (.one (.t (.ad cs)))) (ht:tyB P t ag n=true) (hn:ZZ n cs.length=true) (h1:(ag||Z9 n 1)=true) :
 Op1 P ops o σ (σ.put o.dst (q,.a (mkA ag ((cs.take n).map .t)))):=
 .val hg hd fun I w0 a w hr hq=>by
  obtain⟨F,hC,hF⟩:VA I w (.one (.t (.ad cs))) (a.eval x):=hx.va hr hq
  simp only [C] at hC
  obtain⟨b,p,G,h2,rfl,h3,h4⟩:=hC
  obtain⟨G',h5,h6⟩:=h4.take n
  obtain⟨vs,h7,h8,h9⟩:=h5.cells
  have hn':=ZX hn
  have h1':ag=false→n=1:=fun e=>by rw [e] at h1;exact ZN (by simpa using h1)
  refine⟨_,by simp [execOp,ho,h2,KX ht (cs:=vs) (by rw [h8,Aad];omega) h1' h9],P8 (YO h7 fun b hb=>hF b (by simp [h6 b hb])) fun e=>by rw [List.length_map,Aad];have:=h1' e;omega⟩
end
end Go.Q
