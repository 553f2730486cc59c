import Derived.Test.YtdhojcaoljhbiaaGreatAbs1xs
import Derived.Orders
import Derived.Deep.LoopGhost
import Derived.WalkKit
set_option linter.unusedVariables false
set_option linter.unusedSimpArgs false
namespace Go.Q
open Go.RowKit
inductive E where
 | t (x:T)
 | rf (id:Nat)
 | vw (id:Nat) (x:T)
 | pp (id off:Nat)
 | pr (id k i j:Nat)
 | sb (id k i j:Nat)
 | tl (id k j:Nat)
 | pf (id k m:Nat)
 | no
inductive A where
 | one (e:E)
 | agg (l:List E)
inductive S where
 | a (x:A)
 | tup (l:List A)
theorem U {α:Sort _} {a:α}:a=a:=rfl
theorem Y:True:=trivial
inductive R where
 | row (k:Nat) (rows:List (List T))
 | box (cs:List E)
 | hdr (j:Option Nat) (x:Value)
 | blk (j:Option Nat) (b:Nat)
 | kept (K:List (Nat×Obj))
 | opq
 | cur (g:Nat×Value)
 | mp (b:Nat) (f:Int→Int→Int→Int)
structure St where
 n:Nat
 slots:List (Nat×(Bool×S))
 res:List (Nat×R)
def inZ (P:Program) (t:TypeId):Option (Option Value×Nat×Nat):=(P.info? t).map fun i=>(i.zero,i.size,i.bytes)
def stB (P:Program) (t:TypeId):Bool:=(match P.underlying t with|some (.struct fs)=>fs.all (fun f=>(P.info? f.type).isSome)|_=>false)
def look {α:Type}:List (Nat×α)→Nat→Option α
 | [],_=>none
 | (i,x)::r,j=>bif Nat.beq i j then some x else look r j
theorem look_cons {α:Type} (i:Nat) (x:α) (r:List (Nat×α)) (j:Nat):look ((i,x)::r) j=if i=j then some x else look r j:=by
 rw [look]
 by_cases h:i=j
 · subst h;simp [Nat.beq_refl]
 have:Nat.beq i j=false:=by
  cases hb:Nat.beq i j with
  | false=>rfl
  | true=>exact absurd (Nat.eq_of_beq_eq_true hb) h
 rw [this,if_neg h];rfl
structure Ip where
 Z:Nat→Prop
 F:Nat→List Nat
 hd:Nat→Value
 B:Nat→Nat
def VE (I:Ip) (w:World):E→Value→Prop
 | .t x,c=>∃ G,C false w x c G∧∀ b∈G,I.Z b
 | .rf id,c=>c=I.hd id∧∃ a l k,c=.slice a l k
 | .vw id x,c=>∃ G,C false w x c G∧∀ b∈G,b∈I.F id
 | .pp id off,c=>c=.pointer (some ⟨I.B id,off,none⟩)
 | .pr id k i j,c=>∃ g n m,I.hd id=.slice (some ⟨g,0,none⟩) n m∧c=.pointer (some ⟨g,i*k+j,none⟩)
 | .sb id k i j,c=>∃ g n m,I.hd id=.slice (some ⟨g,0,none⟩) n m∧g∈I.F id∧g<w.heap.size∧w.cell? ⟨g,i*k+j,none⟩=some c
 | .tl id k j,c=>∃ a a' n m,I.hd id=.slice a n m∧c=.slice a' (n-j) (m-j)∧j≤n∧n≤m∧(j<m→∃ g,a=some ⟨g,0,none⟩∧a'=some ⟨g,j*k,none⟩)
 | .pf id _ m,c=>∃ a n M,I.hd id=.slice a n M∧c=.slice a m M∧m≤n
 | .no,_=>True
def VEs (I:Ip) (w:World):List E→List Value→Prop
 | [],cs=>cs=[]
 | e::r,cs=>∃ c cr,cs=c::cr∧VE I w e c∧VEs I w r cr
def VA (I:Ip) (w:World):A→Value→Prop
 | .one e,v=>VE I w e v
 | .agg l,v=>∃ cs,v=.agg (List.toArray cs)∧VEs I w l cs
def VAs (I:Ip) (w:World):List A→List Value→Prop
 | [],cs=>cs=[]
 | e::r,cs=>∃ c cr,cs=c::cr∧VA I w e c∧VAs I w r cr
def VS (I:Ip) (w:World):Bool×S→Value→Prop
 | (p,x),v=>if p=true then (match x with|.a x=>VA I w x v|.tup l=>∃ vs,v=.tuple (List.toArray vs)∧VAs I w l vs) else v=undef
def byR (bs:List Int):List (List T):=bs.map fun n=>[.v (.int .u8 n)]
def CuB (Z:Nat→Prop) (w:World) (g:Nat×Value):Prop:=∃ i h e G bs,w.heap[g.1]?=some (.cells #[g.2,.int .i64 i,.int .i64 h] e (0,0))∧C false w (.sl 1 (byR bs)) g.2 G∧(∀ b∈G,Z b)∧0≤i∧∀ n∈bs,0≤n∧n<256
theorem CuB.congr {Z Z':Nat→Prop} {w w':World} {g:Nat×Value} (h:CuB Z w g) (h0:w'.heap[g.1]?=w.heap[g.1]?) (hZ:∀ b,b<w.heap.size→Z b→Z' b∧w'.heap[b]?=w.heap[b]?):CuB Z' w' g:=by
 obtain⟨i,x,e,G,bs,h1,h2,h3,h4,h5⟩:=h
 exact⟨i,x,e,G,bs,h0.trans h1,h2.congr fun b hb=>(hZ b (h2.lt b hb) (h3 b hb)).2,fun b hb=>(hZ b (h2.lt b hb) (h3 b hb)).1,h4,h5⟩
theorem CuB.lt {Z:Nat→Prop} {w:World} {g:Nat×Value} (h:CuB Z w g):g.1<w.heap.size:=by
 obtain⟨i,x,e,G,bs,h1,_⟩:=h
 exact (Array.getElem?_eq_some_iff.1 h1).1
def wfI (x:Int):Prop:= -9223372036854775808≤x∧x≤9223372036854775807
def MapB (w:World) (b:Nat) (f:Int→Int→Int→Int):Prop:=∃ es k,w.heap[b]?=some (.map es k)∧∀ e∈es.toList,∃ x y z:Int,e.key=.agg #[.int .i64 x,.int .i64 y,.int .i64 z]∧(wfI x∧wfI y∧wfI z)∧e.val=.int .i64 (f x y z)
theorem MapB.congr {w w':World} {b:Nat} {f:Int→Int→Int→Int} (h:MapB w b f) (h0:w'.heap[b]?=w.heap[b]?):MapB w' b f:=by
 obtain⟨es,k,h1,h2⟩:=h
 exact⟨es,k,h0.trans h1,h2⟩
theorem MapB.lt {w:World} {b:Nat} {f:Int→Int→Int→Int} (h:MapB w b f):b<w.heap.size:=by
 obtain⟨es,k,h1,_⟩:=h
 exact (Array.getElem?_eq_some_iff.1 h1).1
def RR (I:Ip) (w:World) (id:Nat):R→Prop
 | .row k rows=>C true w (.sl k rows) (I.hd id) (I.F id)
 | .box cs=>I.F id=[I.B id]∧∃ vs e,w.heap[I.B id]?=some (.cells (List.toArray vs) e (0,0))∧VEs I w cs vs
 | .hdr j x=>I.F id=[]∧∀ i,j=some i→I.hd i=x
 | .blk j b=>I.F id=[]∧∀ i,j=some i→I.B i=b
 | .kept K=>I.F id=[]∧∀ x∈K,w.heap[x.1]?=some x.2∧I.Z x.1
 | .opq=>True
 | .cur g=>I.F id=[g.1]∧I.B id=g.1∧CuB I.Z w g
 | .mp b f=>I.F id=[b]∧MapB w b f
structure Chg (w w':World) (G:List Nat):Prop where
 os:w'.os=w.os
 tape:w'.tape=w.tape
 output:w'.output=w.output
 size:w.heap.size≤w'.heap.size
 block:∀ k,k<w.heap.size→k∉G→w'.heap[k]?=w.heap[k]?
theorem Chg.refl (w:World) (G:List Nat):Chg w w G:=⟨rfl,rfl,rfl,Nat.le_refl _,fun _ _ _=>rfl⟩
theorem Chg.later {w w' w1:World} {G:List Nat} (h:Chg w w' G) (hx:Ext w' w1):Chg w w1 G:=
 ⟨hx.os.trans h.os,hx.tape.trans h.tape,hx.output.trans h.output,Nat.le_trans h.size hx.size,fun k hk hn=>(hx.block (Nat.lt_of_lt_of_le hk h.size)).trans (h.block k hk hn)⟩
theorem Chg.toExt {w w':World} (h:Chg w w' []):Ext w w':=(Ext.refl w).trans' h.os h.tape h.output h.size fun k hk=>h.block k hk (by simp)
structure Base where
 W:World
 H:List Nat
 good:Good W H
def Base.own (w0:Base) (b:Nat):Prop:=w0.W.heap.size≤b∨b∈w0.H
structure RelI (I:Ip) (w0:Base) (σ:St) (a:Act) (w:World):Prop where
 ext:Chg w0.W w w0.H
 defers:a.defers=[]
 size:a.tmps.size=σ.n
 slots:∀ i x,look σ.slots i=some x→VS I w x (a.tmps.getD i undef)
 res:∀ id r,look σ.res id=some r→RR I w id r
 old:∀ b,I.Z b→b<w.heap.size
 lt:∀ id,∀ b∈I.F id,b<w.heap.size∧¬ I.Z b
 own:∀ id r,look σ.res id=some r→(I.F id).Nodup∧∀ b∈I.F id,w0.own b∧Thaw w b
 apart:∀ i j,i≠j→∀ b∈I.F i,b∉I.F j
def Rel (w0:Base) (σ:St) (a:Act) (w:World):Prop:=∃ I,RelI I w0 σ a w
theorem RelI.goodF {I:Ip} {w0:Base} {σ:St} {a:Act} {w:World} (h:RelI I w0 σ a w) {G:List Nat} (hG:∀ b∈G,w0.own b):Good w G:=w0.good.step h.ext.size h.ext.block hG
theorem RelI.good {I:Ip} {w0:Base} {σ:St} {a:Act} {w:World} (h:RelI I w0 σ a w):Good w []:=h.goodF fun _ hb=>by cases hb

theorem VE.mono {I:Ip} {w w':World} (hx:Ext w w') {e:E} {c:Value} (h:VE I w e c):VE I w' e c:=by
 cases e with
 | t x=>obtain⟨G,h1,h2⟩:=h;exact⟨G,h1.mono hx,h2⟩
 | vw id x=>obtain⟨G,h1,h2⟩:=h;exact⟨G,h1.mono hx,h2⟩
 | rf id=>exact h
 | tl id k j=>exact h
 | pf id k j=>exact h
 | pp id o=>exact h
 | pr id k i j=>exact h
 | sb id k i j=>obtain⟨g,n,m,h1,h2,h3,h4⟩:=h;exact⟨g,n,m,h1,h2,heap_lt (hx.block h3) h3,(World.cell?_of_block (a:=⟨g,_,none⟩) (hx.block h3)).trans h4⟩
 | no=>trivial
theorem VEs.mono {I:Ip} {w w':World} (hx:Ext w w'):∀ {l:List E} {cs:List Value},VEs I w l cs→VEs I w' l cs
 | [],_,h=>h
 | _::_,_,⟨c,cr,h1,h2,h3⟩=>⟨c,cr,h1,h2.mono hx,h3.mono hx⟩
theorem VA.mono {I:Ip} {w w':World} (hx:Ext w w') {x:A} {v:Value} (h:VA I w x v):VA I w' x v:=by
 cases x with
 | one e=>exact VE.mono hx h
 | agg l=>obtain⟨cs,h1,h2⟩:=h;exact⟨cs,h1,h2.mono hx⟩
theorem VAs.mono {I:Ip} {w w':World} (hx:Ext w w'):∀ {l:List A} {cs:List Value},VAs I w l cs→VAs I w' l cs
 | [],_,h=>h
 | _::_,_,⟨c,cr,h1,h2,h3⟩=>⟨c,cr,h1,h2.mono hx,h3.mono hx⟩
theorem VS.mono {I:Ip} {w w':World} (hx:Ext w w') {x:Bool×S} {v:Value} (h:VS I w x v):VS I w' x v:=by
 obtain⟨p,x⟩:=x
 cases p
 · exact h
 cases x with
 | a x=>exact VA.mono hx h
 | tup l=>obtain⟨vs,h1,h2⟩:=h;exact⟨vs,h1,h2.mono hx⟩
theorem RR.mono {I:Ip} {w w':World} (hx:Ext w w') {id:Nat} {r:R} (h:RR I w id r):RR I w' id r:=by
 cases r with
 | row k rows=>exact C.mono h hx
 | box cs=>
  obtain⟨h1,vs,e,h2,h3⟩:=h
  exact⟨h1,vs,e,(hx.block (Array.getElem?_eq_some_iff.1 h2).1).trans h2,h3.mono hx⟩
 | hdr j x=>exact h
 | blk j b=>exact h
 | opq=>trivial
 | cur g=>exact⟨h.1,h.2.1,h.2.2.congr (hx.block h.2.2.lt) fun b hb hz=>⟨hz,hx.block hb⟩⟩
 | mp b f=>exact⟨h.1,h.2.congr (hx.block h.2.lt)⟩
 | kept K=>exact⟨h.1,fun x hx'=>⟨(hx.block (Array.getElem?_eq_some_iff.1 (h.2 x hx').1).1).trans (h.2 x hx').1,(h.2 x hx').2⟩⟩
theorem RelI.later {I:Ip} {w0:Base} {w w':World} {σ:St} {a:Act} (h:RelI I w0 σ a w) (hx:Ext w w'):RelI I w0 σ a w':=
 ⟨h.ext.later hx,h.defers,h.size,fun i x hi=>(h.slots i x hi).mono hx,fun id r hi=>(h.res id r hi).mono hx,fun b hb=>Nat.lt_of_lt_of_le (h.old b hb) hx.size,
  fun id b hb=>⟨Nat.lt_of_lt_of_le (h.lt id b hb).1 hx.size,(h.lt id b hb).2⟩,
  fun id r hi=>⟨(h.own id r hi).1,fun b hb=>⟨((h.own id r hi).2 b hb).1,((h.own id r hi).2 b hb).2.ext hx⟩⟩,h.apart⟩
def St.put (σ:St) (d:Option Tmp) (x:Bool×S):St:=match d with|some d=>{ σ with slots:=(d,x)::σ.slots }|none=>σ
theorem RelI.put {I:Ip} {w0:Base} {w:World} {σ:St} {a:Act} (h:RelI I w0 σ a w) {d:Option Tmp} {x:Bool×S} {v:Value} (hd:d.all (fun d=>Nat.blt d σ.n)=true) (hv:VS I w x v):RelI I w0 (σ.put d x) (a.put d v) w:=by
 cases d with
 | none=>exact h
 | some d=>
  have hd':d<a.tmps.size:=by rw [h.size];have h2:Nat.blt d σ.n=true:=hd;exact Nat.le_of_ble_eq_true h2
  refine⟨h.ext,h.defers,by simp [Act.put,St.put,h.size],fun i y hi=>?_,h.res,h.old,h.lt,h.own,h.apart⟩
  rw [St.put,look_cons] at hi
  by_cases e:d=i
  · subst e
    rw [if_pos rfl] at hi
    cases hi
    simpa [Act.put,hd'] using hv
  rw [if_neg e] at hi
  have:=h.slots i y hi
  simpa [Act.put,Array.getElem?_setIfInBounds_ne e] using this
def E.has (id:Nat):E→Bool
 | .rf i|.vw i _|.pp i _|.pr i _ _ _|.sb i _ _ _|.tl i _ _|.pf i _ _=>Nat.beq i id
 | _=>false
def A.has (id:Nat):A→Bool
 | .one e=>e.has id
 | .agg l=>l.any (E.has id)
def S.has (id:Nat):S→Bool
 | .a x=>x.has id
 | .tup l=>l.any (A.has id)
def R.has (id:Nat):R→Bool
 | .row _ _=>false
 | .box cs=>cs.any (E.has id)
 | .hdr (some j) _=>Nat.beq j id
 | .hdr none _=>false
 | .blk (some j) _=>Nat.beq j id
 | .blk none _=>false
 | .kept _=>false
 | .opq=>false
 | .cur _=>false
 | .mp _ _=>false
def St.has (σ:St) (id:Nat):Bool:=σ.slots.any (fun x=>x.2.2.has id)||σ.res.any (fun x=>Nat.beq x.1 id||x.2.has id)
def Ip.set (I:Ip) (id:Nat) (G:List Nat) (v:Value) (b:Nat):Ip:=
 ⟨I.Z,fun i=>if i=id then G else I.F i,fun i=>if i=id then v else I.hd i,fun i=>if i=id then b else I.B i⟩
theorem beq_ne {i j:Nat} (h:Nat.beq i j=false):i≠j:=fun e=>by subst e;rw [Nat.beq_refl] at h;cases h
theorem VE.set {I:Ip} {w:World} {id:Nat} {G:List Nat} {u:Value} {b:Nat} {e:E} {c:Value} (he:e.has id=false) (h:VE I w e c):VE (I.set id G u b) w e c:=by
 cases e with
 | t x=>exact h
 | no=>trivial
 | rf i=>simp only [VE,Ip.set] at h ⊢;rw [if_neg (beq_ne he)];exact h
 | tl i k j=>simp only [VE,Ip.set] at h ⊢;simp only [if_neg (beq_ne he)];exact h
 | pf i k j=>simp only [VE,Ip.set] at h ⊢;simp only [if_neg (beq_ne he)];exact h
 | vw i x=>simp only [VE,Ip.set] at h ⊢;simp only [if_neg (beq_ne he)];exact h
 | pp i o=>simp only [VE,Ip.set] at h ⊢;rw [if_neg (beq_ne he)];exact h
 | pr i k p q=>simp only [VE,Ip.set] at h ⊢;rw [if_neg (beq_ne he)];exact h
 | sb i k p q=>simp only [VE,Ip.set] at h ⊢;simp only [if_neg (beq_ne he)];exact h
theorem VEs.set {I:Ip} {w:World} {id:Nat} {G:List Nat} {u:Value} {b:Nat}:∀ {l:List E} {cs:List Value},l.any (E.has id)=false→VEs I w l cs→VEs (I.set id G u b) w l cs
 | [],_,_,h=>h
 | _::_,_,he,⟨c,cr,h1,h2,h3⟩=>by
  simp only [List.any_cons,Bool.or_eq_false_iff] at he
  exact⟨c,cr,h1,h2.set he.1,h3.set he.2⟩
theorem VA.set {I:Ip} {w:World} {id:Nat} {G:List Nat} {u:Value} {b:Nat} {x:A} {v:Value} (he:x.has id=false) (h:VA I w x v):VA (I.set id G u b) w x v:=by
 cases x with
 | one e=>exact VE.set he h
 | agg l=>obtain⟨cs,h1,h2⟩:=h;exact⟨cs,h1,h2.set he⟩
theorem VAs.set {I:Ip} {w:World} {id:Nat} {G:List Nat} {u:Value} {b:Nat}:∀ {l:List A} {cs:List Value},l.any (A.has id)=false→VAs I w l cs→VAs (I.set id G u b) w l cs
 | [],_,_,h=>h
 | _::_,_,he,⟨c,cr,h1,h2,h3⟩=>by
  simp only [List.any_cons,Bool.or_eq_false_iff] at he
  exact⟨c,cr,h1,h2.set he.1,h3.set he.2⟩
theorem VS.set {I:Ip} {w:World} {id:Nat} {G:List Nat} {u:Value} {b:Nat} {x:Bool×S} {v:Value} (he:x.2.has id=false) (h:VS I w x v):VS (I.set id G u b) w x v:=by
 obtain⟨p,x⟩:=x
 cases p
 · exact h
 cases x with
 | a x=>exact VA.set he h
 | tup l=>obtain⟨vs,h1,h2⟩:=h;exact⟨vs,h1,h2.set he⟩
theorem RR.set {I:Ip} {w:World} {id:Nat} {G:List Nat} {u:Value} {b:Nat} {i:Nat} {r:R} (hi:i≠id) (he:r.has id=false) (h:RR I w i r):RR (I.set id G u b) w i r:=by
 cases r with
 | row k rows=>simp only [RR,Ip.set,if_neg hi] at h ⊢;exact h
 | box cs=>
  obtain⟨h1,vs,e,h2,h3⟩:=h
  refine⟨by simp only [Ip.set,if_neg hi];exact h1,vs,e,by simp only [Ip.set,if_neg hi];exact h2,h3.set he⟩
 | kept K=>exact⟨by simp only [Ip.set,if_neg hi];exact h.1,h.2⟩
 | opq=>trivial
 | cur g=>simp only [RR,Ip.set,if_neg hi] at h ⊢;exact h
 | mp b f=>simp only [RR,Ip.set,if_neg hi] at h ⊢;exact h
 | hdr j x=>
  refine⟨by simp only [Ip.set,if_neg hi];exact h.1,fun k hk=>?_⟩
  subst hk
  simp only [Ip.set,if_neg (beq_ne he)]
  exact h.2 k rfl
 | blk j b=>
  refine⟨by simp only [Ip.set,if_neg hi];exact h.1,fun k hk=>?_⟩
  subst hk
  simp only [Ip.set,if_neg (beq_ne he)]
  exact h.2 k rfl
theorem look_mem {α:Type}:∀ {l:List (Nat×α)} {i:Nat} {x:α},look l i=some x→(i,x)∈l
 | [],_,_,h=>by cases h
 | (j,y)::l,i,x,h=>by
  rw [look_cons] at h
  by_cases e:j=i
  · subst e;rw [if_pos rfl] at h;cases h;simp
  rw [if_neg e] at h;simp [look_mem h]
theorem St.has_slot {σ:St} {id i:Nat} {x:Bool×S} (h:σ.has id=false) (hi:look σ.slots i=some x):x.2.has id=false:=by
 simp only [St.has,Bool.or_eq_false_iff,List.any_eq_false] at h
 simpa using h.1 _ (look_mem hi)
theorem St.has_res {σ:St} {id i:Nat} {r:R} (h:σ.has id=false) (hi:look σ.res i=some r):i≠id∧r.has id=false:=by
 simp only [St.has,Bool.or_eq_false_iff,List.any_eq_false] at h
 have:=h.2 _ (look_mem hi)
 simp only [Bool.or_eq_true,not_or,Bool.not_eq_true] at this
 exact⟨beq_ne this.1,this.2⟩
def St.add (σ:St) (id:Nat) (r:R):St:={ σ with res:=(id,r)::σ.res }
theorem RelI.add {I:Ip} {w0:Base} {w w':World} {σ:St} {a:Act} (h:RelI I w0 σ a w) {id:Nat} (hf:σ.has id=false) (hx:Ext w w') {G:List Nat} {u:Value} {b:Nat} {r:R}
 (hG:G.Nodup∧∀ b∈G,w.heap.size≤b∧b<w'.heap.size∧Thaw w' b) (hr:RR (I.set id G u b) w' id r):RelI (I.set id G u b) w0 (σ.add id r) a w':=by
 have h':=h.later hx
 have key:∀ i r',look (σ.add id r).res i=some r'→(i=id∧r'=r)∨(i≠id∧look σ.res i=some r'):=by
  intro i r' hi
  rw [St.add,look_cons] at hi
  by_cases e:id=i
  · rw [if_pos e] at hi;cases hi;exact .inl ⟨e.symm,rfl⟩
  rw [if_neg e] at hi;exact .inr ⟨fun e'=>e e'.symm,hi⟩
 have Fid:(I.set id G u b).F id=G:=by simp [Ip.set]
 have Foth:∀ i,i≠id→(I.set id G u b).F i=I.F i:=fun i hi=>by simp [Ip.set,hi]
 refine⟨h'.ext,h'.defers,h'.size,fun i x hi=>(h'.slots i x hi).set (St.has_slot hf hi),fun i r' hi=>?_,h'.old,fun i b hb=>?_,fun i r' hi=>?_,fun i j hne=>?_⟩
 · rcases key i r' hi with ⟨rfl,rfl⟩|⟨e,hi⟩
   · exact hr
   exact (h'.res i r' hi).set e (St.has_res hf hi).2
 · by_cases e:i=id
   · rw [e,Fid] at hb
     exact⟨(hG.2 b hb).2.1,fun hz=>by have:=h.old b hz;have:=(hG.2 b hb).1;omega⟩
   rw [Foth i e] at hb;exact h'.lt i b hb
 · rcases key i r' hi with ⟨rfl,rfl⟩|⟨e,hi⟩
   · rw [Fid]
     exact⟨hG.1,fun b hb=>⟨.inl (Nat.le_trans h.ext.size (hG.2 b hb).1),(hG.2 b hb).2.2⟩⟩
   rw [Foth i e];exact h'.own i r' hi
 by_cases ei:i=id
 · by_cases ej:j=id
   · exact absurd (ei.trans ej.symm) hne
   rw [ei,Fid,Foth j ej]
   exact fun b hb hb'=>by have:=(h.lt j b hb').1;have:=(hG.2 b hb).1;omega
 by_cases ej:j=id
 · rw [ej,Fid,Foth i ei]
   exact fun b hb hb'=>by have:=(h.lt i b hb).1;have:=(hG.2 b hb').1;omega
 rw [Foth i ei,Foth j ej];exact h.apart i j hne
def E.pur (id:Nat):E→E
 | .rf i=>bif Nat.beq i id then .no else .rf i
 | .vw i x=>bif Nat.beq i id then .no else .vw i x
 | .pr i k p q=>bif Nat.beq i id then .no else .pr i k p q
 | .sb i k p q=>bif Nat.beq i id then .no else .sb i k p q
 | .tl i k j=>bif Nat.beq i id then .no else .tl i k j
 | .pf i k j=>bif Nat.beq i id then .no else .pf i k j
 | e=>e
def A.pur (id:Nat):A→A
 | .one e=>.one (e.pur id)
 | .agg l=>.agg (l.map (E.pur id))
def S.pur (id:Nat):S→S
 | .a x=>.a (x.pur id)
 | .tup l=>.tup (l.map (A.pur id))
def R.pur (id:Nat):R→R
 | .row k rows=>.row k rows
 | .box cs=>.box (cs.map (E.pur id))
 | .hdr j x=>.hdr (match j with|some j=>bif Nat.beq j id then none else some j|none=>none) x
 | .blk j b=>.blk (match j with|some j=>bif Nat.beq j id then none else some j|none=>none) b
 | .kept K=>.kept K
 | .opq=>.opq
 | .cur g=>.cur g
 | .mp b f=>.mp b f
def setR:List (Nat×R)→Nat→R→List (Nat×R)
 | [],_,_=>[]
 | (i,x)::l,id,r=>bif Nat.beq i id then (i,r)::l else (i,x)::setR l id r
def St.pur (σ:St) (id:Nat):St:={ σ with slots:=σ.slots.map (fun x=>(x.1,(x.2.1,x.2.2.pur id))),res:=σ.res.map (fun x=>(x.1,x.2.pur id)) }
def St.chg (σ:St) (id:Nat) (r:R):St:={ σ.pur id with res:=setR (σ.pur id).res id r }
theorem look_map {α β:Type} (f:α→β):∀ (l:List (Nat×α)) (i:Nat),look (l.map fun x=>(x.1,f x.2)) i=(look l i).map f
 | [],_=>rfl
 | (j,y)::l,i=>by
  rw [List.map_cons,look_cons,look_cons]
  by_cases e:j=i
  · rw [if_pos e,if_pos e];rfl
  rw [if_neg e,if_neg e];exact look_map f l i
theorem look_setR:∀ (l:List (Nat×R)) (id:Nat) (r:R) (i:Nat) (x:R),look (setR l id r) i=some x→(i=id∧x=r∧∃ y,look l id=some y)∨(i≠id∧look l i=some x)
 | [],_,_,_,_,h=>by cases h
 | (j,y)::l,id,r,i,x,h=>by
  rw [setR] at h
  by_cases e:j=id
  · subst e
    simp only [Nat.beq_refl,cond_true] at h
    rw [look_cons] at h
    by_cases e:j=i
    · rw [if_pos e] at h;cases h;exact .inl ⟨e.symm,rfl,y,by rw [look_cons,if_pos rfl]⟩
    rw [if_neg e] at h;exact .inr ⟨fun h=>e h.symm,by rw [look_cons,if_neg e];exact h⟩
  have eb:Nat.beq j id=false:=by
   cases hb:Nat.beq j id with
   | false=>rfl
   | true=>exact absurd (Nat.eq_of_beq_eq_true hb) e
  simp only [eb,cond_false] at h
  rw [look_cons] at h
  by_cases e':j=i
  · rw [if_pos e'] at h;cases h
    exact .inr ⟨fun h=>e (e'.trans h),by rw [look_cons,if_pos e']⟩
  rw [if_neg e'] at h
  rcases look_setR l id r i x h with ⟨h1,h2,y',h3⟩|⟨h1,h2⟩
  · exact .inl ⟨h1,h2,y',by rw [look_cons,if_neg e];exact h3⟩
  exact .inr ⟨h1,by rw [look_cons,if_neg e'];exact h2⟩
theorem Chg.ext {w0:Base} {w w':World} {G:List Nat} (h:Chg w0.W w w0.H) (hc:Chg w w' G) (hG:∀ b∈G,w0.own b):Chg w0.W w' w0.H:=
 ⟨hc.os.trans h.os,hc.tape.trans h.tape,hc.output.trans h.output,Nat.le_trans h.size hc.size,fun k hk hn=>(hc.block k (Nat.lt_of_lt_of_le hk h.size) fun hm=>by
  rcases hG k hm with g|g
  · omega
  exact hn g).trans (h.block k hk hn)⟩
theorem VE.pur {I:Ip} {w w':World} {id:Nat} {G:List Nat} {u:Value} (hc:Chg w w' (I.F id)) (hZ:∀ b,I.Z b→b∉I.F id) (hv:∀ i,i≠id→∀ b∈I.F i,b∉I.F id) {e:E} {c:Value} (h:VE I w e c) :
 VE (I.set id G u (I.B id)) w' (e.pur id) c:=by
 have hb:∀ (i:Nat),(bif Nat.beq i id then true else false)=true↔i=id:=fun i=>by
  cases hb:Nat.beq i id with
  | false=>simp [beq_ne hb]
  | true=>simp [Nat.eq_of_beq_eq_true hb]
 cases e with
 | t x=>obtain⟨G,h1,h2⟩:=h;exact⟨G,h1.congr fun b hb=>hc.block b (h1.lt b hb) (hZ b (h2 b hb)),h2⟩
 | no=>trivial
 | rf i=>
  simp only [E.pur]
  cases e:Nat.beq i id with
  | true=>trivial
  | false=>simp only [cond_false,VE,Ip.set] at h ⊢;rw [if_neg (beq_ne e)];exact h
 | tl i k j=>
  simp only [E.pur]
  cases e:Nat.beq i id with
  | true=>trivial
  | false=>simp only [cond_false,VE,Ip.set] at h ⊢;simp only [if_neg (beq_ne e)];exact h
 | pf i k j=>
  simp only [E.pur]
  cases e:Nat.beq i id with
  | true=>trivial
  | false=>simp only [cond_false,VE,Ip.set] at h ⊢;simp only [if_neg (beq_ne e)];exact h
 | vw i x=>
  simp only [E.pur]
  cases e:Nat.beq i id with
  | true=>trivial
  | false=>
   obtain⟨G',h1,h2⟩:=h
   simp only [cond_false,VE,Ip.set,if_neg (beq_ne e)]
   exact⟨G',h1.congr fun b hb=>hc.block b (h1.lt b hb) (hv i (beq_ne e) b (h2 b hb)),h2⟩
 | pr i k p q=>
  simp only [E.pur]
  cases e:Nat.beq i id with
  | true=>trivial
  | false=>simp only [cond_false,VE,Ip.set] at h ⊢;rw [if_neg (beq_ne e)];exact h
 | sb i k p q=>
  simp only [E.pur]
  cases e:Nat.beq i id with
  | true=>trivial
  | false=>
   obtain⟨g,n,m,h1,h2,h3,h4⟩:=h
   have hb':=hc.block g h3 (hv i (beq_ne e) g h2)
   simp only [cond_false,VE,Ip.set,if_neg (beq_ne e)]
   exact⟨g,n,m,h1,h2,heap_lt hb' h3,(World.cell?_of_block (a:=⟨g,_,none⟩) hb').trans h4⟩
 | pp i o=>
  simp only [E.pur,VE,Ip.set] at h ⊢
  by_cases e:i=id
  · rw [if_pos e,←e];exact h
  rw [if_neg e];exact h
theorem VEs.pur {I:Ip} {w w':World} {id:Nat} {G:List Nat} {u:Value} (hc:Chg w w' (I.F id)) (hZ:∀ b,I.Z b→b∉I.F id) (hv:∀ i,i≠id→∀ b∈I.F i,b∉I.F id):∀ {l:List E} {cs:List Value},VEs I w l cs→
 VEs (I.set id G u (I.B id)) w' (l.map (E.pur id)) cs
 | [],_,h=>h
 | _::_,_,⟨c,cr,h1,h2,h3⟩=>⟨c,cr,h1,h2.pur hc hZ hv,h3.pur hc hZ hv⟩
theorem VA.pur {I:Ip} {w w':World} {id:Nat} {G:List Nat} {u:Value} (hc:Chg w w' (I.F id)) (hZ:∀ b,I.Z b→b∉I.F id) (hv:∀ i,i≠id→∀ b∈I.F i,b∉I.F id) {x:A} {v:Value} (h:VA I w x v) :
 VA (I.set id G u (I.B id)) w' (x.pur id) v:=by
 cases x with
 | one e=>exact VE.pur hc hZ hv h
 | agg l=>obtain⟨cs,h1,h2⟩:=h;exact⟨cs,h1,h2.pur hc hZ hv⟩
theorem VAs.pur {I:Ip} {w w':World} {id:Nat} {G:List Nat} {u:Value} (hc:Chg w w' (I.F id)) (hZ:∀ b,I.Z b→b∉I.F id) (hv:∀ i,i≠id→∀ b∈I.F i,b∉I.F id):∀ {l:List A} {cs:List Value},VAs I w l cs→
 VAs (I.set id G u (I.B id)) w' (l.map (A.pur id)) cs
 | [],_,h=>h
 | _::_,_,⟨c,cr,h1,h2,h3⟩=>⟨c,cr,h1,h2.pur hc hZ hv,h3.pur hc hZ hv⟩
theorem VS.pur {I:Ip} {w w':World} {id:Nat} {G:List Nat} {u:Value} (hc:Chg w w' (I.F id)) (hZ:∀ b,I.Z b→b∉I.F id) (hv:∀ i,i≠id→∀ b∈I.F i,b∉I.F id) {x:Bool×S} {v:Value} (h:VS I w x v) :
 VS (I.set id G u (I.B id)) w' (x.1,x.2.pur id) v:=by
 obtain⟨p,x⟩:=x
 cases p
 · exact h
 cases x with
 | a x=>exact VA.pur hc hZ hv h
 | tup l=>obtain⟨vs,h1,h2⟩:=h;exact⟨vs,h1,h2.pur hc hZ hv⟩
theorem Thaw.chg {w w':World} {G:List Nat} (hc:Chg w w' G) {b:Nat} (h:Thaw w b) (hb:b∉G):Thaw w' b:=by
 obtain⟨c,e,h⟩:=h
 exact⟨c,e,(hc.block b (Array.getElem?_eq_some_iff.1 h).1 hb).trans h⟩
def Free (I:Ip) (w0:Base) (w:World) (b:Nat):Prop:=w0.own b∧b<w.heap.size∧Thaw w b∧¬ I.Z b∧∀ i,b∉I.F i
theorem RelI.chg {I:Ip} {w0:Base} {w w':World} {σ:St} {a:Act} (h:RelI I w0 σ a w) {id:Nat} {r0:R} (h0:look σ.res id=some r0) (hc:Chg w w' (I.F id)) {G:List Nat} {u:Value} {r:R}
 (hG:G.Nodup∧∀ b∈G,w0.own b∧b<w'.heap.size∧Thaw w' b∧(b∈I.F id∨w.heap.size≤b∨Free I w0 w b)) (hr:RR (I.set id G u (I.B id)) w' id r):RelI (I.set id G u (I.B id)) w0 (σ.chg id r) a w':=by
 have hZ:∀ b,I.Z b→b∉I.F id:=fun b hz hb=>(h.lt id b hb).2 hz
 have hv:∀ i,i≠id→∀ b∈I.F i,b∉I.F id:=fun i hi=>h.apart i id hi
 have Fid:(I.set id G u (I.B id)).F id=G:=by simp [Ip.set]
 have Foth:∀ i,i≠id→(I.set id G u (I.B id)).F i=I.F i:=fun i hi=>by simp [Ip.set,hi]
 have key:∀ i r',look (σ.chg id r).res i=some r'→(i=id∧r'=r)∨(i≠id∧∃ y,look σ.res i=some y∧r'=y.pur id):=by
  intro i r' hi
  rcases look_setR _ _ _ _ _ hi with ⟨h1,h2,_⟩|⟨h1,h2⟩
  · exact .inl ⟨h1,h2⟩
  refine .inr ⟨h1,?_⟩
  rw [St.pur,look_map] at h2
  obtain⟨y,hy,e⟩:=Option.map_eq_some_iff.1 h2
  exact⟨y,hy,e.symm⟩
 refine⟨Chg.ext h.ext hc fun b hb=>((h.own id r0 h0).2 b hb).1,h.defers,h.size,fun i x hi=>?_,fun i r' hi=>?_,fun b hb=>Nat.lt_of_lt_of_le (h.old b hb) hc.size,fun i b hb=>?_,fun i r' hi=>?_,fun i j hne=>?_⟩
 · have hi':look (σ.slots.map fun x=>(x.1,(x.2.1,x.2.2.pur id))) i=some x:=hi
   rw [look_map (fun x:Bool×S=>(x.1,x.2.pur id))] at hi'
   obtain⟨y,hy,rfl⟩:=Option.map_eq_some_iff.1 hi'
   exact (h.slots i y hy).pur hc hZ hv
 · rcases key i r' hi with ⟨rfl,rfl⟩|⟨e,y,hy,rfl⟩
   · exact hr
   have:=h.res i y hy
   cases y with
   | row k rows=>
    have this:C true w (.sl k rows) (I.hd i) (I.F i):=this
    show C true w' (.sl k rows) _ _
    simp only [Ip.set,if_neg e]
    exact this.congr fun b hb=>hc.block b (this.lt b hb) (hv i e b hb)
   | box cs=>
    obtain⟨h1,vs,t,h2,h3⟩:=this
    refine⟨by simpa only [Ip.set,if_neg e] using h1,vs,t,?_,h3.pur hc hZ hv⟩
    simp only [Ip.set,if_neg e]
    exact (hc.block _ (Array.getElem?_eq_some_iff.1 h2).1 (hv i e _ (by rw [h1];simp))).trans h2
   | opq=>trivial
   | cur g=>
    have this:I.F i=[g.1]∧I.B i=g.1∧CuB I.Z w g:=this
    refine⟨by simpa only [Ip.set,if_neg e] using this.1,by simpa only [Ip.set,if_neg e] using this.2.1,?_⟩
    exact this.2.2.congr (hc.block _ this.2.2.lt (hv i e _ (by rw [this.1];simp))) fun b hb hz=>⟨hz,hc.block b hb (hZ b hz)⟩
   | mp b f=>
    have this:I.F i=[b]∧MapB w b f:=this
    exact⟨by simpa only [Ip.set,if_neg e] using this.1,this.2.congr (hc.block _ this.2.lt (hv i e _ (by rw [this.1];simp)))⟩
   | kept K=>exact⟨by simp only [Ip.set,if_neg e];exact this.1,fun x hx=>⟨(hc.block x.1 (h.old _ (this.2 x hx).2) (hZ _ (this.2 x hx).2)).trans (this.2 x hx).1,(this.2 x hx).2⟩⟩
   | hdr j x=>
    refine⟨by simp only [Ip.set,if_neg e];exact this.1,fun k hk=>?_⟩
    cases j with
    | none=>cases hk
    | some j=>
     simp only at hk
     cases hb:Nat.beq j id with
     | true=>rw [hb] at hk;cases hk
     | false=>
      rw [hb] at hk
      cases hk
      simp only [Ip.set,if_neg (beq_ne hb)]
      exact this.2 _ rfl
   | blk j b=>
    refine⟨by simp only [Ip.set,if_neg e];exact this.1,fun k hk=>?_⟩
    cases j with
    | none=>cases hk
    | some j=>
     simp only at hk
     cases hb:Nat.beq j id with
     | true=>rw [hb] at hk;cases hk
     | false=>
      rw [hb] at hk
      cases hk
      simp only [Ip.set,if_neg (beq_ne hb)]
      exact this.2 _ rfl
 · by_cases e:i=id
   · rw [e,Fid] at hb
     have g:=hG.2 b hb
     refine⟨g.2.1,fun hz=>?_⟩
     rcases g.2.2.2 with g|g|g
     · exact (h.lt id b g).2 hz
     · have:=h.old b hz;omega
     exact g.2.2.2.1 hz
   rw [Foth i e] at hb
   exact⟨Nat.lt_of_lt_of_le (h.lt i b hb).1 hc.size,(h.lt i b hb).2⟩
 · rcases key i r' hi with ⟨rfl,rfl⟩|⟨e,y,hy,rfl⟩
   · rw [Fid];exact⟨hG.1,fun b hb=>⟨(hG.2 b hb).1,(hG.2 b hb).2.2.1⟩⟩
   rw [Foth i e]
   exact⟨(h.own i y hy).1,fun b hb=>⟨((h.own i y hy).2 b hb).1,((h.own i y hy).2 b hb).2.chg hc (hv i e b hb)⟩⟩
 by_cases ei:i=id
 · by_cases ej:j=id
   · exact absurd (ei.trans ej.symm) hne
   rw [ei,Fid,Foth j ej]
   intro b hb hb'
   rcases (hG.2 b hb).2.2.2 with g|g|g
   · exact h.apart id j (fun e=>ej e.symm) b g hb'
   · have:=(h.lt j b hb').1;omega
   exact g.2.2.2.2 j hb'
 by_cases ej:j=id
 · rw [ej,Fid,Foth i ei]
   intro b hb hb'
   rcases (hG.2 b hb').2.2.2 with g|g|g
   · exact h.apart i id ei b hb g
   · have:=(h.lt i b hb).1;omega
   exact g.2.2.2.2 i hb
 rw [Foth i ei,Foth j ej];exact h.apart i j hne
end Go.Q
namespace Go.Q
open Go.RowKit
def lift (w0:Base) (Q:Exit→St→Prop):Exit→Act→World→Prop:=fun e a w=>∃ σ,Q e σ∧Rel w0 σ a w
def AW (P:Program) (w0:Base) (c:Code) (Q:Exit→St→Prop) (σ:St):Prop:=∀ a w,Rel w0 σ a w→c.wp P (lift w0 Q) a w
def AWl (P:Program) (w0:Base) (ops:Array Oper) (Q:Exit→St→Prop) (l:List Oper) (σ:St):Prop:=∀ a w,Rel w0 σ a w→wpList P ops (lift w0 Q) l a w
def Le (σ σ':St):Prop:=∀ w0 a w,Rel w0 σ a w→Rel w0 σ' a w
theorem Le.refl (σ:St):Le σ σ:=fun _ _ _ h=>h
inductive Get (σ:St) (q:Bool):Operand→A→Prop where
 | tmp {i:Nat} {p:Bool} {x:A} (h:look σ.slots i=some (p,.a x)) (hp:q=true→p=true):Get σ q (.tmp i) x
 | const {v:Value} (h:v.oneCell'=true):Get σ q (.const v) (.one (.t (.v v)))
 | func {f:FuncId}:Get σ q (.func f) (.one (.t (.fn (.func f) [] [])))
theorem Get.va {σ:St} {q:Bool} {x:Operand} {A0:A} (h:Get σ q x A0) {I:Ip} {w0:Base} {w:World} {a:Act} (hr:RelI I w0 σ a w) (hq:q=true):VA I w A0 (a.eval x):=by
 cases h with
 | tmp h hp=>
  have:=hr.slots _ _ h
  rw [hp hq] at this
  exact this
 | const h=>exact⟨[],by simp [C,Act.eval,h],by simp⟩
 | func=>exact⟨[],by simp only [C];exact⟨[],[],[],[],rfl,by simp [Cs],by simp [Cs],rfl⟩,by simp⟩
theorem Get.int {σ:St} {q:Bool} {x:Operand} {v:Value} (h:Get σ q x (.one (.t (.v v)))) {I:Ip} {w0:Base} {w:World} {a:Act} (hr:RelI I w0 σ a w) (hq:q=true):a.eval x=v:=by
 obtain⟨G,h1,_⟩:=h.va hr hq
 simp only [C] at h1
 exact h1.1
section
variable {P:Program} {w0:Base} {Q:Exit→St→Prop} {σ:St}
theorem Al {c:Code} {σ':St} (hl:Le σ σ') (h:AW P w0 c Q σ'):AW P w0 c Q σ:=fun a w hr=>h a w (hl w0 a w hr)
def ThenQ (K:St→Prop) (Q:Exit→St→Prop):Exit→St→Prop
 | .normal,σ=>K σ
 | e,σ=>Q e σ
theorem Ae {x y:Code} (h:AW P w0 x (ThenQ (AW P w0 y Q) Q) σ):AW P w0 (.seq x y) Q σ:=fun a w hr=>by
 refine wp_seq (wp_mono (h a w hr) ?_)
 rintro e a' w' ⟨σ',h1,h2⟩
 cases e with
 | normal=>exact h1 a' w' h2
 | exit id=>exact⟨σ',h1,h2⟩
 | goto l=>exact⟨σ',h1,h2⟩
 | ret=>exact⟨σ',h1,h2⟩
 | panic c=>exact⟨σ',h1,h2⟩
 | outgrown=>exact⟨σ',h1,h2⟩
def BlockQ (id:Nat) (Q:Exit→St→Prop):Exit→St→Prop
 | .exit i,σ=>bif Nat.beq i id then Q .normal σ else Q (.exit i) σ
 | e,σ=>Q e σ
theorem AW.block {id:Nat} {c:Code} (h:AW P w0 c (BlockQ id Q) σ):AW P w0 (.block id c) Q σ:=fun a w hr=>by
 refine wp_block (wp_mono (h a w hr) ?_)
 rintro e a' w' ⟨σ',h1,h2⟩
 cases e with
 | normal=>exact⟨σ',h1,h2⟩
 | exit i=>
  simp only [BlockQ] at h1
  simp only [Exit.inBlock]
  split
  · rename_i e;subst e;simp only [Nat.beq_refl,cond_true] at h1;exact⟨σ',h1,h2⟩
  rename_i e
  have eb:Nat.beq i id=false:=by
   cases hb:Nat.beq i id with
   | false=>rfl
   | true=>exact absurd (Nat.eq_of_beq_eq_true hb) e
  simp only [eb,cond_false] at h1;exact⟨σ',h1,h2⟩
 | goto l=>exact⟨σ',h1,h2⟩
 | ret=>exact⟨σ',h1,h2⟩
 | panic c=>exact⟨σ',h1,h2⟩
 | outgrown=>exact⟨σ',h1,h2⟩
theorem AW.skip (h:Q .normal σ):AW P w0 .skip Q σ:=fun _ _ hr=>wp_skip ⟨σ,h,hr⟩
theorem Ai (h:Q .ret σ):AW P w0 .ret Q σ:=fun _ _ hr=>wp_ret ⟨σ,h,hr⟩
theorem Bz {id:Nat} (h:Q (.exit id) σ):AW P w0 (.exit id) Q σ:=fun _ _ hr=>wp_exit ⟨σ,h,hr⟩
theorem Ah {c:Operand} {x y:Code} {b:Bool} (hc:Get σ true c (.one (.t (.v (.bool b))))) (ht:b=true→AW P w0 x Q σ) (hf:b=false→AW P w0 y Q σ):AW P w0 (.cond c x y) Q σ:=fun a w hr=>by
 obtain⟨I,hI⟩:=hr
 exact wp_cond_split (hc.int hI rfl) (fun e=>ht e a w ⟨I,hI⟩) (fun e=>hf e a w ⟨I,hI⟩)
def Round {β:Type} (Inv:β→Prop) (J:β→St) (m:β→Nat) (x:β) (Q:Exit→St→Prop):Exit→St→Prop:=ThenQ (fun σ=>∃ y,Inv y∧m y<m x∧Le σ (J y)) Q
theorem Dl {β:Type} (Inv:β→Prop) (J:β→St) (m:β→Nat) (x0:β) {c:Code} (h0:Inv x0) (hs:Le σ (J x0)) (round:∀ x,Inv x→AW P w0 c (Round Inv J m x Q) (J x)):AW P w0 (.loop c) Q σ:=fun a w hr=>by
 refine wp_loop_ghost (fun n a w=>∃ x,Inv x∧m x=n∧Rel w0 (J x) a w) (m x0) ⟨x0,h0,rfl,hs w0 a w hr⟩ ?_
 rintro n a w ⟨x,hx,rfl,hr⟩
 refine wp_mono (round x hx a w hr) ?_
 rintro e a' w' ⟨σ',h1,h2⟩
 cases e with
 | normal=>
  obtain⟨y,hy,hm,hl⟩:=h1
  exact⟨m y,hm,y,hy,rfl,hl w0 a' w' h2⟩
 | exit id=>exact⟨σ',h1,h2⟩
 | goto l=>exact⟨σ',h1,h2⟩
 | ret=>exact⟨σ',h1,h2⟩
 | panic c=>exact⟨σ',h1,h2⟩
 | outgrown=>exact⟨σ',h1,h2⟩
theorem Round.next {β:Type} {Inv:β→Prop} {J:β→St} {m:β→Nat} {x:β} (y:β) (h1:Inv y) (h2:m y<m x) (h3:Le σ (J y)):Round Inv J m x Q .normal σ:=⟨y,h1,h2,h3⟩
theorem Ad {id:Nat} {l:List Oper} (h:AWl P w0 l.toArray Q l σ):AW P w0 (.region id l.toArray false) Q σ:=fun a w hr=>wp_region_lit (h a w hr)
theorem Aa {ops:Array Oper} (h:Q .normal σ):AWl P w0 ops Q [] σ:=fun _ _ hr=>wpList_nil ⟨σ,h,hr⟩
def Op1 (P:Program) (ops:Array Oper) (o:Oper) (σ σ':St):Prop:=∀ w0 a w,Rel w0 σ a w→∀ (K:Act→World→Prop) (Q:Exit→Act→World→Prop),(∀ a' w',Rel w0 σ' a' w'→K a' w')→
 if Region.wanted o (yielded ops a.tmps) then o.wp P a w K Q else K (a.put o.dst undef) w
theorem AWl.op {ops:Array Oper} {o:Oper} {l:List Oper} {σ':St} (ho:Op1 P ops o σ σ') (h:AWl P w0 ops Q l σ'):AWl P w0 ops Q (o::l) σ:=fun a w hr=>
 wpList_step fun K hK=>ho w0 a w hr K _ fun a' w' hr'=>hK a' w' (h a' w' hr')
end
inductive Grd (ops:Array Oper) (o:Oper) (σ:St):Bool→Prop where
 | no (hg:o.guard=none):Grd ops o σ true
 | yes {j d:Nat} {p b:Bool} (hg:o.guard=some (j,true)) (hd:(ops[j]?).bind (·.dst)=some d) (h:look σ.slots d=some (p,.a (.one (.t (.v (.bool b)))))) (hn:Nat.blt d σ.n=true):Grd ops o σ (p&&b)
 | not {j d:Nat} {p b:Bool} (hg:o.guard=some (j,false)) (hd:(ops[j]?).bind (·.dst)=some d) (h:look σ.slots d=some (p,.a (.one (.t (.v (.bool b)))))) (hn:Nat.blt d σ.n=true):Grd ops o σ (p&&!b)
 | yes1 {j d:Nat} {b:Bool} (hg:o.guard=some (j,true)) (hd:(ops[j]?).bind (·.dst)=some d) (h:look σ.slots d=some (true,.a (.one (.t (.v (.bool b)))))) (hn:Nat.blt d σ.n=true):Grd ops o σ b
 | not1 {j d:Nat} {b:Bool} (hg:o.guard=some (j,false)) (hd:(ops[j]?).bind (·.dst)=some d) (h:look σ.slots d=some (true,.a (.one (.t (.v (.bool b)))))) (hn:Nat.blt d σ.n=true):Grd ops o σ (!b)
theorem yield_of {ops:Array Oper} {σ:St} {I:Ip} {w0:Base} {w:World} {a:Act} (hr:RelI I w0 σ a w) {j d:Nat} {p b:Bool} (hd:(ops[j]?).bind (·.dst)=some d) (h:look σ.slots d=some (p,.a (.one (.t (.v (.bool b)))))) (hn:Nat.blt d σ.n=true) :
 yielded ops a.tmps j=if p=true then some b else none:=by
 have hdn:d<a.tmps.size:=by rw [hr.size];exact Nat.le_of_ble_eq_true hn
 have hv:=hr.slots d _ h
 unfold yielded
 rw [hd]
 simp only [Option.bind_some,Array.getElem?_eq_getElem hdn]
 rw [Array.getD_eq_getD_getElem?,Array.getElem?_eq_getElem hdn,Option.getD_some] at hv
 cases p with
 | false=>
  have hv':a.tmps[d]=undef:=hv
  rw [hv'];rfl
 | true=>
  obtain⟨G,h1,_⟩:VA I w (.one (.t (.v (.bool b)))) a.tmps[d]:=hv
  simp only [C] at h1
  rw [h1.1];rfl
theorem Grd.wanted {ops:Array Oper} {o:Oper} {σ:St} {q:Bool} (h:Grd ops o σ q) {I:Ip} {w0:Base} {w:World} {a:Act} (hr:RelI I w0 σ a w):Region.wanted o (yielded ops a.tmps)=q:=by
 cases h with
 | no hg=>simp [Region.wanted,hg]
 | yes hg hd h hn=>
  rename_i p b
  simp only [Region.wanted,hg]
  rw [yield_of hr hd h hn]
  cases p<;>cases b<;>rfl
 | not hg hd h hn=>
  rename_i p b
  simp only [Region.wanted,hg]
  rw [yield_of hr hd h hn]
  cases p<;>cases b<;>rfl
 | yes1 hg hd h hn=>
  simp only [Region.wanted,hg]
  rw [yield_of hr hd h hn]
  cases q<;>rfl
 | not1 hg hd h hn=>
  rename_i b
  simp only [Region.wanted,hg]
  rw [yield_of hr hd h hn]
  cases b<;>rfl
theorem Op1.val {P:Program} {ops:Array Oper} {o:Oper} {σ:St} {q:Bool} {x:S} (hg:Grd ops o σ q) (hd:o.dst.all (fun d=>Nat.blt d σ.n)=true)
 (h:∀ I w0 a w,RelI I w0 σ a w→q=true→∃ v,(execOp a.eval o).run P w=.ok (.value v) w∧VS I w (true,x) v):Op1 P ops o σ (σ.put o.dst (q,x)):=by
 rintro w0 a w ⟨I,hI⟩ K Q hK
 rw [hg.wanted hI]
 cases q with
 | true=>
  simp only [if_true]
  obtain⟨v,h1,h2⟩:=h I w0 a w hI rfl
  unfold Oper.wp
  rw [h1]
  exact hK _ _ ⟨I,hI.put hd h2⟩
 | false=>exact hK _ _ ⟨I,hI.put hd rfl⟩
inductive V0 where
 | one (t:T)
 | agg (l:List T)
inductive V where
 | a (x:V0)
 | tup (l:List V0)
def V0r (o:Bool) (w:World):V0→Value→List Nat→Prop
 | .one t,v,F=>C o w t v F
 | .agg l,v,F=>∃ cs,v=.agg (List.toArray cs)∧Cs o w l cs F
def V0s (o:Bool) (w:World):List V0→List Value→List Nat→Prop
 | [],vs,F=>vs=[]∧F=[]
 | x::r,vs,F=>∃ v vr G1 G2,vs=v::vr∧V0r o w x v G1∧V0s o w r vr G2∧F=G1++G2
def Vr (o:Bool) (w:World):V→Value→List Nat→Prop
 | .a x,v,F=>V0r o w x v F
 | .tup l,v,F=>∃ vs,v=.tuple (List.toArray vs)∧V0s o w l vs F
def FnPost (w:World) (out:V) (e:Ending) (w':World):Prop:=∃ v F,e=.returned v∧Vr true w' out v F∧F.Nodup∧(∀ b∈F,w.heap.size≤b∧Thaw w' b)∧Ext w w'
def Callee (P:Program) (f:FuncId):Prop:=∃ fn,P.funcs[f]?=some fn∧(fn.name == "runtime.NumGoroutine")=false∧fn.body.isNone=false
def FnT (P:Program) (f:FuncId) (ins:List V0) (out:V):Prop:=Callee P f∧∀ w vs F,Good w []→V0s false w ins vs F→Calls P f (List.toArray vs) w (FnPost w out)
def FrPost (w:World) (out:V) (e:Ending) (w':World):Prop:=∃ v F,e=.returned v∧Vr false w' out v F∧(∀ b∈F,w.heap.size≤b)∧Ext w w'
def FrT (P:Program) (f:FuncId) (ins:List V0) (out:V):Prop:=Callee P f∧∀ w vs F,Good w []→V0s false w ins vs F→Calls P f (List.toArray vs) w (FrPost w out)
theorem V0r.read {w:World} {x:V0} {v:Value} {F:List Nat} (h:V0r true w x v F):V0r false w x v F:=by
 cases x with
 | one t=>exact C.read h
 | agg l=>obtain⟨cs,h1,h2⟩:=h;exact⟨cs,h1,h2.read⟩
theorem V0s.read {w:World}:∀ {l:List V0} {vs:List Value} {F:List Nat},V0s true w l vs F→V0s false w l vs F
 | [],_,_,h=>h
 | _::_,_,_,⟨v,vr,G1,G2,h1,h2,h3,h4⟩=>⟨v,vr,G1,G2,h1,h2.read,h3.read,h4⟩
theorem Vr.read {w:World} {x:V} {v:Value} {F:List Nat} (h:Vr true w x v F):Vr false w x v F:=by
 cases x with
 | a x=>exact V0r.read h
 | tup l=>obtain⟨vs,h1,h2⟩:=h;exact⟨vs,h1,h2.read⟩
theorem FnT.fr {P:Program} {f:FuncId} {ins:List V0} {out:V} (h:FnT P f ins out):FrT P f ins out:=⟨h.1,fun w vs F hg hv=>(h.2 w vs F hg hv).mono fun _ _ ⟨v,F,h1,h2,_,h4,h3⟩=>⟨v,F,h1,h2.read,fun b hb=>(h4 b hb).1,h3⟩⟩
def Res (P:Program) (fn:Func) (o:Bool) (out:V) (σ:St):Prop:=∀ I w0 a w,RelI I w0 σ a w→∃ v F,(results fn a.tmps).run P w=.ok v w∧Vr o w out v F∧(∀ b∈F,w0.own b)∧(o=true→F.Nodup∧∀ b∈F,Thaw w b)
def RetQ (P:Program) (fn:Func) (o:Bool) (out:V):Exit→St→Prop
 | .normal,σ=>Res P fn o out σ
 | .ret,σ=>Res P fn o out σ
 | _,_=>False
def inA:V0→A
 | .one t=>.one (.t t)
 | .agg l=>.agg (l.map .t)
def inSlots:Nat→List V0→List (Nat×(Bool×S))
 | _,[]=>[]
 | i,x::r=>(i,(true,.a (inA x)))::inSlots (i+1) r
def st0 (n:Nat) (ins:List V0):St:=⟨n,inSlots 0 ins,[]⟩
def ip0 (w:World):Ip:=⟨fun b=>b<w.heap.size,fun _=>[],fun _=>undef,fun _=>0⟩
theorem VEs_in {w:World}:∀ {l:List T} {cs:List Value} {F:List Nat},Cs false w l cs F→VEs (ip0 w) w (l.map .t) cs
 | [],cs,F,h=>by simp only [Cs] at h;exact h.1
 | t::r,cs,F,h=>by
  simp only [Cs] at h
  obtain⟨c,cr,G1,G2,h1,h2,h3,_⟩:=h
  exact⟨c,cr,h1,⟨G1,h2,fun b hb=>h2.lt b hb⟩,VEs_in h3⟩
theorem VA_in {w:World} {x:V0} {v:Value} {F:List Nat} (h:V0r false w x v F):VA (ip0 w) w (inA x) v:=by
 cases x with
 | one t=>exact⟨F,h,fun b hb=>C.lt h b hb⟩
 | agg l=>obtain⟨cs,h1,h2⟩:=h;exact⟨cs,h1,VEs_in h2⟩
theorem in_slots {w:World}:∀ {ins:List V0} {vs:List Value} {F:List Nat} (k:Nat),V0s false w ins vs F→(vs.length=ins.length)∧∀ i x,look (inSlots k ins) i=some x→∃ v,vs[i-k]?=some v∧k≤i∧VS (ip0 w) w x v
 | [],vs,F,k,h=>by obtain⟨rfl,_⟩:=h;exact⟨rfl,fun i x hi=>by cases hi⟩
 | y::r,vs,F,k,h=>by
  obtain⟨v,vr,G1,G2,rfl,h2,h3,_⟩:=h
  obtain⟨g1,g2⟩:=in_slots (k+1) h3
  refine⟨by simp [g1],fun i x hi=>?_⟩
  rw [inSlots,look_cons] at hi
  by_cases e:k=i
  · subst e
    rw [if_pos rfl] at hi
    cases hi
    exact⟨v,by simp,Nat.le_refl _,VA_in h2⟩
  rw [if_neg e] at hi
  obtain⟨u,h4,h5,h6⟩:=g2 i x hi
  exact⟨u,by rw [show i-k=(i-(k+1))+1 by omega];simpa using h4,by omega,h6⟩
theorem rel0 {w:World} (hG:Good w []) {ins:List V0} {vs:List Value} {F:List Nat} (h:V0s false w ins vs F) {n:Nat} (hn:Nat.ble ins.length n=true):Rel ⟨w,[],hG⟩ (st0 n ins) ⟨vs.toArray++Array.replicate (n-vs.toArray.size) undef,[]⟩ w:=by
 obtain⟨h1,h2⟩:=in_slots 0 h
 have hn':ins.length≤n:=Nat.le_of_ble_eq_true hn
 refine⟨ip0 w,Chg.refl w [],rfl,by simp [h1,st0];omega,fun i x hi=>?_,fun id r hi=>(by cases hi),fun b hb=>hb,fun id b hb=>(by cases hb),fun id r hi=>(by cases hi),fun i j _ b hb=>(by cases hb)⟩
 obtain⟨v,h3,_,h5⟩:=h2 i x hi
 have hl:i<vs.length:=(List.getElem?_eq_some_iff.1 h3).1
 have e:(vs.toArray++Array.replicate (n-vs.toArray.size) undef).getD i undef=v:=by
  rw [Array.getD_eq_getD_getElem?,Array.getElem?_append_left (by simpa using hl)]
  simp at h3
  simp [h3]
 rw [e];exact h5
theorem FnT.intro {P:Program} {f:FuncId} {fn:Func} {c:Code} {ins:List V0} {out:V} (hf:P.funcs[f]?=some fn) (hb:fn.body=some c) (hname:(fn.name == "runtime.NumGoroutine")=false) (hn:Nat.ble ins.length fn.ntmps=true)
 (h:∀ w0,AW P w0 c (RetQ P fn true out) (st0 fn.ntmps ins)):FnT P f ins out:=⟨⟨fn,hf,hname,by rw [hb];rfl⟩,fun w vs F hG hv=>by
 refine calls_of_wp hf hb (Code.wp_mono ?_ (h ⟨w,[],hG⟩ _ _ (rel0 hG hv hn)))
 rintro e a' w' ⟨σ,h1,I,hI⟩
 have key:Res P fn true out σ→a'.defers=[]∧∃ v,(results fn a'.tmps).run P w'=.ok v w'∧FnPost w out (.returned v) w':=fun h1=>by
  obtain⟨v,F,g1,g2,g3⟩:=h1 I ⟨w,[],hG⟩ a' w' hI
  exact⟨hI.defers,v,g1,v,F,rfl,g2,(g3.2 rfl).1,fun b hb=>⟨(g3.1 b hb).resolve_right (by simp),(g3.2 rfl).2 b hb⟩,hI.ext.toExt⟩
 cases e with
 | normal=>exact key h1
 | ret=>exact key h1
 | exit id=>exact h1.elim
 | goto l=>exact h1.elim
 | panic c=>exact h1.elim
 | outgrown=>exact h1.elim⟩
theorem FrT.intro {P:Program} {f:FuncId} {fn:Func} {c:Code} {ins:List V0} {out:V} (hf:P.funcs[f]?=some fn) (hb:fn.body=some c) (hname:(fn.name == "runtime.NumGoroutine")=false) (hn:Nat.ble ins.length fn.ntmps=true)
 (h:∀ w0,AW P w0 c (RetQ P fn false out) (st0 fn.ntmps ins)):FrT P f ins out:=⟨⟨fn,hf,hname,by rw [hb];rfl⟩,fun w vs F hG hv=>by
 refine calls_of_wp hf hb (Code.wp_mono ?_ (h ⟨w,[],hG⟩ _ _ (rel0 hG hv hn)))
 rintro e a' w' ⟨σ,h1,I,hI⟩
 have key:Res P fn false out σ→a'.defers=[]∧∃ v,(results fn a'.tmps).run P w'=.ok v w'∧FrPost w out (.returned v) w':=fun h1=>by
  obtain⟨v,F,g1,g2,g3⟩:=h1 I ⟨w,[],hG⟩ a' w' hI
  exact⟨hI.defers,v,g1,v,F,rfl,g2,fun b hb=>(g3.1 b hb).resolve_right (by simp),hI.ext.toExt⟩
 cases e with
 | normal=>exact key h1
 | ret=>exact key h1
 | exit id=>exact h1.elim
 | goto l=>exact h1.elim
 | panic c=>exact h1.elim
 | outgrown=>exact h1.elim⟩
end Go.Q
namespace Go.Q
open Go.RowKit
theorem Am {α β:Type} {f:α→β} {l:List α} {i:Nat} {x:α} (h:l[i]?=some x):(l.map f)[i]?=some (f x):=by simp [h]
def tyB (P:Program) (t:TypeId) (ag:Bool) (n:Nat):Bool:=match P.info? t,P.underlying t with
 | some i,some d=>Nat.beq i.size n&&(match d with|.struct _=>ag|.array _ _=>ag|_=>!ag)
 | _,_=>false
section
variable {P:Program} {ops:Array Oper} {o:Oper} {σ:St} {q:Bool}
theorem tyB_info {t:TypeId} {ag:Bool} {n:Nat} (h:tyB P t ag n=true):∃ i d,P.info? t=some i∧P.underlying t=some d∧i.size=n∧(match d with|.struct _=>ag|.array _ _=>ag|_=>!ag)=true:=by
 unfold tyB at h
 cases h1:P.info? t with
 | none=>rw [h1] at h;cases h
 | some i=>
  cases h2:P.underlying t with
  | none=>rw [h1,h2] at h;cases h
  | some d=>
   rw [h1,h2] at h
   simp only [Bool.and_eq_true] at h
   exact⟨i,d,rfl,rfl,Nat.eq_of_beq_eq_true h.1,h.2⟩
theorem tyB_agg {t:TypeId} {ag:Bool} {n:Nat} (h:tyB P t ag n=true) (w:World):(isAgg t).run P w=.ok ag w:=by
 obtain⟨i,d,_,h2,_,h4⟩:=tyB_info h
 unfold isAgg
 simp only [Sem.run_bind,run_underlying h2,Result.andThen_ok]
 cases d<;>simp_all
theorem tyB_size {t:TypeId} {ag:Bool} {n:Nat} (h:tyB P t ag n=true) (w:World):(sizeOf t).run P w=.ok n w:=by
 obtain⟨i,d,h1,_,h3,_⟩:=tyB_info h
 simp [sizeOf,typeInfo,h1,h3]
theorem Bf {x:Operand} {A0:A} (ho:o.op=.move x) (hg:Grd ops o σ q) (hd:o.dst.all (fun d=>Nat.blt d σ.n)=true) (hx:Get σ q x A0):Op1 P ops o σ (σ.put o.dst (q,.a A0)):=
 .val hg hd fun I w0 a w hr hq=>⟨a.eval x,by simp [execOp,ho],hx.va hr hq⟩
theorem C5 {x:Operand} {A0:A} (ho:o.op=.assign x) (hg:Grd ops o σ q) (hd:o.dst.all (fun d=>Nat.blt d σ.n)=true) (hx:Get σ q x A0):Op1 P ops o σ (σ.put o.dst (q,.a A0)):=
 .val hg hd fun I w0 a w hr hq=>⟨a.eval x,by simp [execOp,ho],hx.va hr hq⟩
theorem VS_v {I:Ip} {w:World} (x:Value) (h:x.oneCell'=true:=by rfl):VS I w (true,.a (.one (.t (.v x)))) x:=⟨[],by simp [C,h],by simp⟩
theorem Dm {op:BinOp} {t t':TypeId} {x y:Operand} {u v r:Value} (ho:o.op=.binOp op t x y t') (hg:Grd ops o σ q) (hd:o.dst.all (fun d=>Nat.blt d σ.n)=true) (hx:Get σ q x (.one (.t (.v u)))) (hy:Get σ q y (.one (.t (.v v))))
 (h1:∀ w,(eqGuard op t x y u v).run P w=.ok () w) (hr1:r.oneCell'=true:=by rfl) (h:q=true→∀ w,(binOp op t u v).run P w=.ok r w):Op1 P ops o σ (σ.put o.dst (q,.a (.one (.t (.v r))))):=
 .val hg hd fun I w0 a w hr hq=>⟨r,by simp [execOp,ho,hx.int hr hq,hy.int hr hq,h1,h hq],VS_v r hr1⟩
theorem guard_int {op:BinOp} {t:TypeId} {x y:Operand} {k k':IntKind} {n m:Int} (w:World):(eqGuard op t x y (.int k n) (.int k' m)).run P w=.ok () w:=by
 unfold eqGuard;split<;>rfl
theorem R_lt {t t':TypeId} {x y:Operand} {k:IntKind} {n m:Int} (ho:o.op=.binOp .lss t x y t') (hg:Grd ops o σ q) (hd:o.dst.all (fun d=>Nat.blt d σ.n)=true) (hx:Get σ q x (.one (.t (.v (.int k n))))) (hy:Get σ q y (.one (.t (.v (.int k m))))) :
 Op1 P ops o σ (σ.put o.dst (q,.a (.one (.t (.v (.bool (decide (n<m)))))))):=Dm ho hg hd hx hy guard_int (h:=fun _ w=>by simp [binOp,Op.intCmp])
theorem R_le {t t':TypeId} {x y:Operand} {k:IntKind} {n m:Int} (ho:o.op=.binOp .leq t x y t') (hg:Grd ops o σ q) (hd:o.dst.all (fun d=>Nat.blt d σ.n)=true) (hx:Get σ q x (.one (.t (.v (.int k n))))) (hy:Get σ q y (.one (.t (.v (.int k m))))) :
 Op1 P ops o σ (σ.put o.dst (q,.a (.one (.t (.v (.bool (decide (n≤m)))))))):=Dm ho hg hd hx hy guard_int (h:=fun _ w=>by simp [binOp,Op.intCmp])
theorem R_gt {t t':TypeId} {x y:Operand} {k:IntKind} {n m:Int} (ho:o.op=.binOp .gtr t x y t') (hg:Grd ops o σ q) (hd:o.dst.all (fun d=>Nat.blt d σ.n)=true) (hx:Get σ q x (.one (.t (.v (.int k n))))) (hy:Get σ q y (.one (.t (.v (.int k m))))) :
 Op1 P ops o σ (σ.put o.dst (q,.a (.one (.t (.v (.bool (decide (m<n)))))))):=Dm ho hg hd hx hy guard_int (h:=fun _ w=>by simp [binOp,Op.intCmp])
theorem R_ge {t t':TypeId} {x y:Operand} {k:IntKind} {n m:Int} (ho:o.op=.binOp .geq t x y t') (hg:Grd ops o σ q) (hd:o.dst.all (fun d=>Nat.blt d σ.n)=true) (hx:Get σ q x (.one (.t (.v (.int k n))))) (hy:Get σ q y (.one (.t (.v (.int k m))))) :
 Op1 P ops o σ (σ.put o.dst (q,.a (.one (.t (.v (.bool (decide (m≤n)))))))):=Dm ho hg hd hx hy guard_int (h:=fun _ w=>by simp [binOp,Op.intCmp])
theorem R_eq {t t':TypeId} {x y:Operand} {k:IntKind} {n m:Int} (ho:o.op=.binOp .eql t x y t') (hg:Grd ops o σ q) (hd:o.dst.all (fun d=>Nat.blt d σ.n)=true) (hx:Get σ q x (.one (.t (.v (.int k n))))) (hy:Get σ q y (.one (.t (.v (.int k m))))) :
 Op1 P ops o σ (σ.put o.dst (q,.a (.one (.t (.v (.bool (decide (n=m)))))))):=Dm ho hg hd hx hy guard_int (h:=fun _ w=>by simp [binOp,Op.intCmp];rfl)
theorem R_ne {t t':TypeId} {x y:Operand} {k:IntKind} {n m:Int} (ho:o.op=.binOp .neq t x y t') (hg:Grd ops o σ q) (hd:o.dst.all (fun d=>Nat.blt d σ.n)=true) (hx:Get σ q x (.one (.t (.v (.int k n))))) (hy:Get σ q y (.one (.t (.v (.int k m))))) :
 Op1 P ops o σ (σ.put o.dst (q,.a (.one (.t (.v (.bool (!decide (n=m)))))))):=Dm ho hg hd hx hy guard_int (h:=fun _ w=>by simp [binOp,Op.intCmp];rfl)
theorem wrap_in {e:Int} (h:-9223372036854775808≤e∧e≤9223372036854775807):IntKind.i64.wrap e=e:=IntWalk.i64_in e h
theorem R_add {t t':TypeId} {x y:Operand} {n m:Int} (ho:o.op=.binOp .add t x y t') (hg:Grd ops o σ q) (hd:o.dst.all (fun d=>Nat.blt d σ.n)=true) (hx:Get σ q x (.one (.t (.v (.int .i64 n))))) (hy:Get σ q y (.one (.t (.v (.int .i64 m)))))
 (hb:q=true→ -9223372036854775808≤n+m∧n+m≤9223372036854775807) :
 Op1 P ops o σ (σ.put o.dst (q,.a (.one (.t (.v (.int .i64 (n+m))))))):=Dm ho hg hd hx hy guard_int (h:=fun hq w=>by simp [binOp,Op.intArith,wrap_in (hb hq)])
theorem R_sub {t t':TypeId} {x y:Operand} {n m:Int} (ho:o.op=.binOp .sub t x y t') (hg:Grd ops o σ q) (hd:o.dst.all (fun d=>Nat.blt d σ.n)=true) (hx:Get σ q x (.one (.t (.v (.int .i64 n))))) (hy:Get σ q y (.one (.t (.v (.int .i64 m)))))
 (hb:q=true→ -9223372036854775808≤n-m∧n-m≤9223372036854775807) :
 Op1 P ops o σ (σ.put o.dst (q,.a (.one (.t (.v (.int .i64 (n-m))))))):=Dm ho hg hd hx hy guard_int (h:=fun hq w=>by simp [binOp,Op.intArith,wrap_in (hb hq)])
theorem R_mul {t t':TypeId} {x y:Operand} {n m:Int} (ho:o.op=.binOp .mul t x y t') (hg:Grd ops o σ q) (hd:o.dst.all (fun d=>Nat.blt d σ.n)=true) (hx:Get σ q x (.one (.t (.v (.int .i64 n))))) (hy:Get σ q y (.one (.t (.v (.int .i64 m)))))
 (hb:q=true→ -9223372036854775808≤n*m∧n*m≤9223372036854775807) :
 Op1 P ops o σ (σ.put o.dst (q,.a (.one (.t (.v (.int .i64 (n*m))))))):=Dm ho hg hd hx hy guard_int (h:=fun hq w=>by simp [binOp,Op.intArith,wrap_in (hb hq)])
theorem R_quo {t t':TypeId} {x y:Operand} {n m:Int} (ho:o.op=.binOp .quo t x y t') (hg:Grd ops o σ q) (hd:o.dst.all (fun d=>Nat.blt d σ.n)=true) (hx:Get σ q x (.one (.t (.v (.int .i64 n))))) (hy:Get σ q y (.one (.t (.v (.int .i64 m)))))
 (hb:q=true→0≤n∧n≤9223372036854775807∧0<m) :
 Op1 P ops o σ (σ.put o.dst (q,.a (.one (.t (.v (.int .i64 (n / m))))))):=Dm ho hg hd hx hy guard_int (h:=fun hq w=>by
  obtain⟨h1,h2,h3⟩:=hb hq
  have h4:¬ m=0:=by omega
  have h5:n / m≤n:=Int.ediv_le_self m h1
  have h6:0≤n / m:=Int.ediv_nonneg h1 (by omega)
  simp [binOp,Op.intDiv,h4,Int.tdiv_eq_ediv_of_nonneg h1,wrap_in (e:=n / m) ⟨by omega,by omega⟩])
theorem R_rem {t t':TypeId} {x y:Operand} {n m:Int} (ho:o.op=.binOp .rem t x y t') (hg:Grd ops o σ q) (hd:o.dst.all (fun d=>Nat.blt d σ.n)=true) (hx:Get σ q x (.one (.t (.v (.int .i64 n))))) (hy:Get σ q y (.one (.t (.v (.int .i64 m)))))
 (hb:q=true→0≤n∧0<m) :
 Op1 P ops o σ (σ.put o.dst (q,.a (.one (.t (.v (.int .i64 (n%m))))))):=Dm ho hg hd hx hy guard_int (h:=fun hq w=>by
  obtain⟨h1,h3⟩:=hb hq
  have h4:¬ m=0:=by omega
  simp [binOp,Op.intDiv,h4,Int.tmod_eq_emod_of_nonneg h1])
theorem R_not {t:TypeId} {x:Operand} {b:Bool} (ho:o.op=.unOp .not t x) (hg:Grd ops o σ q) (hd:o.dst.all (fun d=>Nat.blt d σ.n)=true) (hx:Get σ q x (.one (.t (.v (.bool b))))):Op1 P ops o σ (σ.put o.dst (q,.a (.one (.t (.v (.bool !b)))))):=
 .val hg hd fun I w0 a w hr hq=>⟨.bool !b,by simp [execOp,ho,hx.int hr hq,Op.unary],VS_v _⟩
theorem R_or {c y:Operand} {b b':Bool} (ho:o.op=.pick c (.const (.bool true)) y) (hg:Grd ops o σ q) (hd:o.dst.all (fun d=>Nat.blt d σ.n)=true) (hx:Get σ q c (.one (.t (.v (.bool b))))) (hy:Get σ (q&&!b) y (.one (.t (.v (.bool b'))))) :
 Op1 P ops o σ (σ.put o.dst (q,.a (.one (.t (.v (.bool (b||b'))))))):=
 .val hg hd fun I w0 a w hr hq=>⟨.bool (b||b'),by
  cases b with
  | true=>have hc:a.eval (.const (.bool true))=.bool true:=rfl;simp [execOp,ho,hx.int hr hq,asBool,hc]
  | false=>simp [execOp,ho,hx.int hr hq,asBool,hy.int hr (by simp [hq])],VS_v _⟩
theorem R_and {c x:Operand} {b b':Bool} (ho:o.op=.pick c x (.const (.bool false))) (hg:Grd ops o σ q) (hd:o.dst.all (fun d=>Nat.blt d σ.n)=true) (hx:Get σ q c (.one (.t (.v (.bool b))))) (hy:Get σ (q&&b) x (.one (.t (.v (.bool b'))))) :
 Op1 P ops o σ (σ.put o.dst (q,.a (.one (.t (.v (.bool (b&&b'))))))):=
 .val hg hd fun I w0 a w hr hq=>⟨.bool (b&&b'),by
  cases b with
  | false=>have hc:a.eval (.const (.bool false))=.bool false:=rfl;simp [execOp,ho,hx.int hr hq,asBool,hc]
  | true=>simp [execOp,ho,hx.int hr hq,asBool,hy.int hr (by simp [hq])],VS_v _⟩

inductive Sq (σ:St):A→Nat→List (List T)→Prop where
 | t {k:Nat} {rows:List (List T)}:Sq σ (.one (.t (.sl k rows))) k rows
 | rf {id k:Nat} {rows:List (List T)} (h:look σ.res id=some (.row k rows)):Sq σ (.one (.rf id)) k rows
 | vw {id k:Nat} {rows:List (List T)}:Sq σ (.one (.vw id (.sl k rows))) k rows
 | nil {k:Nat}:Sq σ (.one (.t (.v (.slice none 0 0)))) k []
theorem Sq.val {A0:A} {k:Nat} {rows:List (List T)} (h:Sq σ A0 k rows) {I:Ip} {w0:Base} {w:World} {a:Act} (hr:RelI I w0 σ a w) {v:Value} (hv:VA I w A0 v):∃ F,C false w (.sl k rows) v F:=by
 cases h with
 | t=>obtain⟨G,h1,_⟩:=hv;exact⟨G,h1⟩
 | rf h=>have:=hr.res _ _ h;have hv':v=I.hd _:=hv.1;subst hv';exact⟨_,C.read this⟩
 | vw=>obtain⟨G,h1,_⟩:=hv;exact⟨G,h1⟩
 | nil=>
  obtain⟨G,h1,_⟩:=hv
  simp only [C] at h1
  obtain⟨rfl,_⟩:=h1
  exact⟨[],by unfold C;exact⟨none,0,0,rfl,rfl,Nat.le_refl _,Nat.zero_le _,.inl ⟨rfl,rfl,by simp⟩⟩⟩
theorem R_len {x:Operand} {t:TypeId} {A0:A} {k:Nat} {rows:List (List T)} (ho:o.op=.call { callee:=.builtin .len,args:=#[x],argTypes:=#[t] }) (hg:Grd ops o σ q) (hd:o.dst.all (fun d=>Nat.blt d σ.n)=true)
 (hx:Get σ q x A0) (hs:Sq σ A0 k rows) {e:TypeId} (hu:P.underlying t=some (.slice e)):Op1 P ops o σ (σ.put o.dst (q,.a (.one (.t (.v (.int .i64 rows.length)))))):=
 .val hg hd fun I w0 a w hr hq=>by
  obtain⟨F,hC⟩:=hs.val hr (hx.va hr hq)
  simp only [C] at hC
  obtain⟨b,len,cap,h1,h2,h3,h4,h5⟩:=hC
  refine⟨_,?_,VS_v _⟩
  rw [h2]
  simp [execOp,ho,resolve,invoke,builtin,h1,Builtin.len_,goInt,run_underlying hu]
theorem R_len_s {x:Operand} {t:TypeId} {s:ByteArray} (ho:o.op=.call { callee:=.builtin .len,args:=#[x],argTypes:=#[t] }) (hg:Grd ops o σ q) (hd:o.dst.all (fun d=>Nat.blt d σ.n)=true)
 (hx:Get σ q x (.one (.t (.v (.string s))))) (hu:P.underlying t=some .string):Op1 P ops o σ (σ.put o.dst (q,.a (.one (.t (.v (.int .i64 s.size)))))):=
 .val hg hd fun I w0 a w hr hq=>⟨_,by simp [execOp,ho,resolve,invoke,builtin,hx.int hr hq,Builtin.len_,goInt,run_underlying hu],VS_v _⟩
theorem C_ad {w:World} {b off:Nat} {row:List T} {G:List Nat} (h:Ms false w b off row G) (hb:b<w.heap.size):C false w (.ad row) (.pointer (some ⟨b,off,none⟩)) (b::G):=by
 simp only [C];exact⟨b,off,G,rfl,rfl,hb,h⟩
theorem run_indexAt {t e:TypeId} {k:Nat} {ag:Bool} {w:World} {v:Value} {F:List Nat} {o:Bool} {rows:List (List T)} {n:Int} {row:List T} (hu:P.underlying t=some (.slice e)) (hk:tyB P e ag k=true) (hC:C o w (.sl k rows) v F) (h0:0≤n) (hi:rows[n.toNat]?=some row) :
 ∃ b off len cap,v=.slice (some ⟨b,off,none⟩) len cap∧(Instr.indexAt t v (.int .i64 n)).run P w=.ok (.pointer (some ⟨b,off+n.toNat*k,none⟩)) w∧b<w.heap.size∧b∈F∧(o=true→off=0)∧(o=true→∃ cur e,w.heap[b]?=some (.cells cur e (0,0))∧cur.size=cap*k∧len≤cap)∧
  ∃ G,Ms o w b (off+n.toNat*k) row G∧row.length=k∧∀ x∈G,x∈F:=by
 simp only [C] at hC
 obtain⟨b,len,cap,h1,h2,h3,h4,h5⟩:=hC
 have hlt:n.toNat<rows.length:=(List.getElem?_eq_some_iff.1 hi).1
 rcases h5 with ⟨h6,_⟩|⟨b,off,G,rfl,rfl,h8,h9,h10⟩
 · omega
 obtain⟨G',g1,g2,g3⟩:=h10.get hi
 refine⟨b,off,len,cap,h1,?_,h8,by simp,fun ho=>(h9 ho).1,fun ho=>?_,G',g1,g2,fun x hx=>by simp [g3 x hx]⟩
 · have hn:n<(len:Int):=by omega
   subst h1
   simp [Instr.indexAt,asIntOf,run_underlying hu,h0,hn,tyB_size hk,Addr.add_lit]
 obtain⟨_,cur,e',h11,h12⟩:=h9 ho
 exact⟨cur,e',h11,h12,h3⟩
theorem An {t e:TypeId} {x y:Operand} {n:Int} {k:Nat} {ag:Bool} {rows:List (List T)} {row:List T} (ho:o.op=.indexAddr t x y) (hg:Grd ops o σ q) (hd:o.dst.all (fun d=>Nat.blt d σ.n)=true) (hx:Get σ q x (.one (.t (.sl k rows))))
 (hy:Get σ q y (.one (.t (.v (.int .i64 n))))) (hu:P.underlying t=some (.slice e)) (hk:tyB P e ag k=true) (hi:q=true→0≤n∧rows[n.toNat]?=some row):Op1 P ops o σ (σ.put o.dst (q,.a (.one (.t (.ad row))))):=
 .val hg hd fun I w0 a w hr hq=>by
  obtain⟨F,hC,hF⟩:VA I w (.one (.t (.sl k rows))) (a.eval x):=hx.va hr hq
  obtain⟨b,off,len,cap,h1,h2,h3,h4,-,-,G,h5,h6,h7⟩:=run_indexAt hu hk hC (hi hq).1 (hi hq).2
  refine⟨_,by simp [execOp,ho,hy.int hr hq,h2],b::G,C_ad h5 h3,fun c hc=>?_⟩
  rcases List.mem_cons.1 hc with rfl|hc
  · exact hF _ h4
  exact hF _ (h7 c hc)
theorem Ay {id:Nat} {t e:TypeId} {x y:Operand} {n:Int} {k:Nat} {ag:Bool} {rows:List (List T)} {row:List T} (ho:o.op=.indexAddr t x y) (hg:Grd ops o σ q) (hd:o.dst.all (fun d=>Nat.blt d σ.n)=true) (hx:Get σ q x (.one (.rf id)))
 (hs:look σ.res id=some (.row k rows)) (hy:Get σ q y (.one (.t (.v (.int .i64 n))))) (hu:P.underlying t=some (.slice e)) (hk:tyB P e ag k=true) (hi:q=true→0≤n∧rows[n.toNat]?=some row):Op1 P ops o σ (σ.put o.dst (q,.a (.one (.pr id k n.toNat 0)))):=
 .val hg hd fun I w0 a w hr hq=>by
  have hv:a.eval x=I.hd id:=(show VE I w (.rf id) (a.eval x) from hx.va hr hq).1
  have hC:C true w (.sl k rows) _ _:=hr.res _ _ hs
  obtain⟨b,off,len,cap,h1,h2,h3,h4,h5,-,G,h6,h7,h8⟩:=run_indexAt hu hk hC (hi hq).1 (hi hq).2
  have h9:=h5 rfl
  subst h9
  exact⟨.pointer (some ⟨b,0+n.toNat*k,none⟩),by simp [execOp,ho,hy.int hr hq,hv,h2],b,len,cap,h1,by simp⟩
def fldB (P:Program) (t:TypeId) (j off:Nat):Bool:=match P.underlying t with
 | some (.struct fs)=>match fs[j]? with
  | some f=>Nat.beq f.offset off&&(match P.info? f.type with|some i=>!(Nat.beq i.size 0)|none=>false)
  | none=>false
 | _=>false
theorem run_fieldAt {t:TypeId} {j off:Nat} (h:fldB P t j off=true) (w:World) (b p:Nat):(Instr.fieldAt t (.pointer (some ⟨b,p,none⟩)) j).run P w=.ok (.pointer (some ⟨b,p+off,none⟩)) w:=by
 unfold fldB at h
 split at h
 · rename_i fs hu
   split at h
   · rename_i f hf
     simp only [Bool.and_eq_true] at h
     obtain⟨h1,h2⟩:=h
     have h1:=Nat.eq_of_beq_eq_true h1
     split at h2
     · rename_i i hi
       have h3:¬ i.size=0:=by intro e;simp [e,Nat.beq] at h2
       simp [Instr.fieldAt,run_underlying hu,hf,Instr.sureAddr,fieldPlace,sizeOf,typeInfo,hi,h3,Addr.add_lit,h1]
     cases h2
   cases h
 cases h
theorem B9 {t:TypeId} {x:Operand} {j off:Nat} {cs:List T} (ho:o.op=.fieldAddr t x j) (hg:Grd ops o σ q) (hd:o.dst.all (fun d=>Nat.blt d σ.n)=true) (hx:Get σ q x (.one (.t (.ad cs)))) (hf:fldB P t j off=true):Op1 P ops o σ (σ.put o.dst (q,.a (.one (.t (.ad (cs.drop off)))))):=
 .val hg hd fun I w0 a w hr hq=>by
  obtain⟨F,hC,hF⟩:VA I w (.one (.t (.ad cs))) (a.eval x):=hx.va hr hq
  simp only [C] at hC
  obtain⟨b,p,G,h1,rfl,h2,h3⟩:=hC
  obtain⟨G',h4,h5⟩:=h3.drop off
  refine⟨_,by simp [execOp,ho,h1,run_fieldAt hf],b::G',C_ad h4 h2,fun c hc=>hF c ?_⟩
  rcases List.mem_cons.1 hc with rfl|hc
  · simp
  simp [h5 c hc]
theorem Bj {id p:Nat} {t:TypeId} {x:Operand} {j off:Nat} (ho:o.op=.fieldAddr t x j) (hg:Grd ops o σ q) (hd:o.dst.all (fun d=>Nat.blt d σ.n)=true) (hx:Get σ q x (.one (.pp id p))) (hf:fldB P t j off=true):Op1 P ops o σ (σ.put o.dst (q,.a (.one (.pp id (p+off))))):=
 .val hg hd fun I w0 a w hr hq=>by
  have hv:a.eval x=_:=hx.va hr hq
  exact⟨.pointer (some ⟨I.B id,p+off,none⟩),by simp [execOp,ho,hv,run_fieldAt hf],rfl⟩
theorem Bh {id k i p:Nat} {t:TypeId} {x:Operand} {j off:Nat} (ho:o.op=.fieldAddr t x j) (hg:Grd ops o σ q) (hd:o.dst.all (fun d=>Nat.blt d σ.n)=true) (hx:Get σ q x (.one (.pr id k i p))) (hf:fldB P t j off=true):Op1 P ops o σ (σ.put o.dst (q,.a (.one (.pr id k i (p+off))))):=
 .val hg hd fun I w0 a w hr hq=>by
  obtain⟨g,n,m,h1,hv⟩:VE I w (.pr id k i p) (a.eval x):=hx.va hr hq
  exact⟨.pointer (some ⟨g,i*k+p+off,none⟩),by simp [execOp,ho,hv,run_fieldAt hf],g,n,m,h1,by simp [Nat.add_assoc]⟩
def mkA (ag:Bool) (l:List E):A:=bif ag then .agg l else match l with|e::_=>.one e|[]=>.one .no
theorem run_load {t:TypeId} {ag:Bool} {n b p:Nat} {w:World} (ht:tyB P t ag n=true) {cs:List Value} (hl:cs.length=n) (h1:ag=false→n=1) (hc:∀ (j:Nat) (u:Value),cs[j]?=some u→w.cell? ⟨b,p+j,none⟩=some u) :
 (Instr.loadAt t (.pointer (some ⟨b,p,none⟩))).run P w=.ok (if ag=true then .agg cs.toArray else cs.headD undef) w:=by
 cases ag with
 | true=>
  have:=run_loadCells_list (P:=P) w ⟨b,p,none⟩ cs (fun j v hj=>by rw [Addr.add_lit];exact hc j v hj)
  rw [hl] at this
  simp [Instr.loadAt,Instr.sureAddr,loadVar,tyB_agg ht,tyB_size ht,this]
 | false=>
  have:=h1 rfl
  subst this
  match cs,hl with
  | [c],_=>
   have:=hc 0 c rfl
   simp only [Nat.add_zero] at this
   simp [Instr.loadAt,Instr.sureAddr,loadVar,tyB_agg ht,this]
theorem VA_mk {I:Ip} {w:World} {ag:Bool} {l:List E} {cs:List Value} (h:VEs I w l cs) (h1:ag=false→l.length=1):VA I w (mkA ag l) (if ag=true then .agg cs.toArray else cs.headD undef):=by
 cases ag with
 | true=>exact⟨cs,rfl,h⟩
 | false=>
  match l,h1 rfl,h with
  | [e],_,h=>
   obtain⟨c,cr,h1,h2,h3⟩:=h
   subst h1;exact h2
theorem Cs_t {I:Ip} {w:World}:∀ {l:List T} {cs:List Value} {F:List Nat},Cs false w l cs F→(∀ b∈F,I.Z b)→VEs I w (l.map .t) cs
 | [],cs,F,h,_=>by simp only [Cs] at h;exact h.1
 | t::r,cs,F,h,hF=>by
  simp only [Cs] at h
  obtain⟨c,cr,G1,G2,h1,h2,h3,rfl⟩:=h
  exact⟨c,cr,h1,⟨G1,h2,fun b hb=>hF b (by simp [hb])⟩,Cs_t h3 fun b hb=>hF b (by simp [hb])⟩
def toE (id:Nat):T→E
 | .v x=>.t (.v x)
 | t=>.vw id t
theorem VE_toE {I:Ip} {w:World} {id:Nat} {t:T} {c:Value} {G:List Nat} (h:C false w t c G) (hG:∀ b∈G,b∈I.F id):VE I w (toE id t) c:=by
 cases t with
 | v x=>
  simp only [C] at h
  obtain⟨rfl,_,h⟩:=h
  exact⟨[],by simp [C,h],by simp⟩
 | sl k rows=>exact⟨G,h,hG⟩
 | ad cs=>exact⟨G,h,hG⟩
 | fn f x y=>exact⟨G,h,hG⟩
theorem Cs_vw {I:Ip} {w:World} {id:Nat}:∀ {l:List T} {cs:List Value} {F:List Nat},Cs false w l cs F→(∀ b∈F,b∈I.F id)→VEs I w (l.map (toE id)) cs
 | [],cs,F,h,_=>by simp only [Cs] at h;exact h.1
 | t::r,cs,F,h,hF=>by
  simp only [Cs] at h
  obtain⟨c,cr,G1,G2,h1,h2,h3,rfl⟩:=h
  exact⟨c,cr,h1,VE_toE h2 fun b hb=>hF b (by simp [hb]),Cs_vw h3 fun b hb=>hF b (by simp [hb])⟩
theorem Ca {t:TypeId} {x:Operand} {cs:List T} {ag:Bool} {n:Nat} (ho:o.op=.load t x) (hg:Grd ops o σ q) (hd:o.dst.all (fun d=>Nat.blt d σ.n)=true) (hx:Get σ q x (.one (.t (.ad cs)))) (ht:tyB P t ag n=true) (hn:Nat.ble n cs.length=true) (h1:(ag||Nat.beq n 1)=true) :
 Op1 P ops o σ (σ.put o.dst (q,.a (mkA ag ((cs.take n).map .t)))):=
 .val hg hd fun I w0 a w hr hq=>by
  obtain⟨F,hC,hF⟩:VA I w (.one (.t (.ad cs))) (a.eval x):=hx.va hr hq
  simp only [C] at hC
  obtain⟨b,p,G,h2,rfl,h3,h4⟩:=hC
  obtain⟨G',h5,h6⟩:=h4.take n
  obtain⟨vs,h7,h8,h9⟩:=h5.cells
  have hn':=Nat.le_of_ble_eq_true hn
  have h1':ag=false→n=1:=fun e=>by rw [e] at h1;exact Nat.eq_of_beq_eq_true (by simpa using h1)
  refine⟨_,by simp [execOp,ho,h2,run_load ht (cs:=vs) (by rw [h8,List.length_take];omega) h1' h9],VA_mk (Cs_t h7 fun b hb=>hF b (by simp [h6 b hb])) fun e=>by rw [List.length_map,List.length_take];have:=h1' e;omega⟩
end
end Go.Q
