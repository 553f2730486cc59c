import Derived.Test.YtdhojcaoljhbiaaGreatDraw3xs
import Derived.Test.YtdhojcaoljhbiaaGreatBExs
import Derived.Test.YtdhojcaoljhbiaaGreatB146xs
import Derived.Test.YtdhojcaoljhbiaaGreatB98xs
import Derived.Test.YtdhojcaoljhbiaaGreatAbsIxs
set_option linter.unusedVariables false
set_option linter.unusedSimpArgs false
set_option maxRecDepth 100000
namespace Go.Q
open Go.RowKit
section
variable {P:Program} {ops:Array Oper} {o:Oper} {σ:St} {q:Bool}
theorem R_orI {t t':TypeId} {x y:Operand} {n m:Int} (ho:o.op=.binOp .or t x y t') (hg:Grd ops o σ q) (hd:o.dst.all (fun d=>Nat.blt d σ.n)=true) (hx:Get σ q x (.one (.t (.v (.int .i64 n))))) (hy:Get σ q y (.one (.t (.v (.int .i64 m))))) :
 Op1 P ops o σ (σ.put o.dst (q,.a (.one (.t (.v (.int .i64 (bits .or .i64 n m))))))):=
 Dm ho hg hd hx hy guard_int (h:=fun _ w=>rfl)
theorem R_andI {t t':TypeId} {x y:Operand} {n m:Int} (ho:o.op=.binOp .and t x y t') (hg:Grd ops o σ q) (hd:o.dst.all (fun d=>Nat.blt d σ.n)=true) (hx:Get σ q x (.one (.t (.v (.int .i64 n))))) (hy:Get σ q y (.one (.t (.v (.int .i64 m))))) :
 Op1 P ops o σ (σ.put o.dst (q,.a (.one (.t (.v (.int .i64 (bits .and .i64 n m))))))):=
 Dm ho hg hd hx hy guard_int (h:=fun _ w=>rfl)
theorem R_shrI {t t':TypeId} {x y:Operand} {k:IntKind} {n m:Int} (ho:o.op=.binOp .shr t x y t') (hg:Grd ops o σ q) (hd:o.dst.all (fun d=>Nat.blt d σ.n)=true) (hx:Get σ q x (.one (.t (.v (.int .i64 n))))) (hy:Get σ q y (.one (.t (.v (.int k m)))))
 (hb:q=true→0≤m):Op1 P ops o σ (σ.put o.dst (q,.a (.one (.t (.v (.int .i64 (n.fdiv (2^(min m.toNat 64))))))))):=
 Dm ho hg hd hx hy guard_int (h:=fun hq w=>by
  have h2:=hb hq
  simp only [binOp,Op.shift]
  rw [if_neg (by omega)]
  rfl)
theorem RelI.drop {I:Ip} {w0:Base} {w:World} {a:Act} (h:RelI I w0 σ a w) {rs':List (Nat×R)} (hs:∀ i r,look rs' i=some r→look σ.res i=some r):RelI I w0 ⟨σ.n,σ.slots,rs'⟩ a w:=
 ⟨h.ext,h.defers,h.size,h.slots,fun i r hi=>h.res i r (hs i r hi),h.old,h.lt,fun i r hi=>h.own i r (hs i r hi),h.apart⟩
theorem RelI.setF {I:Ip} {w0:Base} {w:World} {a:Act} (h:RelI I w0 σ a w) {u:Nat} (hn:nvB u σ.slots σ.res=true) (hu:∀ r,look σ.res u≠some r) {G:List Nat} (hG:∀ b∈G,b<w.heap.size∧¬ I.Z b∧∀ i,i≠u→b∉I.F i):RelI (I.set u G (I.hd u) (I.B u)) w0 σ a w:=by
 simp only [nvB,Bool.and_eq_true,List.all_eq_true] at hn
 have hZ:∀ b,I.Z b→b∉I.F u:=fun b hz hb=>(h.lt u b hb).2 hz
 have hv:∀ i,i≠u→∀ b∈I.F i,b∉I.F u:=fun i hi=>h.apart i u hi
 have hmem:∀ {α:Type} {l:List (Nat×α)} {i:Nat} {x:α},look l i=some x→(i,x)∈l:=by
  intro α l
  induction l with
  | nil=>intro i x hx;cases hx
  | cons y l ih=>
   intro i x hx
   obtain⟨j,y⟩:=y
   rw [look_cons] at hx
   split at hx
   · rename_i e;subst e;cases hx;simp
   exact List.mem_cons_of_mem _ (ih hx)
 refine⟨h.ext,h.defers,h.size,fun i x hi=>?_,fun i r hi=>?_,h.old,fun i b hb=>?_,fun i r hi=>?_,fun i j hne b hb hb'=>?_⟩
 · have:=(h.slots i x hi).puv (G:=G) (Chg.refl w (I.F u)) hZ hv
   rw [S.puv_nv (hn.1 _ (hmem hi))] at this
   exact this
 · have hi':i≠u:=fun e=>hu r (e▸hi)
   have hnr:=hn.2 _ (hmem hi)
   have:=h.res i r hi
   cases r with
   | row k rows=>
    have this:C true w (.sl k rows) (I.hd i) (I.F i):=this
    show C true w (.sl k rows) _ _
    simpa only [Ip.set,if_neg hi'] using this
   | box cs=>
    obtain⟨h1,vs,t,h2,h3⟩:=this
    have h3:=h3.puv (G:=G) (Chg.refl w (I.F u)) hZ hv
    rw [map_same fun e he=>E.puv_nv (List.all_eq_true.1 hnr e he)] at h3
    exact⟨by simpa only [Ip.set,if_neg hi'] using h1,vs,t,by simpa only [Ip.set,if_neg hi'] using h2,h3⟩
   | hdr j x=>
    refine⟨by simpa only [Ip.set,if_neg hi'] using this.1,fun k hk=>?_⟩
    have:=this.2 k hk
    simp only [Ip.set]
    split
    · rename_i e;rw [←e];exact this
    exact this
   | blk j x=>
    refine⟨by simpa only [Ip.set,if_neg hi'] using this.1,fun k hk=>?_⟩
    have:=this.2 k hk
    simp only [Ip.set]
    split
    · rename_i e;rw [←e];exact this
    exact this
   | kept K=>exact⟨by simpa only [Ip.set,if_neg hi'] using this.1,this.2⟩
   | opq=>trivial
   | cur g=>exact⟨by simpa only [Ip.set,if_neg hi'] using this.1,by simpa only [Ip.set,if_neg hi'] using this.2.1,this.2.2⟩
   | mp b f=>exact⟨by simpa only [Ip.set,if_neg hi'] using this.1,this.2⟩
 · simp only [Ip.set] at hb ⊢
   split at hb
   · exact⟨(hG b hb).1,(hG b hb).2.1⟩
   exact h.lt i b hb
 · have hi':i≠u:=fun e=>hu r (e▸hi)
   simp only [Ip.set,if_neg hi']
   exact h.own i r hi
 simp only [Ip.set] at hb hb'
 split at hb
 · rename_i e
   rw [if_neg (fun e'=>hne (e.trans e'.symm))] at hb'
   exact (hG b hb).2.2 j (fun e'=>hne (e.trans e'.symm)) hb'
 split at hb'
 · rename_i e
   exact (hG b hb').2.2 i (fun e'=>hne (e'.trans e.symm)) hb
 exact h.apart i j hne b hb hb'
theorem RelI.keepR {I:Ip} {w0:Base} {w:World} {a:Act} (h:RelI I w0 σ a w) {u:Nat} {r:R} (hr:RR I w u r) (ho:(I.F u).Nodup∧∀ b∈I.F u,w0.own b∧Thaw w b):RelI I w0 (σ.add u r) a w:=by
 have key:∀ i r',look (σ.add u r).res i=some r'→(i=u∧r'=r)∨look σ.res i=some r':=fun i r' hi=>by
  rw [St.add,look_cons] at hi
  split at hi
  · rename_i e;cases hi;exact .inl ⟨e.symm,rfl⟩
  exact .inr hi
 exact⟨h.ext,h.defers,h.size,h.slots,fun i r' hi=>(key i r' hi).elim (fun e=>by rw [e.1,e.2];exact hr) (h.res i r'),h.old,h.lt,fun i r' hi=>(key i r' hi).elim (fun e=>by rw [e.1];exact ho) (h.own i r'),h.apart⟩
theorem has_addR' {σ:St} {id m:Nat} {r:R} (h:σ.has m=false) (hm:id≠m) (hr:r.has m=false):(σ.add id r).has m=false:=by
 unfold St.has St.add at *
 simp only [Bool.or_eq_false_iff,List.any_cons] at h ⊢
 exact⟨h.1,⟨beq_false hm,hr⟩,h.2⟩
structure Pos where
 L:List Int
 F:List Int
 x:Int
 y:Int
 z:Bool
def rowI (l:List Int):R:=.row 1 (l.map fun n=>[.v (.int .i64 n)])
def treeI (l:List Int):T:=.sl 1 (l.map fun n=>[.v (.int .i64 n)])
def boxP (i1 i2:Nat) (p:Pos):R:=.box [.rf i1,.t (.v (.int .i64 p.x)),.t (.v (.int .i64 p.y)),.rf i2,.t (.v (.bool p.z))]
def PosB (w:World) (b:Nat) (p:Pos) (G:List Nat):Prop:=∃ h1 h2 e G1 G2,w.heap[b]?=some (.cells #[h1,.int .i64 p.x,.int .i64 p.y,h2,.bool p.z] e (0,0))∧C true w (treeI p.L) h1 G1∧C true w (treeI p.F) h2 G2∧G=b::(G1++G2)
def PosOk (w:World) (b:Nat) (p:Pos) (G:List Nat):Prop:=PosB w b p G∧G.Nodup∧∀ c∈G,Thaw w c
theorem PosB.lt {w:World} {b:Nat} {p:Pos} {G:List Nat} (h:PosB w b p G):∀ c∈G,c<w.heap.size:=by
 obtain⟨h1,h2,e,G1,G2,hB,c1,c2,rfl⟩:=h
 intro c hc
 rcases List.mem_cons.1 hc with rfl|hc
 · exact (Array.getElem?_eq_some_iff.1 hB).1
 rcases List.mem_append.1 hc with hc|hc
 · exact C.lt c1 c hc
 exact C.lt c2 c hc
def PPost {τ:Type} (w:World) (b:Nat) (G:List Nat) (post:Pos→τ→Prop) (out:τ→List Value) (e:Ending) (w':World):Prop:=
 ∃ p' t G',e=.returned (match out t with|[]=>.tuple #[]|l=>.agg l.toArray)∧post p' t∧PosOk w' b p' G'∧(∀ c∈G',c∈G∨w.heap.size≤c)∧Chg w w' G
def FnP {τ:Type} (P:Program) (f:FuncId) (ins:List V0) (pre:Pos→Prop) (post:Pos→Pos→τ→Prop) (out:τ→List Value):Prop:=
 Callee P f∧∀ w b p G vs A,pre p→Good w G→PosOk w b p G→V0s false w ins vs A→(∀ c∈A,c∉G)→Calls P f (List.toArray (.pointer (some ⟨b,0,none⟩)::vs)) w (PPost w b G (post p) out)
theorem V0s.cp {w:World} {FF:List Nat}:∀ {ins:List V0} {vs:List Value} {F:List Nat},V0s false w ins vs F→(∀ b∈F,b∉FF)→V0c w FF (ins.map fun x=>(false,x)) vs []
 | [],vs,F,⟨h,_⟩,_=>⟨h,rfl⟩
 | x::r,vs,F,⟨v,vr,G1,G2,h1,h2,h3,h4⟩,hF=>by
  subst h4
  exact⟨v,vr,G1,[],h1,h2,h3.cp fun b hb=>hF b (by simp [hb]),by simpa using fun b hb=>hF b (by simp [hb])⟩
def PRes {τ:Type} (P:Program) (fn:Func) (b:Nat) (post:Pos→τ→Prop) (out:τ→List Value) (σ:St):Prop:=
 ∃ p' t rs xs,post p' t∧look σ.res 700=some (boxP 701 702 p')∧look σ.res 701=some (rowI p'.L)∧look σ.res 702=some (rowI p'.F)∧look σ.res 703=some (.blk (some 700) b)∧fn.results=List.toArray rs∧RVs P σ rs xs∧((xs=[]∧out t=[])∨(out t≠[]∧xs=[.agg ((out t).map fun v=>.t (.v v))]))
def RetP {τ:Type} (P:Program) (fn:Func) (b:Nat) (post:Pos→τ→Prop) (out:τ→List Value):Exit→St→Prop
 | .normal,σ=>PRes P fn b post out σ
 | .ret,σ=>PRes P fn b post out σ
 | _,_=>False
theorem VEs_plain {I:Ip} {w:World}:∀ {l cs:List Value},VEs I w (l.map (fun v=>E.t (.v v))) cs→cs=l
 | [],cs,h=>h
 | x::l,cs,⟨c,cr,e,⟨_,g,_⟩,h⟩=>by
  simp only [C] at g
  rw [e,g.1,VEs_plain h]
theorem FnP.walk {τ:Type} {n:Nat} {f:FuncId} {fn:Func} {c:Code} {ins:List V0} {pre:Pos→Prop} {post:Pos→Pos→τ→Prop} {out:τ→List Value} {σ':Nat→Pos→St} (hf:P.funcs[f]?=some fn) (hb:fn.body=some c) (hname:(fn.name == "runtime.NumGoroutine")=false) (hnt:fn.ntmps=n) (hn:Nat.ble (ins.length+1) n=true)
 (hi:∀ b p,initC 1 (ins.map fun x=>(false,x)) ⟨n,[(0,(true,.a (.one (.pp 700 0))))],[(700,boxP 701 702 p),(701,rowI p.L),(702,rowI p.F),(703,.blk (some 700) b)]⟩=some (σ' b p)) (h:∀ w0 b p,pre p→AW P w0 c (RetP P fn b (post p) out) (σ' b p)):FnP P f ins pre post out:=by
 subst hnt
 refine⟨⟨fn,hf,hname,by rw [hb];rfl⟩,fun w b p G vs A hp hG hok hv hap=>?_⟩
 have hv':=hv.cp (FF:=G) hap
 have hl:vs.length=ins.length:=by simpa using hv'.len
 have hn':ins.length+1≤fn.ntmps:=Nat.le_of_ble_eq_true hn
 obtain⟨hB,hnd,hth⟩:=hok
 have hlt:=hB.lt
 obtain⟨h1,h2,e,G1,G2,hcell,c1,c2,rfl⟩:=hB
 obtain⟨nb,n12⟩:=List.nodup_cons.1 hnd
 obtain⟨n1,n2,n3⟩:=List.nodup_append.1 n12
 let a0:Act:=⟨(List.toArray (.pointer (some ⟨b,0,none⟩)::vs))++Array.replicate (fn.ntmps-(List.toArray (Value.pointer (some ⟨b,0,none⟩)::vs)).size) undef,[]⟩
 let I0:Ip:=⟨fun c=>c<w.heap.size∧c∉b::(G1++G2),fun i=>if i=700 then [b] else if i=701 then G1 else if i=702 then G2 else [],fun i=>if i=701 then h1 else if i=702 then h2 else undef,fun i=>if i=700 then b else 0⟩
 have hget:∀ (j:Nat) v,(Value.pointer (some ⟨b,0,none⟩)::vs)[j]?=some v→a0.tmps.getD j undef=v:=fun j v hj=>by
  have hjl:=(List.getElem?_eq_some_iff.1 hj).1
  simp only [a0]
  rw [Array.getD_eq_getD_getElem?,Array.getElem?_append_left (by simpa using hjl)]
  have:(List.toArray (Value.pointer (some ⟨b,0,none⟩)::vs))[j]?=some v:=by simpa using hj
  rw [this];rfl
 have hF0:∀ i,∀ x∈I0.F i,x∈b::(G1++G2):=fun i x hx=>by
  simp only [I0] at hx
  split at hx
  · simp only [List.mem_singleton] at hx;subst hx;simp
  split at hx
  · simp [hx]
  split at hx
  · simp [hx]
  cases hx
 have hdr:∀ {k1:Value} {l:List Int} {g:List Nat},C true w (treeI l) k1 g→∃ a' l' k',k1=.slice a' l' k':=fun h=>by
  unfold treeI at h
  simp only [C] at h
  obtain⟨a',l',k',e,_⟩:=h
  exact⟨a',l',k',e⟩
 have hr0:RelI I0 ⟨w,b::(G1++G2),hG⟩ ⟨fn.ntmps,[(0,(true,.a (.one (.pp 700 0))))],[(700,boxP 701 702 p),(701,rowI p.L),(702,rowI p.F),(703,.blk (some 700) b)]⟩ a0 w:=by
  have key:∀ i r,look [(700,boxP 701 702 p),(701,rowI p.L),(702,rowI p.F),(703,R.blk (some 700) b)] i=some r→(i=700∧r=boxP 701 702 p)∨(i=701∧r=rowI p.L)∨(i=702∧r=rowI p.F)∨(i=703∧r=.blk (some 700) b):=fun i r hi=>by
   rw [look_cons] at hi
   split at hi
   · rename_i e;cases hi;exact .inl ⟨e.symm,rfl⟩
   rw [look_cons] at hi
   split at hi
   · rename_i e;cases hi;exact .inr (.inl ⟨e.symm,rfl⟩)
   rw [look_cons] at hi
   split at hi
   · rename_i e;cases hi;exact .inr (.inr (.inl ⟨e.symm,rfl⟩))
   rw [look_cons] at hi
   split at hi
   · rename_i e;cases hi;exact .inr (.inr (.inr ⟨e.symm,rfl⟩))
   cases hi
  refine⟨Chg.refl w _,rfl,by simp [a0,hl];omega,fun i z hi=>?_,fun id r hi=>?_,fun x hx=>hx.1,fun id x hx=>⟨hlt x (hF0 id x hx),fun hz=>hz.2 (hF0 id x hx)⟩,fun id r hi=>?_,fun i j hne x hx hx'=>?_⟩
  · rw [look_cons] at hi
    split at hi
    · rename_i e;subst e;cases hi
      exact hget 0 _ rfl
    cases hi
  · rcases key id r hi with ⟨rfl,rfl⟩|⟨rfl,rfl⟩|⟨rfl,rfl⟩|⟨rfl,rfl⟩
    · exact⟨rfl,_,e,hcell,_,_,rfl,⟨rfl,hdr c1⟩,_,_,rfl,⟨[],by simp only [C];exact⟨trivial,trivial,rfl⟩,by simp⟩,_,_,rfl,⟨[],by simp only [C];exact⟨trivial,trivial,rfl⟩,by simp⟩,_,_,rfl,⟨rfl,hdr c2⟩,_,_,rfl,⟨[],by simp only [C];exact⟨trivial,trivial,rfl⟩,by simp⟩,rfl⟩
    · exact c1
    · exact c2
    exact⟨rfl,fun i hi=>by cases hi;rfl⟩
  · have hall:∀ x∈I0.F id,Base.own ⟨w,b::(G1++G2),hG⟩ x∧Thaw w x:=fun x hx=>⟨.inr (hF0 id x hx),hth x (hF0 id x hx)⟩
    refine⟨?_,hall⟩
    rcases key id r hi with ⟨rfl,rfl⟩|⟨rfl,rfl⟩|⟨rfl,rfl⟩|⟨rfl,rfl⟩
    · simp [I0]
    · exact n1
    · exact n2
    simp [I0]
  simp only [I0] at hx hx'
  have nb1:b∉G1:=fun h=>nb (List.mem_append_left _ h)
  have nb2:b∉G2:=fun h=>nb (List.mem_append_right _ h)
  split at hx
  · simp only [List.mem_singleton] at hx;subst hx
    split at hx'
    · omega
    split at hx'
    · exact nb1 hx'
    split at hx'
    · exact nb2 hx'
    cases hx'
  split at hx
  · split at hx'
    · simp only [List.mem_singleton] at hx';subst hx';exact nb1 hx
    split at hx'
    · omega
    split at hx'
    · exact n3 x hx x hx' rfl
    cases hx'
  split at hx
  · split at hx'
    · simp only [List.mem_singleton] at hx';subst hx';exact nb2 hx
    split at hx'
    · exact n3 x hx' x hx rfl
    split at hx'
    · omega
    cases hx'
  cases hx
 obtain⟨I1,r1⟩:=initC_ok (FF:=b::(G1++G2)) (fun _ _ _=>trivial) (hi b p) hr0 (fun x h1 h2=>⟨h1,h2⟩) hv' (by simp) (fun x hx=>by cases hx) fun j v hj=>hget (1+j) v (by rw [Nat.add_comm];simpa using hj)
 refine calls_of_wp hf hb (Code.wp_mono ?_ (h ⟨w,b::(G1++G2),hG⟩ b p hp _ _ ⟨I1,r1⟩))
 rintro e a' w' ⟨σ1,hR,I,hI⟩
 have key:PRes P fn b (post p) out σ1→a'.defers=[]∧∃ v,(results fn a'.tmps).run P w'=.ok v w'∧PPost w b (b::(G1++G2)) (post p) out (.returned v) w':=fun ⟨p',t,rs,xs,q1,q2,q3,q4,q5,q6,q7,q8⟩=>by
  obtain⟨vs',r1,r2⟩:=run_results (P:=P) (fn:=fn) (l:=rs) hI q6 q7
  obtain⟨m1,ws,t',m2,c,cr,e1,⟨g1,_⟩,c',cr',e2,⟨_,g2,_⟩,c'',cr'',e3,⟨_,g3,_⟩,c3,cr3,e4,⟨g4,_⟩,c4,cr4,e5,⟨_,g5,_⟩,e6⟩:I.F 700=[I.B 700]∧∃ vs e,w'.heap[I.B 700]?=some (.cells (List.toArray vs) e (0,0))∧VEs I w' _ vs:=hI.res _ _ q2
  have e6:cr4=[]:=e6
  simp only [C] at g2 g3 g5
  have hbb:I.B 700=b:=(hI.res _ _ q5).2 700 rfl
  have k1:C true w' (treeI p'.L) (I.hd 701) (I.F 701):=hI.res _ _ q3
  have k2:C true w' (treeI p'.F) (I.hd 702) (I.F 702):=hI.res _ _ q4
  have hcell':w'.heap[b]?=some (.cells #[I.hd 701,.int .i64 p'.x,.int .i64 p'.y,I.hd 702,.bool p'.z] t' (0,0)):=by
   rw [←hbb,m2,e1,e2,e3,e4,e5,e6,g1,g2.1,g3.1,g4,g5.1]
  have ap1:b∉I.F 701:=fun hm=>hI.apart 700 701 (by decide) b (by rw [m1,hbb];simp) hm
  have ap2:b∉I.F 702:=fun hm=>hI.apart 700 702 (by decide) b (by rw [m1,hbb];simp) hm
  have own:∀ c∈b::(I.F 701++I.F 702),(c∈b::(G1++G2)∨w.heap.size≤c)∧Thaw w' c:=fun c hc=>by
   rcases List.mem_cons.1 hc with rfl|hc
   · have:=(hI.own 700 _ q2).2 c (by rw [m1,hbb];simp)
     exact⟨this.1.symm,this.2⟩
   rcases List.mem_append.1 hc with hc|hc
   · exact⟨((hI.own 701 _ q3).2 c hc).1.symm,((hI.own 701 _ q3).2 c hc).2⟩
   exact⟨((hI.own 702 _ q4).2 c hc).1.symm,((hI.own 702 _ q4).2 c hc).2⟩
  refine⟨hI.defers,_,r1,p',t,b::(I.F 701++I.F 702),?_,q1,⟨⟨_,_,t',_,_,hcell',k1,k2,rfl⟩,?_,fun c hc=>(own c hc).2⟩,fun c hc=>(own c hc).1,hI.ext⟩
  · rcases q8 with ⟨rfl,h0⟩|⟨h0,rfl⟩
    · have r2:vs'=[]:=r2
      rw [r2,h0]
    obtain⟨v,vr,rfl,⟨cs,rfl,h3⟩,h4⟩:=r2
    have h4:vr=[]:=h4
    subst h4
    rw [VEs_plain h3]
    match out t,h0 with
    | _::_,_=>rfl
  refine List.nodup_cons.2 ⟨fun hm=>(List.mem_append.1 hm).elim ap1 ap2,List.nodup_append.2 ⟨(hI.own 701 _ q3).1,(hI.own 702 _ q4).1,fun x hx y hy e=>?_⟩⟩
  subst e;exact hI.apart 701 702 (by decide) x hx hy
 cases e with
 | normal=>exact key hR
 | ret=>exact key hR
 | exit id=>exact hR.elim
 | goto l=>exact hR.elim
 | panic c=>exact hR.elim
 | outgrown=>exact hR.elim
def readT:A→Option V0
 | .one (.t x)=>some (.one x)
 | .agg l=>match mapO (fun e=>match e with|E.t x=>some x|_=>none) l with|some ts=>some (.agg ts)|none=>none
 | _=>none
inductive ArgsT (σ:St):List Operand→List V0→Prop where
 | nil:ArgsT σ [] []
 | cons {x:Operand} {A0:A} {v:V0} {l:List Operand} {vs:List V0} (hx:Get σ true x A0) (hv:readT A0=some v) (h:ArgsT σ l vs):ArgsT σ (x::l) (v::vs)
theorem readT_ok {I:Ip} {w:World} {x:A} {t:V0} {v:Value} (h:readT x=some t) (hv:VA I w x v):∃ G,V0r false w t v G∧∀ c∈G,I.Z c:=by
 match x,h with
 | .one (.t x),h=>
  cases h
  obtain⟨G,h1,h2⟩:=hv
  exact⟨G,h1,h2⟩
 | .agg l,h=>
  rw [readT] at h
  split at h
  · rename_i ts h1
    cases h
    obtain⟨cs,rfl,h3⟩:=hv
    have key:∀ {l:List E} {ts:List T} {cs:List Value},mapO (fun e=>match e with|E.t x=>some x|_=>none) l=some ts→VEs I w l cs→∃ G,Cs false w ts cs G∧∀ c∈G,I.Z c:=by
     intro l
     induction l with
     | nil=>intro ts cs h hv;cases h;exact⟨[],by unfold Cs;exact⟨hv,rfl⟩,fun _ hb=>by cases hb⟩
     | cons e l ih=>
      rintro ts cs h ⟨c,cr,rfl,g1,g2⟩
      rw [mapO] at h
      cases e with
      | t x=>
       simp only at h
       split at h
       · rename_i ts' h'
         cases h
         obtain⟨G2,k1,k2⟩:=ih h' g2
         obtain⟨G1,k3,k4⟩:=g1
         exact⟨G1++G2,by unfold Cs;exact⟨c,cr,G1,G2,rfl,k3,k1,rfl⟩,fun c hc=>(List.mem_append.1 hc).elim (k4 c) (k2 c)⟩
       cases h
      | _=>simp at h
    obtain⟨G,k1,k2⟩:=key h1 h3
    exact⟨G,⟨cs,rfl,k1⟩,k2⟩
  cases h
 | .one (.rf _),h=>cases h
 | .one (.vw _ _),h=>cases h
 | .one (.pp _ _),h=>cases h
 | .one (.pr _ _ _ _),h=>cases h
 | .one (.sb _ _ _ _),h=>cases h
 | .one (.tl _ _ _),h=>cases h
 | .one (.pf _ _ _),h=>cases h
 | .one .no,h=>cases h
theorem ArgsT.ok {l:List Operand} {ins:List V0} (h:ArgsT σ l ins) {I:Ip} {w0:Base} {w:World} {a:Act} (hr:RelI I w0 σ a w):∃ F,V0s false w ins (l.map a.eval) F∧∀ c∈F,I.Z c:=by
 induction h with
 | nil=>exact⟨[],⟨rfl,rfl⟩,fun _ hb=>by cases hb⟩
 | cons hx hv h ih=>
  obtain⟨F,ih,k1⟩:=ih
  obtain⟨G,hg,k2⟩:=readT_ok hv (hx.va hr rfl)
  exact⟨G++F,⟨_,_,G,F,rfl,hg,ih,rfl⟩,fun c hc=>(List.mem_append.1 hc).elim (k2 c) (k1 c)⟩
def posR (u i1 i2:Nat) (rs:List (Nat×R)):List (Nat×R):=delR (delR (delR rs u) i1) i2
def posN (u i1 i2:Nat) (sl:List (Nat×(Bool×S))) (rs:List (Nat×R)):Bool:=nvB u sl rs&&nvB i1 sl rs&&nvB i2 sl rs&&!(St.has ⟨0,sl,rs⟩ i1)&&!(St.has ⟨0,sl,rs⟩ i2)
def outPs (l:List Value):S:=match l with|[]=>.tup []|l=>.a (.agg (l.map fun v=>.t (.v v)))
theorem R_callP {τ:Type} {f:FuncId} {x:Operand} {l:List Operand} {tys:Array TypeId} {ins:List V0} {pre:Pos→Prop} {post:Pos→Pos→τ→Prop} {out:τ→List Value} {u i1 i2:Nat} {p:Pos} (h:FnP P f ins pre post out) (ho:o.op=.call { callee:=.value (.func f),args:=(x::l).toArray,argTypes:=tys }) (hg:o.guard=none) (hd:o.dst.all (fun d=>Nat.blt d σ.n)=true)
 (hx:Get σ true x (.one (.pp u 0))) (hu:look σ.res u=some (boxP i1 i2 p)) (h1:look σ.res i1=some (rowI p.L)) (h2:look σ.res i2=some (rowI p.F)) (hne:i1≠i2∧u≠i1∧u≠i2) (hn:posN u i1 i2 σ.slots (posR u i1 i2 σ.res)=true) (ha:ArgsT σ l ins) (hp:pre p) (hcell:∀ t,(out t).all Value.oneCell'=true) :
 OpE P ops o σ fun σ'=>∃ z:Pos×τ,post p z.1 z.2∧σ'=St.put ⟨σ.n,σ.slots,(u,boxP i1 i2 z.1)::(i2,rowI z.1.F)::(i1,rowI z.1.L)::posR u i1 i2 σ.res⟩ o.dst (true,outPs (out z.2)):=by
 rintro w0 a w ⟨I,hr⟩ K Q hK
 simp only [Region.wanted,hg,if_true]
 simp only [posN,Bool.and_eq_true,Bool.not_eq_true'] at hn
 obtain⟨⟨⟨⟨nu,n1⟩,n2⟩,hs1⟩,hs2⟩:=hn
 obtain⟨m1,ws,t',m2,c,cr,e1,⟨g1,_⟩,c',cr',e2,⟨_,g2,_⟩,c'',cr'',e3,⟨_,g3,_⟩,c3,cr3,e4,⟨g4,_⟩,c4,cr4,e5,⟨_,g5,_⟩,e6⟩:I.F u=[I.B u]∧∃ vs e,w.heap[I.B u]?=some (.cells (List.toArray vs) e (0,0))∧VEs I w _ vs:=hr.res _ _ hu
 have e6:cr4=[]:=e6
 simp only [C] at g2 g3 g5
 have k1:C true w (treeI p.L) (I.hd i1) (I.F i1):=hr.res _ _ h1
 have k2:C true w (treeI p.F) (I.hd i2) (I.F i2):=hr.res _ _ h2
 have hB:w.heap[I.B u]?=some (.cells #[I.hd i1,.int .i64 p.x,.int .i64 p.y,I.hd i2,.bool p.z] t' (0,0)):=by
  rw [m2,e1,e2,e3,e4,e5,e6,g1,g2.1,g3.1,g4,g5.1]
 have mu:I.B u∈I.F u:=by rw [m1];simp
 have hof:∀ c∈I.B u::(I.F i1++I.F i2),∃ i r,(i=u∨i=i1∨i=i2)∧look σ.res i=some r∧c∈I.F i:=fun c hc=>by
  rcases List.mem_cons.1 hc with rfl|hc
  · exact⟨u,_,.inl rfl,hu,mu⟩
  rcases List.mem_append.1 hc with hc|hc
  · exact⟨i1,_,.inr (.inl rfl),h1,hc⟩
  exact⟨i2,_,.inr (.inr rfl),h2,hc⟩
 have hown:∀ c∈I.B u::(I.F i1++I.F i2),w0.own c∧Thaw w c∧c<w.heap.size∧¬ I.Z c:=fun c hc=>by
  obtain⟨i,r,_,hi,hm⟩:=hof c hc
  exact⟨((hr.own i r hi).2 c hm).1,((hr.own i r hi).2 c hm).2,(hr.lt i c hm).1,(hr.lt i c hm).2⟩
 have hnd:(I.B u::(I.F i1++I.F i2)).Nodup:=List.nodup_cons.2 ⟨fun hm=>(List.mem_append.1 hm).elim (hr.apart u i1 hne.2.1 _ mu) (hr.apart u i2 hne.2.2 _ mu),List.nodup_append.2 ⟨(hr.own i1 _ h1).1,(hr.own i2 _ h2).1,fun x hx y hy e=>by subst e;exact hr.apart i1 i2 hne.1 x hx hy⟩⟩
 obtain⟨A,hV,hZ⟩:=ha.ok hr
 have hgood:Good w (I.B u::(I.F i1++I.F i2)):=hr.goodF fun c hc=>(hown c hc).1
 have hv:a.eval x=.pointer (some ⟨I.B u,0,none⟩):=hx.va hr rfl
 unfold Oper.wp
 rw [run_enter h.1 ho,List.map_cons,hv]
 refine (h.2 w (I.B u) p _ _ A hp hgood ⟨⟨_,_,t',_,_,hB,k1,k2,rfl⟩,hnd,fun c hc=>(hown c hc).2.1⟩ hV (fun c hc hm=>(hown c hm).2.2.2 (hZ c hc))).mono fun e w' hR=>?_
 obtain⟨p',t,G',rfl,hpost,⟨⟨q1,q2,e',G1',G2',hB',c1',c2',rfl⟩,hnd',hth'⟩,hfr,hc⟩:=hR
 obtain⟨nb',n12'⟩:=List.nodup_cons.1 hnd'
 obtain⟨nd1,nd2,nd3⟩:=List.nodup_append.1 n12'
 have hlk:∀ i r,look (posR u i1 i2 σ.res) i=some r→i≠u∧i≠i1∧i≠i2∧look σ.res i=some r:=fun i r hi=>by
  obtain⟨a1,a2⟩:=look_delR _ _ _ _ hi
  obtain⟨b1,b2⟩:=look_delR _ _ _ _ a2
  obtain⟨d1,d2⟩:=look_delR _ _ _ _ b2
  exact⟨d1,b1,a1,d2⟩
 have r1:=hr.drop (rs':=posR u i1 i2 σ.res) fun i r hi=>(hlk i r hi).2.2.2
 obtain⟨I4,hZ4,hB4,r4,hF4⟩:∃ I4:Ip,I4.Z=I.Z∧I4.B u=I.B u∧RelI I4 w0 ⟨σ.n,σ.slots,posR u i1 i2 σ.res⟩ a w∧∀ i,∀ c∈I.B u::(I.F i1++I.F i2),c∉I4.F i:=by
  have r2:=r1.setF (u:=u) nu (fun r hi=>(hlk _ _ hi).1 rfl) (G:=[]) (fun b hb=>by cases hb)
  have r3:=r2.setF (u:=i1) n1 (fun r hi=>(hlk _ _ hi).2.1 rfl) (G:=[]) (fun b hb=>by cases hb)
  have r4:=r3.setF (u:=i2) n2 (fun r hi=>(hlk _ _ hi).2.2.1 rfl) (G:=[]) (fun b hb=>by cases hb)
  refine⟨_,?_,?_,r4,?_⟩
  · rfl
  · simp [Ip.set,hne.2.1,hne.2.2]
  intro i c hc hm
  simp only [Ip.set] at hm
  split at hm
  · cases hm
  split at hm
  · cases hm
  split at hm
  · cases hm
  rename_i h3 h4 h5
  obtain⟨j,r,hj,_,hcj⟩:=hof c hc
  exact hr.apart i j (by rcases hj with rfl|rfl|rfl<;>assumption) c hm hcj
 have hfree:∀ c∈I.B u::(I.F i1++I.F i2),Free I4 w0 w c:=fun c hc'=>⟨(hown c hc').1,(hown c hc').2.2.1,(hown c hc').2.1,by rw [hZ4];exact (hown c hc').2.2.2,fun i=>hF4 i c hc'⟩
 have r5:=r4.chgF hfree hc
 have hlt':∀ c∈I.B u::(G1'++G2'),c<w'.heap.size:=PosB.lt (w:=w') (b:=I.B u) (p:=p') ⟨_,_,e',_,_,hB',c1',c2',rfl⟩
 have hfree':∀ c∈I.B u::(G1'++G2'),Free I4 w0 w' c:=fun c hc'=>by
  rcases hfr c hc' with h|h
  · have:=hfree c h
    exact⟨this.1,hlt' c hc',hth' c hc',this.2.2.2⟩
  exact⟨.inl (Nat.le_trans hr.ext.size h),hlt' c hc',hth' c hc',fun hz=>by have:=r4.old c hz;omega,fun i hi=>by have:=(r4.lt i c hi).1;omega⟩
 have r6:=r5.addF (id:=i1) (by simpa [St.has] using hs1) (G:=G1') (u:=q1) (b:=0) (r:=rowI p'.L) nd1 (fun c hc=>hfree' c (by simp [hc])) (by show C true w' _ _ _;simpa [Ip.set,treeI] using c1')
 have r7:=r6.addF (id:=i2) (has_addR' (by simpa [St.has] using hs2) hne.1 rfl) (G:=G2') (u:=q2) (b:=0) (r:=rowI p'.F) nd2 (fun c hc=>(hfree' c (by simp [hc])).set fun hm=>nd3 c hm c hc rfl) (by show C true w' _ _ _;simpa [Ip.set,treeI] using c2')
 have fb:=((hfree' (I.B u) (by simp)).set (id:=i1) (u:=q1) (b:=0) (fun hm=>nb' (List.mem_append_left _ hm))).set (id:=i2) (u:=q2) (b:=0) (fun hm=>nb' (List.mem_append_right _ hm))
 have r8:=r7.setF (u:=u) (by
  simp only [nvB,Bool.and_eq_true] at nu ⊢
  exact⟨nu.1,by simp only [St.add,List.all_cons];exact by rw [nu.2];rfl⟩) (fun r hi=>by
  simp only [St.add] at hi
  rw [look_cons] at hi
  split at hi
  · rename_i e;exact hne.2.2 e.symm
  rw [look_cons] at hi
  split at hi
  · rename_i e;exact hne.2.1 e.symm
  exact (hlk _ _ hi).1 rfl) (G:=[I.B u]) (fun c hc=>by
  simp only [List.mem_singleton] at hc;subst hc
  exact⟨fb.2.1,fb.2.2.2.1,fun i _=>fb.2.2.2.2 i⟩)
 have hdr:∀ {k1:Value} {l:List Int} {g:List Nat},C true w' (treeI l) k1 g→∃ a' l' k',k1=.slice a' l' k':=fun h=>by
  unfold treeI at h
  simp only [C] at h
  obtain⟨a',l',k',e,_⟩:=h
  exact⟨a',l',k',e⟩
 have tv:∀ {J:Ip} (v:Value),v.oneCell'=true→VE J w' (.t (.v v)) v:=fun v hv=>⟨[],by simp only [C];exact⟨trivial,trivial,hv⟩,by simp⟩
 have r9:=r8.keepR (u:=u) (r:=boxP i1 i2 p') ⟨by simp [Ip.set,hne.2.1,hne.2.2,hB4],_,e',by simpa [Ip.set,hne.2.1,hne.2.2,hB4] using hB',_,_,rfl,⟨by simp [Ip.set,hne.1,hne.2.1.symm],hdr c1'⟩,_,_,rfl,tv _ rfl,_,_,rfl,tv _ rfl,_,_,rfl,⟨by simp [Ip.set,hne.2.2.symm],hdr c2'⟩,_,_,rfl,tv _ rfl,rfl⟩ ⟨by simp [Ip.set],fun c hc=>by
  have hc:c∈[I.B u]:=by simpa [Ip.set] using hc
  simp only [List.mem_singleton] at hc;subst hc
  exact⟨fb.1,fb.2.2.1⟩⟩
 refine hK _ _ _ ⟨(p',t),hpost,rfl⟩ ⟨_,r9.put hd ?_⟩
 have ht:=hcell t
 unfold outPs
 match out t,ht with
 | [],_=>exact⟨[],rfl,rfl⟩
 | v::vs,ht=>exact⟨_,rfl,VEs_vals ht⟩
end
end Go.Q
set_option maxHeartbeats 1000000
set_option maxRecDepth 100000
namespace Go.Q
open Go.RowKit Go.D
theorem C.bytes {w:World} {l:List Int} {v:Value} {F:List Nat} (h:C false w (.sl 1 (byR l)) v F):∃ a len cap,v=.slice a len cap∧l.length=len∧len≤9223372036854775807∧∀ i,i<len→∃ b off x,a=some ⟨b,off,none⟩∧b∈F∧l[i]?=some x∧w.cell? ⟨b,off+i,none⟩=some (.int .u8 x):=by
 simp only [C] at h
 obtain⟨a,len,cap,rfl,h2,h3,h4,h5⟩:=h
 rw [byR,List.length_map] at h2
 refine⟨a,len,cap,rfl,h2,by unfold maxLen at h4;omega,fun i hi=>?_⟩
 rcases h5 with ⟨h5,_⟩|⟨b,off,G,rfl,rfl,h7,h8,h9⟩
 · omega
 obtain⟨s1,xs,s2,s3,s4⟩:=h9.flat
 have hf:(byR l).flatten=l.map fun x=>T.v (.int .u8 x):=by
  unfold byR
  clear h9 s1 s2 s3 h2
  induction l with
  | nil=>rfl
  | cons x l ih=>rw [List.map_cons,List.flatten_cons,ih];rfl
 rw [hf] at s2
 have key:∀ (m:List Int) {cs:List Value} {G:List Nat},Cs false w (m.map fun x=>T.v (.int .u8 x)) cs G→cs=m.map fun x=>.int .u8 x:=by
  intro m
  induction m with
  | nil=>intro cs G h;unfold Cs at h;exact h.1
  | cons x m ih=>intro cs G h;rw [List.map_cons] at h;unfold Cs at h;obtain⟨c,cr,G1,G2,rfl,g1,g2,rfl⟩:=h;rw [ih g2];unfold C at g1;rw [g1.1];rfl
 have e:=key l s2
 subst e
 exact⟨b,off,l[i]'(by omega),rfl,by simp,List.getElem?_eq_getElem _,s4 i _ (by simp [List.getElem?_eq_getElem,h2,hi])⟩
theorem Chg.setCell (w:World) (p:Addr) (u:Value):Chg w (w.setCell p u) [p.block]:=⟨rfl,rfl,rfl,by simp [World.setCell],fun k _ hn=>heap_setCell_other w p k u (fun e=>hn (by simp [e]))⟩
theorem Chg.more {w w1 w2:World} {G:List Nat} (h:Chg w w1 G) (h2:Chg w1 w2 G):Chg w w2 G:=⟨h2.os.trans h.os,h2.tape.trans h.tape,h2.output.trans h.output,Nat.le_trans h.size h2.size,fun k hk hn=>(h2.block k (Nat.lt_of_lt_of_le hk h.size) hn).trans (h.block k hk hn)⟩
theorem cu_end {w w':World} {gb:Nat} {v:Value} {i z:Int} {t:TypeId} {G:List Nat} {bs:List Int} (hc:Chg w w' [gb]) (hC:C false w (.sl 1 (byR bs)) v G) (hZ:∀ b∈G,b<w.heap.size∧b≠gb) (hi:0≤i) (hb:∀ n∈bs,0≤n∧n<256) (B:Box w' gb [v,.int .i64 i,.int .i64 z] t):CuOk w' (gb,v):=
 ⟨⟨i,z,t,G,bs,B,hC.congr fun b hm=>hc.block b (hZ b hm).1 (by simpa using (hZ b hm).2),fun b hm=>⟨Nat.lt_of_lt_of_le (hZ b hm).1 hc.size,(hZ b hm).2⟩,hi,hb⟩,⟨.inl _,t,B⟩⟩
theorem and255 (u:Int):0≤bits .and .i64 u 255∧bits .and .i64 u 255<256:=by
 have h:bits .and .i64 u 255=((BitVec.ofInt 64 u&&&BitVec.ofInt 64 255).toNat:Int):=by
  have hlt:(BitVec.ofInt 64 u&&&BitVec.ofInt 64 255).toNat<2^63:=by
   rw [BitVec.toNat_and]
   exact Nat.lt_of_le_of_lt Nat.and_le_right (by decide)
  have hw:∀ m:Nat,m<2^63→IntKind.wrap .i64 (m:Int)=m:=fun m hm=>wrap_in ⟨by omega,by omega⟩
  exact hw _ hlt
 rw [h,BitVec.toNat_and]
 have:(BitVec.ofInt 64 u).toNat&&&(BitVec.ofInt 64 255).toNat≤255:=Nat.and_le_right
 omega
end Go.Q
namespace Go.Proofs.YtdhojcaoljhbiaaGreat
open Go.RowKit Go.Q Go.D
set_option maxHeartbeats 1000000 in
theorem specl1New:FnN Tryz.prog 33:=by
 refine⟨⟨_,Tryz.func33,by kernel_rfl,by kernel_rfl⟩,fun w v F bs hG hC hb=>?_⟩
 obtain⟨a,len,cap,rfl,n1,n2,c1⟩:=hC.bytes
 clear hC
 go_enter Tryz.func33,Tryz.ntmps33
 go_wp2
 go_loopw [3,4] (fun h i wr=>∃ (k:Nat) (d:Int),k≤len∧i=.int .i64 k∧h=.int .i64 d∧wr=w) (fun _ i _=>len-(intOf i).toNat)
 case atStart=>exact⟨0,_,by omega,rfl,rfl,rfl⟩
 case round=>
  obtain⟨k,d,hk,rfl,rfl,rfl⟩:=hrel
  by_cases hlt:k<len
  · by_cases hlt':k<4000
    · obtain⟨b,off,x,rfl,_,hx,hc⟩:=c1 k hlt
      have hbx:=hb x (List.mem_of_getElem? hx)
      go_wp2
      go_roundw
      case rel=>exact⟨k+1,_,by omega,by go_num,rfl,trivial⟩
      case measure=>simp [intOf];omega
    go_wp2
    go_ret
    exact⟨_,0,d,_,rfl,Nat.le_refl _,thaw_new,heap_alloc_new _ _,by omega,(Ext.refl _).alloc _⟩
  go_wp2
  go_ret
  exact⟨_,0,d,_,rfl,Nat.le_refl _,thaw_new,heap_alloc_new _ _,by omega,(Ext.refl _).alloc _⟩
set_option maxHeartbeats 1000000 in
theorem specl1Byte:FnD Tryz.prog 137 [] (fun x:Int=>0≤x∧x<256) (fun x=>.a (.one (.v (.int .i64 x)))):=by
 refine⟨⟨_,Tryz.func137,by kernel_rfl,by kernel_rfl⟩,fun w g vs F hG hC hv hgF=>?_⟩
 obtain⟨rfl,rfl⟩:=hv
 obtain⟨gb,v⟩:=g
 obtain⟨⟨i,h,t,G,bs,hcell,hC,hZ,hi,hb⟩,hth⟩:=hC
 simp only at hcell hC hZ hth
 obtain⟨a,len,cap,rfl,n1,n2,c1⟩:=hC.bytes
 have B0:Box w gb [.slice a len cap,.int .i64 i,.int .i64 h] t:=hcell
 have e0:=B0.at 2 rfl
 have f0:=B0.thaw 2
 show Calls _ _ #[_] _ _
 go_enter Tryz.func137,Tryz.ntmps137
 go_wp2_with fail
 generalize wrap64 (wrap64 (h*6364136223846793005)+1442695040888963407)=z
 have B1:=B0.set 2 (.int .i64 z)
 have hz1:∀ b,b≠gb→(w.setCell ⟨gb,2,none⟩ (.int .i64 z)).heap[b]?=w.heap[b]?:=fun b hb=>heap_setCell_other w _ b _ hb
 have hsz:(w.setCell ⟨gb,2,none⟩ (.int .i64 z)).heap.size=w.heap.size:=by simp [World.setCell]
 have hch:=Chg.setCell w ⟨gb,2,none⟩ (.int .i64 z)
 generalize w.setCell ⟨gb,2,none⟩ (.int .i64 z)=w1 at B1 hz1 hsz hch ⊢
 simp only [List.set_cons_succ,List.set_cons_zero] at B1
 have e3:=Later.cell (B1.at 2 rfl)
 refine wp_region_later (by kernel_rfl) (by kernel_rfl) ?_
 repeat (go_big_quiet_step (fail))
 refine wpQuiet_nil ?_
 rintro _ ⟨y,rfl⟩
 have hX0:=and255 (bits BinOp.xor IntKind.i64 (z / 8589934592) (z / 35184372088832))
 generalize bits BinOp.and IntKind.i64 _ 255=X at hX0 ⊢
 have B2:=B1.mono y.2
 have x2:=y.2
 generalize y.1=w2 at B2 x2 ⊢
 clear e3 y
 have e1:=Later.cell (B2.at 0 rfl)
 have e2:=Later.cell (B2.at 1 rfl)
 go_wp2_with fail
 refine wp_region_later (by kernel_rfl) (by kernel_rfl) ?_
 repeat (go_big_quiet_step (fail))
 refine wpQuiet_nil ?_
 rintro _ ⟨y,rfl⟩
 have B3:=B2.mono y.2
 have x3:=x2.trans y.2
 generalize y.1=w3 at B3 x3 ⊢
 clear e1 e2 y
 by_cases hlt:i<len
 · obtain⟨k,rfl⟩:∃ k:Nat,i=(k:Int):=⟨i.toNat,by omega⟩
   obtain⟨b,off,x,rfl,hbG,hbx,hc⟩:=c1 k (by omega)
   have hxb:=hb x (List.mem_of_getElem? hbx)
   have hbz:=hZ b hbG
   have hc3:w3.cell? ⟨b,off+k,none⟩=some (.int .u8 x):=by
    unfold World.cell? at hc ⊢
    rw [x3.block (by rw [hsz];exact hbz.1),hz1 b hbz.2]
    exact hc
   have e1:=Later.cell (B3.at 0 rfl)
   have e2:=Later.cell (B3.at 1 rfl)
   have e4:=Later.cell hc3
   go_wp2_with fail
   refine wp_region_later (by kernel_rfl) (by kernel_rfl) ?_
   repeat (go_big_quiet_step (fail))
   refine wpQuiet_nil ?_
   rintro _ ⟨y,rfl⟩
   have hX1:=and255 (X+x)
   generalize bits BinOp.and IntKind.i64 _ 255=X1 at hX1 ⊢
   have B4:=B3.mono y.2
   have x4:=x3.trans y.2
   generalize y.1=w4 at B4 x4 ⊢
   clear e1 e2 e4 y
   have e1:=B4.at 1 rfl
   have f1:=B4.thaw 1
   go_wp2_with fail
   go_ret
   have B5:=B4.set 1 (.int .i64 ((k:Int)+1))
   have hch5:Chg w _ [gb]:=(hch.later x4).more (Chg.setCell w4 ⟨gb,1,none⟩ (.int .i64 ((k:Int)+1)))
   exact⟨X1,.int .i64 X1,[],rfl,hX1,by unfold Vr V0r C;exact⟨rfl,rfl,rfl⟩,List.nodup_nil,by simp,hch5,cu_end hch5 hC hZ (by omega) hb B5⟩
 go_wp2_with fail
 go_ret
 exact⟨X,.int .i64 X,[],rfl,hX0,by unfold Vr V0r C;exact⟨rfl,rfl,rfl⟩,List.nodup_nil,by simp,hch.later x3,cu_end (hch.later x3) hC hZ hi hb B3⟩
end Go.Proofs.YtdhojcaoljhbiaaGreat
set_option maxHeartbeats 1000000
set_option maxRecDepth 100000
namespace Go.Q
open Go.RowKit Go.D
end Go.Q
namespace Go.Proofs.YtdhojcaoljhbiaaGreat
open Go.RowKit Go.Q Go.D
theorem specl1Below (n:Int):FnD Tryz.prog 74 [.one (.v (.int .i64 n))] (fun x:Int=>(n≤0∧x=0)∨(0≤x∧x<n)) (fun x=>.a (.one (.v (.int .i64 x)))):=by
 refine FnD.walk Tryz.func74 U (by kernel_rfl) Tryz.ntmps74 U (fun g=>rfl) fun w0 g=>?_
 refine Af (AWl.ac ?_);refine Aa (Ae (Af (Ab ?_)));refine Ac (R_le U (.no U) U (.tm U) (.const U)) U ?_;refine Aa (Ah (.tm U) (fun h10=>?_) (fun h10=>?_))
 · try simp at h10
   refine Af (AWl.ac ?_);refine Aa (Ai ?_);apply DRes.mk (x:=0) rfl
   case h=>
    refine A4 U (.tmp U .nil) U ?_
    rfl
   case hp=>exact .inl ⟨by omega,rfl⟩
 try simp at h10
 refine AW.skip (Ae (Af (Ab ?_)));refine Ac (R_le U (.no U) U (.tm U) (.const U)) U ?_;refine Aa (Ah (.tm U) (fun h12=>?_) (fun h12=>?_))
 · try simp at h12
   refine Af (Ab ?_);refine Bl (B8 1400 (specl1Byte) U U U (.tm U) U U .nil (fun _=>rfl) (fun _=>rfl)) ?_
   rintro _ ⟨z14,hz14,rfl⟩
   try dsimp only at hz14
   refine Ab ?_;refine Ac (R_rem U (.no U) U (.tm U) (.tm U) (fun _=>by omega)) U ?_;refine Ag ?_;refine Aa (Ai ?_);apply DRes.mk rfl
   case h=>
    refine A4 U (.tmp U .nil) U ?_
    rfl
   case hp=>exact .inr ⟨Int.emod_nonneg _ (by omega),Int.emod_lt_of_pos _ (by omega)⟩
 try simp at h12
 refine AW.skip (Af (Ab ?_));refine Bl (B8 1800 (specl1Byte) U U U (.tm U) U U .nil (fun _=>rfl) (fun _=>rfl)) ?_
 rintro _ ⟨z18,hz18,rfl⟩
 try dsimp only at hz18
 refine Ag ?_;refine Aa (Ae (Al (Ap [0,1,4,5] [888888]) ?_));refine Ad (Ab ?_);refine Bl (B8 2000 (specl1Byte) U U U (.tm U) U U .nil (fun _=>rfl) (fun _=>rfl)) ?_
 rintro _ ⟨z20,hz20,rfl⟩
 try dsimp only at hz20
 refine Ag ?_;refine Aa (Af (Ab ?_));refine Bl (B8 2200 (specl1Byte) U U U (.tm U) U U .nil (fun _=>rfl) (fun _=>rfl)) ?_
 rintro _ ⟨z22,hz22,rfl⟩
 try dsimp only at hz22
 refine Ag ?_;refine Aa (Af (Ab ?_));refine Bl (B8 2400 (specl1Byte) U U U (.tm U) U U .nil (fun _=>rfl) (fun _=>rfl)) ?_
 rintro _ ⟨z24,hz24,rfl⟩
 try dsimp only at hz24
 refine Ag ?_;refine Aa (Ae (Al (Ap [0,1,4,5,6,7,8] [888888]) ?_));refine Ad (Ab ?_);refine Ac (R_mul U (.no U) U (.tm U) (.const U) (fun _=>by omega)) U ?_;refine Ab ?_;refine Ac (R_mul U (.no U) U (.tm U) (.const U) (fun _=>by omega)) U ?_;refine Ac (R_add U (.no U) U (.tm U) (.tm U) (fun _=>by omega)) U ?_;refine Ab ?_;refine Ac (R_mul U (.no U) U (.tm U) (.const U) (fun _=>by omega)) U ?_;refine Ac (R_add U (.no U) U (.tm U) (.tm U) (fun _=>by omega)) U ?_;refine Ab ?_;refine Ac (R_add U (.no U) U (.tm U) (.tm U) (fun _=>by omega)) U ?_;refine Ab ?_;refine Ac (R_rem U (.no U) U (.tm U) (.tm U) (fun _=>by omega)) U ?_;refine Ag ?_;refine Aa (Ai ?_);apply DRes.mk rfl
 case h=>
  refine A4 U (.tmp U .nil) U ?_
  rfl
 case hp=>exact .inr ⟨Int.emod_nonneg _ (by omega),Int.emod_lt_of_pos _ (by omega)⟩
theorem specl1Once (n:Int):FnD Tryz.prog 75 [.one (.v (.int .i64 n))] (fun _:Bool=>True) (fun x=>.a (.one (.v (.bool x)))):=by
 refine FnD.walk Tryz.func75 U (by kernel_rfl) Tryz.ntmps75 U (fun g=>rfl) fun w0 g=>?_
 refine Af (AWl.ac ?_);refine Aa (Af (Ab ?_));refine Ab ?_;refine Bl (B8 700 (specl1Below n) U U U (.tm U) U U (.cons (.tm U) U .nil) (fun _=>rfl) (fun _=>rfl)) ?_
 rintro _ ⟨z7,hz7,rfl⟩
 try dsimp only at hz7
 refine Ba ?_;refine Ag ?_;refine Aa (Ai ?_);apply DRes.mk rfl
 case h=>
  refine A4 U (.tmp U .nil) U ?_
  rfl
 case hp=>exact trivial
theorem specl1PickInt (l:List Int) (hl:0<l.length):FnD Tryz.prog 106 [.one (.sl 1 (l.map cInt))] (fun x:Int=>x∈l) (fun x=>.a (.one (.v (.int .i64 x)))):=by
 refine FnD.walk Tryz.func106 U (by kernel_rfl) Tryz.ntmps106 U (fun g=>rfl) fun w0 g=>?_
 refine Af (AWl.ac ?_);refine Aa (Af (Ab ?_));refine Ab ?_;refine Ab ?_;refine Br (.t) Tryz.underlying40 ?_;refine Bl (B8 900 (specl1Below _) U U U (.tm U) U U (.cons (.tm U) U .nil) (fun _=>rfl) (fun _=>rfl)) ?_
 rintro _ ⟨z9,hz9,rfl⟩
 try dsimp only at hz9
 refine Ac ((by exact An U (.no U) U (.tm U) (.tm U) Tryz.underlying40 ty3 (fun _=>⟨by simp at hz9;omega,Am (List.getElem?_eq_getElem (i:=z9.toNat) (show z9.toNat<l.length by simp at hz9;omega))⟩))) U ?_;refine Ak ty3 ?_;refine Ag ?_;refine Aa (Ai ?_);apply DRes.mk rfl
 case h=>
  refine A4 U (.tmp U .nil) U ?_
  rfl
 case hp=>exact List.getElem_mem _
end Go.Proofs.YtdhojcaoljhbiaaGreat
set_option maxHeartbeats 1000000
set_option maxRecDepth 100000
namespace Go.Q
open Go.D
structure Prt where
 z:Bool
 a:Int
 b:Int
def prtV (t:Prt):List Value:=[.bool t.z,.int .i64 t.a,.int .i64 t.b]
def letsG (t:TToken):List Nat→Nat
 | [a,b]=>a+b
 | [a]=>if t.Kind=6 then a else 0
 | _=>if t.Kind=3 then 1 else 0
def lets:Tr→Nat
 | .leaf t=>letsG t []
 | .un t x=>letsG t [lets x]
 | .bin t x y=>letsG t [lets x,lets y]
theorem lets_eq (x:Tr):lets x=letsG x.tok (x.kids.map lets):=by cases x<;>rfl
def cntK (l:List TToken):Nat:=(l.filter fun t=>decide (t.Kind=3)).length
theorem lets_le:∀ x:Tr,good x→lets x≤cntK (toks x):=
 Tr.ind fun x ih hg=>by
  rw [lets_eq]
  rcases (good_cases hg).2.2 with ⟨hk,_⟩|⟨y,hk,hk4⟩|⟨y,z,hk,hk4⟩
  · rw [toks_eq,hk]
    simp only [List.map,letsG,toksL,List.flatMap_nil,List.nil_append,cntK]
    split<;>simp_all
  · have hy:=ih y (by rw [hk];simp) (good_kids hg y (by rw [hk];simp))
    rw [toks_eq,hk]
    simp only [List.map,letsG,toksL_one,cntK,List.filter_append,List.length_append] at hy ⊢
    split<;>omega
  have hy:=ih y (by rw [hk];simp) (good_kids hg y (by rw [hk];simp))
  have hz:=ih z (by rw [hk];simp) (good_kids hg z (by rw [hk];simp))
  rw [toks_eq,hk]
  simp only [List.map,letsG,toksL,List.flatMap_cons,List.flatMap_nil,List.append_nil,cntK,List.filter_append,List.length_append] at hy hz ⊢
  omega
end Go.Q
namespace Go.Proofs.YtdhojcaoljhbiaaGreat
open Go.RowKit Go.Q Go.D
end Go.Proofs.YtdhojcaoljhbiaaGreat
set_option maxHeartbeats 1000000
set_option maxRecDepth 100000
namespace Go.Q
open Go.RowKit Go.D
end Go.Q
namespace Go.Proofs.YtdhojcaoljhbiaaGreat
open Go.RowKit Go.Q Go.D
end Go.Proofs.YtdhojcaoljhbiaaGreat
set_option maxHeartbeats 1000000
set_option maxRecDepth 100000
namespace Go.Q
open Go.RowKit Go.D
def expOut (z:TExpr×Bool):V:=.tup [.agg (cExpr z.1),.one (.v (.bool z.2))]
def bpOut (z:TPositions×Bool):V:=.tup [.agg (cPositions z.1),.one (.v (.bool z.2))]
def subOut (z:TAutomaton×Bool):V:=.tup [.agg (cAutomaton z.1),.one (.v (.bool z.2))]
theorem cntK_at {l:List TToken} {i:Nat} {t:TToken} (h:l[i]?=some t):cntK (l.take (i+1))=cntK (l.take i)+if t.Kind=3 then 1 else 0:=by
 unfold cntK
 rw [take_at h,List.filter_append,List.length_append]
 by_cases e:t.Kind=3<;>simp [e]
theorem cntK_len (l:List TToken):cntK l≤l.length:=List.length_filter_le _ _
end Go.Q
namespace Go.Proofs.YtdhojcaoljhbiaaGreat
open Go.RowKit Go.Q Go.D
end Go.Proofs.YtdhojcaoljhbiaaGreat
set_option maxHeartbeats 1000000
set_option maxRecDepth 100000
namespace Go.Q
open Go.D
abbrev Lang:=List Nat→Prop
def catL (A B:Lang):Lang:=fun w=>∃ u v,w=u++v∧A u∧B v
inductive StarL (A:Lang):List Nat→Prop where
 | nil:StarL A []
 | app {u v:List Nat}:A u→StarL A v→StarL A (u++v)
def powN (A:Lang):Nat→Lang
 | 0=>fun w=>w=[]
 | n+1=>catL A (powN A n)
def lgG (t:TToken):List Lang→Lang
 | [A,B]=>if t.Kind=4 then catL A B else fun w=>A w∨B w
 | [A]=>if t.Kind=6 then StarL A else fun w=>∃ k:Nat,t.Low≤(k:Int)∧(k:Int)≤t.High∧powN A k w
 | _=>if t.Kind=2 then fun w=>w=[] else if t.Kind=3 then fun w=>w=[t.Letter.toNat] else fun _=>False
def lang:Tr→Lang
 | .leaf t=>lgG t []
 | .un t x=>lgG t [lang x]
 | .bin t x y=>lgG t [lang x,lang y]
theorem lang_leaf (t:TToken):lang (.leaf t)=if t.Kind=2 then fun w=>w=[] else if t.Kind=3 then fun w=>w=[t.Letter.toNat] else fun _=>False:=rfl
theorem lang_un (t:TToken) (x:Tr):lang (.un t x)=if t.Kind=6 then StarL (lang x) else fun w=>∃ k:Nat,t.Low≤(k:Int)∧(k:Int)≤t.High∧powN (lang x) k w:=rfl
theorem lang_bin (t:TToken) (x y:Tr):lang (.bin t x y)=if t.Kind=4 then catL (lang x) (lang y) else fun w=>lang x w∨lang y w:=rfl
theorem lets_leaf (t:TToken):lets (.leaf t)=if t.Kind=3 then 1 else 0:=rfl
theorem lets_un (t:TToken) (x:Tr):lets (.un t x)=if t.Kind=6 then lets x else 0:=rfl
theorem lets_bin (t:TToken) (x y:Tr):lets (.bin t x y)=lets x+lets y:=rfl
theorem star_cons {A:Lang} {w:List Nat} (h:StarL A w):∀ k w',w=k::w'→∃ u v,w'=u++v∧A (k::u)∧StarL A v:=by
 induction h with
 | nil=>intro k w' e;cases e
 | @app u v hu hv ih=>
  intro k w' e
  cases u with
  | nil=>exact ih k w' e
  | cons c u=>
   rw [List.cons_append] at e
   injection e with e1 e2
   subst e1
   exact⟨u,v,e2.symm,hu,hv⟩
structure PS where
 F:Nat→Nat→Prop
 L:Nat→Nat→Prop
 fi:Nat→Prop
 la:Nat→Prop
 nu:Prop
def PS.run (X:PS):Nat→List Nat→Prop
 | i,[]=>X.la i
 | i,k::w=>∃ j,X.F i j∧X.L j k∧X.run j w
def PS.lg (X:PS):Lang
 | []=>X.nu
 | k::w=>∃ j,X.fi j∧X.L j k∧X.run j w
structure PS.In (X:PS) (lo hi:Nat):Prop where
 F:∀ i j,X.F i j→(lo≤i∧i<hi)∧lo≤j∧j<hi
 L:∀ j k,X.L j k→lo≤j∧j<hi
 fi:∀ j,X.fi j→lo≤j∧j<hi
 la:∀ j,X.la j→lo≤j∧j<hi
def PS.non:PS:=⟨fun _ _=>False,fun _ _=>False,fun _=>False,fun _=>False,False⟩
def PS.emp:PS:=⟨fun _ _=>False,fun _ _=>False,fun _=>False,fun _=>False,True⟩
def PS.let (b c:Nat):PS:=⟨fun _ _=>False,fun j k=>j=b∧k=c,fun j=>j=b,fun j=>j=b,False⟩
def PS.cat (X Y:PS):PS:=⟨fun i j=>(X.F i j∨Y.F i j)∨(X.la i∧Y.fi j),fun j k=>X.L j k∨Y.L j k,fun j=>X.fi j∨(X.nu∧Y.fi j),fun j=>Y.la j∨(Y.nu∧X.la j),X.nu∧Y.nu⟩
def PS.uni (X Y:PS):PS:=⟨fun i j=>X.F i j∨Y.F i j,fun j k=>X.L j k∨Y.L j k,fun j=>X.fi j∨Y.fi j,fun j=>X.la j∨Y.la j,X.nu∨Y.nu⟩
def PS.star (X:PS):PS:=⟨fun i j=>X.F i j∨(X.la i∧X.fi j),X.L,X.fi,X.la,True⟩
section
variable {X Y:PS} {a m c:Nat}
theorem cat_in (hX:X.In a m) (hY:Y.In m c) (h1:a≤m) (h2:m≤c):(X.cat Y).In a c:=by
 refine⟨fun i j h=>?_,fun j k h=>?_,fun j h=>?_,fun j h=>?_⟩
 · rcases h with (h|h)|⟨h,h'⟩
   · have:=hX.F i j h;omega
   · have:=hY.F i j h;omega
   have:=hX.la i h;have:=hY.fi j h';omega
 · rcases h with h|h
   · have:=hX.L j k h;omega
   have:=hY.L j k h;omega
 · rcases h with h|⟨_,h⟩
   · have:=hX.fi j h;omega
   have:=hY.fi j h;omega
 rcases h with h|⟨_,h⟩
 · have:=hY.la j h;omega
 have:=hX.la j h;omega
theorem uni_in (hX:X.In a m) (hY:Y.In m c) (h1:a≤m) (h2:m≤c):(X.uni Y).In a c:=by
 refine⟨fun i j h=>?_,fun j k h=>?_,fun j h=>?_,fun j h=>?_⟩
 · rcases h with h|h
   · have:=hX.F i j h;omega
   have:=hY.F i j h;omega
 · rcases h with h|h
   · have:=hX.L j k h;omega
   have:=hY.L j k h;omega
 · rcases h with h|h
   · have:=hX.fi j h;omega
   have:=hY.fi j h;omega
 rcases h with h|h
 · have:=hX.la j h;omega
 have:=hY.la j h;omega
theorem star_in (hX:X.In a m):X.star.In a m:=by
 refine⟨fun i j h=>?_,hX.L,hX.fi,hX.la⟩
 rcases h with h|⟨h,h'⟩
 · exact hX.F i j h
 have:=hX.la i h;have:=hX.fi j h';omega
theorem cat_right (hX:X.In a m) (hY:Y.In m c):∀ (w:List Nat) (i:Nat),m≤i→((X.cat Y).run i w↔Y.run i w)
 | [],i,hi=>by
  unfold PS.run PS.cat
  constructor
  · rintro (h|⟨_,h⟩)
    · exact h
    have:=hX.la i h;omega
  exact .inl
 | k::w,i,hi=>by
  unfold PS.run
  constructor
  · rintro⟨j,hF,hL,hr⟩
    rcases hF with (hF|hF)|⟨hF,_⟩
    · have:=hX.F i j hF;omega
    · have h1:=hY.F i j hF
      refine⟨j,hF,hL.resolve_left (fun h=>by have:=hX.L j k h;omega),(cat_right hX hY w j (by omega)).1 hr⟩
    have:=hX.la i hF;omega
  rintro⟨j,hF,hL,hr⟩
  have h1:=hY.F i j hF
  exact⟨j,.inl (.inr hF),.inr hL,(cat_right hX hY w j (by omega)).2 hr⟩
theorem cat_left (hX:X.In a m) (hY:Y.In m c):∀ (w:List Nat) (i:Nat),i<m→((X.cat Y).run i w↔∃ u v,w=u++v∧X.run i u∧Y.lg v)
 | [],i,hi=>by
  constructor
  · rintro (h|⟨h1,h2⟩)
    · have:=hY.la i h;omega
    exact⟨[],[],rfl,h2,h1⟩
  rintro⟨u,v,e,h1,h2⟩
  obtain⟨rfl,rfl⟩:=List.append_eq_nil_iff.1 e.symm
  exact .inr ⟨h2,h1⟩
 | k::w,i,hi=>by
  constructor
  · rintro⟨j,hF,hL,hr⟩
    rcases hF with (hF|hF)|⟨hF,hj⟩
    · have h1:=hX.F i j hF
      obtain⟨u,v,e,h2,h3⟩:=(cat_left hX hY w j (by omega)).1 hr
      exact⟨k::u,v,by rw [e];rfl,⟨j,hF,hL.resolve_right (fun h=>by have:=hY.L j k h;omega),h2⟩,h3⟩
    · have:=hY.F i j hF;omega
    have h1:=hY.fi j hj
    exact⟨[],k::w,rfl,hF,j,hj,hL.resolve_left (fun h=>by have:=hX.L j k h;omega),(cat_right hX hY w j (by omega)).1 hr⟩
  rintro⟨u,v,e,h1,h2⟩
  cases u with
  | nil=>
   rw [List.nil_append] at e
   subst e
   obtain⟨j,hj,hL,hr⟩:=h2
   have h3:=hY.fi j hj
   exact⟨j,.inr ⟨h1,hj⟩,.inr hL,(cat_right hX hY w j (by omega)).2 hr⟩
  | cons k' u=>
   rw [List.cons_append] at e
   injection e with e1 e2
   subst e1
   obtain⟨j,hF,hL,hr⟩:=h1
   have h3:=hX.F i j hF
   exact⟨j,.inl (.inl hF),.inl hL,(cat_left hX hY w j (by omega)).2 ⟨u,v,e2,hr,h2⟩⟩
theorem cat_lg (hX:X.In a m) (hY:Y.In m c):(X.cat Y).lg=catL X.lg Y.lg:=by
 funext w
 refine propext ?_
 cases w with
 | nil=>
  constructor
  · rintro⟨h1,h2⟩;exact⟨[],[],rfl,h1,h2⟩
  rintro⟨u,v,e,h1,h2⟩
  obtain⟨rfl,rfl⟩:=List.append_eq_nil_iff.1 e.symm
  exact⟨h1,h2⟩
 | cons k w=>
  constructor
  · rintro⟨j,hj,hL,hr⟩
    rcases hj with hj|⟨hn,hj⟩
    · have h1:=hX.fi j hj
      obtain⟨u,v,e,h2,h3⟩:=(cat_left hX hY w j (by omega)).1 hr
      exact⟨k::u,v,by rw [e];rfl,⟨j,hj,hL.resolve_right (fun h=>by have:=hY.L j k h;omega),h2⟩,h3⟩
    have h1:=hY.fi j hj
    exact⟨[],k::w,rfl,hn,j,hj,hL.resolve_left (fun h=>by have:=hX.L j k h;omega),(cat_right hX hY w j (by omega)).1 hr⟩
  rintro⟨u,v,e,h1,h2⟩
  cases u with
  | nil=>
   rw [List.nil_append] at e
   subst e
   obtain⟨j,hj,hL,hr⟩:=h2
   have h3:=hY.fi j hj
   exact⟨j,.inr ⟨h1,hj⟩,.inr hL,(cat_right hX hY w j (by omega)).2 hr⟩
  | cons k' u=>
   rw [List.cons_append] at e
   injection e with e1 e2
   subst e1
   obtain⟨j,hj,hL,hr⟩:=h1
   have h3:=hX.fi j hj
   exact⟨j,.inl hj,.inl hL,(cat_left hX hY w j (by omega)).2 ⟨u,v,e2,hr,h2⟩⟩
theorem uni_run (hX:X.In a m) (hY:Y.In m c):∀ (w:List Nat) (i:Nat),(i<m→((X.uni Y).run i w↔X.run i w))∧(m≤i→((X.uni Y).run i w↔Y.run i w))
 | [],i=>by
  constructor
  · intro hi
    exact⟨fun h=>h.resolve_right fun h=>by have:=hY.la i h;omega,.inl⟩
  intro hi
  exact⟨fun h=>h.resolve_left fun h=>by have:=hX.la i h;omega,.inr⟩
 | k::w,i=>by
  constructor
  · intro hi
    constructor
    · rintro⟨j,hF,hL,hr⟩
      have hF:=hF.resolve_right fun h=>by have:=hY.F i j h;omega
      have h1:=hX.F i j hF
      exact⟨j,hF,hL.resolve_right fun h=>by have:=hY.L j k h;omega,((uni_run hX hY w j).1 (by omega)).1 hr⟩
    rintro⟨j,hF,hL,hr⟩
    have h1:=hX.F i j hF
    exact⟨j,.inl hF,.inl hL,((uni_run hX hY w j).1 (by omega)).2 hr⟩
  intro hi
  constructor
  · rintro⟨j,hF,hL,hr⟩
    have hF:=hF.resolve_left fun h=>by have:=hX.F i j h;omega
    have h1:=hY.F i j hF
    exact⟨j,hF,hL.resolve_left fun h=>by have:=hX.L j k h;omega,((uni_run hX hY w j).2 (by omega)).1 hr⟩
  rintro⟨j,hF,hL,hr⟩
  have h1:=hY.F i j hF
  exact⟨j,.inr hF,.inr hL,((uni_run hX hY w j).2 (by omega)).2 hr⟩
theorem uni_lg (hX:X.In a m) (hY:Y.In m c):(X.uni Y).lg=fun w=>X.lg w∨Y.lg w:=by
 funext w
 refine propext ?_
 cases w with
 | nil=>exact Iff.rfl
 | cons k w=>
  constructor
  · rintro⟨j,hj,hL,hr⟩
    rcases hj with hj|hj
    · have h1:=hX.fi j hj
      exact .inl ⟨j,hj,hL.resolve_right fun h=>by have:=hY.L j k h;omega,((uni_run hX hY w j).1 (by omega)).1 hr⟩
    have h1:=hY.fi j hj
    exact .inr ⟨j,hj,hL.resolve_left fun h=>by have:=hX.L j k h;omega,((uni_run hX hY w j).2 (by omega)).1 hr⟩
  rintro (⟨j,hj,hL,hr⟩|⟨j,hj,hL,hr⟩)
  · have h1:=hX.fi j hj
    exact⟨j,.inl hj,.inl hL,((uni_run hX hY w j).1 (by omega)).2 hr⟩
  have h1:=hY.fi j hj
  exact⟨j,.inr hj,.inr hL,((uni_run hX hY w j).2 (by omega)).2 hr⟩
theorem star_to:∀ (w:List Nat) (i:Nat),X.star.run i w→∃ u v,w=u++v∧X.run i u∧StarL X.lg v
 | [],_,h=>⟨[],[],rfl,h,.nil⟩
 | k::w,i,⟨j,hF,hL,hr⟩=>by
  obtain⟨u,v,e,h1,h2⟩:=star_to w j hr
  rcases hF with hF|⟨hF,hj⟩
  · exact⟨k::u,v,by rw [e];rfl,⟨j,hF,hL,h1⟩,h2⟩
  refine⟨[],k::w,rfl,hF,?_⟩
  rw [e,show k::(u++v)=(k::u)++v from rfl]
  exact .app ⟨j,hj,hL,h1⟩ h2
theorem star_from:∀ (n:Nat) (u v:List Nat) (i:Nat),u.length+v.length≤n→X.run i u→StarL X.lg v→X.star.run i (u++v)
 | n,k::u,v,i,hn,⟨j,hF,hL,hr⟩,hv=>by
  obtain⟨n,rfl⟩:∃ m,n=m+1:=⟨n-1,by simp at hn;omega⟩
  exact⟨j,.inl hF,hL,star_from n u v j (by simp at hn;omega) hr hv⟩
 | n,[],[],i,_,h,_=>h
 | n,[],k::v,i,hn,h,hv=>by
  obtain⟨n,rfl⟩:∃ m,n=m+1:=⟨n-1,by simp at hn;omega⟩
  obtain⟨u,v',e,⟨j,hj,hL,hr⟩,h2⟩:=star_cons hv k v rfl
  refine⟨j,.inr ⟨h,hj⟩,hL,?_⟩
  rw [e]
  refine star_from n u v' j ?_ hr h2
  rw [e] at hn
  simp at hn
  omega
theorem star_lg:X.star.lg=StarL X.lg:=by
 funext w
 refine propext ?_
 cases w with
 | nil=>exact⟨fun _=>.nil,fun _=>trivial⟩
 | cons k w=>
  constructor
  · rintro⟨j,hj,hL,hr⟩
    obtain⟨u,v,e,h1,h2⟩:=star_to w j hr
    rw [e,show k::(u++v)=(k::u)++v from rfl]
    exact .app ⟨j,hj,hL,h1⟩ h2
  intro h
  obtain⟨u,v,e,⟨j,hj,hL,hr⟩,h2⟩:=star_cons h k w rfl
  exact⟨j,hj,hL,by rw [e];exact star_from _ u v j (Nat.le_refl _) hr h2⟩
end
def psG (t:TToken) (b:Nat):List PS→PS
 | [X,Y]=>if t.Kind=4 then X.cat Y else X.uni Y
 | [X]=>if t.Kind=6 then X.star else PS.non
 | _=>if t.Kind=2 then PS.emp else if t.Kind=3 then PS.let b t.Letter.toNat else PS.non
def psT:Nat→Tr→PS
 | b,.leaf t=>psG t b []
 | b,.un t x=>psG t b [psT b x]
 | b,.bin t x y=>psG t b [psT b x,psT (b+lets x) y]
theorem psT_leaf (b:Nat) (t:TToken):psT b (.leaf t)=if t.Kind=2 then PS.emp else if t.Kind=3 then PS.let b t.Letter.toNat else PS.non:=rfl
theorem psT_un (b:Nat) (t:TToken) (x:Tr):psT b (.un t x)=if t.Kind=6 then (psT b x).star else PS.non:=rfl
theorem psT_bin (b:Nat) (t:TToken) (x y:Tr):psT b (.bin t x y)=if t.Kind=4 then (psT b x).cat (psT (b+lets x) y) else (psT b x).uni (psT (b+lets x) y):=rfl
theorem non_in (a c:Nat):PS.non.In a c:=⟨fun _ _ h=>h.elim,fun _ _ h=>h.elim,fun _ h=>h.elim,fun _ h=>h.elim⟩
theorem psT_in:∀ (x:Tr) (b:Nat),(psT b x).In b (b+lets x)
 | .leaf t,b=>by
  rw [psT_leaf,lets_leaf]
  split
  · exact⟨fun _ _ h=>h.elim,fun _ _ h=>h.elim,fun _ h=>h.elim,fun _ h=>h.elim⟩
  split
  · exact⟨fun _ _ h=>h.elim,fun j k h=>by have:=h.1;omega,fun j h=>by have:j=b:=h;omega,fun j h=>by have:j=b:=h;omega⟩
  exact non_in _ _
 | .un t x,b=>by
  rw [psT_un,lets_un]
  split
  · exact star_in (psT_in x b)
  exact non_in _ _
 | .bin t x y,b=>by
  have h1:=psT_in x b
  have h2:=psT_in y (b+lets x)
  rw [psT_bin,lets_bin,←Nat.add_assoc]
  split
  · exact cat_in h1 h2 (by omega) (by omega)
  exact uni_in h1 h2 (by omega) (by omega)
def noRep:Tr→Prop
 | .leaf _=>True
 | .un t x=>t.Kind=6∧noRep x
 | .bin _ x y=>noRep x∧noRep y
theorem psT_lg:∀ (x:Tr) (b:Nat),noRep x→(psT b x).lg=lang x
 | .leaf t,b,_=>by
  rw [psT_leaf,lang_leaf]
  funext w
  refine propext ?_
  split
  · cases w with
    | nil=>exact⟨fun _=>rfl,fun _=>trivial⟩
    | cons k w=>exact⟨fun ⟨_,h,_⟩=>h.elim,fun h=>by cases h⟩
  split
  · cases w with
    | nil=>exact⟨fun h=>h.elim,fun h=>by cases h⟩
    | cons k w=>
     constructor
     · rintro⟨j,hj,⟨_,hL⟩,hr⟩
       cases w with
       | nil=>rw [hL]
       | cons k' w=>obtain⟨_,h,_⟩:=hr;exact h.elim
     intro h
     injection h with h1 h2
     subst h2
     exact⟨b,rfl,⟨rfl,h1⟩,rfl⟩
  cases w with
  | nil=>exact Iff.rfl
  | cons k w=>exact⟨fun ⟨_,h,_⟩=>h.elim,fun h=>h.elim⟩
 | .un t x,b,h=>by
  rw [psT_un,lang_un,if_pos h.1,if_pos h.1,star_lg,psT_lg x b h.2]
 | .bin t x y,b,h=>by
  have h1:=psT_in x b
  have h2:=psT_in y (b+lets x)
  rw [psT_bin,lang_bin]
  split
  · rw [cat_lg h1 h2,psT_lg x b h.1,psT_lg y _ h.2]
  rw [uni_lg h1 h2,psT_lg x b h.1,psT_lg y _ h.2]
theorem timR_norep {e:Tr} (he:noRep e):∀ (h:Nat) (lo:Int),noRep (timR e lo h)
 | 0,_=>trivial
 | h+1,lo=>by
  unfold timR
  split
  · exact⟨he,timR_norep he h _⟩
  exact⟨⟨he,timR_norep he h _⟩,trivial⟩
theorem exR_norep:∀ x:Tr,noRep (exR x)
 | .leaf t=>trivial
 | .un t x=>by
  show noRep (if t.Kind=6 then .un t (exR x) else timR (exR x) t.Low t.High.toNat)
  split
  · rename_i h;exact⟨h,exR_norep x⟩
  exact timR_norep (exR_norep x) _ _
 | .bin t x y=>⟨exR_norep x,exR_norep y⟩
theorem lang_empty:lang (.leaf (tok0 2))=fun w=>w=[]:=by
 rw [lang_leaf,if_pos (show (tok0 2).Kind=2 from rfl)]
theorem timR_lang (e:Tr):∀ (h:Nat) (lo:Int),0≤lo→lo≤h→lang (timR e lo h)=fun w=>∃ k:Nat,lo≤(k:Int)∧(k:Int)≤h∧powN (lang e) k w
 | 0,lo,h0,h1=>by
  unfold timR
  rw [lang_empty]
  funext w
  refine propext ⟨fun h=>⟨0,by omega,by omega,h⟩,?_⟩
  rintro⟨k,h2,h3,h4⟩
  have:k=0:=by omega
  subst this;exact h4
 | h+1,lo,h0,h1=>by
  have hc:lang (.bin (tok0 4) e (timR e (max 0 (lo-1)) h))=catL (lang e) (fun w=>∃ k:Nat,max 0 (lo-1)≤(k:Int)∧(k:Int)≤h∧powN (lang e) k w):=by
   rw [lang_bin,if_pos (show (tok0 4).Kind=4 from rfl),timR_lang e h _ (by omega) (by omega)]
  have key:∀ w,catL (lang e) (fun w=>∃ k:Nat,max 0 (lo-1)≤(k:Int)∧(k:Int)≤h∧powN (lang e) k w) w↔∃ k:Nat,1≤k∧lo≤(k:Int)∧(k:Int)≤h+1∧powN (lang e) k w:=by
   intro w
   constructor
   · rintro⟨u,v,e1,h2,k,h3,h4,h5⟩
     exact⟨k+1,by omega,by omega,by omega,u,v,e1,h2,h5⟩
   rintro⟨k,h2,h3,h4,h5⟩
   obtain⟨k,rfl⟩:∃ k',k=k'+1:=⟨k-1,by omega⟩
   obtain⟨u,v,e1,h6,h7⟩:=h5
   exact⟨u,v,e1,h6,k,by omega,by omega,h7⟩
  unfold timR
  split
  · rw [hc]
    funext w
    refine propext ?_
    rw [key]
    constructor
    · rintro⟨k,h2,h3,h4,h5⟩;exact⟨k,h3,by omega,h5⟩
    rintro⟨k,h3,h4,h5⟩;exact⟨k,by omega,h3,by omega,h5⟩
  rw [lang_bin,if_neg (show ¬ (tok0 5).Kind=4 by decide),hc,lang_empty]
  funext w
  refine propext ?_
  rw [key]
  constructor
  · rintro (⟨k,h2,h3,h4,h5⟩|h2)
    · exact⟨k,h3,by omega,h5⟩
    exact⟨0,by omega,by omega,h2⟩
  rintro⟨k,h3,h4,h5⟩
  cases k with
  | zero=>exact .inr h5
  | succ k=>exact .inl ⟨k+1,by omega,h3,by omega,h5⟩
theorem exR_lang:∀ x:Tr,good x→lang (exR x)=lang x
 | .leaf t,_=>rfl
 | .un t x,hg=>by
  have ih:=exR_lang x hg.2
  show lang (if t.Kind=6 then .un t (exR x) else timR (exR x) t.Low t.High.toNat)=_
  split
  · rename_i hk;rw [lang_un,lang_un,ih]
  rename_i hk
  have hk7:t.Kind=7:=by
   have ha:=hg.1
   unfold arity at ha
   by_cases h1:t.Kind=1∨t.Kind=2
   · rw [if_pos h1] at ha;split at ha<;>omega
   rw [if_neg h1] at ha
   by_cases h2:t.Kind=3
   · rw [if_pos h2] at ha;split at ha<;>omega
   rw [if_neg h2] at ha
   by_cases h3:t.Kind=4∨t.Kind=5
   · rw [if_pos h3] at ha;split at ha<;>omega
   rw [if_neg h3,if_neg hk] at ha
   by_cases h4:t.Kind=7
   · exact h4
   rw [if_neg h4] at ha;omega
  have hr:(1≤t.High∧t.High≤3)∧0≤t.Low∧t.Low≤t.High:=rep_rng (x:=.un t x) hg hk7
  rw [timR_lang _ _ _ (by omega) (by omega),ih,lang_un,if_neg hk,Int.toNat_of_nonneg (by omega)]
 | .bin t x y,hg=>by
  show lang (.bin t (exR x) (exR y))=_
  rw [lang_bin,exR_lang x hg.2.1,exR_lang y hg.2.2,lang_bin]
end Go.Q
