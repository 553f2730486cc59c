import Derived.Test.YtdhojcaoljhbiaaGreatKnnxc
import Derived.Test.YtdhojcaoljhbiaaGreatB146xc
set_option linter.unusedVariables false
set_option linter.unusedSimpArgs false
set_option maxHeartbeats 1000000
set_option maxRecDepth 100000
open Go.Proofs.Tryz renaming prog->Z9,underlying40->ZA,underlying24->ZB,func149->ZV,ntmps149->ZW,func93->ZX,ntmps93->ZY
open List renaming mem_append->ZC,toArray->ZD,map->ZE,mem_singleton->ZF,nodup_cons->ZH,nodup_append->ZI,mem_cons->ZL,all_eq_true->ZN,mem_append_left->ZO,mem_append_right->ZP,flatMap_nil->ZQ,filter_append->ZR,length_append->ZS,map_set->ZT,append_assoc->ZU
open Int renaming toNat_natCast->ZJ
open Bool renaming and_eq_true->ZK
namespace Go.Q
open Go.RowKit Go.Proofs.YtdhojcaoljhbiaaGreat
section
variable {P:Program} {ops:Array Oper} {o:Oper} {σ:St} {q:Bool}
theorem Kr {t t':TypeId} {x y:Operand} {n m:Int} (ho:o.op=.binOp .or t x y t') (hg:Grd ops o σ q) (hd:o.dst.all (fun d=>Nat.blt d σ.n)=true) (hx:Get σ q x (.one (.t (.v (.int .i64 n))))) (hy:Get σ q y (.one (.t (.v (.int .i64 m))))) :
 Op1 P ops o σ (σ.put o.dst (q,.a (.one (.t (.v (.int .i64 (bits .or .i64 n m))))))):=
 D9 ho hg hd hx hy CP (h:=fun _ w=>rfl)
theorem J5 {t t':TypeId} {x y:Operand} {n m:Int} (ho:o.op=.binOp .and t x y t') (hg:Grd ops o σ q) (hd:o.dst.all (fun d=>Nat.blt d σ.n)=true) (hx:Get σ q x (.one (.t (.v (.int .i64 n))))) (hy:Get σ q y (.one (.t (.v (.int .i64 m))))) :
 Op1 P ops o σ (σ.put o.dst (q,.a (.one (.t (.v (.int .i64 (bits .and .i64 n m))))))):=
 D9 ho hg hd hx hy CP (h:=fun _ w=>rfl)
theorem Ma {t t':TypeId} {x y:Operand} {k:IntKind} {n m:Int} (ho:o.op=.binOp .shr t x y t') (hg:Grd ops o σ q) (hd:o.dst.all (fun d=>Nat.blt d σ.n)=true) (hx:Get σ q x (.one (.t (.v (.int .i64 n))))) (hy:Get σ q y (.one (.t (.v (.int k m)))))
 (hb:q=true→0≤m):Op1 P ops o σ (σ.put o.dst (q,.a (.one (.t (.v (.int .i64 (n.fdiv (2^(min m.toNat 64))))))))):=
 D9 ho hg hd hx hy CP (h:=fun hq w=>by
  have h2:=hb hq
  simp only [binOp,Op.shift]
  rw [if_neg (by omega)]
  rfl)
theorem AU.drop {I:Ip} {w0:BB} {w:World} {a:Act} (h:AU I w0 σ a w) {rs':List (Nat×R)} (hs:∀ i r,look rs' i=some r→look σ.res i=some r):AU I w0 ⟨σ.n,σ.slots,rs'⟩ a w:=
 ⟨h.ext,h.defers,h.size,h.slots,fun i r hi=>h.res i r (hs i r hi),h.old,h.lt,fun i r hi=>h.own i r (hs i r hi),h.apart⟩
theorem AU.setF {I:Ip} {w0:BB} {w:World} {a:Act} (h:AU I w0 σ a w) {u:Nat} (hn:nvB u σ.slots σ.res=true) (hu:∀ r,look σ.res u≠some r) {G:List Nat} (hG:∀ b∈G,b<w.heap.size∧¬ I.Z b∧∀ i,i≠u→b∉I.F i):AU (I.set u G (I.hd u) (I.B u)) w0 σ a w:=by
 simp only [nvB,ZK,ZN] at hn
 have hZ:∀ b,I.Z b→b∉I.F u:=fun b hz hb=>(h.lt u b hb).2 hz
 have hv:∀ i,i≠u→∀ b∈I.F i,b∉I.F u:=fun i hi=>h.apart i u hi
 have hmem:∀ {α:Type} {l:List (Nat×α)} {i:Nat} {x:α},look l i=some x→(i,x)∈l:=by
  intro α l
  induction l with
  | nil=>intro i x hx;cases hx
  | cons y l ih=>
   intro i x hx
   obtain⟨j,y⟩:=y
   rw [AF] at hx
   split at hx
   · rename_i e;subst e;cases hx;simp
   exact List.mem_cons_of_mem _ (ih hx)
 refine⟨h.ext,h.defers,h.size,fun i x hi=>?_,fun i r hi=>?_,h.old,fun i b hb=>?_,fun i r hi=>?_,fun i j hne b hb hb'=>?_⟩
 · have:=(h.slots i x hi).puv (G:=G) (Chg.refl w (I.F u)) hZ hv
   rw [S.puv_nv (hn.1 _ (hmem hi))] at this
   exact this
 · have hi':i≠u:=fun e=>hu r (e▸hi)
   have hnr:=hn.2 _ (hmem hi)
   have:=h.res i r hi
   cases r with
   | row k rows=>
    have this:C true w (.sl k rows) (I.hd i) (I.F i):=this
    show C true w (.sl k rows) _ _
    simpa only [Ip.set,if_neg hi'] using this
   | box cs=>
    obtain⟨h1,vs,t,h2,h3⟩:=this
    have h3:=h3.puv (G:=G) (Chg.refl w (I.F u)) hZ hv
    rw [EH fun e he=>E.puv_nv (ZN.1 hnr e he)] at h3
    exact⟨by simpa only [Ip.set,if_neg hi'] using h1,vs,t,by simpa only [Ip.set,if_neg hi'] using h2,h3⟩
   | hdr j x=>
    refine⟨by simpa only [Ip.set,if_neg hi'] using this.1,fun k hk=>?_⟩
    have:=this.2 k hk
    simp only [Ip.set]
    split
    · rename_i e;rw [←e];exact this
    exact this
   | blk j x=>
    refine⟨by simpa only [Ip.set,if_neg hi'] using this.1,fun k hk=>?_⟩
    have:=this.2 k hk
    simp only [Ip.set]
    split
    · rename_i e;rw [←e];exact this
    exact this
   | kept K=>exact⟨by simpa only [Ip.set,if_neg hi'] using this.1,this.2⟩
   | opq=>trivial
   | cur g=>exact⟨by simpa only [Ip.set,if_neg hi'] using this.1,by simpa only [Ip.set,if_neg hi'] using this.2.1,this.2.2⟩
   | mp b f=>exact⟨by simpa only [Ip.set,if_neg hi'] using this.1,this.2⟩
 · simp only [Ip.set] at hb ⊢
   split at hb
   · exact⟨(hG b hb).1,(hG b hb).2.1⟩
   exact h.lt i b hb
 · have hi':i≠u:=fun e=>hu r (e▸hi)
   simp only [Ip.set,if_neg hi']
   exact h.own i r hi
 simp only [Ip.set] at hb hb'
 split at hb
 · rename_i e
   rw [if_neg (fun e'=>hne (e.trans e'.symm))] at hb'
   exact (hG b hb).2.2 j (fun e'=>hne (e.trans e'.symm)) hb'
 split at hb'
 · rename_i e
   exact (hG b hb').2.2 i (fun e'=>hne (e'.trans e.symm)) hb
 exact h.apart i j hne b hb hb'
theorem AU.keepR {I:Ip} {w0:BB} {w:World} {a:Act} (h:AU I w0 σ a w) {u:Nat} {r:R} (hr:RR I w u r) (ho:(I.F u).Nodup∧∀ b∈I.F u,w0.own b∧DJ w b):AU I w0 (σ.add u r) a w:=by
 have key:∀ i r',look (σ.add u r).res i=some r'→(i=u∧r'=r)∨look σ.res i=some r':=fun i r' hi=>by
  rw [St.add,AF] at hi
  split at hi
  · rename_i e;cases hi;exact .inl ⟨e.symm,rfl⟩
  exact .inr hi
 exact⟨h.ext,h.defers,h.size,h.slots,fun i r' hi=>(key i r' hi).elim (fun e=>by rw [e.1,e.2];exact hr) (h.res i r'),h.old,h.lt,fun i r' hi=>(key i r' hi).elim (fun e=>by rw [e.1];exact ho) (h.own i r'),h.apart⟩
theorem UA {σ:St} {id m:Nat} {r:R} (h:σ.has m=false) (hm:id≠m) (hr:r.has m=false):(σ.add id r).has m=false:=by
 unfold St.has St.add at *
 simp only [Bool.or_eq_false_iff,List.any_cons] at h ⊢
 exact⟨h.1,⟨Fw hm,hr⟩,h.2⟩
structure Pos where
 L:List Int
 F:List Int
 x:Int
 y:Int
 z:Bool
def IL (l:List Int):R:=.row 1 (l.map fun n=>[.v (.int .i64 n)])
def I9 (l:List Int):T:=.sl 1 (l.map fun n=>[.v (.int .i64 n)])
def Qw (i1 i2:Nat) (p:Pos):R:=.box [.rf i1,.t (.v (.int .i64 p.x)),.t (.v (.int .i64 p.y)),.rf i2,.t (.v (.bool p.z))]
def XJ (w:World) (b:Nat) (p:Pos) (G:List Nat):Prop:=∃ h1 h2 e G1 G2,w.heap[b]?=some (.cells #[h1,.int .i64 p.x,.int .i64 p.y,h2,.bool p.z] e (0,0))∧C true w (I9 p.L) h1 G1∧C true w (I9 p.F) h2 G2∧G=b::(G1++G2)
def Yg (w:World) (b:Nat) (p:Pos) (G:List Nat):Prop:=XJ w b p G∧G.Nodup∧∀ c∈G,DJ w c
theorem XJ.lt {w:World} {b:Nat} {p:Pos} {G:List Nat} (h:XJ w b p G):∀ c∈G,c<w.heap.size:=by
 obtain⟨h1,h2,e,G1,G2,hB,c1,c2,rfl⟩:=h
 intro c hc
 rcases ZL.1 hc with rfl|hc
 · exact (Array.getElem?_eq_some_iff.1 hB).1
 rcases ZC.1 hc with hc|hc
 · exact C.lt c1 c hc
 exact C.lt c2 c hc
def Yh {τ:Type} (w:World) (b:Nat) (G:List Nat) (post:Pos→τ→Prop) (out:τ→List Value) (e:Ending) (w':World):Prop:=
 ∃ p' t G',e=.returned (match out t with|[]=>.tuple #[]|l=>.agg l.toArray)∧post p' t∧Yg w' b p' G'∧(∀ c∈G',c∈G∨w.heap.size≤c)∧Chg w w' G
def FnP {τ:Type} (P:Program) (f:FuncId) (ins:List V0) (pre:Pos→Prop) (post:Pos→Pos→τ→Prop) (out:τ→List Value):Prop:=
 Ek P f∧∀ w b p G vs A,pre p→Good w G→Yg w b p G→V0s false w ins vs A→(∀ c∈A,c∉G)→Calls P f (ZD (.pointer (some ⟨b,0,none⟩)::vs)) w (Yh w b G (post p) out)
theorem V0s.cp {w:World} {FF:List Nat}:∀ {ins:List V0} {vs:List Value} {F:List Nat},V0s false w ins vs F→(∀ b∈F,b∉FF)→V0c w FF (ins.map fun x=>(false,x)) vs []
 | [],vs,F,⟨h,_⟩,_=>⟨h,rfl⟩
 | x::r,vs,F,⟨v,vr,G1,G2,h1,h2,h3,h4⟩,hF=>by
  subst h4
  exact⟨v,vr,G1,[],h1,h2,h3.cp fun b hb=>hF b (by simp [hb]),by simpa using fun b hb=>hF b (by simp [hb])⟩
def Mc {τ:Type} (P:Program) (fn:Func) (b:Nat) (post:Pos→τ→Prop) (out:τ→List Value) (σ:St):Prop:=
 ∃ p' t rs xs,post p' t∧look σ.res 700=some (Qw 701 702 p')∧look σ.res 701=some (IL p'.L)∧look σ.res 702=some (IL p'.F)∧look σ.res 703=some (.blk (some 700) b)∧fn.results=ZD rs∧RVs P σ rs xs∧((xs=[]∧out t=[])∨(out t≠[]∧xs=[.agg ((out t).map fun v=>.t (.v v))]))
def Z3 {τ:Type} (P:Program) (fn:Func) (b:Nat) (post:Pos→τ→Prop) (out:τ→List Value):Exit→St→Prop
 | .normal,σ=>Mc P fn b post out σ
 | .ret,σ=>Mc P fn b post out σ
 | _,_=>False
theorem P7 {I:Ip} {w:World}:∀ {l cs:List Value},VEs I w (l.map (fun v=>E.t (.v v))) cs→cs=l
 | [],cs,h=>h
 | x::l,cs,⟨c,cr,e,⟨_,g,_⟩,h⟩=>by
  simp only [C] at g
  rw [e,g.1,P7 h]
theorem FnP.walk {τ:Type} {n:Nat} {f:FuncId} {fn:Func} {c:Code} {ins:List V0} {pre:Pos→Prop} {post:Pos→Pos→τ→Prop} {out:τ→List Value} {σ':Nat→Pos→St} (hf:P.funcs[f]?=some fn) (hb:fn.body=some c) (hname:(fn.name == "runtime.NumGoroutine")=false) (hnt:fn.ntmps=n) (hn:Nat.ble (ins.length+1) n=true)
 (hi:∀ b p,IE 1 (ins.map fun x=>(false,x)) ⟨n,[(0,(true,.a (.one (.pp 700 0))))],[(700,Qw 701 702 p),(701,IL p.L),(702,IL p.F),(703,.blk (some 700) b)]⟩=some (σ' b p)) (h:∀ w0 b p,pre p→AW P w0 c (Z3 P fn b (post p) out) (σ' b p)):FnP P f ins pre post out:=by
 subst hnt
 refine⟨⟨fn,hf,hname,by rw [hb];rfl⟩,fun w b p G vs A hp hG hok hv hap=>?_⟩
 have hv':=hv.cp (FF:=G) hap
 have hl:vs.length=ins.length:=by simpa using hv'.len
 have hn':ins.length+1≤fn.ntmps:=Nat.le_of_ble_eq_true hn
 obtain⟨hB,hnd,hth⟩:=hok
 have hlt:=hB.lt
 obtain⟨h1,h2,e,G1,G2,hcell,c1,c2,rfl⟩:=hB
 obtain⟨nb,n12⟩:=ZH.1 hnd
 obtain⟨n1,n2,n3⟩:=ZI.1 n12
 let a0:Act:=⟨(ZD (.pointer (some ⟨b,0,none⟩)::vs))++Array.replicate (fn.ntmps-(ZD (Value.pointer (some ⟨b,0,none⟩)::vs)).size) undef,[]⟩
 let I0:Ip:=⟨fun c=>c<w.heap.size∧c∉b::(G1++G2),fun i=>if i=700 then [b] else if i=701 then G1 else if i=702 then G2 else [],fun i=>if i=701 then h1 else if i=702 then h2 else undef,fun i=>if i=700 then b else 0⟩
 have hget:∀ (j:Nat) v,(Value.pointer (some ⟨b,0,none⟩)::vs)[j]?=some v→a0.tmps.getD j undef=v:=fun j v hj=>by
  have hjl:=(List.getElem?_eq_some_iff.1 hj).1
  simp only [a0]
  rw [Array.getD_eq_getD_getElem?,Array.getElem?_append_left (by simpa using hjl)]
  have:(ZD (Value.pointer (some ⟨b,0,none⟩)::vs))[j]?=some v:=by simpa using hj
  rw [this];rfl
 have hF0:∀ i,∀ x∈I0.F i,x∈b::(G1++G2):=fun i x hx=>by
  simp only [I0] at hx
  split at hx
  · simp only [ZF] at hx;subst hx;simp
  split at hx
  · simp [hx]
  split at hx
  · simp [hx]
  cases hx
 have hdr:∀ {k1:Value} {l:List Int} {g:List Nat},C true w (I9 l) k1 g→∃ a' l' k',k1=.slice a' l' k':=fun h=>by
  unfold I9 at h
  simp only [C] at h
  obtain⟨a',l',k',e,_⟩:=h
  exact⟨a',l',k',e⟩
 have hr0:AU I0 ⟨w,b::(G1++G2),hG⟩ ⟨fn.ntmps,[(0,(true,.a (.one (.pp 700 0))))],[(700,Qw 701 702 p),(701,IL p.L),(702,IL p.F),(703,.blk (some 700) b)]⟩ a0 w:=by
  have key:∀ i r,look [(700,Qw 701 702 p),(701,IL p.L),(702,IL p.F),(703,R.blk (some 700) b)] i=some r→(i=700∧r=Qw 701 702 p)∨(i=701∧r=IL p.L)∨(i=702∧r=IL p.F)∨(i=703∧r=.blk (some 700) b):=fun i r hi=>by
   rw [AF] at hi
   split at hi
   · rename_i e;cases hi;exact .inl ⟨e.symm,rfl⟩
   rw [AF] at hi
   split at hi
   · rename_i e;cases hi;exact .inr (.inl ⟨e.symm,rfl⟩)
   rw [AF] at hi
   split at hi
   · rename_i e;cases hi;exact .inr (.inr (.inl ⟨e.symm,rfl⟩))
   rw [AF] at hi
   split at hi
   · rename_i e;cases hi;exact .inr (.inr (.inr ⟨e.symm,rfl⟩))
   cases hi
  refine⟨Chg.refl w _,rfl,by simp [a0,hl];omega,fun i z hi=>?_,fun id r hi=>?_,fun x hx=>hx.1,fun id x hx=>⟨hlt x (hF0 id x hx),fun hz=>hz.2 (hF0 id x hx)⟩,fun id r hi=>?_,fun i j hne x hx hx'=>?_⟩
  · rw [AF] at hi
    split at hi
    · rename_i e;subst e;cases hi
      exact hget 0 _ rfl
    cases hi
  · rcases key id r hi with ⟨rfl,rfl⟩|⟨rfl,rfl⟩|⟨rfl,rfl⟩|⟨rfl,rfl⟩
    · exact⟨rfl,_,e,hcell,_,_,rfl,⟨rfl,hdr c1⟩,_,_,rfl,⟨[],by simp only [C];exact⟨trivial,trivial,rfl⟩,by simp⟩,_,_,rfl,⟨[],by simp only [C];exact⟨trivial,trivial,rfl⟩,by simp⟩,_,_,rfl,⟨rfl,hdr c2⟩,_,_,rfl,⟨[],by simp only [C];exact⟨trivial,trivial,rfl⟩,by simp⟩,rfl⟩
    · exact c1
    · exact c2
    exact⟨rfl,fun i hi=>by cases hi;rfl⟩
  · have hall:∀ x∈I0.F id,BB.own ⟨w,b::(G1++G2),hG⟩ x∧DJ w x:=fun x hx=>⟨.inr (hF0 id x hx),hth x (hF0 id x hx)⟩
    refine⟨?_,hall⟩
    rcases key id r hi with ⟨rfl,rfl⟩|⟨rfl,rfl⟩|⟨rfl,rfl⟩|⟨rfl,rfl⟩
    · simp [I0]
    · exact n1
    · exact n2
    simp [I0]
  simp only [I0] at hx hx'
  have nb1:b∉G1:=fun h=>nb (ZO _ h)
  have nb2:b∉G2:=fun h=>nb (ZP _ h)
  split at hx
  · simp only [ZF] at hx;subst hx
    split at hx'
    · omega
    split at hx'
    · exact nb1 hx'
    split at hx'
    · exact nb2 hx'
    cases hx'
  split at hx
  · split at hx'
    · simp only [ZF] at hx';subst hx';exact nb1 hx
    split at hx'
    · omega
    split at hx'
    · exact n3 x hx x hx' rfl
    cases hx'
  split at hx
  · split at hx'
    · simp only [ZF] at hx';subst hx';exact nb2 hx
    split at hx'
    · exact n3 x hx' x hx rfl
    split at hx'
    · omega
    cases hx'
  cases hx
 obtain⟨I1,r1⟩:=FZ (FF:=b::(G1++G2)) (fun _ _ _=>trivial) (hi b p) hr0 (fun x h1 h2=>⟨h1,h2⟩) hv' (by simp) (fun x hx=>by cases hx) fun j v hj=>hget (1+j) v (by rw [Nat.add_comm];simpa using hj)
 refine calls_of_wp hf hb (Code.wp_mono ?_ (h ⟨w,b::(G1++G2),hG⟩ b p hp _ _ ⟨I1,r1⟩))
 rintro e a' w' ⟨σ1,hR,I,hI⟩
 have key:Mc P fn b (post p) out σ1→a'.defers=[]∧∃ v,(results fn a'.tmps).run P w'=.ok v w'∧Yh w b (b::(G1++G2)) (post p) out (.returned v) w':=fun ⟨p',t,rs,xs,q1,q2,q3,q4,q5,q6,q7,q8⟩=>by
  obtain⟨vs',r1,r2⟩:=EG (P:=P) (fn:=fn) (l:=rs) hI q6 q7
  obtain⟨m1,ws,t',m2,c,cr,e1,⟨g1,_⟩,c',cr',e2,⟨_,g2,_⟩,c'',cr'',e3,⟨_,g3,_⟩,c3,cr3,e4,⟨g4,_⟩,c4,cr4,e5,⟨_,g5,_⟩,e6⟩:I.F 700=[I.B 700]∧∃ vs e,w'.heap[I.B 700]?=some (.cells (ZD vs) e (0,0))∧VEs I w' _ vs:=hI.res _ _ q2
  have e6:cr4=[]:=e6
  simp only [C] at g2 g3 g5
  have hbb:I.B 700=b:=(hI.res _ _ q5).2 700 rfl
  have k1:C true w' (I9 p'.L) (I.hd 701) (I.F 701):=hI.res _ _ q3
  have k2:C true w' (I9 p'.F) (I.hd 702) (I.F 702):=hI.res _ _ q4
  have hcell':w'.heap[b]?=some (.cells #[I.hd 701,.int .i64 p'.x,.int .i64 p'.y,I.hd 702,.bool p'.z] t' (0,0)):=by
   rw [←hbb,m2,e1,e2,e3,e4,e5,e6,g1,g2.1,g3.1,g4,g5.1]
  have ap1:b∉I.F 701:=fun hm=>hI.apart 700 701 (by decide) b (by rw [m1,hbb];simp) hm
  have ap2:b∉I.F 702:=fun hm=>hI.apart 700 702 (by decide) b (by rw [m1,hbb];simp) hm
  have own:∀ c∈b::(I.F 701++I.F 702),(c∈b::(G1++G2)∨w.heap.size≤c)∧DJ w' c:=fun c hc=>by
   rcases ZL.1 hc with rfl|hc
   · have:=(hI.own 700 _ q2).2 c (by rw [m1,hbb];simp)
     exact⟨this.1.symm,this.2⟩
   rcases ZC.1 hc with hc|hc
   · exact⟨((hI.own 701 _ q3).2 c hc).1.symm,((hI.own 701 _ q3).2 c hc).2⟩
   exact⟨((hI.own 702 _ q4).2 c hc).1.symm,((hI.own 702 _ q4).2 c hc).2⟩
  refine⟨hI.defers,_,r1,p',t,b::(I.F 701++I.F 702),?_,q1,⟨⟨_,_,t',_,_,hcell',k1,k2,rfl⟩,?_,fun c hc=>(own c hc).2⟩,fun c hc=>(own c hc).1,hI.ext⟩
  · rcases q8 with ⟨rfl,h0⟩|⟨h0,rfl⟩
    · have r2:vs'=[]:=r2
      rw [r2,h0]
    obtain⟨v,vr,rfl,⟨cs,rfl,h3⟩,h4⟩:=r2
    have h4:vr=[]:=h4
    subst h4
    rw [P7 h3]
    match out t,h0 with
    | _::_,_=>rfl
  refine ZH.2 ⟨fun hm=>(ZC.1 hm).elim ap1 ap2,ZI.2 ⟨(hI.own 701 _ q3).1,(hI.own 702 _ q4).1,fun x hx y hy e=>?_⟩⟩
  subst e;exact hI.apart 701 702 (by decide) x hx hy
 cases e with
 | normal=>exact key hR
 | ret=>exact key hR
 | exit id=>exact hR.elim
 | goto l=>exact hR.elim
 | panic c=>exact hR.elim
 | outgrown=>exact hR.elim
def Vn:A→Option V0
 | .one (.t x)=>some (.one x)
 | .agg l=>match Hu (fun e=>match e with|E.t x=>some x|_=>none) l with|some ts=>some (.agg ts)|none=>none
 | _=>none
inductive PD (σ:St):List Operand→List V0→Prop where
 | nil:PD σ [] []
 | cons {x:Operand} {A0:A} {v:V0} {l:List Operand} {vs:List V0} (hx:Get σ true x A0) (hv:Vn A0=some v) (h:PD σ l vs):PD σ (x::l) (v::vs)
theorem Vm {I:Ip} {w:World} {x:A} {t:V0} {v:Value} (h:Vn x=some t) (hv:VA I w x v):∃ G,V0r false w t v G∧∀ c∈G,I.Z c:=by
 match x,h with
 | .one (.t x),h=>
  cases h
  obtain⟨G,h1,h2⟩:=hv
  exact⟨G,h1,h2⟩
 | .agg l,h=>
  rw [Vn] at h
  split at h
  · rename_i ts h1
    cases h
    obtain⟨cs,rfl,h3⟩:=hv
    have key:∀ {l:List E} {ts:List T} {cs:List Value},Hu (fun e=>match e with|E.t x=>some x|_=>none) l=some ts→VEs I w l cs→∃ G,Cs false w ts cs G∧∀ c∈G,I.Z c:=by
     intro l
     induction l with
     | nil=>intro ts cs h hv;cases h;exact⟨[],by unfold Cs;exact⟨hv,rfl⟩,fun _ hb=>by cases hb⟩
     | cons e l ih=>
      rintro ts cs h ⟨c,cr,rfl,g1,g2⟩
      rw [Hu] at h
      cases e with
      | t x=>
       simp only at h
       split at h
       · rename_i ts' h'
         cases h
         obtain⟨G2,k1,k2⟩:=ih h' g2
         obtain⟨G1,k3,k4⟩:=g1
         exact⟨G1++G2,by unfold Cs;exact⟨c,cr,G1,G2,rfl,k3,k1,rfl⟩,fun c hc=>(ZC.1 hc).elim (k4 c) (k2 c)⟩
       cases h
      | _=>simp at h
    obtain⟨G,k1,k2⟩:=key h1 h3
    exact⟨G,⟨cs,rfl,k1⟩,k2⟩
  cases h
 | .one (.rf _),h=>cases h
 | .one (.vw _ _),h=>cases h
 | .one (.pp _ _),h=>cases h
 | .one (.pr _ _ _ _),h=>cases h
 | .one (.sb _ _ _ _),h=>cases h
 | .one (.tl _ _ _),h=>cases h
 | .one (.pf _ _ _),h=>cases h
 | .one .no,h=>cases h
theorem PD.ok {l:List Operand} {ins:List V0} (h:PD σ l ins) {I:Ip} {w0:BB} {w:World} {a:Act} (hr:AU I w0 σ a w):∃ F,V0s false w ins (l.map a.eval) F∧∀ c∈F,I.Z c:=by
 induction h with
 | nil=>exact⟨[],⟨rfl,rfl⟩,fun _ hb=>by cases hb⟩
 | cons hx hv h ih=>
  obtain⟨F,ih,k1⟩:=ih
  obtain⟨G,hg,k2⟩:=Vm hv (hx.va hr rfl)
  exact⟨G++F,⟨_,_,G,F,rfl,hg,ih,rfl⟩,fun c hc=>(ZC.1 hc).elim (k2 c) (k1 c)⟩
def Vs (u i1 i2:Nat) (rs:List (Nat×R)):List (Nat×R):=Iw (Iw (Iw rs u) i1) i2
def YX (u i1 i2:Nat) (sl:List (Nat×(Bool×S))) (rs:List (Nat×R)):Bool:=nvB u sl rs&&nvB i1 sl rs&&nvB i2 sl rs&&!(St.has ⟨0,sl,rs⟩ i1)&&!(St.has ⟨0,sl,rs⟩ i2)
def XR (l:List Value):S:=match l with|[]=>.tup []|l=>.a (.agg (l.map fun v=>.t (.v v)))
theorem Hp {τ:Type} {f:FuncId} {x:Operand} {l:List Operand} {tys:Array TypeId} {ins:List V0} {pre:Pos→Prop} {post:Pos→Pos→τ→Prop} {out:τ→List Value} {u i1 i2:Nat} {p:Pos} (h:FnP P f ins pre post out) (ho:o.op=.call { callee:=.value (.func f),args:=(x::l).toArray,argTypes:=tys }) (hg:o.guard=none) (hd:o.dst.all (fun d=>Nat.blt d σ.n)=true)
 (hx:Get σ true x (.one (.pp u 0))) (hu:look σ.res u=some (Qw i1 i2 p)) (h1:look σ.res i1=some (IL p.L)) (h2:look σ.res i2=some (IL p.F)) (hne:i1≠i2∧u≠i1∧u≠i2) (hn:YX u i1 i2 σ.slots (Vs u i1 i2 σ.res)=true) (ha:PD σ l ins) (hp:pre p) (hcell:∀ t,(out t).all Value.oneCell'=true) :
 OpE P ops o σ fun σ'=>∃ z:Pos×τ,post p z.1 z.2∧σ'=St.put ⟨σ.n,σ.slots,(u,Qw i1 i2 z.1)::(i2,IL z.1.F)::(i1,IL z.1.L)::Vs u i1 i2 σ.res⟩ o.dst (true,XR (out z.2)):=by
 rintro w0 a w ⟨I,hr⟩ K Q hK
 simp only [Region.wanted,hg,if_true]
 simp only [YX,ZK,Bool.not_eq_true'] at hn
 obtain⟨⟨⟨⟨nu,n1⟩,n2⟩,hs1⟩,hs2⟩:=hn
 obtain⟨m1,ws,t',m2,c,cr,e1,⟨g1,_⟩,c',cr',e2,⟨_,g2,_⟩,c'',cr'',e3,⟨_,g3,_⟩,c3,cr3,e4,⟨g4,_⟩,c4,cr4,e5,⟨_,g5,_⟩,e6⟩:I.F u=[I.B u]∧∃ vs e,w.heap[I.B u]?=some (.cells (ZD vs) e (0,0))∧VEs I w _ vs:=hr.res _ _ hu
 have e6:cr4=[]:=e6
 simp only [C] at g2 g3 g5
 have k1:C true w (I9 p.L) (I.hd i1) (I.F i1):=hr.res _ _ h1
 have k2:C true w (I9 p.F) (I.hd i2) (I.F i2):=hr.res _ _ h2
 have hB:w.heap[I.B u]?=some (.cells #[I.hd i1,.int .i64 p.x,.int .i64 p.y,I.hd i2,.bool p.z] t' (0,0)):=by
  rw [m2,e1,e2,e3,e4,e5,e6,g1,g2.1,g3.1,g4,g5.1]
 have mu:I.B u∈I.F u:=by rw [m1];simp
 have hof:∀ c∈I.B u::(I.F i1++I.F i2),∃ i r,(i=u∨i=i1∨i=i2)∧look σ.res i=some r∧c∈I.F i:=fun c hc=>by
  rcases ZL.1 hc with rfl|hc
  · exact⟨u,_,.inl rfl,hu,mu⟩
  rcases ZC.1 hc with hc|hc
  · exact⟨i1,_,.inr (.inl rfl),h1,hc⟩
  exact⟨i2,_,.inr (.inr rfl),h2,hc⟩
 have hown:∀ c∈I.B u::(I.F i1++I.F i2),w0.own c∧DJ w c∧c<w.heap.size∧¬ I.Z c:=fun c hc=>by
  obtain⟨i,r,_,hi,hm⟩:=hof c hc
  exact⟨((hr.own i r hi).2 c hm).1,((hr.own i r hi).2 c hm).2,(hr.lt i c hm).1,(hr.lt i c hm).2⟩
 have hnd:(I.B u::(I.F i1++I.F i2)).Nodup:=ZH.2 ⟨fun hm=>(ZC.1 hm).elim (hr.apart u i1 hne.2.1 _ mu) (hr.apart u i2 hne.2.2 _ mu),ZI.2 ⟨(hr.own i1 _ h1).1,(hr.own i2 _ h2).1,fun x hx y hy e=>by subst e;exact hr.apart i1 i2 hne.1 x hx hy⟩⟩
 obtain⟨A,hV,hZ⟩:=ha.ok hr
 have hgood:Good w (I.B u::(I.F i1++I.F i2)):=hr.goodF fun c hc=>(hown c hc).1
 have hv:a.eval x=.pointer (some ⟨I.B u,0,none⟩):=hx.va hr rfl
 unfold Oper.wp
 rw [Et h.1 ho,List.map_cons,hv]
 refine (h.2 w (I.B u) p _ _ A hp hgood ⟨⟨_,_,t',_,_,hB,k1,k2,rfl⟩,hnd,fun c hc=>(hown c hc).2.1⟩ hV (fun c hc hm=>(hown c hm).2.2.2 (hZ c hc))).mono fun e w' hR=>?_
 obtain⟨p',t,G',rfl,hpost,⟨⟨q1,q2,e',G1',G2',hB',c1',c2',rfl⟩,hnd',hth'⟩,hfr,hc⟩:=hR
 obtain⟨nb',n12'⟩:=ZH.1 hnd'
 obtain⟨nd1,nd2,nd3⟩:=ZI.1 n12'
 have hlk:∀ i r,look (Vs u i1 i2 σ.res) i=some r→i≠u∧i≠i1∧i≠i2∧look σ.res i=some r:=fun i r hi=>by
  obtain⟨a1,a2⟩:=DW _ _ _ _ hi
  obtain⟨b1,b2⟩:=DW _ _ _ _ a2
  obtain⟨d1,d2⟩:=DW _ _ _ _ b2
  exact⟨d1,b1,a1,d2⟩
 have r1:=hr.drop (rs':=Vs u i1 i2 σ.res) fun i r hi=>(hlk i r hi).2.2.2
 obtain⟨I4,hZ4,hB4,r4,hF4⟩:∃ I4:Ip,I4.Z=I.Z∧I4.B u=I.B u∧AU I4 w0 ⟨σ.n,σ.slots,Vs u i1 i2 σ.res⟩ a w∧∀ i,∀ c∈I.B u::(I.F i1++I.F i2),c∉I4.F i:=by
  have r2:=r1.setF (u:=u) nu (fun r hi=>(hlk _ _ hi).1 rfl) (G:=[]) (fun b hb=>by cases hb)
  have r3:=r2.setF (u:=i1) n1 (fun r hi=>(hlk _ _ hi).2.1 rfl) (G:=[]) (fun b hb=>by cases hb)
  have r4:=r3.setF (u:=i2) n2 (fun r hi=>(hlk _ _ hi).2.2.1 rfl) (G:=[]) (fun b hb=>by cases hb)
  refine⟨_,?_,?_,r4,?_⟩
  · rfl
  · simp [Ip.set,hne.2.1,hne.2.2]
  intro i c hc hm
  simp only [Ip.set] at hm
  split at hm
  · cases hm
  split at hm
  · cases hm
  split at hm
  · cases hm
  rename_i h3 h4 h5
  obtain⟨j,r,hj,_,hcj⟩:=hof c hc
  exact hr.apart i j (by rcases hj with rfl|rfl|rfl<;>assumption) c hm hcj
 have hfree:∀ c∈I.B u::(I.F i1++I.F i2),EK I4 w0 w c:=fun c hc'=>⟨(hown c hc').1,(hown c hc').2.2.1,(hown c hc').2.1,by rw [hZ4];exact (hown c hc').2.2.2,fun i=>hF4 i c hc'⟩
 have r5:=r4.chgF hfree hc
 have hlt':∀ c∈I.B u::(G1'++G2'),c<w'.heap.size:=XJ.lt (w:=w') (b:=I.B u) (p:=p') ⟨_,_,e',_,_,hB',c1',c2',rfl⟩
 have hfree':∀ c∈I.B u::(G1'++G2'),EK I4 w0 w' c:=fun c hc'=>by
  rcases hfr c hc' with h|h
  · have:=hfree c h
    exact⟨this.1,hlt' c hc',hth' c hc',this.2.2.2⟩
  exact⟨.inl (Nat.le_trans hr.ext.size h),hlt' c hc',hth' c hc',fun hz=>by have:=r4.old c hz;omega,fun i hi=>by have:=(r4.lt i c hi).1;omega⟩
 have r6:=r5.addF (id:=i1) (by simpa [St.has] using hs1) (G:=G1') (u:=q1) (b:=0) (r:=IL p'.L) nd1 (fun c hc=>hfree' c (by simp [hc])) (by show C true w' _ _ _;simpa [Ip.set,I9] using c1')
 have r7:=r6.addF (id:=i2) (UA (by simpa [St.has] using hs2) hne.1 rfl) (G:=G2') (u:=q2) (b:=0) (r:=IL p'.F) nd2 (fun c hc=>(hfree' c (by simp [hc])).set fun hm=>nd3 c hm c hc rfl) (by show C true w' _ _ _;simpa [Ip.set,I9] using c2')
 have fb:=((hfree' (I.B u) (by simp)).set (id:=i1) (u:=q1) (b:=0) (fun hm=>nb' (ZO _ hm))).set (id:=i2) (u:=q2) (b:=0) (fun hm=>nb' (ZP _ hm))
 have r8:=r7.setF (u:=u) (by
  simp only [nvB,ZK] at nu ⊢
  exact⟨nu.1,by simp only [St.add,List.all_cons];exact by rw [nu.2];rfl⟩) (fun r hi=>by
  simp only [St.add] at hi
  rw [AF] at hi
  split at hi
  · rename_i e;exact hne.2.2 e.symm
  rw [AF] at hi
  split at hi
  · rename_i e;exact hne.2.1 e.symm
  exact (hlk _ _ hi).1 rfl) (G:=[I.B u]) (fun c hc=>by
  simp only [ZF] at hc;subst hc
  exact⟨fb.2.1,fb.2.2.2.1,fun i _=>fb.2.2.2.2 i⟩)
 have hdr:∀ {k1:Value} {l:List Int} {g:List Nat},C true w' (I9 l) k1 g→∃ a' l' k',k1=.slice a' l' k':=fun h=>by
  unfold I9 at h
  simp only [C] at h
  obtain⟨a',l',k',e,_⟩:=h
  exact⟨a',l',k',e⟩
 have tv:∀ {J:Ip} (v:Value),v.oneCell'=true→VE J w' (.t (.v v)) v:=fun v hv=>⟨[],by simp only [C];exact⟨trivial,trivial,hv⟩,by simp⟩
 have r9:=r8.keepR (u:=u) (r:=Qw i1 i2 p') ⟨by simp [Ip.set,hne.2.1,hne.2.2,hB4],_,e',by simpa [Ip.set,hne.2.1,hne.2.2,hB4] using hB',_,_,rfl,⟨by simp [Ip.set,hne.1,hne.2.1.symm],hdr c1'⟩,_,_,rfl,tv _ rfl,_,_,rfl,tv _ rfl,_,_,rfl,⟨by simp [Ip.set,hne.2.2.symm],hdr c2'⟩,_,_,rfl,tv _ rfl,rfl⟩ ⟨by simp [Ip.set],fun c hc=>by
  have hc:c∈[I.B u]:=by simpa [Ip.set] using hc
  simp only [ZF] at hc;subst hc
  exact⟨fb.1,fb.2.2.1⟩⟩
 refine hK _ _ _ ⟨(p',t),hpost,rfl⟩ ⟨_,r9.put hd ?_⟩
 have ht:=hcell t
 unfold XR
 match out t,ht with
 | [],_=>exact⟨[],rfl,rfl⟩
 | v::vs,ht=>exact⟨_,rfl,Lx ht⟩
end
open Go.D
def PX (n:Nat) (p:Pos):Prop:=p.L.length=p.F.length∧p.L.length+n≤24
structure Prt where
 z:Bool
 a:Int
 b:Int
def PY (n:Nat) (p p':Pos) (_:Prt):Prop:=p'.L.length=p.L.length+n∧p'.F.length=p.F.length+n
def MD (t:Prt):List Value:=[.bool t.z,.int .i64 t.a,.int .i64 t.b]
def Jh (t:BD):List Nat→Nat
 | [a,b]=>a+b
 | [a]=>if t.Kind=6 then a else 0
 | _=>if t.Kind=3 then 1 else 0
def FX:Tr→Nat
 | .leaf t=>Jh t []
 | .un t x=>Jh t [FX x]
 | .bin t x y=>Jh t [FX x,FX y]
theorem Ie (x:Tr):FX x=Jh x.tok (x.kids.map FX):=by cases x<;>rfl
def ML (l:List BD):Nat:=(l.filter fun t=>decide (t.Kind=3)).length
theorem Xf:∀ x:Tr,good x→FX x≤ML (AO x):=
 Tr.ind fun x ih hg=>by
  rw [Ie]
  rcases (E2 hg).2.2 with ⟨hk,_⟩|⟨y,hk,hk4⟩|⟨y,z,hk,hk4⟩
  · rw [HS,hk]
    simp only [ZE,Jh,DQ,ZQ,List.nil_append,ML]
    split<;>simp_all
  · have hy:=ih y (by rw [hk];simp) (CM hg y (by rw [hk];simp))
    rw [HS,hk]
    simp only [ZE,Jh,EM,ML,ZR,ZS] at hy ⊢
    split<;>omega
  have hy:=ih y (by rw [hk];simp) (CM hg y (by rw [hk];simp))
  have hz:=ih z (by rw [hk];simp) (CM hg z (by rw [hk];simp))
  rw [HS,hk]
  simp only [ZE,Jh,DQ,List.flatMap_cons,ZQ,List.append_nil,ML,ZR,ZS] at hy hz ⊢
  omega
theorem Mq (fr tz:Int):FnP Z9 149 [.one (.v (.int .i64 fr)),.one (.v (.int .i64 tz))] (fun p=>p.F.length≤24) (fun p p' (_:Unit)=>p'.L=p.L∧p'.F.length=p.F.length) (fun _=>[]):=by
 refine FnP.walk ZV rfl (by kernel_rfl) ZW rfl (fun b p=>rfl) fun w0 b p hp=>?_
 refine Af (An ?_);refine Aa (AW.block (Cp (fun (i:Nat) (F1:List Int)=>(i≤F1.length∧F1.length=p.F.length)∧True) (fun (i:Nat) (F1:List Int)=>⟨_,[(6,(true,.a (.one (.t (.v (.int .i64 (i:Nat))))))),(0,_),(1,_),(2,_)],[(700,(Qw 701 702 p)),(701,(IL p.L)),(702,(IL F1)),(703,.blk (some 700) b)]⟩) (fun (i:Nat) (F1:List Int)=>F1.length-i) (0) (p.F) ⟨⟨Nat.zero_le _,U⟩,Y⟩ Aw ?_))
 rintro i F1 ⟨hk,he⟩
 refine Ae (Af (Ab ?_));refine Ab ?_;refine Ac (Cx U (.no U) U (.tm U)) U ?_;refine Bq K8 ?_;refine Bb Cc ?_;refine Bi (.rf U) ZA ?_;refine AWl.lt ?_;refine Aa (Ai (.tm U) (fun h13=>?_) (fun h13=>?_))
 · try simp only [BE,AN,AM] at h13
   try simp only [ZJ] at h13
   try simp at h13
   obtain⟨f1,hf1⟩:∃ ξ,F1[i]?=some ξ:=⟨_,List.getElem?_eq_getElem (by omega)⟩
   refine Am (Ae (AW.block (Ae (As (Ay [0,1,2,6] [700,701,702,703]) ?_))));refine Ad (Ab ?_);refine Ab ?_;refine Ac (Ma U (.no U) U (.tm U) (.tm U) (fun _=>by omega)) U ?_;refine Ac (J5 U (.no U) U (.tm U) (.const U)) U ?_;refine Bw ?_;refine Aa (Ai (.tm U) (fun h20=>?_) (fun h20=>?_))
   · try simp only [BE,AN,AM] at h20
     try simp only [ZJ] at h20
     try simp at h20
     refine Bx 15 (DM [[],[0],[0,1],[0,1,2],[],[],[5],[5,6],[5,6,7],[],[5,6,7,8,9],[5,6,7,8,9,10],[],[5,6,7,8,9,10,11,12],[0,1,2,3,4,5,6,7,8,9,10,11,12,13]]) (by kernel_rfl) (by kernel_rfl) (by kernel_rfl) ?_;refine Az ?_;refine AB.s (fun _ hs=>(by exact Cx U (.no U) (Ag hs U) (hs.tm U))) ?_;refine AB.s (fun _ hs=>(by exact Bj U (.no U) (Ag hs U) (hs.tm U) K8)) ?_;refine AB.s (fun _ hs=>(by exact Be U (.no U) (Ag hs U) (hs.tm U) (hs.res _ _ U) Cc U U)) ?_;refine Az ?_;refine Az ?_;refine AB.s (fun _ hs=>(by exact Cx U (.no U) (Ag hs U) (hs.tm U))) ?_;refine AB.s (fun _ hs=>(by exact Bj U (.no U) (Ag hs U) (hs.tm U) K8)) ?_;refine AB.s (fun _ hs=>(by exact Be U (.no U) (Ag hs U) (hs.tm U) (hs.res _ _ U) Cc U U)) ?_;refine Az ?_
     refine AB.s (fun _ hs=>(by exact A3 U (.no U) (Ag hs U) (hs.tm U) (hs.res _ _ U) (hs.tm U) ZA ty3 (fun _=>⟨by omega,(by exact Ao hf1)⟩))) ?_;refine AB.s (fun _ hs=>(by exact Ca U (.no U) (Ag hs U) (hs.tm U) (hs.res _ _ U) (by exact Ao hf1) ty3 U U)) ?_;refine Az ?_;refine AB.s (fun _ hs=>Kr U (.no U) (Ag hs U) (hs.tm U) (hs.tm U)) ?_;refine AB.s (fun _ hs=>(by exact A3 U (.no U) (Ag hs U) (hs.tm U) (hs.res _ _ U) (hs.tm U) ZA ty3 (fun _=>⟨by omega,(by exact Ao hf1)⟩))) ?_;refine Bs U U ?_;refine Cu (C0 U U U (.tm U) U (.tm U) U (by exact Ao hf1) ty3 U U U U) ?_;refine Aa (As (Ay [0,1,2,6] [700,701,702,703]) ?_);refine Ad (Ab ?_);refine A9 ?_;refine Ah ?_;refine Aa ?_
     repeat (with_reducible refine Av ?_)
     refine BV.next (i+1) (F1.set i (bits .or .i64 f1 tz)) ⟨⟨by simp;omega,by simp;exact hk.2⟩,Y⟩ (by simp;omega) (Au rfl ⟨rfl,rfl,rfl,rfl,Y⟩ ⟨(by rfl),(by rfl),(by refine congrArg (fun r=>some (R.row 1 r)) ?_;first|rfl|(simp [ZT];done)),(by rfl),Y⟩)
   try simp only [BE,AN,AM] at h20
   try simp only [ZJ] at h20
   try simp at h20
   refine Am (Ad (Ab ?_));refine A9 ?_;refine Ah ?_;refine Aa ?_
   repeat (with_reducible refine Av ?_)
   refine BV.next (i+1) (F1) ⟨⟨by omega,hk.2⟩,Y⟩ (by omega) (Au rfl ⟨rfl,rfl,rfl,rfl,Y⟩ ⟨(by rfl),(by rfl),(by refine congrArg (fun r=>some (R.row 1 r)) ?_;first|rfl|(simp [ZT];done)),(by rfl),Y⟩)
 try simp only [BE,AN,AM] at h13
 try simp only [ZJ] at h13
 try simp at h13
 refine Bf ?_
 show Mc _ _ _ _ _ _
 refine⟨⟨p.L,F1,p.x,p.y,p.z⟩,(),_,_,?_,rfl,(by rfl),(by rfl),rfl,rfl,.nil,.inl ⟨rfl,rfl⟩⟩
 exact⟨rfl,hk.2⟩
theorem OA (x:Tr) (hg:good x) (hz:(AO x).length≤1048576) (ih:∀ y∈x.kids,∀ L,L=(AO y).map AS→FnP Z9 93 [.one (.sl 4 L)] (PX (FX y)) (PY (FX y)) MD):FnP Z9 93 [.one (.sl 4 ((AO x).map AS))] (PX (FX x)) (PY (FX x)) MD:=by
 refine FnP.walk ZX rfl (by kernel_rfl) ZY rfl (fun b p=>rfl) fun w0 b p hp=>?_
 have hlast:=Np x
 have hpos:=KP x
 have hp1:=hp.1
 have hp2:=hp.2
 refine Af (A6 (Bd 4 U U U Hh U U U) U ?_);refine Aa (Af (Ab ?_));refine Bi (.t) ZB ?_;refine C9 ?_;refine Ah ?_;refine Aa (Af (Ab ?_));refine Ab ?_;refine Ac (Ak U (.no U) U (.tm U) (.tm U) ZB C6 (fun _=>⟨by omega,Ao hlast⟩)) U ?_;refine Aj C6 ?_;refine A6 (Bd 6 U U U D1 U U U) U ?_;refine A4 C6 ?_;refine Aa (Ae (Ae (As (Ay [0,1,4,5,6] [700,701,702,703,4,6]) ?_)));refine Ad (Bq LO ?_);refine Bb ty3 ?_;refine Aa (AW.block (Af (Bw ?_)));refine Ah ?_;refine Aa (Ai (.tm U) (fun h25=>?_) (fun h25=>?_))
 · try simp at h25
   have hle:FX x=0:=by (rw [Ie,FY hg (by omega)];simp only [ZE,Jh];rw [if_neg (by omega)])
   refine Af (Ac (Bm (ps:=[(0,.const (.bool true))]) U U U Hh U U OT (.cons (.const U) U U MW .nil) U) U ?_);refine A4 Dl ?_;refine Aa (Aq ?_)
   show Mc _ _ _ _ _ _
   refine⟨p,⟨_,_,_⟩,_,_,?_,rfl,(by rfl),(by rfl),rfl,rfl,(.cell rfl rfl Dl rfl rfl .nil),.inr ⟨?_,rfl⟩⟩
   · exact⟨by omega,by omega⟩
   simp [MD]
 try simp at h25
 refine Af (Bw ?_);refine Ah ?_;refine Aa (Ai (.tm U) (fun h28=>?_) (fun h28=>?_))
 · try simp at h28
   have hle:FX x=1:=by (rw [Ie,FY hg (by omega)];simp only [ZE,Jh];rw [if_pos (by omega)])
   refine Af (Ab ?_);refine Ac (Cx U (.no U) U (.tm U)) U ?_;refine Bq Hv ?_;refine Bb Cc ?_;refine Bi (.rf U) ZA ?_;refine Ac (F9 U (.no U) U (.const U) (.tm U) (fun _=>by omega)) U ?_;refine Ah ?_;refine Aa (Ae (As (Ay [0,1,4,5,6,7,24] [700,701,702,703,4,6]) ?_));refine As (Ay [0,1,4,5,6,7,24] [700,701,702,703,4,6]) ?_;apply Cr (N:=9) (k:=4) (Hs:=[0,1,2,3,5,6]) (ms:=[[],[4],[7],[4,7],[4,7,8]]) (es:=[(0,4,1),(0,7,2),(1,7,3),(2,4,3),(3,8,4)]) (σ1:=_) (SM:=⟨_,[(0,_),(1,_),(4,_),(5,_),(6,_),(7,_),(24,_),(36,_),(37,_),(38,_),(39,_),(41,_),(42,_)],[(702,_),(703,_),(4,_),(6,_)]⟩)
   case hm=>kernel_rfl
   case hB=>kernel_rfl
   case hP=>kernel_rfl
   case hL=>kernel_rfl
   case hN=>rfl
   case hpre=>
    apply Ax (P:=Z9) 0 rfl (Bh rfl (.no rfl) rfl (.tm rfl)) (by exact BM.slot (t:=0) rfl) rfl rfl rfl;apply Ax (P:=Z9) 1 rfl (Bh rfl (.no rfl) rfl (.tm rfl)) (by exact BM.slot (t:=0) rfl) rfl rfl rfl;apply Ax (P:=Z9) 2 rfl ((by exact Cx rfl (.no rfl) rfl (.tm rfl))) (by exact .pp) rfl rfl rfl;apply Ax (P:=Z9) 3 rfl ((by exact Bj rfl (.no rfl) rfl (.tm rfl) Hv)) (by exact .pp) rfl rfl rfl;apply Ax (P:=Z9) 5 rfl ((by exact Bj rfl (.no rfl) rfl (.tm rfl) Hw)) (by exact .pp) rfl rfl rfl;apply Ax (P:=Z9) 6 rfl ((by exact Be rfl (.no rfl) rfl (.tm rfl) rfl ty3 rfl rfl)) (by exact BM.load (x:=.tmp 41) (.tm rfl) rfl ty3 rfl rfl) rfl rfl rfl;exact EC.nil
   case hS=>exact Ba
   case hH=>
    refine AX.mv ?_;refine AX.mv ?_;refine AX.nc ?_;refine AX.fq Hv ?_;refine AX.fq Hw ?_;refine AX.lq ty3 ?_
    trivial
   apply Dh.new0 (i:=4);rfl;rfl;rfl
   · intro w9 _;refine Bb Cc ?_;exact Al [0,1,4,5,6,7,24,36,37,38,39,40,41,42] [700,701,702,703,4,6]
   intros;exact Ba
   apply Dh.new0 (i:=7);rfl;rfl;rfl
   · intro w9 _;refine Ac (Cf (xs:=[.tmp 42]) (rows:=[AQ x.tok.Letter]) U U U (.cons (.tm U) U U .nil) ZA in3 U U (U)) U ?_;exact Al [0,1,4,5,6,7,24,36,37,38,39,41,42,43] [700,701,702,703,4,6]
   intros;exact Ba
   apply Dh.new0 (i:=7);rfl;rfl;rfl
   · intro w9 _;refine Ac (Cf (xs:=[.tmp 42]) (rows:=[AQ x.tok.Letter]) U U U (.cons (.tm U) U U .nil) ZA in3 U U (U)) U ?_;exact Al [0,1,4,5,6,7,24,36,37,38,39,40,41,42,43] [700,701,702,703,4,6]
   intros;exact Ba
   apply Dh.old0 (i:=4);rfl;rfl;rfl
   · intro w9 _;refine Bb Cc ?_;exact Aa Aw
   apply Dh.new0 (i:=8);rfl;rfl;rfl
   · intro w9 _;refine Bt (B8 U U U (.tm U) U (.tm U) (by exact .t) (by rfl) ZA in3 U (by (simp [AH];omega)) (by (unfold maxLen;simp [AH];omega))) U ?_;exact Al [0,1,4,5,6,7,24,36,37,38,39,41,42,44] [700,701,702,703,4,6]
   intros;exact Ba
   refine Dh.fin0 (k:=4) rfl ?_;intro  hp
   obtain _:=hp
   refine Ac (Cx U (.no U) U (.tm U)) U ?_;refine Bq Hv ?_;refine A4 Cc ?_;refine Aa (Ae (As (Ay [0,1,4,5,6,7,24] [700,701,702,703,4,6]) ?_));refine Ad (Ab ?_);refine Ab ?_;refine Ac (Cx U (.no U) U (.tm U)) U ?_;refine Bq K8 ?_;refine Bb Cc ?_;refine Ac (Cf (xs:=[.const (.int .i64 (0))]) (rows:=[AQ 0]) U U U (.cons (.const U) U U .nil) ZA in3 U U (U)) U ?_;refine Bt (B8 U U U (.tm U) U (.tm U) (by exact .t) (by rfl) ZA in3 U (by (simp [AH];omega)) (by (unfold maxLen;simp [AH];omega))) U ?_;refine Bv (Ay [0,1,4,5,6,7,24,47,53] [700,701,702,703,4,6]) ?_;refine Ac (Cx U (.no U) U (.tm U)) U ?_;refine Bq K8 ?_;refine A4 Cc ?_;refine Aa (Af (Ab ?_));refine Ab ?_;refine Ac (Bm (ps:=[(1,.tmp 56),(2,.tmp 57)]) U U U Hh U U OT (.cons (.tm U) U U MV (.cons (.tm U) U U MU .nil)) U) U ?_;refine A4 Dl ?_;refine Aa (Aq ?_)
   show Mc _ _ _ _ _ _
   refine⟨⟨p.L++[x.tok.Letter],p.F++[0],p.x,p.y,p.z⟩,⟨_,_,_⟩,_,_,?_,rfl,(by (refine congrArg (fun r=>some (R.row 1 r)) ?_;simp [AQ];done)),(by (refine congrArg (fun r=>some (R.row 1 r)) ?_;simp [AQ];done)),rfl,rfl,(.cell rfl rfl Dl rfl rfl .nil),.inr ⟨?_,rfl⟩⟩
   · exact⟨by simp;omega,by simp;omega⟩
   simp [MD]
 try simp at h28
 refine Af (Bw ?_);refine Ah ?_;refine Aa (Ai (.tm U) (fun h59=>?_) (fun h59=>?_))
 · try simp at h59
   obtain⟨y,z,hk2,hte,hgy,hgz⟩:=Ft hg (by omega)
   have hle:FX x=FX y+FX z:=by (rw [Ie,hk2];rfl)
   have hln:(AO x).length=(AO y).length+(AO z).length+1:=by rw [hte];simp;omega
   refine Ae (As (Ay [0,1,4,5,6,24] [700,701,702,703,4,6]) ?_);refine Ad (Ab ?_);refine Ab ?_;refine Ac (Cv (m:=(AO y).length+(AO z).length) U (.no U) U (.tm U) .no (.yes (.tm U) (fun _=>by first|omega|(simp<;>omega))) ZB C6 (fun _=>⟨by omega,by first|omega|(simp;omega)⟩)) U ?_;refine Ac (Bc (FnT.fr (FE hgz (pre:=AO y) (by simp;omega) _ (JC hte))) U (.no U) U (.cons (.tm U) U .nil)) U ?_;refine Ah ?_;refine Aa (Af (Ab ?_));refine Ab ?_;refine Ab ?_;refine Ac (Cv (m:=(AO y).length) U (.no U) U (.tm U) .no (.yes (.tm U) (fun _=>by first|omega|(simp<;>omega))) ZB C6 (fun _=>⟨by omega,by first|omega|(simp;omega)⟩)) U ?_
   refine Bn (Hp (u:=700) (i1:=701) (i2:=702) (p:=p) (ih y (by rw [hk2];simp) _ (Gi (by rw [hte,ZU]))) U U U (.tm U) U (by rfl) (by rfl) ⟨by decide,by decide,by decide⟩ U (.cons (.tm U) U .nil) ⟨hp1,by omega⟩ (fun _=>rfl)) ?_
   rintro _ ⟨z69,hz69,rfl⟩
   try dsimp only at hz69
   refine A6 (Bd 9 U U U Hh U U U) U ?_;refine A4 Dl ?_;refine Aa (Ae (As (Ay [0,1,4,5,6,8,9,24] [700,701,702,703,4,6,9]) ?_));refine Ad (Ab ?_);refine Ab ?_;refine Ab ?_;refine Ab ?_;refine Ac (Cv (n:=(AO y).length) (m:=(AO y).length+(AO z).length) U (.no U) U (.tm U) (.yes (.tm U) (fun _=>by first|omega|(simp<;>omega))) (.yes (.tm U) (fun _=>by first|omega|(simp<;>omega))) ZB C6 (fun _=>⟨by omega,by first|omega|(simp;omega)⟩)) U ?_;refine Bn (Hp (u:=700) (i1:=701) (i2:=702) (p:=z69.1) (ih z (by rw [hk2];simp) _ (L6 hte)) U U U (.tm U) U (by rfl) (by rfl) ⟨by decide,by decide,by decide⟩ U (.cons (.tm U) U .nil) (by obtain⟨h3,h4⟩:=hz69;exact⟨by omega,by omega⟩) (fun _=>rfl)) ?_
   rintro _ ⟨z75,hz75,rfl⟩
   try dsimp only at hz75
   refine A6 (Bd 10 U U U Hh U U U) U ?_;refine A4 Dl ?_;refine Aa (Ae (As (Ay [0,1,4,5,6,8,9,10,24] [700,701,702,703,4,6,9,10]) ?_));refine Ad (Ab ?_);refine Bq D3 ?_;refine Bb ty3 ?_;refine Bq FP ?_;refine Bb ty3 ?_;refine Bn (Hp (u:=700) (i1:=701) (i2:=702) (p:=z75.1) (Mq _ _) U U U (.tm U) U (by rfl) (by rfl) ⟨by decide,by decide,by decide⟩ U (.cons (.tm U) U (.cons (.tm U) U .nil)) (by obtain⟨h3,h4⟩:=hz69;obtain⟨h5,h6⟩:=hz75;show z75.1.F.length≤24;omega) (fun _=>rfl)) ?_
   rintro _ ⟨z81,hz81,rfl⟩
   try dsimp only at hz81
   refine Aa (Ae (As (Ay [0,1,4,5,6,8,9,10,24] [700,701,702,703,4,6,9,10]) ?_));refine Ad (Bq Hk ?_);refine Bb ty4 ?_;refine Ab ?_;refine Ac (Bj U (by exact .yes1 U U U U) U (.tmp U (by exact fun _=>rfl)) Hk) U ?_;refine Ac (Be U (by exact .yes1 U U U U) U (.tmp U (by exact id)) U ty4 U U) U ?_;refine Cn ?_;refine Bq FP ?_;refine Bb ty3 ?_;refine Bq D3 ?_;refine Bb ty3 ?_;refine Ac (Bm (ps:=[(0,.tmp 87),(1,.tmp 89),(2,.tmp 91)]) U U U Hh U U OT (.cons (.tm U) U U MW (.cons (.tm U) U U MV (.cons (.tm U) U U MU .nil))) U) U ?_;refine A6 (Bd 11 U U U Hh U U U) U ?_;refine A4 Dl ?_;refine Aa (Ae (Ae (As (Ay [0,1,4,5,6,8,9,10,11,24] [700,701,702,703,4,6,9,10,11]) ?_)));refine Ad (Bq Hk ?_);refine Bb ty4 ?_;refine Aa (Ai (.tm U) (fun h94=>?_) (fun h94=>?_))
   · try simp at h94
     refine Ad (Bq FP ?_);refine Bb ty3 ?_;refine Bq FP ?_;refine Bb ty3 ?_;refine Ac (Kr U (.no U) U (.tm U) (.tm U)) U ?_;refine Bq FP ?_;refine A4 ty3 ?_;refine Aa (Ae (Ae (As (Ay [0,1,4,5,6,8,9,10,11,24] [700,701,702,703,4,6,9,10,11]) ?_)));refine Ad (Bq Hk ?_);refine Bb ty4 ?_;refine Aa (Ai (.tm U) (fun h102=>?_) (fun h102=>?_))
     · try simp at h102
       refine Ad (Bq D3 ?_);refine Bb ty3 ?_;refine Bq D3 ?_;refine Bb ty3 ?_;refine Ac (Kr U (.no U) U (.tm U) (.tm U)) U ?_;refine Bq D3 ?_;refine A4 ty3 ?_;refine Aa (Ae (As (Ay [0,1,4,5,6,8,9,10,11,24] [700,701,702,703,4,6,9,10,11]) ?_));refine Ad (Bb Dl ?_);refine A4 Dl ?_;refine Aa (Aq ?_)
       show Mc _ _ _ _ _ _
       refine⟨z81.1,⟨_,_,_⟩,_,_,?_,rfl,(by rfl),(by rfl),rfl,rfl,(.cell rfl rfl Dl rfl rfl .nil),.inr ⟨?_,rfl⟩⟩
       · exact (by obtain⟨h3,h4⟩:=hz69;obtain⟨h5,h6⟩:=hz75;obtain⟨h7,h8⟩:=hz81;exact⟨by rw [h7];omega,by omega⟩)
       simp [MD]
     try simp at h102
     refine Am (Af (Bb Dl ?_));refine A4 Dl ?_;refine Aa (Aq ?_)
     show Mc _ _ _ _ _ _
     refine⟨z81.1,⟨_,_,_⟩,_,_,?_,rfl,(by rfl),(by rfl),rfl,rfl,(.cell rfl rfl Dl rfl rfl .nil),.inr ⟨?_,rfl⟩⟩
     · exact (by obtain⟨h3,h4⟩:=hz69;obtain⟨h5,h6⟩:=hz75;obtain⟨h7,h8⟩:=hz81;exact⟨by rw [h7];omega,by omega⟩)
     simp [MD]
   try simp at h94
   refine Am (Ae (Af (Bq Hk ?_)));refine Bb ty4 ?_;refine Aa (Ai (.tm U) (fun h102=>?_) (fun h102=>?_))
   · try simp at h102
     refine Ad (Bq D3 ?_);refine Bb ty3 ?_;refine Bq D3 ?_;refine Bb ty3 ?_;refine Ac (Kr U (.no U) U (.tm U) (.tm U)) U ?_;refine Bq D3 ?_;refine A4 ty3 ?_;refine Aa (Ae (As (Ay [0,1,4,5,6,8,9,10,11,24] [700,701,702,703,4,6,9,10,11]) ?_));refine Ad (Bb Dl ?_);refine A4 Dl ?_;refine Aa (Aq ?_)
     show Mc _ _ _ _ _ _
     refine⟨z81.1,⟨_,_,_⟩,_,_,?_,rfl,(by rfl),(by rfl),rfl,rfl,(.cell rfl rfl Dl rfl rfl .nil),.inr ⟨?_,rfl⟩⟩
     · exact (by obtain⟨h3,h4⟩:=hz69;obtain⟨h5,h6⟩:=hz75;obtain⟨h7,h8⟩:=hz81;exact⟨by rw [h7];omega,by omega⟩)
     simp [MD]
   try simp at h102
   refine Am (Af (Bb Dl ?_));refine A4 Dl ?_;refine Aa (Aq ?_)
   show Mc _ _ _ _ _ _
   refine⟨z81.1,⟨_,_,_⟩,_,_,?_,rfl,(by rfl),(by rfl),rfl,rfl,(.cell rfl rfl Dl rfl rfl .nil),.inr ⟨?_,rfl⟩⟩
   · exact (by obtain⟨h3,h4⟩:=hz69;obtain⟨h5,h6⟩:=hz75;obtain⟨h7,h8⟩:=hz81;exact⟨by rw [h7];omega,by omega⟩)
   simp [MD]
 try simp at h59
 refine Ae (As (Ay [0,1,4,5,6,24] [700,701,702,703,4,6]) ?_);refine Ad (Bw ?_);refine Ah ?_;refine Aa (Ai (.tm U) (fun h110=>?_) (fun h110=>?_))
 · try simp at h110
   obtain⟨y,z,hk2,hte,hgy,hgz⟩:=Ft hg (by omega)
   have hle:FX x=FX y+FX z:=by (rw [Ie,hk2];rfl)
   have hln:(AO x).length=(AO y).length+(AO z).length+1:=by rw [hte];simp;omega
   refine Af (Ab ?_);refine Ab ?_;refine Ac (Cv (m:=(AO y).length+(AO z).length) U (.no U) U (.tm U) .no (.yes (.tm U) (fun _=>by first|omega|(simp<;>omega))) ZB C6 (fun _=>⟨by omega,by first|omega|(simp;omega)⟩)) U ?_;refine Ac (Bc (FnT.fr (FE hgz (pre:=AO y) (by simp;omega) _ (JC hte))) U (.no U) U (.cons (.tm U) U .nil)) U ?_;refine Ah ?_;refine Aa (Ae (As (Ay [0,1,4,5,6,12,24] [700,701,702,703,4,6]) ?_));refine Ad (Ab ?_);refine Ab ?_;refine Ab ?_;refine Ac (Cv (m:=(AO y).length) U (.no U) U (.tm U) .no (.yes (.tm U) (fun _=>by first|omega|(simp<;>omega))) ZB C6 (fun _=>⟨by omega,by first|omega|(simp;omega)⟩)) U ?_
   refine Bn (Hp (u:=700) (i1:=701) (i2:=702) (p:=p) (ih y (by rw [hk2];simp) _ (Gi (by rw [hte,ZU]))) U U U (.tm U) U (by rfl) (by rfl) ⟨by decide,by decide,by decide⟩ U (.cons (.tm U) U .nil) ⟨hp1,by omega⟩ (fun _=>rfl)) ?_
   rintro _ ⟨z120,hz120,rfl⟩
   try dsimp only at hz120
   refine A6 (Bd 13 U U U Hh U U U) U ?_;refine A4 Dl ?_;refine Aa (Af (Ab ?_));refine Ab ?_;refine Ab ?_;refine Ab ?_;refine Ac (Cv (n:=(AO y).length) (m:=(AO y).length+(AO z).length) U (.no U) U (.tm U) (.yes (.tm U) (fun _=>by first|omega|(simp<;>omega))) (.yes (.tm U) (fun _=>by first|omega|(simp<;>omega))) ZB C6 (fun _=>⟨by omega,by first|omega|(simp;omega)⟩)) U ?_;refine Bn (Hp (u:=700) (i1:=701) (i2:=702) (p:=z120.1) (ih z (by rw [hk2];simp) _ (L6 hte)) U U U (.tm U) U (by rfl) (by rfl) ⟨by decide,by decide,by decide⟩ U (.cons (.tm U) U .nil) (by obtain⟨h3,h4⟩:=hz120;exact⟨by omega,by omega⟩) (fun _=>rfl)) ?_
   rintro _ ⟨z126,hz126,rfl⟩
   try dsimp only at hz126
   refine A6 (Bd 14 U U U Hh U U U) U ?_;refine A4 Dl ?_;refine Aa (Ae (As (Ay [0,1,4,5,6,12,13,14,24] [700,701,702,703,4,6,13,14]) ?_));refine Ad (Bq Hk ?_);refine Bb ty4 ?_;refine Ab ?_;refine Ac (Bj U (by exact .not1 U U U U) U (.tmp U (by exact fun _=>rfl)) Hk) U ?_;refine Ac (Be U (by exact .not1 U U U U) U (.tmp U (by exact id)) U ty4 U U) U ?_;refine Co ?_;refine Bq FP ?_;refine Bb ty3 ?_;refine Bq FP ?_;refine Bb ty3 ?_;refine Ac (Kr U (.no U) U (.tm U) (.tm U)) U ?_;refine Bq D3 ?_;refine Bb ty3 ?_;refine Bq D3 ?_;refine Bb ty3 ?_;refine Ac (Kr U (.no U) U (.tm U) (.tm U)) U ?_;refine Ac (Bm (ps:=[(0,.tmp 132),(1,.tmp 137),(2,.tmp 142)]) U U U Hh U U OT (.cons (.tm U) U U MW (.cons (.tm U) U U MV (.cons (.tm U) U U MU .nil))) U) U ?_;refine A4 Dl ?_;refine Aa (Aq ?_)
   show Mc _ _ _ _ _ _
   refine⟨z126.1,⟨_,_,_⟩,_,_,?_,rfl,(by rfl),(by rfl),rfl,rfl,(.cell rfl rfl Dl rfl rfl .nil),.inr ⟨?_,rfl⟩⟩
   · exact (by obtain⟨h3,h4⟩:=hz120;obtain⟨h5,h6⟩:=hz126;exact⟨by omega,by omega⟩)
   simp [MD]
 try simp at h110
 refine Af (Bw ?_);refine Ah ?_;refine Aa (Ai (.tm U) (fun h144=>?_) (fun h144=>?_))
 · try simp at h144
   obtain⟨y,hk2,hte,hgy⟩:=HD hg (by omega)
   have hle:FX x=FX y:=by (rw [Ie,hk2];simp only [ZE,Jh];rw [if_pos (by omega)])
   have hln:(AO x).length=(AO y).length+1:=by rw [hte];simp
   refine Af (Ab ?_);refine Ab ?_;refine Ab ?_;refine Ac (Cv (m:=(AO y).length) U (.no U) U (.tm U) .no (.yes (.tm U) (fun _=>by first|omega|(simp<;>omega))) ZB C6 (fun _=>⟨by omega,by first|omega|(simp;omega)⟩)) U ?_;refine Bn (Hp (u:=700) (i1:=701) (i2:=702) (p:=p) (ih y (by rw [hk2];simp) _ (Gi hte)) U U U (.tm U) U (by rfl) (by rfl) ⟨by decide,by decide,by decide⟩ U (.cons (.tm U) U .nil) ⟨hp1,by omega⟩ (fun _=>rfl)) ?_
   rintro _ ⟨z150,hz150,rfl⟩
   try dsimp only at hz150
   refine A6 (Bd 15 U U U Hh U U U) U ?_;refine A4 Dl ?_;refine Aa (Ae (As (Ay [0,1,4,5,6,15,24] [700,701,702,703,4,6,15]) ?_));refine Ad (Ab ?_);refine Bq D3 ?_;refine Bb ty3 ?_;refine Bq FP ?_;refine Bb ty3 ?_;refine Bn (Hp (u:=700) (i1:=701) (i2:=702) (p:=z150.1) (Mq _ _) U U U (.tm U) U (by rfl) (by rfl) ⟨by decide,by decide,by decide⟩ U (.cons (.tm U) U (.cons (.tm U) U .nil)) (by obtain⟨h3,h4⟩:=hz150;show z150.1.F.length≤24;omega) (fun _=>rfl)) ?_
   rintro _ ⟨z156,hz156,rfl⟩
   try dsimp only at hz156
   refine Aa (Ae (As (Ay [0,1,4,5,6,15,24] [700,701,702,703,4,6,15]) ?_));refine Ad (Bq FP ?_);refine Bb ty3 ?_;refine Bq D3 ?_;refine Bb ty3 ?_;refine Ac (Bm (ps:=[(0,.const (.bool true)),(1,.tmp 158),(2,.tmp 160)]) U U U Hh U U OT (.cons (.const U) U U MW (.cons (.tm U) U U MV (.cons (.tm U) U U MU .nil))) U) U ?_;refine A4 Dl ?_;refine Aa (Aq ?_)
   show Mc _ _ _ _ _ _
   refine⟨z156.1,⟨_,_,_⟩,_,_,?_,rfl,(by rfl),(by rfl),rfl,rfl,(.cell rfl rfl Dl rfl rfl .nil),.inr ⟨?_,rfl⟩⟩
   · exact (by obtain⟨h3,h4⟩:=hz150;obtain⟨h7,h8⟩:=hz156;exact⟨by rw [h7];omega,by omega⟩)
   simp [MD]
 try simp at h144
 have hle:FX x=0:=by (rw [Ie];rcases (E2 hg).2.2 with ⟨hk,_⟩|⟨y,hk,hk4⟩|⟨y,z,hk,hk4⟩<;>rw [hk]<;>simp only [ZE,Jh]<;>first|omega|(rw [if_neg (by omega)]))
 refine Am (Af (Ac (Bm (ps:=[]) U U U Hh U U OT .nil U) U ?_));refine A4 Dl ?_;refine Aa (Aq ?_)
 show Mc _ _ _ _ _ _
 refine⟨p,⟨_,_,_⟩,_,_,?_,rfl,(by rfl),(by rfl),rfl,rfl,(.cell rfl rfl Dl rfl rfl .nil),.inr ⟨?_,rfl⟩⟩
 · exact⟨by omega,by omega⟩
 simp [MD]
theorem PS:∀ x:Tr,good x→(AO x).length≤1048576→FnP Z9 93 [.one (.sl 4 ((AO x).map AS))] (PX (FX x)) (PY (FX x)) MD:=
 Tr.ind fun x ih hg hz=>OA x hg hz fun y hy L hL=>by subst hL;exact ih y hy (CM hg y hy) (by have:=LI hy;omega)
end Go.Q
