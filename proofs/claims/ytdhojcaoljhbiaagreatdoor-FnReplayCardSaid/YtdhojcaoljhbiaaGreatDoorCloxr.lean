import Derived.Test.YtdhojcaoljhbiaaGreatDoorDraw1xr
import Derived.Test.YtdhojcaoljhbiaaGreatDoorAbsWxr
import Derived.Test.YtdhojcaoljhbiaaGreatDoorStdxr
set_option linter.unusedVariables false
set_option linter.unusedSimpArgs false
namespace Go.Q
open Go.RowKit
section
variable {P:Program} {ops:Array Oper} {o:Oper} {σ:St} {q:Bool}
theorem RelI.drop {I:Ip} {w0:Base} {w:World} {a:Act} (h:RelI I w0 σ a w) {rs':List (Nat×R)} (hs:∀ i r,look rs' i=some r→look σ.res i=some r):RelI I w0 ⟨σ.n,σ.slots,rs'⟩ a w:=
 ⟨h.ext,h.defers,h.size,h.slots,fun i r hi=>h.res i r (hs i r hi),h.old,h.lt,fun i r hi=>h.own i r (hs i r hi),h.apart⟩
theorem RelI.setF {I:Ip} {w0:Base} {w:World} {a:Act} (h:RelI I w0 σ a w) {u:Nat} (hn:nvB u σ.slots σ.res=true) (hu:∀ r,look σ.res u≠some r) {G:List Nat} (hG:∀ b∈G,b<w.heap.size∧¬ I.Z b∧∀ i,i≠u→b∉I.F i):RelI (I.set u G (I.hd u) (I.B u)) w0 σ a w:=by
 simp only [nvB,Bool.and_eq_true,List.all_eq_true] at hn
 have hZ:∀ b,I.Z b→b∉I.F u:=fun b hz hb=>(h.lt u b hb).2 hz
 have hv:∀ i,i≠u→∀ b∈I.F i,b∉I.F u:=fun i hi=>h.apart i u hi
 have hmem:∀ {α:Type} {l:List (Nat×α)} {i:Nat} {x:α},look l i=some x→(i,x)∈l:=by
  intro α l
  induction l with
  | nil=>intro i x hx;cases hx
  | cons y l ih=>
   intro i x hx
   obtain⟨j,y⟩:=y
   rw [look_cons] at hx
   split at hx
   · rename_i e;subst e;cases hx;simp
   exact List.mem_cons_of_mem _ (ih hx)
 refine⟨h.ext,h.defers,h.size,fun i x hi=>?_,fun i r hi=>?_,h.old,fun i b hb=>?_,fun i r hi=>?_,fun i j hne b hb hb'=>?_⟩
 · have:=(h.slots i x hi).puv (G:=G) (Chg.refl w (I.F u)) hZ hv
   rw [S.puv_nv (hn.1 _ (hmem hi))] at this
   exact this
 · have hi':i≠u:=fun e=>hu r (e▸hi)
   have hnr:=hn.2 _ (hmem hi)
   have:=h.res i r hi
   cases r with
   | row k rows=>
    have this:C true w (.sl k rows) (I.hd i) (I.F i):=this
    show C true w (.sl k rows) _ _
    simpa only [Ip.set,if_neg hi'] using this
   | box cs=>
    obtain⟨h1,vs,t,h2,h3⟩:=this
    have h3:=h3.puv (G:=G) (Chg.refl w (I.F u)) hZ hv
    rw [map_same fun e he=>E.puv_nv (List.all_eq_true.1 hnr e he)] at h3
    exact⟨by simpa only [Ip.set,if_neg hi'] using h1,vs,t,by simpa only [Ip.set,if_neg hi'] using h2,h3⟩
   | hdr j x=>
    refine⟨by simpa only [Ip.set,if_neg hi'] using this.1,fun k hk=>?_⟩
    have:=this.2 k hk
    simp only [Ip.set]
    split
    · rename_i e;rw [←e];exact this
    exact this
   | blk j x=>
    refine⟨by simpa only [Ip.set,if_neg hi'] using this.1,fun k hk=>?_⟩
    have:=this.2 k hk
    simp only [Ip.set]
    split
    · rename_i e;rw [←e];exact this
    exact this
   | kept K=>exact⟨by simpa only [Ip.set,if_neg hi'] using this.1,this.2⟩
   | opq=>trivial
   | cur g=>exact⟨by simpa only [Ip.set,if_neg hi'] using this.1,by simpa only [Ip.set,if_neg hi'] using this.2.1,this.2.2⟩
   | mp b f=>exact⟨by simpa only [Ip.set,if_neg hi'] using this.1,this.2⟩
 · simp only [Ip.set] at hb ⊢
   split at hb
   · exact⟨(hG b hb).1,(hG b hb).2.1⟩
   exact h.lt i b hb
 · have hi':i≠u:=fun e=>hu r (e▸hi)
   simp only [Ip.set,if_neg hi']
   exact h.own i r hi
 simp only [Ip.set] at hb hb'
 split at hb
 · rename_i e
   rw [if_neg (fun e'=>hne (e.trans e'.symm))] at hb'
   exact (hG b hb).2.2 j (fun e'=>hne (e.trans e'.symm)) hb'
 split at hb'
 · rename_i e
   exact (hG b hb').2.2 i (fun e'=>hne (e'.trans e.symm)) hb
 exact h.apart i j hne b hb hb'
theorem RelI.keepR {I:Ip} {w0:Base} {w:World} {a:Act} (h:RelI I w0 σ a w) {u:Nat} {r:R} (hr:RR I w u r) (ho:(I.F u).Nodup∧∀ b∈I.F u,w0.own b∧Thaw w b):RelI I w0 (σ.add u r) a w:=by
 have key:∀ i r',look (σ.add u r).res i=some r'→(i=u∧r'=r)∨look σ.res i=some r':=fun i r' hi=>by
  rw [St.add,look_cons] at hi
  split at hi
  · rename_i e;cases hi;exact .inl ⟨e.symm,rfl⟩
  exact .inr hi
 exact⟨h.ext,h.defers,h.size,h.slots,fun i r' hi=>(key i r' hi).elim (fun e=>by rw [e.1,e.2];exact hr) (h.res i r'),h.old,h.lt,fun i r' hi=>(key i r' hi).elim (fun e=>by rw [e.1];exact ho) (h.own i r'),h.apart⟩
structure Pos where
 L:List Int
 F:List Int
 x:Int
 y:Int
 z:Bool
def rowI (l:List Int):R:=.row 1 (l.map fun n=>[.v (.int .i64 n)])
def treeI (l:List Int):T:=.sl 1 (l.map fun n=>[.v (.int .i64 n)])
def boxP (i1 i2:Nat) (p:Pos):R:=.box [.rf i1,.t (.v (.int .i64 p.x)),.t (.v (.int .i64 p.y)),.rf i2,.t (.v (.bool p.z))]
def PosB (w:World) (b:Nat) (p:Pos) (G:List Nat):Prop:=∃ h1 h2 e G1 G2,w.heap[b]?=some (.cells #[h1,.int .i64 p.x,.int .i64 p.y,h2,.bool p.z] e (0,0))∧C true w (treeI p.L) h1 G1∧C true w (treeI p.F) h2 G2∧G=b::(G1++G2)
def PosOk (w:World) (b:Nat) (p:Pos) (G:List Nat):Prop:=PosB w b p G∧G.Nodup∧∀ c∈G,Thaw w c
theorem PosB.lt {w:World} {b:Nat} {p:Pos} {G:List Nat} (h:PosB w b p G):∀ c∈G,c<w.heap.size:=by
 obtain⟨h1,h2,e,G1,G2,hB,c1,c2,rfl⟩:=h
 intro c hc
 rcases List.mem_cons.1 hc with rfl|hc
 · exact (Array.getElem?_eq_some_iff.1 hB).1
 rcases List.mem_append.1 hc with hc|hc
 · exact C.lt c1 c hc
 exact C.lt c2 c hc
def PPost {τ:Type} (w:World) (b:Nat) (G:List Nat) (post:Pos→τ→Prop) (out:τ→List Value) (e:Ending) (w':World):Prop:=
 ∃ p' t G',e=.returned (match out t with|[]=>.tuple #[]|l=>.agg l.toArray)∧post p' t∧PosOk w' b p' G'∧(∀ c∈G',c∈G∨w.heap.size≤c)∧Chg w w' G
def FnP {τ:Type} (P:Program) (f:FuncId) (ins:List V0) (pre:Pos→Prop) (post:Pos→Pos→τ→Prop) (out:τ→List Value):Prop:=
 Callee P f∧∀ w b p G vs A,pre p→Good w G→PosOk w b p G→V0s false w ins vs A→(∀ c∈A,c∉G)→Calls P f (List.toArray (.pointer (some ⟨b,0,none⟩)::vs)) w (PPost w b G (post p) out)
theorem V0s.cp {w:World} {FF:List Nat}:∀ {ins:List V0} {vs:List Value} {F:List Nat},V0s false w ins vs F→(∀ b∈F,b∉FF)→V0c w FF (ins.map fun x=>(false,x)) vs []
 | [],vs,F,⟨h,_⟩,_=>⟨h,rfl⟩
 | x::r,vs,F,⟨v,vr,G1,G2,h1,h2,h3,h4⟩,hF=>by
  subst h4
  exact⟨v,vr,G1,[],h1,h2,h3.cp fun b hb=>hF b (by simp [hb]),by simpa using fun b hb=>hF b (by simp [hb])⟩
def PRes {τ:Type} (P:Program) (fn:Func) (b:Nat) (post:Pos→τ→Prop) (out:τ→List Value) (σ:St):Prop:=
 ∃ p' t rs xs,post p' t∧look σ.res 700=some (boxP 701 702 p')∧look σ.res 701=some (rowI p'.L)∧look σ.res 702=some (rowI p'.F)∧look σ.res 703=some (.blk (some 700) b)∧fn.results=List.toArray rs∧RVs P σ rs xs∧((xs=[]∧out t=[])∨(out t≠[]∧xs=[.agg ((out t).map fun v=>.t (.v v))]))
def RetP {τ:Type} (P:Program) (fn:Func) (b:Nat) (post:Pos→τ→Prop) (out:τ→List Value):Exit→St→Prop
 | .normal,σ=>PRes P fn b post out σ
 | .ret,σ=>PRes P fn b post out σ
 | _,_=>False
theorem VEs_plain {I:Ip} {w:World}:∀ {l cs:List Value},VEs I w (l.map (fun v=>E.t (.v v))) cs→cs=l
 | [],cs,h=>h
 | x::l,cs,⟨c,cr,e,⟨_,g,_⟩,h⟩=>by
  simp only [C] at g
  rw [e,g.1,VEs_plain h]
theorem FnP.walk {τ:Type} {n:Nat} {f:FuncId} {fn:Func} {c:Code} {ins:List V0} {pre:Pos→Prop} {post:Pos→Pos→τ→Prop} {out:τ→List Value} {σ':Nat→Pos→St} (hf:P.funcs[f]?=some fn) (hb:fn.body=some c) (hname:(fn.name == "runtime.NumGoroutine")=false) (hnt:fn.ntmps=n) (hn:Nat.ble (ins.length+1) n=true)
 (hi:∀ b p,initC 1 (ins.map fun x=>(false,x)) ⟨n,[(0,(true,.a (.one (.pp 700 0))))],[(700,boxP 701 702 p),(701,rowI p.L),(702,rowI p.F),(703,.blk (some 700) b)]⟩=some (σ' b p)) (h:∀ w0 b p,pre p→AW P w0 c (RetP P fn b (post p) out) (σ' b p)):FnP P f ins pre post out:=by
 subst hnt
 refine⟨⟨fn,hf,hname,by rw [hb];rfl⟩,fun w b p G vs A hp hG hok hv hap=>?_⟩
 have hv':=hv.cp (FF:=G) hap
 have hl:vs.length=ins.length:=by simpa using hv'.len
 have hn':ins.length+1≤fn.ntmps:=Nat.le_of_ble_eq_true hn
 obtain⟨hB,hnd,hth⟩:=hok
 have hlt:=hB.lt
 obtain⟨h1,h2,e,G1,G2,hcell,c1,c2,rfl⟩:=hB
 obtain⟨nb,n12⟩:=List.nodup_cons.1 hnd
 obtain⟨n1,n2,n3⟩:=List.nodup_append.1 n12
 let a0:Act:=⟨(List.toArray (.pointer (some ⟨b,0,none⟩)::vs))++Array.replicate (fn.ntmps-(List.toArray (Value.pointer (some ⟨b,0,none⟩)::vs)).size) undef,[]⟩
 let I0:Ip:=⟨fun c=>c<w.heap.size∧c∉b::(G1++G2),fun i=>if i=700 then [b] else if i=701 then G1 else if i=702 then G2 else [],fun i=>if i=701 then h1 else if i=702 then h2 else undef,fun i=>if i=700 then b else 0⟩
 have hget:∀ (j:Nat) v,(Value.pointer (some ⟨b,0,none⟩)::vs)[j]?=some v→a0.tmps.getD j undef=v:=fun j v hj=>by
  have hjl:=(List.getElem?_eq_some_iff.1 hj).1
  simp only [a0]
  rw [Array.getD_eq_getD_getElem?,Array.getElem?_append_left (by simpa using hjl)]
  have:(List.toArray (Value.pointer (some ⟨b,0,none⟩)::vs))[j]?=some v:=by simpa using hj
  rw [this];rfl
 have hF0:∀ i,∀ x∈I0.F i,x∈b::(G1++G2):=fun i x hx=>by
  simp only [I0] at hx
  split at hx
  · simp only [List.mem_singleton] at hx;subst hx;simp
  split at hx
  · simp [hx]
  split at hx
  · simp [hx]
  cases hx
 have hdr:∀ {k1:Value} {l:List Int} {g:List Nat},C true w (treeI l) k1 g→∃ a' l' k',k1=.slice a' l' k':=fun h=>by
  unfold treeI at h
  simp only [C] at h
  obtain⟨a',l',k',e,_⟩:=h
  exact⟨a',l',k',e⟩
 have hr0:RelI I0 ⟨w,b::(G1++G2),hG⟩ ⟨fn.ntmps,[(0,(true,.a (.one (.pp 700 0))))],[(700,boxP 701 702 p),(701,rowI p.L),(702,rowI p.F),(703,.blk (some 700) b)]⟩ a0 w:=by
  have key:∀ i r,look [(700,boxP 701 702 p),(701,rowI p.L),(702,rowI p.F),(703,R.blk (some 700) b)] i=some r→(i=700∧r=boxP 701 702 p)∨(i=701∧r=rowI p.L)∨(i=702∧r=rowI p.F)∨(i=703∧r=.blk (some 700) b):=fun i r hi=>by
   rw [look_cons] at hi
   split at hi
   · rename_i e;cases hi;exact .inl ⟨e.symm,rfl⟩
   rw [look_cons] at hi
   split at hi
   · rename_i e;cases hi;exact .inr (.inl ⟨e.symm,rfl⟩)
   rw [look_cons] at hi
   split at hi
   · rename_i e;cases hi;exact .inr (.inr (.inl ⟨e.symm,rfl⟩))
   rw [look_cons] at hi
   split at hi
   · rename_i e;cases hi;exact .inr (.inr (.inr ⟨e.symm,rfl⟩))
   cases hi
  refine⟨Chg.refl w _,rfl,by simp [a0,hl];omega,fun i z hi=>?_,fun id r hi=>?_,fun x hx=>hx.1,fun id x hx=>⟨hlt x (hF0 id x hx),fun hz=>hz.2 (hF0 id x hx)⟩,fun id r hi=>?_,fun i j hne x hx hx'=>?_⟩
  · rw [look_cons] at hi
    split at hi
    · rename_i e;subst e;cases hi
      exact hget 0 _ rfl
    cases hi
  · rcases key id r hi with ⟨rfl,rfl⟩|⟨rfl,rfl⟩|⟨rfl,rfl⟩|⟨rfl,rfl⟩
    · exact⟨rfl,_,e,hcell,_,_,rfl,⟨rfl,hdr c1⟩,_,_,rfl,⟨[],by simp only [C];exact⟨trivial,trivial,rfl⟩,by simp⟩,_,_,rfl,⟨[],by simp only [C];exact⟨trivial,trivial,rfl⟩,by simp⟩,_,_,rfl,⟨rfl,hdr c2⟩,_,_,rfl,⟨[],by simp only [C];exact⟨trivial,trivial,rfl⟩,by simp⟩,rfl⟩
    · exact c1
    · exact c2
    exact⟨rfl,fun i hi=>by cases hi;rfl⟩
  · have hall:∀ x∈I0.F id,Base.own ⟨w,b::(G1++G2),hG⟩ x∧Thaw w x:=fun x hx=>⟨.inr (hF0 id x hx),hth x (hF0 id x hx)⟩
    refine⟨?_,hall⟩
    rcases key id r hi with ⟨rfl,rfl⟩|⟨rfl,rfl⟩|⟨rfl,rfl⟩|⟨rfl,rfl⟩
    · simp [I0]
    · exact n1
    · exact n2
    simp [I0]
  simp only [I0] at hx hx'
  have nb1:b∉G1:=fun h=>nb (List.mem_append_left _ h)
  have nb2:b∉G2:=fun h=>nb (List.mem_append_right _ h)
  split at hx
  · simp only [List.mem_singleton] at hx;subst hx
    split at hx'
    · omega
    split at hx'
    · exact nb1 hx'
    split at hx'
    · exact nb2 hx'
    cases hx'
  split at hx
  · split at hx'
    · simp only [List.mem_singleton] at hx';subst hx';exact nb1 hx
    split at hx'
    · omega
    split at hx'
    · exact n3 x hx x hx' rfl
    cases hx'
  split at hx
  · split at hx'
    · simp only [List.mem_singleton] at hx';subst hx';exact nb2 hx
    split at hx'
    · exact n3 x hx' x hx rfl
    split at hx'
    · omega
    cases hx'
  cases hx
 obtain⟨I1,r1⟩:=initC_ok (FF:=b::(G1++G2)) (fun _ _ _=>trivial) (hi b p) hr0 (fun x h1 h2=>⟨h1,h2⟩) hv' (by simp) (fun x hx=>by cases hx) fun j v hj=>hget (1+j) v (by rw [Nat.add_comm];simpa using hj)
 refine calls_of_wp hf hb (Code.wp_mono ?_ (h ⟨w,b::(G1++G2),hG⟩ b p hp _ _ ⟨I1,r1⟩))
 rintro e a' w' ⟨σ1,hR,I,hI⟩
 have key:PRes P fn b (post p) out σ1→a'.defers=[]∧∃ v,(results fn a'.tmps).run P w'=.ok v w'∧PPost w b (b::(G1++G2)) (post p) out (.returned v) w':=fun ⟨p',t,rs,xs,q1,q2,q3,q4,q5,q6,q7,q8⟩=>by
  obtain⟨vs',r1,r2⟩:=run_results (P:=P) (fn:=fn) (l:=rs) hI q6 q7
  obtain⟨m1,ws,t',m2,c,cr,e1,⟨g1,_⟩,c',cr',e2,⟨_,g2,_⟩,c'',cr'',e3,⟨_,g3,_⟩,c3,cr3,e4,⟨g4,_⟩,c4,cr4,e5,⟨_,g5,_⟩,e6⟩:I.F 700=[I.B 700]∧∃ vs e,w'.heap[I.B 700]?=some (.cells (List.toArray vs) e (0,0))∧VEs I w' _ vs:=hI.res _ _ q2
  have e6:cr4=[]:=e6
  simp only [C] at g2 g3 g5
  have hbb:I.B 700=b:=(hI.res _ _ q5).2 700 rfl
  have k1:C true w' (treeI p'.L) (I.hd 701) (I.F 701):=hI.res _ _ q3
  have k2:C true w' (treeI p'.F) (I.hd 702) (I.F 702):=hI.res _ _ q4
  have hcell':w'.heap[b]?=some (.cells #[I.hd 701,.int .i64 p'.x,.int .i64 p'.y,I.hd 702,.bool p'.z] t' (0,0)):=by
   rw [←hbb,m2,e1,e2,e3,e4,e5,e6,g1,g2.1,g3.1,g4,g5.1]
  have ap1:b∉I.F 701:=fun hm=>hI.apart 700 701 (by decide) b (by rw [m1,hbb];simp) hm
  have ap2:b∉I.F 702:=fun hm=>hI.apart 700 702 (by decide) b (by rw [m1,hbb];simp) hm
  have own:∀ c∈b::(I.F 701++I.F 702),(c∈b::(G1++G2)∨w.heap.size≤c)∧Thaw w' c:=fun c hc=>by
   rcases List.mem_cons.1 hc with rfl|hc
   · have:=(hI.own 700 _ q2).2 c (by rw [m1,hbb];simp)
     exact⟨this.1.symm,this.2⟩
   rcases List.mem_append.1 hc with hc|hc
   · exact⟨((hI.own 701 _ q3).2 c hc).1.symm,((hI.own 701 _ q3).2 c hc).2⟩
   exact⟨((hI.own 702 _ q4).2 c hc).1.symm,((hI.own 702 _ q4).2 c hc).2⟩
  refine⟨hI.defers,_,r1,p',t,b::(I.F 701++I.F 702),?_,q1,⟨⟨_,_,t',_,_,hcell',k1,k2,rfl⟩,?_,fun c hc=>(own c hc).2⟩,fun c hc=>(own c hc).1,hI.ext⟩
  · rcases q8 with ⟨rfl,h0⟩|⟨h0,rfl⟩
    · have r2:vs'=[]:=r2
      rw [r2,h0]
    obtain⟨v,vr,rfl,⟨cs,rfl,h3⟩,h4⟩:=r2
    have h4:vr=[]:=h4
    subst h4
    rw [VEs_plain h3]
    match out t,h0 with
    | _::_,_=>rfl
  refine List.nodup_cons.2 ⟨fun hm=>(List.mem_append.1 hm).elim ap1 ap2,List.nodup_append.2 ⟨(hI.own 701 _ q3).1,(hI.own 702 _ q4).1,fun x hx y hy e=>?_⟩⟩
  subst e;exact hI.apart 701 702 (by decide) x hx hy
 cases e with
 | normal=>exact key hR
 | ret=>exact key hR
 | exit id=>exact hR.elim
 | goto l=>exact hR.elim
 | panic c=>exact hR.elim
 | outgrown=>exact hR.elim
def readT:A→Option V0
 | .one (.t x)=>some (.one x)
 | .agg l=>match mapO (fun e=>match e with|E.t x=>some x|_=>none) l with|some ts=>some (.agg ts)|none=>none
 | _=>none
inductive ArgsT (σ:St):List Operand→List V0→Prop where
 | nil:ArgsT σ [] []
 | cons {x:Operand} {A0:A} {v:V0} {l:List Operand} {vs:List V0} (hx:Get σ true x A0) (hv:readT A0=some v) (h:ArgsT σ l vs):ArgsT σ (x::l) (v::vs)
theorem readT_ok {I:Ip} {w:World} {x:A} {t:V0} {v:Value} (h:readT x=some t) (hv:VA I w x v):∃ G,V0r false w t v G∧∀ c∈G,I.Z c:=by
 match x,h with
 | .one (.t x),h=>
  cases h
  obtain⟨G,h1,h2⟩:=hv
  exact⟨G,h1,h2⟩
 | .agg l,h=>
  rw [readT] at h
  split at h
  · rename_i ts h1
    cases h
    obtain⟨cs,rfl,h3⟩:=hv
    have key:∀ {l:List E} {ts:List T} {cs:List Value},mapO (fun e=>match e with|E.t x=>some x|_=>none) l=some ts→VEs I w l cs→∃ G,Cs false w ts cs G∧∀ c∈G,I.Z c:=by
     intro l
     induction l with
     | nil=>intro ts cs h hv;cases h;exact⟨[],by unfold Cs;exact⟨hv,rfl⟩,fun _ hb=>by cases hb⟩
     | cons e l ih=>
      rintro ts cs h ⟨c,cr,rfl,g1,g2⟩
      rw [mapO] at h
      cases e with
      | t x=>
       simp only at h
       split at h
       · rename_i ts' h'
         cases h
         obtain⟨G2,k1,k2⟩:=ih h' g2
         obtain⟨G1,k3,k4⟩:=g1
         exact⟨G1++G2,by unfold Cs;exact⟨c,cr,G1,G2,rfl,k3,k1,rfl⟩,fun c hc=>(List.mem_append.1 hc).elim (k4 c) (k2 c)⟩
       cases h
      | _=>simp at h
    obtain⟨G,k1,k2⟩:=key h1 h3
    exact⟨G,⟨cs,rfl,k1⟩,k2⟩
  cases h
 | .one (.rf _),h=>cases h
 | .one (.vw _ _),h=>cases h
 | .one (.pp _ _),h=>cases h
 | .one (.pr _ _ _ _),h=>cases h
 | .one (.sb _ _ _ _),h=>cases h
 | .one (.tl _ _ _),h=>cases h
 | .one (.pf _ _ _),h=>cases h
 | .one .no,h=>cases h
theorem ArgsT.ok {l:List Operand} {ins:List V0} (h:ArgsT σ l ins) {I:Ip} {w0:Base} {w:World} {a:Act} (hr:RelI I w0 σ a w):∃ F,V0s false w ins (l.map a.eval) F∧∀ c∈F,I.Z c:=by
 induction h with
 | nil=>exact⟨[],⟨rfl,rfl⟩,fun _ hb=>by cases hb⟩
 | cons hx hv h ih=>
  obtain⟨F,ih,k1⟩:=ih
  obtain⟨G,hg,k2⟩:=readT_ok hv (hx.va hr rfl)
  exact⟨G++F,⟨_,_,G,F,rfl,hg,ih,rfl⟩,fun c hc=>(List.mem_append.1 hc).elim (k2 c) (k1 c)⟩
end
end Go.Q
set_option maxHeartbeats 1000000
set_option maxRecDepth 100000
namespace Go.Q
open Go.RowKit Go.D
section
variable {P:Program} {ops:Array Oper} {o:Oper} {σ:St} {q:Bool}
def treeH (h:THistory):T:=.sl 2 (h.Graphs.map cGraph)
def boxH (i:Nat) (h:THistory):R:=.box [.t (.v (.int .i64 h.First)),.vw i (treeH h)]
def ptrV (b:Nat):Value:=.pointer (some ⟨b,0,none⟩)
def cloV (f:FuncId) (b:Nat):Value:=.func (.func f) #[] #[ptrV b]
def HisB (w:World) (b:Nat) (h:THistory) (G:List Nat):Prop:=∃ h1 e G0 G1,w.heap[b]?=some (.cells #[.int .i64 h.First,h1] e (0,0))∧C false w (treeH h) h1 G0∧(∀ c∈G0,c∈G1)∧(∀ c∈G1,c<w.heap.size)∧G=b::G1
def HisOk (w:World) (b:Nat) (h:THistory) (G:List Nat):Prop:=HisB w b h G∧G.Nodup∧∀ c∈G,Thaw w c
theorem HisB.lt {w:World} {b:Nat} {p:THistory} {G:List Nat} (h:HisB w b p G):∀ c∈G,c<w.heap.size:=by
 obtain⟨h1,e,G0,G1,hB,c1,c2,c3,rfl⟩:=h
 intro c hc
 rcases List.mem_cons.1 hc with rfl|hc
 · exact (Array.getElem?_eq_some_iff.1 hB).1
 exact c3 c hc
def HPost {τ:Type} (w:World) (b:Nat) (G:List Nat) (post:THistory→τ→Prop) (out:τ→Value) (e:Ending) (w':World):Prop:=
 ∃ p' t G',e=.returned (out t)∧post p' t∧HisOk w' b p' G'∧(∀ c∈G',c∈G∨w.heap.size≤c)∧Chg w w' G
def FnB {τ:Type} (P:Program) (f:FuncId) (ins:Nat→List V0) (pre:THistory→Prop) (post:THistory→THistory→τ→Prop) (out:τ→Value):Prop:=
 Callee P f∧∀ w b p G vs A,pre p→Good w G→HisOk w b p G→V0s false w (ins b) vs A→(∀ c∈A,c∉G)→Calls P f (List.toArray vs) w (HPost w b G (post p) out)
def HRes {τ:Type} (P:Program) (fn:Func) (b:Nat) (post:THistory→τ→Prop) (out:τ→Value) (σ:St):Prop:=
 ∃ p' t i rs,post p' t∧i≠700∧look σ.res 700=some (boxH i p')∧look σ.res i=some .opq∧look σ.res 703=some (.blk (some 700) b)∧fn.results=List.toArray rs∧RVs P σ rs [.one (.t (.v (out t)))]
def RetH {τ:Type} (P:Program) (fn:Func) (b:Nat) (post:THistory→τ→Prop) (out:τ→Value):Exit→St→Prop
 | .normal,σ=>HRes P fn b post out σ
 | .ret,σ=>HRes P fn b post out σ
 | _,_=>False
theorem FnB.walk {τ:Type} {n:Nat} {f:FuncId} {fn:Func} {c:Code} {ins:Nat→List V0} {pre:THistory→Prop} {post:THistory→THistory→τ→Prop} {out:τ→Value} {σ':Nat→THistory→St} (hf:P.funcs[f]?=some fn) (hb:fn.body=some c) (hname:(fn.name == "runtime.NumGoroutine")=false) (hnt:fn.ntmps=n) (hn:∀ b,Nat.ble (ins b).length n=true)
 (hi:∀ b p,initC 0 ((ins b).map fun x=>(false,x)) ⟨n,[],[(700,boxH 701 p),(701,.opq),(703,.blk (some 700) b)]⟩=some (σ' b p)) (h:∀ w0 b p,pre p→AW P w0 c (RetH P fn b (post p) out) (σ' b p)):FnB P f ins pre post out:=by
 subst hnt
 refine⟨⟨fn,hf,hname,by rw [hb];rfl⟩,fun w b p G vs A hp hG hok hv hap=>?_⟩
 have hv':=hv.cp (FF:=G) hap
 have hl:vs.length=(ins b).length:=by simpa using hv'.len
 have hn':(ins b).length≤fn.ntmps:=Nat.le_of_ble_eq_true (hn b)
 obtain⟨hB,hnd,hth⟩:=hok
 have hlt:=hB.lt
 obtain⟨h1,e,G0,G1,hcell,c1,c2,c3,rfl⟩:=hB
 obtain⟨nb,n1⟩:=List.nodup_cons.1 hnd
 let a0:Act:=⟨List.toArray vs++Array.replicate (fn.ntmps-(List.toArray vs).size) undef,[]⟩
 let I0:Ip:=⟨fun c=>c<w.heap.size∧c∉b::G1,fun i=>if i=700 then [b] else if i=701 then G1 else [],fun _=>undef,fun i=>if i=700 then b else 0⟩
 have hget:∀ (j:Nat) v,vs[j]?=some v→a0.tmps.getD j undef=v:=fun j v hj=>by
  have hjl:=(List.getElem?_eq_some_iff.1 hj).1
  simp only [a0]
  rw [Array.getD_eq_getD_getElem?,Array.getElem?_append_left (by simpa using hjl)]
  have:(List.toArray vs)[j]?=some v:=by simpa using hj
  rw [this];rfl
 have hF0:∀ i,∀ x∈I0.F i,x∈b::G1:=fun i x hx=>by
  simp only [I0] at hx
  split at hx
  · simp only [List.mem_singleton] at hx;subst hx;simp
  split at hx
  · simp [hx]
  cases hx
 have hr0:RelI I0 ⟨w,b::G1,hG⟩ ⟨fn.ntmps,[],[(700,boxH 701 p),(701,.opq),(703,.blk (some 700) b)]⟩ a0 w:=by
  have key:∀ i r,look [(700,boxH 701 p),(701,R.opq),(703,R.blk (some 700) b)] i=some r→(i=700∧r=boxH 701 p)∨(i=701∧r=.opq)∨(i=703∧r=.blk (some 700) b):=fun i r hi=>by
   rw [look_cons] at hi
   split at hi
   · rename_i e;cases hi;exact .inl ⟨e.symm,rfl⟩
   rw [look_cons] at hi
   split at hi
   · rename_i e;cases hi;exact .inr (.inl ⟨e.symm,rfl⟩)
   rw [look_cons] at hi
   split at hi
   · rename_i e;cases hi;exact .inr (.inr ⟨e.symm,rfl⟩)
   cases hi
  refine⟨Chg.refl w _,rfl,by simp [a0,hl];omega,(fun i z hi=>by cases hi),fun id r hi=>?_,fun x hx=>hx.1,fun id x hx=>⟨hlt x (hF0 id x hx),fun hz=>hz.2 (hF0 id x hx)⟩,fun id r hi=>?_,fun i j hne x hx hx'=>?_⟩
  · rcases key id r hi with ⟨rfl,rfl⟩|⟨rfl,rfl⟩|⟨rfl,rfl⟩
    · exact⟨rfl,_,e,hcell,_,_,rfl,⟨[],by simp only [C];exact⟨trivial,trivial,rfl⟩,by simp⟩,_,_,rfl,⟨G0,c1,fun x hx=>by simpa [I0] using c2 x hx⟩,rfl⟩
    · trivial
    exact⟨rfl,fun i hi=>by cases hi;rfl⟩
  · have hall:∀ x∈I0.F id,Base.own ⟨w,b::G1,hG⟩ x∧Thaw w x:=fun x hx=>⟨.inr (hF0 id x hx),hth x (hF0 id x hx)⟩
    refine⟨?_,hall⟩
    rcases key id r hi with ⟨rfl,rfl⟩|⟨rfl,rfl⟩|⟨rfl,rfl⟩
    · simp [I0]
    · exact n1
    simp [I0]
  simp only [I0] at hx hx'
  split at hx
  · simp only [List.mem_singleton] at hx;subst hx
    split at hx'
    · omega
    split at hx'
    · exact nb hx'
    cases hx'
  split at hx
  · split at hx'
    · simp only [List.mem_singleton] at hx';subst hx';exact nb hx
    split at hx'
    · omega
    cases hx'
  cases hx
 obtain⟨I1,r1⟩:=initC_ok (FF:=b::G1) (fun _ _ _=>trivial) (hi b p) hr0 (fun x h1 h2=>⟨h1,h2⟩) hv' (by simp) (fun x hx=>by cases hx) fun j v hj=>hget (0+j) v (by rw [Nat.zero_add];exact hj)
 refine calls_of_wp hf hb (Code.wp_mono ?_ (h ⟨w,b::G1,hG⟩ b p hp _ _ ⟨I1,r1⟩))
 rintro e a' w' ⟨σ1,hR,I,hI⟩
 have key:HRes P fn b (post p) out σ1→a'.defers=[]∧∃ v,(results fn a'.tmps).run P w'=.ok v w'∧HPost w b (b::G1) (post p) out (.returned v) w':=fun ⟨p',t,i,rs,q1,q0,q2,q3,q5,q6,q7⟩=>by
  obtain⟨vs',r1,r2⟩:=run_results (P:=P) (fn:=fn) (l:=rs) hI q6 q7
  obtain⟨m1,ws,t',m2,c,cr,e1,⟨_,g1,_⟩,c',cr',e2,⟨Gx,g2,g3⟩,e3⟩:I.F 700=[I.B 700]∧∃ vs e,w'.heap[I.B 700]?=some (.cells (List.toArray vs) e (0,0))∧VEs I w' _ vs:=hI.res _ _ q2
  have e3:cr'=[]:=e3
  simp only [C] at g1
  have hbb:I.B 700=b:=(hI.res _ _ q5).2 700 rfl
  have hcell':w'.heap[b]?=some (.cells #[.int .i64 p'.First,c'] t' (0,0)):=by
   rw [←hbb,m2,e1,e2,e3,g1.1]
  have ap1:b∉I.F i:=fun hm=>hI.apart 700 i (fun e=>q0 e.symm) b (by rw [m1,hbb];simp) hm
  have own:∀ c∈b::I.F i,(c∈b::G1∨w.heap.size≤c)∧Thaw w' c:=fun c hc=>by
   rcases List.mem_cons.1 hc with rfl|hc
   · have:=(hI.own 700 _ q2).2 c (by rw [m1,hbb];simp)
     exact⟨this.1.symm,this.2⟩
   exact⟨((hI.own i _ q3).2 c hc).1.symm,((hI.own i _ q3).2 c hc).2⟩
  refine⟨hI.defers,_,r1,p',t,b::I.F i,?_,q1,⟨⟨_,t',Gx,_,hcell',g2,g3,fun c hc=>(hI.lt i c hc).1,rfl⟩,?_,fun c hc=>(own c hc).2⟩,fun c hc=>(own c hc).1,hI.ext⟩
  · obtain⟨v,vr,rfl,⟨_,h3,_⟩,h4⟩:=r2
    have h4:vr=[]:=h4
    subst h4
    simp only [C] at h3
    rw [h3.1]
  exact List.nodup_cons.2 ⟨ap1,(hI.own i _ q3).1⟩
 cases e with
 | normal=>exact key hR
 | ret=>exact key hR
 | exit id=>exact hR.elim
 | goto l=>exact hR.elim
 | panic c=>exact hR.elim
 | outgrown=>exact hR.elim
def posR2 (u i:Nat) (rs:List (Nat×R)):List (Nat×R):=delR (delR rs u) i
def posN2 (u i:Nat) (sl:List (Nat×(Bool×S))) (rs:List (Nat×R)):Bool:=nvB u sl rs&&nvB i sl rs&&!(St.has ⟨0,sl,rs⟩ i)
theorem caps_V0s {w:World}:∀ {l:List Value},l.all Value.oneCell'=true→V0s false w (l.map fun v=>V0.one (.v v)) l []
 | [],_=>⟨rfl,rfl⟩
 | v::l,h=>by
  simp only [List.all_cons,Bool.and_eq_true] at h
  exact⟨v,l,[],[],rfl,(by show C false w (.v v) v [];simp only [C];exact⟨trivial,trivial,h.1⟩),caps_V0s h.2,rfl⟩
theorem R_callB {τ:Type} {f:FuncId} {l:List Operand} {caps:List Value} {ins:Nat→List V0} {ins0:List V0} {pre:THistory→Prop} {post:THistory→THistory→τ→Prop} {out:τ→Value} {u i k b:Nat} {p:THistory} (h:FnB P f ins pre post out)
 (hrun:∀ {I:Ip} {w0:Base} {w:World} {a:Act},RelI I w0 σ a w→(execOp a.eval o).run P w=.ok (.enter f (List.toArray (l.map a.eval++caps))) w) (hg:Grd ops o σ true) (hd:o.dst.all (fun d=>Nat.blt d σ.n)=true)
 (hu:look σ.res u=some (boxH i p)) (h1:look σ.res i=some .opq) (hk:look σ.res k=some (.blk (some u) b)) (hne:u≠i) (hn:posN2 u i σ.slots (posR2 u i σ.res)=true) (ha:ArgsT σ l ins0) (hc0:caps.all Value.oneCell'=true) (hin:ins b=ins0++caps.map fun v=>V0.one (.v v)) (hp:pre p) (hcell:∀ t,(out t).oneCell'=true) :
 OpE P ops o σ fun σ'=>∃ z:THistory×τ,post p z.1 z.2∧σ'=St.put ⟨σ.n,σ.slots,(u,boxH i z.1)::(i,.opq)::posR2 u i σ.res⟩ o.dst (true,.a (.one (.t (.v (out z.2))))):=by
 rintro w0 a w ⟨I,hr⟩ K Q hK
 rw [hg.wanted hr]
 simp only [if_true]
 simp only [posN2,Bool.and_eq_true,Bool.not_eq_true'] at hn
 obtain⟨⟨nu,n1⟩,hs1⟩:=hn
 obtain⟨m1,ws,t',m2,c,cr,e1,⟨_,g1,_⟩,c',cr',e2,⟨Gx,g2,g3⟩,e3⟩:I.F u=[I.B u]∧∃ vs e,w.heap[I.B u]?=some (.cells (List.toArray vs) e (0,0))∧VEs I w _ vs:=hr.res _ _ hu
 have e3:cr'=[]:=e3
 simp only [C] at g1
 have hbb:I.B u=b:=(hr.res _ _ hk).2 u rfl
 have hB:w.heap[I.B u]?=some (.cells #[.int .i64 p.First,c'] t' (0,0)):=by
  rw [m2,e1,e2,e3,g1.1]
 have mu:I.B u∈I.F u:=by rw [m1];simp
 have hof:∀ c∈I.B u::I.F i,∃ j r,(j=u∨j=i)∧look σ.res j=some r∧c∈I.F j:=fun c hc=>by
  rcases List.mem_cons.1 hc with rfl|hc
  · exact⟨u,_,.inl rfl,hu,mu⟩
  exact⟨i,_,.inr rfl,h1,hc⟩
 have hown:∀ c∈I.B u::I.F i,w0.own c∧Thaw w c∧c<w.heap.size∧¬ I.Z c:=fun c hc=>by
  obtain⟨j,r,_,hi,hm⟩:=hof c hc
  exact⟨((hr.own j r hi).2 c hm).1,((hr.own j r hi).2 c hm).2,(hr.lt j c hm).1,(hr.lt j c hm).2⟩
 have hnd:(I.B u::I.F i).Nodup:=List.nodup_cons.2 ⟨hr.apart u i hne _ mu,(hr.own i _ h1).1⟩
 obtain⟨A,hV,hZ⟩:=ha.ok hr
 have hV':=V0s_append hV (caps_V0s (w:=w) hc0)
 rw [←hin,←hbb] at hV'
 have hgood:Good w (I.B u::I.F i):=hr.goodF fun c hc=>(hown c hc).1
 unfold Oper.wp
 rw [hrun hr]
 refine (h.2 w (I.B u) p _ _ _ hp hgood ⟨⟨_,t',Gx,_,hB,g2,g3,fun c hc=>(hr.lt i c hc).1,rfl⟩,hnd,fun c hc=>(hown c hc).2.1⟩ hV' (fun c hc hm=>(hown c hm).2.2.2 (hZ c (by simpa using hc)))).mono fun e w' hR=>?_
 obtain⟨p',t,G',rfl,hpost,⟨⟨q1,e',G0',G1',hB',c1',c2',c3',rfl⟩,hnd',hth'⟩,hfr,hc⟩:=hR
 obtain⟨nb',nd1⟩:=List.nodup_cons.1 hnd'
 have hlk:∀ j r,look (posR2 u i σ.res) j=some r→j≠u∧j≠i∧look σ.res j=some r:=fun j r hi=>by
  obtain⟨a1,a2⟩:=look_delR _ _ _ _ hi
  obtain⟨b1,b2⟩:=look_delR _ _ _ _ a2
  exact⟨b1,a1,b2⟩
 have r1:=hr.drop (rs':=posR2 u i σ.res) fun j r hi=>(hlk j r hi).2.2
 obtain⟨I4,hZ4,hB4,r4,hF4⟩:∃ I4:Ip,I4.Z=I.Z∧I4.B u=I.B u∧RelI I4 w0 ⟨σ.n,σ.slots,posR2 u i σ.res⟩ a w∧∀ j,∀ c∈I.B u::I.F i,c∉I4.F j:=by
  have r2:=r1.setF (u:=u) nu (fun r hi=>(hlk _ _ hi).1 rfl) (G:=[]) (fun b hb=>by cases hb)
  have r3:=r2.setF (u:=i) n1 (fun r hi=>(hlk _ _ hi).2.1 rfl) (G:=[]) (fun b hb=>by cases hb)
  refine⟨_,?_,?_,r3,?_⟩
  · rfl
  · simp [Ip.set,hne]
  intro j c hc hm
  simp only [Ip.set] at hm
  split at hm
  · cases hm
  split at hm
  · cases hm
  rename_i h3 h4
  obtain⟨x,r,hx,_,hcj⟩:=hof c hc
  exact hr.apart j x (by rcases hx with rfl|rfl<;>assumption) c hm hcj
 have hfree:∀ c∈I.B u::I.F i,Free I4 w0 w c:=fun c hc'=>⟨(hown c hc').1,(hown c hc').2.2.1,(hown c hc').2.1,by rw [hZ4];exact (hown c hc').2.2.2,fun j=>hF4 j c hc'⟩
 have r5:=r4.chgF hfree hc
 have hlt':∀ c∈I.B u::G1',c<w'.heap.size:=HisB.lt (w:=w') (b:=I.B u) (p:=p') ⟨_,e',_,_,hB',c1',c2',c3',rfl⟩
 have hfree':∀ c∈I.B u::G1',Free I4 w0 w' c:=fun c hc'=>by
  rcases hfr c hc' with h|h
  · have:=hfree c h
    exact⟨this.1,hlt' c hc',hth' c hc',this.2.2.2⟩
  exact⟨.inl (Nat.le_trans hr.ext.size h),hlt' c hc',hth' c hc',fun hz=>by have:=r4.old c hz;omega,fun j hi=>by have:=(r4.lt j c hi).1;omega⟩
 have r6:=r5.addF (id:=i) (by simpa [St.has] using hs1) (G:=G1') (u:=q1) (b:=0) (r:=.opq) nd1 (fun c hc=>hfree' c (by simp [hc])) trivial
 have fb:=(hfree' (I.B u) (by simp)).set (id:=i) (u:=q1) (b:=0) (fun hm=>nb' hm)
 have r8:=r6.setF (u:=u) (by
  simp only [nvB,Bool.and_eq_true] at nu ⊢
  exact⟨nu.1,by simp only [St.add,List.all_cons];exact by rw [nu.2];rfl⟩) (fun r hi=>by
  simp only [St.add] at hi
  rw [look_cons] at hi
  split at hi
  · rename_i e;exact hne e.symm
  exact (hlk _ _ hi).1 rfl) (G:=[I.B u]) (fun c hc=>by
  simp only [List.mem_singleton] at hc;subst hc
  exact⟨fb.2.1,fb.2.2.2.1,fun j _=>fb.2.2.2.2 j⟩)
 have tv:∀ {J:Ip} (v:Value),v.oneCell'=true→VE J w' (.t (.v v)) v:=fun v hv=>⟨[],by simp only [C];exact⟨trivial,trivial,hv⟩,by simp⟩
 have r9:=r8.keepR (u:=u) (r:=boxH i p') ⟨by simp [Ip.set,hne,hB4],_,e',by simpa [Ip.set,hne,hB4] using hB',_,_,rfl,tv _ rfl,_,_,rfl,⟨G0',c1',fun x hx=>by simpa [Ip.set,hne.symm] using c2' x hx⟩,rfl⟩ ⟨by simp [Ip.set],fun c hc=>by
  have hc:c∈[I.B u]:=by simpa [Ip.set] using hc
  simp only [List.mem_singleton] at hc;subst hc
  exact⟨fb.1,fb.2.2.1⟩⟩
 exact hK _ _ _ ⟨(p',t),hpost,rfl⟩ ⟨_,r9.put hd (tv _ (hcell t))⟩
theorem run_clo {f:FuncId} {c:Operand} {l:List Operand} {tys:Array TypeId} {b:Nat} (hf:Callee P f) (ho:o.op=.call { callee:=.value c,args:=l.toArray,argTypes:=tys }) (hc:Get σ true c (.one (.t (.v (cloV f b))))) {I:Ip} {w0:Base} {w:World} {a:Act} (hr:RelI I w0 σ a w):(execOp a.eval o).run P w=.ok (.enter f (List.toArray (l.map a.eval++[ptrV b]))) w:=by
 obtain⟨G,hv,_⟩:=hc.va hr rfl
 simp only [C] at hv
 obtain⟨fn,k1,k2,k3⟩:=hf
 have k2':¬ fn.name= "runtime.NumGoroutine":=by simpa using k2
 have k3':¬ fn.body=none:=by intro e;rw [e] at k3;cases k3
 simp [execOp,ho,resolve,hv.1,cloV,Deferred.ofValue,invoke,callFunc,k1,k2',k3']
theorem run_dir {f:FuncId} {l:List Operand} {tys:Array TypeId} (hf:Callee P f) (ho:o.op=.call { callee:=.value (.func f),args:=l.toArray,argTypes:=tys }) {I:Ip} {w0:Base} {w:World} {a:Act} (_:RelI I w0 σ a w):(execOp a.eval o).run P w=.ok (.enter f (List.toArray (l.map a.eval++[]))) w:=by
 rw [List.append_nil]
 exact run_enter hf ho
theorem R_callBv {τ:Type} {f:FuncId} {c:Operand} {l:List Operand} {tys:Array TypeId} {ins:Nat→List V0} {ins0:List V0} {pre:THistory→Prop} {post:THistory→THistory→τ→Prop} {out:τ→Value} (u i k:Nat) {b:Nat} {p:THistory} (h:FnB P f ins pre post out) (ho:o.op=.call { callee:=.value c,args:=l.toArray,argTypes:=tys }) (hg:Grd ops o σ true) (hd:o.dst.all (fun d=>Nat.blt d σ.n)=true)
 (hc:Get σ true c (.one (.t (.v (cloV f b))))) (hu:look σ.res u=some (boxH i p)) (h1:look σ.res i=some .opq) (hk:look σ.res k=some (.blk (some u) b)) (hne:u≠i) (hn:posN2 u i σ.slots (posR2 u i σ.res)=true) (ha:ArgsT σ l ins0) (hin:ins b=ins0++[V0.one (.v (ptrV b))]) (hp:pre p) (hcell:∀ t,(out t).oneCell'=true) :
 OpE P ops o σ fun σ'=>∃ z:THistory×τ,post p z.1 z.2∧σ'=St.put ⟨σ.n,σ.slots,(u,boxH i z.1)::(i,.opq)::posR2 u i σ.res⟩ o.dst (true,.a (.one (.t (.v (out z.2))))):=
 R_callB h (run_clo h.1 ho hc) hg hd hu h1 hk hne hn ha rfl hin hp hcell
theorem R_callBd {τ:Type} {f:FuncId} {l:List Operand} {tys:Array TypeId} {ins:Nat→List V0} {pre:THistory→Prop} {post:THistory→THistory→τ→Prop} {out:τ→Value} (u i k:Nat) {b:Nat} {p:THistory} (h:FnB P f ins pre post out) (ho:o.op=.call { callee:=.value (.func f),args:=l.toArray,argTypes:=tys }) (hg:Grd ops o σ true) (hd:o.dst.all (fun d=>Nat.blt d σ.n)=true)
 (hu:look σ.res u=some (boxH i p)) (h1:look σ.res i=some .opq) (hk:look σ.res k=some (.blk (some u) b)) (hne:u≠i) (hn:posN2 u i σ.slots (posR2 u i σ.res)=true) (ha:ArgsT σ l (ins b)) (hp:pre p) (hcell:∀ t,(out t).oneCell'=true) :
 OpE P ops o σ fun σ'=>∃ z:THistory×τ,post p z.1 z.2∧σ'=St.put ⟨σ.n,σ.slots,(u,boxH i z.1)::(i,.opq)::posR2 u i σ.res⟩ o.dst (true,.a (.one (.t (.v (out z.2))))):=
 R_callB h (run_dir h.1 ho) hg hd hu h1 hk hne hn ha rfl (by simp) hp hcell
theorem R_callBg {τ:Type} [Inhabited τ] {f:FuncId} {c:Operand} {l:List Operand} {tys:Array TypeId} {ins:Nat→List V0} {ins0:List V0} {pre:THistory→Prop} {post:THistory→THistory→τ→Prop} {out:τ→Value} (u i k:Nat) {b:Nat} {p:THistory} (h:FnB P f ins pre post out) (ho:o.op=.call { callee:=.value c,args:=l.toArray,argTypes:=tys }) (hg:Grd ops o σ q) (hd:o.dst.all (fun d=>Nat.blt d σ.n)=true)
 (hc:q=true→Get σ true c (.one (.t (.v (cloV f b))))) (hu:look σ.res u=some (boxH i p)) (h1:look σ.res i=some .opq) (hk:look σ.res k=some (.blk (some u) b)) (hne:u≠i) (hn:posN2 u i σ.slots (posR2 u i σ.res)=true) (ha:q=true→ArgsT σ l ins0) (hin:ins b=ins0++[V0.one (.v (ptrV b))]) (hp:pre p) (hcell:∀ t,(out t).oneCell'=true) :
 OpE P ops o σ fun σ'=>∃ z:THistory×τ,((q=true→post p z.1 z.2)∧(q=false→z.1=p))∧σ'=St.put ⟨σ.n,σ.slots,(u,boxH i z.1)::(i,.opq)::posR2 u i σ.res⟩ o.dst (q,.a (.one (.t (.v (out z.2))))):=by
 intro w0 a w hr K Q hK
 cases q with
 | true=>exact R_callBv u i k h ho hg hd (hc rfl) hu h1 hk hne hn (ha rfl) hin hp hcell w0 a w hr K Q fun σ' a' w' ⟨z,hz,e⟩ hr'=>hK σ' a' w' ⟨z,⟨fun _=>hz,(fun e=>by cases e)⟩,e⟩ hr'
 | false=>
  obtain⟨I,hr⟩:=hr
  rw [hg.wanted hr]
  have r1:=hr.drop (rs':=(u,boxH i p)::(i,.opq)::posR2 u i σ.res) fun j r hj=>by
   rw [look_cons] at hj
   split at hj
   · rename_i e;subst e;cases hj;exact hu
   rw [look_cons] at hj
   split at hj
   · rename_i e;subst e;cases hj;exact h1
   obtain⟨_,a2⟩:=look_delR _ _ _ _ hj
   exact (look_delR _ _ _ _ a2).2
  exact hK _ _ _ ⟨(p,default),⟨(fun e=>by cases e),fun _=>rfl⟩,rfl⟩ ⟨I,r1.put hd rfl⟩
theorem R_makeClo {f:FuncId} {x:Operand} {u:Nat} (k:Nat) {b:Nat} (ho:o.op=.makeFunc (.func f) #[] #[x]) (hg:Grd ops o σ q) (hd:o.dst.all (fun d=>Nat.blt d σ.n)=true) (hx:Get σ true x (.one (.pp u 0))) (hk:look σ.res k=some (.blk (some u) b)):Op1 P ops o σ (σ.put o.dst (q,.a (.one (.t (.v (cloV f b)))))):=
 .val hg hd fun I w0 a w hr _=>by
  have hv:a.eval x=.pointer (some ⟨I.B u,0,none⟩):=hx.va hr rfl
  have hbb:I.B u=b:=(hr.res _ _ hk).2 u rfl
  refine⟨cloV f b,by simp [execOp,ho,Instr.makeFunc,hv,hbb,cloV,ptrV],[],?_,by simp⟩
  simp only [C]
  exact⟨trivial,trivial,rfl⟩
theorem look_memR {l:List (Nat×R)} {i:Nat} {x:R}:look l i=some x→(i,x)∈l:=by
 induction l with
 | nil=>intro h;cases h
 | cons y l ih=>
  intro h
  obtain⟨j,y⟩:=y
  rw [look_cons] at h
  split at h
  · rename_i e;subst e;cases h;simp
  exact List.mem_cons_of_mem _ (ih h)
theorem AWl.nameB {w0:Base} {Q:Exit→St→Prop} {l:List Oper} {n:Nat} {sl:List (Nat×(Bool×S))} {rs:List (Nat×R)} (k u:Nat) {cs:List E} (hu:look rs u=some (.box cs)) (hid:St.has ⟨n,sl,rs⟩ k=false) (h:∀ b,AWl P w0 ops Q l ⟨n,sl,(k,.blk (some u) b)::rs⟩):AWl P w0 ops Q l ⟨n,sl,rs⟩:=fun a w ⟨I,hr⟩=>by
 have hne:u≠k:=fun e=>by
  subst e
  unfold St.has at hid
  simp only [Bool.or_eq_false_iff] at hid
  have hm:=look_memR hu
  have h2:=List.any_eq_false.1 hid.2 _ hm
  simp [Nat.beq_refl] at h2
 exact h (I.B u) a w ⟨_,hr.addF (id:=k) hid (G:=[]) (u:=undef) (b:=0) (r:=.blk (some u) (I.B u)) List.nodup_nil (fun b hb=>by cases hb) ⟨by simp [Ip.set],fun i hi=>by cases hi;simp [Ip.set,hne]⟩⟩
theorem Le.ptr {d u k b:Nat} {n:Nat} {sl:List (Nat×(Bool×S))} {rs:List (Nat×R)} (hs:look sl d=some (true,.a (.one (.t (.v (ptrV b)))))) (hk:look rs k=some (.blk (some u) b)):Le ⟨n,sl,rs⟩ ⟨n,(d,(true,.a (.one (.pp u 0))))::sl,rs⟩:=fun w0 a w ⟨I,hr⟩=>by
 refine⟨I,⟨hr.ext,hr.defers,hr.size,fun i x hi=>?_,hr.res,hr.old,hr.lt,hr.own,hr.apart⟩⟩
 rw [look_cons] at hi
 split at hi
 · rename_i e
   subst e;cases hi
   obtain⟨G,h1,_⟩:VE I w (.t (.v (ptrV b))) (a.tmps.getD d undef):=hr.slots _ _ hs
   simp only [C] at h1
   have hbb:I.B u=b:=(hr.res _ _ hk).2 u rfl
   show a.tmps.getD d undef=.pointer (some ⟨I.B u,0,none⟩)
   rw [h1.1,hbb];rfl
 exact hr.slots i x hi
end
end Go.Q
