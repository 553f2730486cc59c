import Derived.Test.YtbecibmlbiebeaaGreatKntxb
import Derived.Test.YtbecibmlbiebeaaGreatB143xb
import Derived.Test.YtbecibmlbiebeaaGreatB98xb
import Derived.Test.YtbecibmlbiebeaaGreatB152xb
import Derived.Test.YtbecibmlbiebeaaGreatB92xb
set_option linter.unusedVariables false
set_option linter.unusedSimpArgs false
namespace Go.Q
open Go.RowKit
section
variable {P:Program} {ops:Array Oper} {o:Oper} {σ:St}
def FnTk (P:Program) (f:FuncId) (K:List (Nat×Obj)) (ins:List V0) (out:V):Prop:=Callee P f∧∀ w vs F,Good w []→V0s false w ins vs F→Keeps w K→Calls P f (List.toArray vs) w (FnPost w out)
theorem R_callTk {f:FuncId} {K:List (Nat×Obj)} {l:List Operand} {tys:Array TypeId} {ins:List V0} {out:V} {y:S} {rs:List (Nat×R)} (n:Nat) (h:FnTk P f K ins out) (hk:look σ.res 999999=some (.kept K)) (ho:o.op=.call { callee:=.value (.func f),args:=l.toArray,argTypes:=tys }) (hg:o.guard=none) (hd:o.dst.all (fun d=>Nat.blt d σ.n)=true)
 (ha:Args σ true l ins) (hout:outV n out=some (y,rs)) (hf:(rs.all fun x=>!σ.has x.1)=true):Op1 P ops o σ ((σ.adds rs).put o.dst (true,y)):=by
 rintro w0 a w ⟨I,hr⟩ KK Q hK
 simp only [Region.wanted,hg,if_true]
 obtain⟨F,hF⟩:=ha.ok hr rfl
 unfold Oper.wp
 rw [run_enter h.1 ho]
 refine (h.2 w _ F hr.good hF (kept_at hr hk)).mono fun e w' hR=>?_
 obtain⟨v,G,rfl,h1,h2,h3,h4⟩:=hR
 obtain⟨I',g1,g2⟩:=outV_ok hout hf (hr.later h4) h1 h2 fun b hb=>⟨.inl (Nat.le_trans hr.ext.size (h3 b hb).1),(Vr.lt h1 b hb),(h3 b hb).2,fun hz=>by have:=hr.old b hz;have:=(h3 b hb).1;omega,fun i hi=>by have:=(hr.lt i b hi).1;have:=(h3 b hb).1;omega⟩
 refine hK _ _ ⟨I',g1.put ?_ g2⟩
 have:(σ.adds rs).n=σ.n:=adds_n rs
 rw [this];exact hd
theorem FnT.tk {f:FuncId} {K:List (Nat×Obj)} {ts:List T} {gs:List Value} {out:V} (h:FnT P f [.agg ts] out) (hK:∀ w,Keeps w K→∃ F,Cs false w ts gs F):FnTk P f K [.agg (gs.map .v)] out:=⟨h.1,fun w vs F hG hv hk=>by
 obtain⟨v,vr,G1,G2,rfl,⟨cs,rfl,h2⟩,⟨rfl,rfl⟩,_⟩:=hv
 have e:∀ {l cs:List Value} {G:List Nat},Cs false w (l.map .v) cs G→cs=l:=by
  intro l
  induction l with
  | nil=>intro cs G h;unfold Cs at h;exact h.1
  | cons x l ih=>
   intro cs G h
   rw [List.map_cons] at h
   unfold Cs at h
   obtain⟨c,cr,G1,G2,rfl,g1,g2,_⟩:=h
   unfold C at g1
   rw [ih g2,g1.1]
 rw [e h2]
 obtain⟨F',h3⟩:=hK w hk
 exact h.2 w _ (F'++[]) hG ⟨_,_,F',[],rfl,⟨gs,rfl,h3⟩,⟨rfl,rfl⟩,rfl⟩⟩
theorem R_makeMap {t:TypeId} (u:Nat) (f:Int→Int→Int→Int) (ho:o.op=.makeMap t none) (hg:o.guard=none) (hd:o.dst.all (fun d=>Nat.blt d σ.n)=true) (hf:σ.has u=false) :
 OpE P ops o σ fun σ'=>∃ mb:Nat,True∧σ'=(σ.add u (.mp mb f)).put o.dst (true,.a (.one (.t (.v (.map (some mb)))))):=by
 rintro w0 a w ⟨I,hr⟩ K Q hK
 simp only [Region.wanted,hg,if_true]
 have hrun:(Instr.makeMap t none).run P w=.ok (.map (some w.heap.size)) (w.alloc (.map #[] 0)):=by simp [Instr.makeMap]
 have h1:(w.alloc (.map #[] 0)).heap[w.heap.size]?=some (.map #[] 0):=heap_alloc_new w _
 have hMB:MapB (w.alloc (.map #[] 0)) w.heap.size f:=⟨#[],0,h1,fun e he=>by simp at he⟩
 have hr':=hr.add (id:=u) hf ((Ext.refl w).alloc (.map #[] 0)) (G:=[w.heap.size]) (u:=undef) (b:=w.heap.size) (r:=.mp w.heap.size f) ⟨by simp,fun b hb=>by simp only [List.mem_singleton] at hb;subst hb;exact⟨Nat.le_refl _,hMB.lt,hMB.thaw⟩⟩ ⟨by simp [Ip.set],hMB⟩
 unfold Oper.wp
 simp [execOp,ho,hrun,Result.andThen,Oper.upon]
 exact hK _ _ _ ⟨w.heap.size,trivial,rfl⟩ ⟨_,hr'.put hd (VS_v _)⟩
def NKRes (fn:Func) (cs:List Value) (k:Nat) (rows:List (List T)) (f:Int→Int→Int→Int) (σ:St):Prop:=
 ∃ r id aid mb:Nat,fn.results=#[.tmp r]∧look σ.slots r=some (true,.a (.one (.pp id 0)))∧look σ.res id=some (.box (cs.map (fun v=>.t (.v v))++[.rf aid,.t (.v (.map (some mb)))]))∧look σ.res aid=some (.row k rows)∧look σ.res 888888=some (.mp mb f)
def RetNK (fn:Func) (cs:List Value) (k:Nat) (rows:List (List T)) (f:Int→Int→Int→Int):Exit→St→Prop
 | .normal,σ=>NKRes fn cs k rows f σ
 | .ret,σ=>NKRes fn cs k rows f σ
 | _,_=>False
theorem VEs_v {I:Ip} {w:World}:∀ {l:List Value} {l':List E} {cs:List Value},VEs I w (l.map (fun v=>.t (.v v))++l') cs→∃ cs',cs=l++cs'∧VEs I w l' cs'
 | [],_,cs,h=>⟨cs,rfl,h⟩
 | x::l,l',cs,⟨c,cr,e,⟨_,g,_⟩,h⟩=>by
  obtain⟨cs',e1,h2⟩:=VEs_v h
  simp only [C] at g
  exact⟨cs',by rw [e,e1,g.1];rfl,h2⟩
theorem Cs.one1 {w:World}:∀ {ts:List T} {cs:List Value} {F:List Nat},Cs false w ts cs F→∀ v∈cs,v.oneCell'=true
 | [],cs,F,h=>by unfold Cs at h;rw [h.1];exact fun v hv=>(by cases hv)
 | t::ts,cs,F,h=>by
  unfold Cs at h
  obtain⟨c,cr,G1,G2,rfl,g1,g2,_⟩:=h
  intro v hv
  rcases List.mem_cons.1 hv with rfl|hv
  · exact g1.cell1
  exact g2.one1 v hv
theorem FnNK.walk {n:Nat} {fid:FuncId} {fn:Func} {c:Code} {t1 t2 t3 t4 t5:T} {y:Value} {k:Nat} {rows:List (List T)} {f:Int→Int→Int→Int} (hf:P.funcs[fid]?=some fn) (hb:fn.body=some c) (hname:(fn.name == "runtime.NumGoroutine")=false) (hnt:fn.ntmps=n) (hn:Nat.ble 3 n=true) (hy:y.oneCell'=true)
 (h:∀ (g0 g1 a0 a1 a2:Value) (K:List (Nat×Obj)),(∀ w,Keeps w K→∃ F,Cs false w [t1,t2] [g0,g1] F)→∀ w0,AW P w0 c (RetNK fn [g0,g1,a0,a1,a2,y] k rows f) ⟨n,[(2,(true,.a (.one (.t (.v y))))),(1,(true,.a (.agg ([T.v a0,.v a1,.v a2].map E.t)))),(0,(true,.a (.agg ([T.v g0,.v g1].map E.t))))],[(999999,.kept K)]⟩) :
 FnNK P fid [t1,t2] [t3,t4,t5] y k rows f:=by
 subst hnt
 refine⟨⟨fn,hf,hname,by rw [hb];rfl⟩,fun w gs as1 F1 F2 hG h1 h2=>?_⟩
 obtain⟨g0,g1,rfl⟩:∃ g0 g1,gs=[g0,g1]:=by
  have:=h1.len
  match gs,this with
  | [g0,g1],_=>exact⟨g0,g1,rfl⟩
 obtain⟨a0,a1,a2,rfl⟩:∃ a0 a1 a2,as1=[a0,a1,a2]:=by
  have:=h2.len
  match as1,this with
  | [a0,a1,a2],_=>exact⟨a0,a1,a2,rfl⟩
 have hn':3≤fn.ntmps:=Nat.le_of_ble_eq_true hn
 let K:List (Nat×Obj):=F1.filterMap fun b=>(w.heap[b]?).map fun o=>(b,o)
 have hK:Keeps w K:=fun x hx=>by
  obtain⟨b,_,e⟩:=List.mem_filterMap.1 hx
  cases e1:w.heap[b]? with
  | none=>rw [e1] at e;cases e
  | some o=>rw [e1] at e;cases e;exact e1
 have hKr:∀ w',Keeps w' K→∃ F,Cs false w' [t1,t2] [g0,g1] F:=fun w' hk=>⟨F1,h1.congr fun b hb=>by
  have hlt:=h1.lt b hb
  have e1:w.heap[b]?=some (w.heap[b]'hlt):=Array.getElem?_eq_getElem _
  rw [e1]
  exact hk (b,_) (List.mem_filterMap.2 ⟨b,hb,by rw [e1];rfl⟩)⟩
 have o1:=h1.one1
 have o2:=h2.one1
 let a:Act:=⟨#[.agg #[g0,g1],.agg #[a0,a1,a2],y]++Array.replicate (fn.ntmps-(#[Value.agg #[g0,g1],.agg #[a0,a1,a2],y]).size) undef,[]⟩
 let I0:Ip:=⟨fun b=>b<w.heap.size,fun _=>[],fun _=>undef,fun _=>0⟩
 have hget:∀ (j:Nat) v,[Value.agg #[g0,g1],.agg #[a0,a1,a2],y][j]?=some v→a.tmps.getD j undef=v:=fun j v hj=>by
  have hjl:=(List.getElem?_eq_some_iff.1 hj).1
  simp only [a]
  rw [Array.getD_eq_getD_getElem?,Array.getElem?_append_left (by simpa using hjl)]
  have:#[Value.agg #[g0,g1],.agg #[a0,a1,a2],y][j]?=some v:=by simpa using hj
  rw [this];rfl
 have tv:∀ v:Value,v.oneCell'=true→VE I0 w (.t (.v v)) v:=fun v hv=>VE_v v hv
 have hr0:RelI I0 ⟨w,[],hG⟩ ⟨fn.ntmps,[(2,(true,.a (.one (.t (.v y))))),(1,(true,.a (.agg ([T.v a0,.v a1,.v a2].map E.t)))),(0,(true,.a (.agg ([T.v g0,.v g1].map E.t))))],[(999999,.kept K)]⟩ a w:=by
  refine⟨Chg.refl w [],rfl,by simp [a];omega,fun i x hi=>?_,fun id r hi=>?_,fun b hb=>hb,fun id b hb=>(by cases hb),fun id r hi=>⟨List.nodup_nil,fun b hb=>(by cases hb)⟩,fun i j _ b hb=>(by cases hb)⟩
  · rw [look_cons] at hi
    split at hi
    · rename_i e;subst e;cases hi
      rw [hget 2 y rfl];exact tv y hy
    rw [look_cons] at hi
    split at hi
    · rename_i e;subst e;cases hi
      rw [hget 1 _ rfl]
      exact⟨[a0,a1,a2],rfl,_,_,rfl,tv a0 (o2 a0 (by simp)),_,_,rfl,tv a1 (o2 a1 (by simp)),_,_,rfl,tv a2 (o2 a2 (by simp)),rfl⟩
    rw [look_cons] at hi
    split at hi
    · rename_i e;subst e;cases hi
      rw [hget 0 _ rfl]
      exact⟨[g0,g1],rfl,_,_,rfl,tv g0 (o1 g0 (by simp)),_,_,rfl,tv g1 (o1 g1 (by simp)),rfl⟩
    cases hi
  rw [look_cons] at hi
  split at hi
  · cases hi;exact⟨rfl,fun x hx=>⟨hK x hx,hK.lt x hx⟩⟩
  cases hi
 refine calls_of_wp hf hb (Code.wp_mono ?_ (h g0 g1 a0 a1 a2 K hKr ⟨w,[],hG⟩ _ _ ⟨_,hr0⟩))
 rintro e a' w' ⟨σ1,h1,I,hI⟩
 have key:NKRes fn [g0,g1,a0,a1,a2,y] k rows f σ1→a'.defers=[]∧∃ v',(results fn a'.tmps).run P w'=.ok v' w'∧∃ b mb v t F,(Ending.returned v')=.returned (.pointer (some ⟨b,0,none⟩))∧(w.heap.size≤b∧w.heap.size≤mb∧b≠mb)∧
  w'.heap[b]?=some (.cells ([g0,g1]++([a0,a1,a2]++[y,v,.map (some mb)])).toArray t (0,0))∧MapB w' mb f∧C true w' (.sl k rows) v F∧F.Nodup∧(∀ x∈F,w.heap.size≤x∧Thaw w' x∧x≠b∧x≠mb)∧Ext w w':=fun ⟨r,id,aid,mb,q1,q2,q3,q4,q5⟩=>by
  obtain⟨vs,r1,r2⟩:=run_results (P:=P) (fn:=fn) (l:=[.tmp r]) hI q1 (.tmp q2 .nil)
  obtain⟨v1,vr,rfl,r3,r4⟩:=r2
  have r4:vr=[]:=r4
  subst r4
  have r3:v1=.pointer (some ⟨I.B id,0,none⟩):=r3
  subst r3
  obtain⟨m1,ws,t,m2,m3⟩:I.F id=[I.B id]∧∃ vs e,w'.heap[I.B id]?=some (.cells (List.toArray vs) e (0,0))∧VEs I w' _ vs:=hI.res _ _ q3
  obtain⟨cs',rfl,m4⟩:=VEs_v m3
  obtain⟨v,cr,rfl,⟨m5,_⟩,cm,cr2,rfl,⟨_,m6,_⟩,m7⟩:=m4
  have m7:cr2=[]:=m7
  subst m7
  simp only [C] at m6
  obtain⟨rfl,_⟩:=m6
  have hC:C true w' (.sl k rows) (I.hd aid) (I.F aid):=hI.res _ _ q4
  obtain⟨p1,p2⟩:I.F 888888=[mb]∧MapB w' mb f:=hI.res _ _ q5
  have own:∀ i r0,look σ1.res i=some r0→∀ x∈I.F i,w.heap.size≤x∧Thaw w' x:=fun i r0 hi x hx=>⟨((hI.own i r0 hi).2 x hx).1.resolve_right (by simp),((hI.own i r0 hi).2 x hx).2⟩
  have ne1:id≠888888:=fun e=>by rw [e,q5] at q3;cases q3
  have ne2:aid≠888888:=fun e=>by rw [e,q5] at q4;cases q4
  have ne3:aid≠id:=fun e=>by rw [e,q3] at q4;cases q4
  refine⟨hI.defers,_,r1,I.B id,mb,v,t,I.F aid,rfl,⟨(own id _ q3 _ (by rw [m1];simp)).1,(own 888888 _ q5 _ (by rw [p1];simp)).1,fun e=>hI.apart id 888888 ne1 (I.B id) (by rw [m1];simp) (by rw [p1,e];simp)⟩,m2,p2,by rw [m5];exact hC,(hI.own aid _ q4).1,fun x hx=>⟨(own aid _ q4 x hx).1,(own aid _ q4 x hx).2,fun e=>hI.apart aid id ne3 x hx (by rw [m1,e];simp),fun e=>hI.apart aid 888888 ne2 x hx (by rw [p1,e];simp)⟩,hI.ext.toExt⟩
 cases e with
 | normal=>exact key h1
 | ret=>exact key h1
 | exit id=>exact h1.elim
 | goto l=>exact h1.elim
 | panic c=>exact h1.elim
 | outgrown=>exact h1.elim
end
end Go.Q
set_option maxHeartbeats 1000000
set_option maxRecDepth 100000
namespace Go.Q
open Go.D
end Go.Q
namespace Go.Proofs.YtbecibmlbiebeaaGreat
open Go.RowKit Go.Q Go.D Go.WideMaps Go.ChangeMaps
theorem implnewCounter (g:TGraph) (a:TAutomaton) (hg:validG g=true) (y:Int) (f:Int→Int→Int→Int):FnNK Tryz.prog 83 (cGraph g) (cAutomaton a) (.int .i64 y) 1 ((arcsV g).map cArcS) f:=by
 refine FnNK.walk Tryz.func83 rfl (by kernel_rfl) Tryz.ntmps83 rfl rfl fun g0 g1 a0 a1 a2 K hK w0=>?_
 refine Af (Ad (Bm U U U (.tm U) (ts:=_) (by rfl)) U ?_);refine Ad (Bm U U U (.tm U) (ts:=_) (by rfl)) U ?_;refine Ak ?_;refine Aa (Ae (Ar (Av [0,1,2,3,4,6] [999999]) ?_));apply Cg (N:=6) (k:=3) (Hs:=[0,1,2,3]) (ms:=[[],[4],[5],[4,5]]) (es:=[(0,4,1),(0,5,2),(1,5,3),(2,4,3)]) (σ1:=_) (SM:=⟨_,[(0,_),(1,_),(2,_),(3,_),(4,_),(6,_),(7,_),(8,_),(9,_),(10,_)],[(999999,_)]⟩)
 case hm=>kernel_rfl
 case hB=>kernel_rfl
 case hP=>kernel_rfl
 case hL=>kernel_rfl
 case hN=>rfl
 case hpre=>
  apply Ao (P:=Tryz.prog) 0 rfl ((Ca rfl (.no rfl) rfl (.tm rfl) Bx rfl rfl)) (by exact HasV.ld (x:=.tmp 3) (.tm rfl) rfl rfl) rfl rfl rfl;apply Ao (P:=Tryz.prog) 1 rfl ((by exact Ca rfl (.no rfl) rfl (.tm rfl) Bt rfl rfl)) (by exact HasV.ld (x:=.tmp 4) (.tm rfl) rfl rfl) rfl rfl rfl;apply Ao (P:=Tryz.prog) 2 rfl (Bh rfl (.no rfl) rfl (.tm rfl)) (by exact HasV.slot (t:=2) rfl) rfl rfl rfl;apply Ao (P:=Tryz.prog) 3 rfl ((by exact Ca rfl (.no rfl) rfl (.tm rfl) Bx rfl rfl)) (by exact HasV.ld (x:=.tmp 3) (.tm rfl) rfl rfl) rfl rfl rfl;exact PreOk.nil
 case hS=>exact A5
 case hH=>
  refine⟨⟨_,_,_,rfl,rfl,rfl,fun σ' hs=>(by exact Ca rfl (.no rfl) (Ah hs rfl) (.tm (hs.slots _ _ rfl)) Bx rfl rfl)⟩,?_⟩
  refine⟨⟨_,_,_,rfl,rfl,rfl,fun σ' hs=>(by exact Ca rfl (.no rfl) (Ah hs rfl) (.tm (hs.slots _ _ rfl)) Bt rfl rfl)⟩,?_⟩
  refine LocsH.mv ?_
  refine⟨⟨_,_,_,rfl,rfl,rfl,fun σ' hs=>(by exact Ca rfl (.no rfl) (Ah hs rfl) (.tm (hs.slots _ _ rfl)) Bx rfl rfl)⟩,?_⟩
  trivial
 apply Dh.new0 (i:=4);rfl;rfl;rfl
 · intro w9 _;refine Cc (R_callTk 1100 (FnT.tk (implarcs g hg) hK) U U U U (.cons (.tm U) U .nil) U U) U ?_;exact An [0,1,2,3,4,6,7,8,9,10,11] [999999,1100]
 intros;exact A5
 apply Dh.drw0 (i:=5)
 case ha=>rfl
 case ho=>rfl
 case hE=>
  intro  hp
  obtain _:=hp
  exact R_makeMap 888888 (f) rfl rfl rfl rfl
 case hb=>rfl
 case hL=>
  intro  z12 hp hy;exact EndQ.eq (Av [0,1,2,3,4,6,7,8,9,10,12] [999999,888888]) U
 case hS=>intros;exact A5
 apply Dh.drw0 (i:=5)
 case ha=>rfl
 case ho=>rfl
 case hE=>
  intro  hp
  obtain _:=hp
  exact R_makeMap 888888 (f) rfl rfl rfl rfl
 case hb=>rfl
 case hL=>
  intro  z12 hp hy;exact EndQ.eq (Av [0,1,2,3,4,6,7,8,9,10,11,12] [999999,1100,888888]) U
 case hS=>intros;exact A5
 apply Dh.old1 (i:=4);rfl;rfl;rfl
 · intro w9 z12 hp
   obtain⟨_,hz12⟩:=hp
   refine Cc (R_callTk 1100 (FnT.tk (implarcs g hg) hK) U U U U (.cons (.tm U) U .nil) U U) U ?_;exact Aa A4
 refine Dh.fin1 (k:=3) rfl ?_;intro z12 hp
 obtain⟨_,hz12⟩:=hp
 refine Ad (Bo (ps:=[(0,.tmp 7),(1,.tmp 8),(2,.tmp 9),(3,.tmp 11),(4,.tmp 12)]) U U U in118 U U st118 (.cons (.tm U) U U fp118_0 (.cons (.tm U) U U fp118_1 (.cons (.tm U) U U fp118_2 (.cons (.tm U) U U fp118_3 (.cons (.tm U) U U fp118_4 .nil))))) U) U ?_;refine A6 (R_box 14 U U U (.tm U) U U U) U ?_;refine Ag ?_;refine Aa (Am ?_)
 show NKRes _ _ _ _ _ _
 exact⟨_,_,_,_,rfl,rfl,rfl,rfl,rfl⟩
end Go.Proofs.YtbecibmlbiebeaaGreat
set_option maxHeartbeats 1000000
set_option maxRecDepth 100000
namespace Go.Q
open Go.RowKit Go.D
theorem findI_nn {α:Type} {p:α→Bool}:∀ {l:List α} (k:Nat),0≤findI p l k↔∃ x∈l,p x=true
 | [],k=>by simp [findI]
 | x::l,k=>by
  rw [findI]
  split
  · rename_i h;exact⟨fun _=>⟨x,by simp,h⟩,fun _=>by omega⟩
  rename_i h;rw [findI_nn (l:=l) (k+1)];simp [h]
theorem find_in (l:List Int) (v:Int):decide (0≤findI (fun x=>decide (v=x)) l 0)=decide (v∈l):=by
 rw [decide_eq_decide,findI_nn]
 constructor
 · rintro⟨x,hx,h⟩;rw [decide_eq_true_eq] at h;rw [h];exact hx
 intro h;exact⟨v,h,by simp⟩
def cntW (g:TGraph) (a:TAutomaton) (x y:Int) (n:Nat):Int:=if (usefulOk g a x y&&inB (n:Int) 0 60)=true then cwC g a 0 y n x (2^a.Start.toNat) else 0
theorem arcsCV_0 (g:TGraph):arcsCV g 0=arcsV g:=by
 unfold arcsCV arcsV arcsC condOk
 simp
def out17 (z:Value×TGraph×TAutomaton×Int×Int):V:=.tup [.one (.v z.1),.agg (cGraph z.2.1),.agg (cAutomaton z.2.2.1),.one (.v (.int .i64 z.2.2.2.1)),.one (.v (.int .i64 z.2.2.2.2))]
def outI (z:TGraph×TAutomaton×Int×Int):V:=.tup [.agg (cGraph z.1),.agg (cAutomaton z.2.1),.one (.v (.int .i64 z.2.2.1)),.one (.v (.int .i64 z.2.2.2))]
theorem fin_cnt {g:TGraph} {a:TAutomaton} {x y:Int} (h:infW g a x y=false):cntW g a x y (usefF g a x y).length=0:=by
 unfold cntW
 split
 · rename_i h1
   rw [Bool.and_eq_true] at h1
   exact fin_none h1.1 h
 rfl
end Go.Q
namespace Go.Proofs.YtbecibmlbiebeaaGreat
open Go.RowKit Go.Q Go.D
theorem specAnswersFrom (g:TGraph) (a:TAutomaton) (x:Int):FnT Tryz.prog 105 [.agg (cGraph g),.agg (cAutomaton a),.one (.v (.int .i64 x))] (.a (.one (.sl 1 ((ansF g a x).map cInt)))):=by
 refine A7 Tryz.func105 U (by kernel_rfl) Tryz.ntmps105 U fun hlen w0=>?_
 try simp [cEdge,cGraph,cAutomaton] at hlen
 skip
 refine Af (Ad (Bm U U U (.tm U) (ts:=_) (by rfl)) U ?_);refine Ad (Bm U U U (.tm U) (ts:=_) (by rfl)) U ?_;refine Ak ?_;refine Cb (i:=6) 20001 1 U U ?_;refine Aa (Ae (Af (Aq Bx ?_)));refine Aq Bt ?_;refine Ab ?_;refine Bv (specl14Good g a x 0) ?_;refine C1 ?_;refine Aa (Ai (.tm U) (fun h11=>?_) (fun h11=>?_))
 · try simp at h11
   refine Af (A6 (Cu 12 U U U Tryz.underlying40 ty3 U) U ?_);refine Ag ?_;refine Aa (Am (Res.one U (.tmp U .nil) U ?_))
   unfold ansF;rw [if_neg (by simpa using h11)];rfl
 try simp at h11
 obtain⟨hg,ha,hx⟩:=good_parts (show goodB g a x 0=true by simpa using h11)
 refine Aj (Af (Aq Bx ?_));refine Aq Bt ?_;refine Ab ?_;refine Cc (Cq 1600 (specl15From g a ha hg x hx) U U U (.cons (.tm U) U (.cons (.tm U) U (.cons (.tm U) U .nil))) U U) U ?_;refine Ag ?_;refine Aa (Am (Res.one U (.tmp U .nil) U ?_))
 unfold ansF;rw [if_pos (by simpa using h11)];rfl
theorem specHasAnswer (g:TGraph) (a:TAutomaton) (x y:Int):FnT Tryz.prog 40 [.agg (cGraph g),.agg (cAutomaton a),.one (.v (.int .i64 x)),.one (.v (.int .i64 y))] (.a (.one (.v (.bool (decide (y∈ansF g a x)))))):=by
 refine A7 Tryz.func40 U (by kernel_rfl) Tryz.ntmps40 U fun hlen w0=>?_
 try simp [cEdge,cGraph,cAutomaton] at hlen
 refine Af (Ad (Bm U U U (.tm U) (ts:=_) (by rfl)) U ?_);refine Ad (Bm U U U (.tm U) (ts:=_) (by rfl)) U ?_;refine Ak ?_;refine Aa (Af (Aq Bx ?_));refine Aq Bt ?_;refine Ab ?_;refine Bv (specAnswersFrom g a x) ?_;refine Ab ?_;refine Bv (specl11Find (ansF g a x) y) ?_;refine AWl.gd ?_;refine Ag ?_;refine Aa (Am (Bp U U ?_));exact congrArg Value.bool (find_in _ _)
theorem implCountWalks (g:TGraph) (a:TAutomaton) (x y:Int) (n:Nat):FnT Tryz.prog 41 [.agg (cGraph g),.agg (cAutomaton a),.one (.v (.int .i64 x)),.one (.v (.int .i64 y)),.one (.v (.int .i64 (n:Int)))] (.a (.one (.v (.int .i64 (cntW g a x y n))))):=by
 refine A7 Tryz.func41 U (by kernel_rfl) Tryz.ntmps41 U fun hlen w0=>?_
 try simp [cEdge,cGraph,cAutomaton] at hlen
 skip
 refine Af (Ad (Bm U U U (.tm U) (ts:=_) (by rfl)) U ?_);refine Ad (Bm U U U (.tm U) (ts:=_) (by rfl)) U ?_;refine Ak ?_;refine Aa (Ae (Af (Aq Bx ?_)));refine Aq Bt ?_;refine Ab ?_;refine Ab ?_;refine Ad (B7 (xs:=[.tmp 14,.tmp 15]) (rows:=[cInt x,cInt y]) U U U (.cons (.tm U) U U (.cons (.tm U) U U .nil)) Tryz.underlying40 in3 U U (U)) U ?_;refine Bv (implbothOk g a [x,y]) ?_;refine C1 ?_;refine Ab ?_;refine AWl.mw ?_;refine Ad (R_callq U (by exact .not1 U U U U) U (.cons (.tmp U (by exact id)) U (.cons (.const U) U (.cons (.const U) U .nil))) fun hq=>FnT.fr (implwithin (n:Int) 0 60)) U ?_;refine Ad (R_not U (by exact .not1 U U U U) U (.tmp U (by exact id))) U ?_;refine Cx ?_;refine Aa (Ai (.tm U) (fun h23=>?_) (fun h23=>?_))
 · try simp at h23
   have hno:(usefulOk g a x y&&inB (n:Int) 0 60)=false:=(by rw [←useful_both];revert h23;cases bothB g a [x,y]<;>cases inB (n:Int) 0 60<;>simp)
   refine Ae (Ar (Av [0,1,2,3,4,5,6,10] []) ?_);refine Ac (Ak ?_);refine Aa (Am (Bp U U ?_))
   unfold cntW;rw [hno];rfl
 try simp at h23
 have hok:(usefulOk g a x y&&inB (n:Int) 0 60)=true:=(by rw [←useful_both];revert h23;cases bothB g a [x,y]<;>cases inB (n:Int) 0 60<;>simp)
 have hu:=(Bool.and_eq_true _ _▸hok:_∧_)
 obtain⟨hg,ha,hx⟩:=good_parts ((Bool.and_eq_true _ _▸(show (goodB g a x 0&&goodB g a y 0)=true from hu.1):_∧_)).1
 have hA:=validA_len ha
 have hn60:n≤60:=by (have h:=hu.2;unfold inB at h;simp at h;omega)
 have hsm:2^a.Start.toNat<2^a.Accept.length:=Nat.pow_lt_pow_right (by omega) (by omega)
 refine Aj (Ae (Ar (Av [0,1,2,3,4,5,6,10] []) ?_));refine Ac (Aq Bx ?_);refine Aq Bt ?_;refine Ab ?_;refine Bd (R_callNK 2700 888888 (knF g a 0 y) ((by rw [arcsCV_0];exact implnewCounter g a hg y (knF g a 0 y):FnNK Tryz.prog 83 (cGraph g) (cAutomaton a) (.int .i64 y) 1 ((arcsCV g 0).map cArcS) (knF g a 0 y))) U U U (.tm U) (.tm U) (.tm U) U U U ⟨by decide,by decide⟩) ?_
 rintro _ ⟨mb27,rfl⟩
 refine Ag ?_;refine Aa (Ae (Ar (Le.frzBox 2700 2701 11 U U U U U U) ?_));refine Ac (Ab ?_);refine Ab ?_;refine Ab ?_;refine Ab ?_;refine Bv (implcounterstart g a ha y (arcsCV g 0) mb27 x _) ?_;refine Cc (R_callK (u:=888888) 3300 (implcountercount g a ha hg 0 y mb27 n (by omega) x hx (2^a.Start.toNat) hsm) U U U U U (.cons (.tm U) U (.cons (.tm U) U .nil)) U U) U ?_;refine Ag ?_;refine Aa (Am (Bp U U ?_))
 unfold cntW;rw [if_pos hok]
theorem specl17Two (bs:List Int) (hb:∀ n∈bs,0≤n∧n<256):FrX Tryz.prog 92 [.one (.sl 1 (byR bs))] (fun _=>True) out17:=by
 refine FrX.walk Tryz.func92 rfl (by kernel_rfl) Tryz.ntmps92 rfl fun w0=>?_
 refine Af (Ak ?_);refine A6 (Bi 3 U U U in45 U U U) U ?_;refine A6 (Bi 4 U U U in36 U U U) U ?_;refine Ak ?_;refine Ak ?_;refine Aa (Af (Ab ?_));refine Bd (R_calln 888888 (specl1New) U U U (.tm U) (by assumption) U) ?_
 rintro _ ⟨g,rfl⟩
 refine Ag ?_;refine Aa (Af (Ab ?_));refine Bd (Bf 1800 (specl14PairD) U U U (.tm U) U U .nil (fun _=>rfl) (fun _=>rfl)) ?_
 rintro _ ⟨z18,hz18,rfl⟩
 try dsimp only at hz18
 refine Ad (R_movet U (.no U) U U fun _=>rfl) U ?_;refine Ad (B6 U (.no U) U U (fun _=>rfl) U) U ?_;refine Ad (B6 U (.no U) U U (fun _=>rfl) U) U ?_;refine A6 (Bi 8 U U U in45 U U U) U ?_;refine A6 (Bi 9 U U U in36 U U U) U ?_;refine Az Bx ?_;refine Bq (Av [0,2,3,4,5,6,7,8,9,20] [3,4,888888,1800,1801,1802,1803,8,9]) ?_;refine Az Bt ?_;refine Aa (Af (Ab ?_));refine A9 Bx ?_;refine Bd (Bf 2300 (specl4Node z18.1) U U U (.tm U) U U (.cons (.tm U) U .nil) (fun _=>rfl) (fun _=>rfl)) ?_
 rintro _ ⟨z23,hz23,rfl⟩
 try dsimp only at hz23
 refine Ag ?_;refine Aa (Af (Ab ?_));refine A9 Bx ?_;refine Bd (Bf 2600 (specl4Node z18.1) U U U (.tm U) U U (.cons (.tm U) U .nil) (fun _=>rfl) (fun _=>rfl)) ?_
 rintro _ ⟨z26,hz26,rfl⟩
 try dsimp only at hz26
 refine Ag ?_;refine Aa (Ae (Ar (Av [0,2,3,4,5,6,7,8,9,10,11] [3,4,888888,1800,1801,1802,1803,8,9]) ?_));refine Ac (A9 Bx ?_);refine A9 Bt ?_;refine Bv (specAllAnswers z18.1 z18.2) ?_;refine Ag ?_;refine Aa (Ae (Af (Ab ?_)));refine Be (.t) Tryz.underlying48 ?_;refine AWl.gc ?_;refine Ab ?_;refine Cm ?_;refine Bd (R_calldq 3500 (specl1Once _) U (by exact .yes1 U U U U) U (.tmp U (by exact id)) U U (.cons (.const U) U .nil) (fun _=>rfl)) ?_
 rintro _ ⟨z35,hz35,rfl⟩
 try dsimp only at hz35
 refine Ad (R_not U (by exact .yes1 U U U U) U (.tmp U (by exact id))) U ?_;refine Ck ?_;refine Aa (Ai (.tm U) (fun h37=>?_) (fun h37=>?_))
 · skip
   skip
   have hpos:0<(allAns z18.1 z18.2).length:=(by simp at h37;exact h37.1)
   refine Ae (Ar (Av [0,2,3,4,5,6,7,8,9,10,11,12] [3,4,888888,1800,1801,1802,1803,8,9]) ?_);refine Ac (Ab ?_);refine Ab ?_;refine Ab ?_;refine Be (.t) Tryz.underlying48 ?_;refine Bd (Bf 4200 (specl1Below _) U U U (.tm U) U U (.cons (.tm U) U .nil) (fun _=>rfl) (fun _=>rfl)) ?_
   rintro _ ⟨z42,hz42,rfl⟩
   try dsimp only at hz42
   refine Ad ((by exact As U (.no U) U (.tm U) (.tm U) Tryz.underlying48 ty58 (fun _=>⟨by simp at hz42;omega,Al (List.getElem?_eq_getElem (i:=z42.toNat) (show z42.toNat<(allAns z18.1 z18.2).length by simp at hz42;omega))⟩))) U ?_;refine Aq ty58 ?_;refine A6 (Bi 13 U U U in58 U U U) U ?_;refine Az ty58 ?_;refine Aa (Ae (Ar (Av [0,2,3,4,5,6,7,8,9,10,11,12,13] [3,4,888888,1800,1801,1802,1803,8,9,13]) ?_));refine Ar (Av [0,3,4,6,7,8,9,10,11,12,13] [3,4,888888,1800,1801,1802,1803,8,9,13]) ?_;apply Cg (N:=11) (k:=4) (Hs:=[0,1,2,3,4,5,6]) (ms:=[[],[7],[7,8],[7,8,9],[7,8,9,10]]) (es:=[(0,7,1),(1,8,2),(2,9,3),(3,10,4)]) (σ1:=_) (SM:=⟨_,[(0,_),(3,_),(4,_),(6,_),(7,_),(8,_),(9,_),(10,_),(11,_),(12,_),(13,_),(45,_),(46,_),(47,_),(48,_),(49,_),(50,_),(51,_)],[(888888,_),(1800,_),(1801,_),(1802,_),(1803,_),(8,_),(9,_),(13,_)]⟩)
   case hm=>kernel_rfl
   case hB=>kernel_rfl
   case hP=>kernel_rfl
   case hL=>kernel_rfl
   case hN=>rfl
   case hpre=>
    apply Ao (P:=Tryz.prog) 0 rfl (Bh rfl (.no rfl) rfl (.tm rfl)) (by exact HasV.slot (t:=7) rfl) rfl rfl rfl;apply Ao (P:=Tryz.prog) 1 rfl ((by exact Bk rfl (.no rfl) rfl (.tm rfl) rfl Bx rfl rfl)) (by exact HasV.load (x:=.tmp 8) (.tm rfl) rfl Bx rfl rfl) rfl rfl rfl;apply Ao (P:=Tryz.prog) 2 rfl ((by exact Bk rfl (.no rfl) rfl (.tm rfl) rfl Bt rfl rfl)) (by exact HasV.load (x:=.tmp 9) (.tm rfl) rfl Bt rfl rfl) rfl rfl rfl;apply Ao (P:=Tryz.prog) 3 rfl ((by exact Ba rfl (.no rfl) rfl (.tm rfl) fl58_0)) (by exact .pp) rfl rfl rfl;apply Ao (P:=Tryz.prog) 4 rfl ((by exact Bk rfl (.no rfl) rfl (.tm rfl) rfl ty3 rfl rfl)) (by exact HasV.load (x:=.tmp 48) (.tm rfl) rfl ty3 rfl rfl) rfl rfl rfl;apply Ao (P:=Tryz.prog) 5 rfl ((by exact Ba rfl (.no rfl) rfl (.tm rfl) fl58_1)) (by exact .pp) rfl rfl rfl
    apply Ao (P:=Tryz.prog) 6 rfl ((by exact Bk rfl (.no rfl) rfl (.tm rfl) rfl ty3 rfl rfl)) (by exact HasV.load (x:=.tmp 50) (.tm rfl) rfl ty3 rfl rfl) rfl rfl rfl;exact PreOk.nil
   case hS=>exact A5
   case hH=>
    refine LocsH.mv ?_;refine LocsH.lq Bx ?_;refine LocsH.lq Bt ?_;refine LocsH.fq fl58_0 ?_;refine LocsH.lq ty3 ?_;refine LocsH.fq fl58_1 ?_;refine LocsH.lq ty3 ?_
    trivial
   apply Dh.new0 (i:=7);rfl;rfl;rfl
   · intro w9 _;refine Ag ?_;exact An [0,2,3,4,6,7,8,9,10,11,12,13,45,46,47,48,49,50,51] [3,4,888888,1800,1801,1802,1803,8,9,13]
   intros;exact A5
   apply Dh.new0 (i:=8);rfl;rfl;rfl
   · intro w9 _;refine Az Bx ?_;exact An [0,2,3,4,6,7,8,9,10,11,12,13,45,46,47,48,49,50,51] [3,4,888888,1800,1801,1802,1803,8,9,13]
   intros;exact A5
   apply Dh.new0 (i:=9);rfl;rfl;rfl
   · intro w9 _;refine Az Bt ?_;exact An [0,2,3,4,6,7,8,9,10,11,12,13,45,46,47,48,49,50,51] [3,4,888888,1800,1801,1802,1803,8,9,13]
   intros;exact A5
   apply Dh.new0 (i:=10);rfl;rfl;rfl
   · intro w9 _;refine Ag ?_;exact An [0,2,3,4,5,6,7,8,9,10,11,12,13,45,46,47,48,49,50,51] [3,4,888888,1800,1801,1802,1803,8,9,13]
   intros;exact A5
   refine Dh.fin0 (k:=4) rfl ?_;intro  hp
   obtain _:=hp
   refine Ag ?_;refine Aa (Am ?_);apply ERRes.mk (x:=(_,z18.1,z18.2,((allAns z18.1 z18.2)[z42.toNat]'(by simp at hz42;omega)).From,((allAns z18.1 z18.2)[z42.toNat]'(by simp at hz42;omega)).To))
   case h=>
    refine ResR.many U (.tmp U (.cell U U Bx U U (.cell U U Bt U U (.tmp U (.tmp U .nil))))) U ?_ (by simp)
    rfl
   case hp=>exact trivial
 skip
 skip
 refine Aj (Ae (Ar (Av [0,2,3,4,5,6,7,8,9,10,11,12] [3,4,888888,1800,1801,1802,1803,8,9]) ?_));refine Ar (Av [0,3,4,6,7,8,9,10,11,12] [3,4,888888,1800,1801,1802,1803,8,9]) ?_;apply Cg (N:=9) (k:=4) (Hs:=[0,1,2,3,4]) (ms:=[[],[5],[5,6],[5,6,7],[5,6,7,8]]) (es:=[(0,5,1),(1,6,2),(2,7,3),(3,8,4)]) (σ1:=_) (SM:=⟨_,[(0,_),(3,_),(4,_),(6,_),(7,_),(8,_),(9,_),(10,_),(11,_),(12,_),(52,_),(53,_),(54,_),(55,_),(56,_)],[(888888,_),(1800,_),(1801,_),(1802,_),(1803,_),(8,_),(9,_)]⟩)
 case hm=>kernel_rfl
 case hB=>kernel_rfl
 case hP=>kernel_rfl
 case hL=>kernel_rfl
 case hN=>rfl
 case hpre=>
  apply Ao (P:=Tryz.prog) 0 rfl (Bh rfl (.no rfl) rfl (.tm rfl)) (by exact HasV.slot (t:=7) rfl) rfl rfl rfl;apply Ao (P:=Tryz.prog) 1 rfl ((by exact Bk rfl (.no rfl) rfl (.tm rfl) rfl Bx rfl rfl)) (by exact HasV.load (x:=.tmp 8) (.tm rfl) rfl Bx rfl rfl) rfl rfl rfl;apply Ao (P:=Tryz.prog) 2 rfl ((by exact Bk rfl (.no rfl) rfl (.tm rfl) rfl Bt rfl rfl)) (by exact HasV.load (x:=.tmp 9) (.tm rfl) rfl Bt rfl rfl) rfl rfl rfl;apply Ao (P:=Tryz.prog) 3 rfl (Bh rfl (.no rfl) rfl (.tm rfl)) (by exact HasV.slot (t:=10) rfl) rfl rfl rfl;apply Ao (P:=Tryz.prog) 4 rfl (Bh rfl (.no rfl) rfl (.tm rfl)) (by exact HasV.slot (t:=11) rfl) rfl rfl rfl;exact PreOk.nil
 case hS=>exact A5
 case hH=>
  refine LocsH.mv ?_;refine LocsH.lq Bx ?_;refine LocsH.lq Bt ?_;refine LocsH.mv ?_;refine LocsH.mv ?_
  trivial
 apply Dh.new0 (i:=5);rfl;rfl;rfl
 · intro w9 _;refine Ag ?_;exact An [0,2,3,4,6,7,8,9,10,11,12,52,53,54,55,56] [3,4,888888,1800,1801,1802,1803,8,9]
 intros;exact A5
 apply Dh.new0 (i:=6);rfl;rfl;rfl
 · intro w9 _;refine Az Bx ?_;exact An [0,2,3,4,6,7,8,9,10,11,12,52,53,54,55,56] [3,4,888888,1800,1801,1802,1803,8,9]
 intros;exact A5
 apply Dh.new0 (i:=7);rfl;rfl;rfl
 · intro w9 _;refine Az Bt ?_;exact An [0,2,3,4,6,7,8,9,10,11,12,52,53,54,55,56] [3,4,888888,1800,1801,1802,1803,8,9]
 intros;exact A5
 apply Dh.new0 (i:=8);rfl;rfl;rfl
 · intro w9 _;refine Ag ?_;exact An [0,2,3,4,5,6,7,8,9,10,11,12,52,53,54,55,56] [3,4,888888,1800,1801,1802,1803,8,9]
 intros;exact A5
 refine Dh.fin0 (k:=4) rfl ?_;intro  hp
 obtain _:=hp
 refine Ag ?_;refine Aa (Am ?_);apply ERRes.mk (x:=(_,z18.1,z18.2,z23,z26))
 case h=>
  refine ResR.many U (.tmp U (.cell U U Bx U U (.cell U U Bt U U (.tmp U (.tmp U .nil))))) U ?_ (by simp)
  rfl
 case hp=>exact trivial
theorem specDrawHasInfiniteWalks (bs:List Int) (hb:∀ n∈bs,0≤n∧n<256):FrX Tryz.prog 34 [.one (.sl 1 (byR bs))] (fun _=>True) outI:=by
 refine FrX.walk Tryz.func34 rfl (by kernel_rfl) Tryz.ntmps34 rfl fun w0=>?_
 refine Af (A6 (Bi 2 U U U in45 U U U) U ?_);refine A6 (Bi 3 U U U in36 U U U) U ?_;refine Ak ?_;refine Ak ?_;refine Aa (Af (Ab ?_));refine Bd (R_callX 1300 (specl17Two bs hb) U U U (.cons (.tm U) U .nil) U) ?_
 rintro _ ⟨z13,hz13,rfl⟩
 try dsimp only at hz13
 refine Ad (R_movet U (.no U) U U fun _=>rfl) U ?_;refine Ad (B6 U (.no U) U U (fun _=>rfl) U) U ?_;refine Ad (B6 U (.no U) U U (fun _=>rfl) U) U ?_;refine Ad (B6 U (.no U) U U (fun _=>rfl) U) U ?_;refine Ad (B6 U (.no U) U U (fun _=>rfl) U) U ?_;refine Ad (B6 U (.no U) U U (fun _=>rfl) U) U ?_;refine A6 (Bi 7 U U U in45 U U U) U ?_;refine A6 (Bi 8 U U U in36 U U U) U ?_;refine Ag ?_;refine Az Bx ?_;refine Bq (Av [0,2,3,4,5,7,8,16,17,18] [2,3,1300,7,8]) ?_;refine Az Bt ?_;refine Bq (Av [0,2,3,4,5,7,8,17,18] [2,3,1300,7,8]) ?_;refine Ag ?_;refine Ag ?_;refine Aa (Ae (Ar (Av [0,2,3,5,7,8,9,10,17,18] [2,3,1300,7,8]) ?_));apply Cg (N:=7) (k:=3) (Hs:=[0,1,2,3]) (ms:=[[],[4],[4,5],[4,5,6]]) (es:=[(0,4,1),(1,5,2),(2,6,3)]) (σ1:=_) (SM:=⟨_,[(0,_),(2,_),(3,_),(5,_),(7,_),(8,_),(9,_),(10,_),(17,_),(18,_),(19,_),(20,_),(21,_),(22,_)],[(1300,_),(7,_),(8,_)]⟩)
 case hm=>kernel_rfl
 case hB=>kernel_rfl
 case hP=>kernel_rfl
 case hL=>kernel_rfl
 case hN=>rfl
 case hpre=>
  apply Ao (P:=Tryz.prog) 0 rfl ((by exact Bk rfl (.no rfl) rfl (.tm rfl) rfl Bx rfl rfl)) (by exact HasV.load (x:=.tmp 7) (.tm rfl) rfl Bx rfl rfl) rfl rfl rfl;apply Ao (P:=Tryz.prog) 1 rfl ((by exact Bk rfl (.no rfl) rfl (.tm rfl) rfl Bt rfl rfl)) (by exact HasV.load (x:=.tmp 8) (.tm rfl) rfl Bt rfl rfl) rfl rfl rfl;apply Ao (P:=Tryz.prog) 2 rfl (Bh rfl (.no rfl) rfl (.tm rfl)) (by exact HasV.slot (t:=9) rfl) rfl rfl rfl;apply Ao (P:=Tryz.prog) 3 rfl (Bh rfl (.no rfl) rfl (.tm rfl)) (by exact HasV.slot (t:=10) rfl) rfl rfl rfl;exact PreOk.nil
 case hS=>exact A5
 case hH=>
  refine LocsH.lq Bx ?_;refine LocsH.lq Bt ?_;refine LocsH.mv ?_;refine LocsH.mv ?_
  trivial
 apply Dh.new0 (i:=4);rfl;rfl;rfl
 · intro w9 _;refine Az Bx ?_;exact An [0,2,3,5,7,8,9,10,17,18,19,20,21,22] [2,3,1300,7,8]
 intros;exact A5
 apply Dh.new0 (i:=5);rfl;rfl;rfl
 · intro w9 _;refine Az Bt ?_;exact An [0,2,3,5,7,8,9,10,17,18,19,20,21,22] [2,3,1300,7,8]
 intros;exact A5
 apply Dh.new0 (i:=6);rfl;rfl;rfl
 · intro w9 _;refine Ag ?_;exact An [0,2,3,4,5,7,8,9,10,17,18,19,20,21,22] [2,3,1300,7,8]
 intros;exact A5
 refine Dh.fin0 (k:=3) rfl ?_;intro  hp
 obtain _:=hp
 refine Ag ?_;refine Aa (Am ?_);apply ERRes.mk (x:=(z13.2.1,z13.2.2.1,z13.2.2.2.1,z13.2.2.2.2))
 case h=>
  refine ResR.many U (.cell U U Bx U U (.cell U U Bt U U (.tmp U (.tmp U .nil)))) U ?_ (by simp)
  rfl
 case hp=>exact trivial
end Go.Proofs.YtbecibmlbiebeaaGreat
