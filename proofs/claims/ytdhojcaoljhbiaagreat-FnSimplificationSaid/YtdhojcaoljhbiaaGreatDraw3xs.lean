import Derived.Test.YtdhojcaoljhbiaaGreatAbsQxs
import Derived.Lib.SplitLaws
import Derived.Lib.Atoi
import Derived.WideLaws
import Derived.Test.YtdhojcaoljhbiaaGreatAbsIxs
import Derived.Shelf.Lay
import Derived.Shelf.Strings.OnBuilder
import Derived.Shelf.Strconv.Itoa3
import Derived.Ground.NamesProg
import Derived.Shelf.Strings.SplitShaped
import Derived.Shelf.Strings.Shaped
import Derived.Shelf.Strings.Prefix
import Derived.Shelf.Small.Strs
import Derived.Shelf.Strconv.Atoi
import Derived.Shelf.Strconv.AtoiErr
set_option linter.unusedVariables false
set_option linter.unusedSimpArgs false
set_option maxHeartbeats 1000000
set_option maxRecDepth 100000
namespace Go.Q
open Go.D
def splitL (c:UInt8):List UInt8→List (List UInt8)
 | []=>[[]]
 | b::l=>if b=c then []::splitL c l else (b::(splitL c l).headD [])::(splitL c l).tail
theorem splitL_no {c:UInt8}:∀ {l:List UInt8},c∉l→splitL c l=[l]
 | [],_=>rfl
 | b::l,h=>by
  unfold splitL
  rw [if_neg (fun e=>h (by simp [e])),splitL_no fun hm=>h (by simp [hm])]
  rfl
theorem splitL_hit {c:UInt8} {r:List UInt8}:∀ {l:List UInt8},c∉l→splitL c (l++c::r)=l::splitL c r
 | [],_=>by rw [List.nil_append,splitL,if_pos rfl]
 | b::l,h=>by
  rw [List.cons_append,splitL,if_neg (fun e=>h (by simp [e])),splitL_hit fun hm=>h (by simp [hm])]
  rfl
theorem splitL_len (c:UInt8):∀ l:List UInt8,(splitL c l).length=l.count c+1
 | []=>rfl
 | b::l=>by
  unfold splitL
  have ih:=splitL_len c l
  split
  · rename_i h;subst h;rw [List.length_cons,ih,List.count_cons_self]
  rename_i h
  rw [List.length_cons,List.length_tail,ih,List.count_cons_of_ne (by simpa using h)];omega
theorem cut_step {c b:UInt8} {l:List UInt8} {O:List (List UInt8)} {F i:Nat} (hb:l[i]?=some b) (hi:F≤i∧i≤l.length∧c∉(l.take i).drop F∧O.length≤i) (hbe:b=c) (he:splitL c l=O++splitL c (l.drop F)) :
 splitL c l=(O++[(l.take i).drop F])++splitL c (l.drop (i+1)):=by
 subst hbe
 have hl:=(List.getElem?_eq_some_iff.1 hb).1
 have e:l.drop F=(l.take i).drop F++b::l.drop (i+1):=by
  conv=>lhs;rw [←List.take_append_drop i l]
  rw [List.drop_append,List.length_take,show F-min i l.length=0 by omega,List.drop_zero,List.drop_eq_getElem_cons hl,(List.getElem?_eq_some_iff.1 hb).2]
 rw [he,e,splitL_hit hi.2.2.1]
 simp
theorem cut_keep {c b:UInt8} {l:List UInt8} {O:List (List UInt8)} {F i:Nat} (hb:l[i]?=some b) (hi:F≤i∧i≤l.length∧c∉(l.take i).drop F∧O.length≤i) (hbe:b≠c):c∉(l.take (i+1)).drop F:=by
 have hl:=(List.getElem?_eq_some_iff.1 hb).1
 rw [List.take_add_one,hb,List.drop_append,List.length_take]
 intro h
 rcases List.mem_append.1 h with h|h
 · exact hi.2.2.1 h
 rw [show F-min i l.length=0 by omega] at h
 simp at h
 exact hbe h.symm
theorem bs_get (l:List UInt8) (n:Nat):(bs l)[n]?=l[n]?:=by
 show (bs l).data[n]?=l[n]?
 simp [bs]
theorem bs_extract (l:List UInt8) (n m:Nat):(bs l).extract n m=bs ((l.take m).drop n):=by
 apply ByteArray.ext
 rw [ByteArray.data_extract]
 apply Array.ext'
 rw [Array.toList_extract,List.extract_eq_take_drop,bs_list]
 simp only [bs]
 rw [List.drop_take]
end Go.Q
namespace Go.Q
open Go.RowKit
section
variable {P:Program} {ops:Array Oper} {o:Oper} {σ:St} {q:Bool}
theorem wrapI {n:Int} (h:-9223372036854775808≤n∧n≤9223372036854775807):IntKind.i64.wrap n=n:=wrap_in h
def FrE (P:Program) (f:FuncId) (ins:List V0) (Out:V→Prop):Prop:=Callee P f∧∀ w vs F,Good w []→V0s false w ins vs F→Calls P f (List.toArray vs) w fun e w'=>∃ out,Out out∧FrPost w out e w'
theorem R_calle {f:FuncId} {l:List Operand} {tys:Array TypeId} {ins:List V0} {Out:V→Prop} (h:FrE P f ins Out) (ho:o.op=.call { callee:=.value (.func f),args:=l.toArray,argTypes:=tys }) (hg:o.guard=none) (hd:o.dst.all (fun d=>Nat.blt d σ.n)=true)
 (ha:Args σ true l ins):OpE P ops o σ fun σ'=>∃ out,Out out∧σ'=σ.put o.dst (true,inS out):=by
 rintro w0 a w ⟨I,hr⟩ K Q hK
 simp only [Region.wanted,hg,if_true]
 obtain⟨F,hF⟩:=ha.ok hr rfl
 unfold Oper.wp
 rw [run_enter h.1 ho]
 refine (h.2 w _ F hr.good hF).mono fun e w' hR=>?_
 obtain⟨out,hout,v,G,rfl,h1,h3,h4⟩:=hR
 have hr':=(hr.later h4).also (G:=G) fun b hb=>⟨Vr.lt h1 b hb,fun i hi=>by have:=(hr.lt i b hi).1;have:=h3 b hb;omega⟩
 exact hK _ _ _ ⟨out,hout,rfl⟩ ⟨_,hr'.put hd (VS_also h1 fun b hb=>.inr hb)⟩
end
end Go.Q
namespace Go.Q
open Go.RowKit
section
variable {P:Program} {ops:Array Oper} {o:Oper} {σ:St} {q:Bool}
end
end Go.Q
namespace Go.Q
open Go.RowKit
section
variable {P:Program} {ops:Array Oper} {o:Oper} {σ:St}
inductive GetL (σ:St):List Operand→List E→Prop where
 | nil:GetL σ [] []
 | cons {x:Operand} {e:E} {l:List Operand} {es:List E} (hx:Get σ true x (.one e)) (h:GetL σ l es):GetL σ (x::l) (e::es)
end
end Go.Q
set_option maxHeartbeats 1000000
set_option maxRecDepth 100000
namespace Go.Proofs.YtdhojcaoljhbiaaGreat
open Go.RowKit Go.Q Go.D Go.Shelf
end Go.Proofs.YtdhojcaoljhbiaaGreat
set_option maxHeartbeats 1000000
set_option maxRecDepth 100000
namespace Go.Q
open Go.RowKit
end Go.Q
namespace Go.Proofs.YtdhojcaoljhbiaaGreat
open Go.RowKit Go.Q Go.D Go.Shelf
end Go.Proofs.YtdhojcaoljhbiaaGreat
set_option maxHeartbeats 1000000
set_option maxRecDepth 100000
namespace Go.Q
open Go.D
end Go.Q
set_option maxHeartbeats 1000000
set_option maxRecDepth 100000
namespace Go.Proofs.YtdhojcaoljhbiaaGreat
open Go.RowKit Go.Q Go.D Go.Shelf
end Go.Proofs.YtdhojcaoljhbiaaGreat
set_option maxHeartbeats 1000000
set_option maxRecDepth 100000
namespace Go.Proofs.YtdhojcaoljhbiaaGreat
open Go.RowKit Go.Q Go.D
theorem specFormatInt (n:Int) (h0:0≤n) (h1:n<100):FnT Tryz.prog 186 [.one (.v (.int .i64 n))] (.a (.one (.v (.string (bs (numS n)))))):=by
 obtain⟨n0,rfl⟩:=Int.eq_ofNat_of_zero_le h0
 refine A6 Tryz.func186 U (by kernel_rfl) Tryz.ntmps186 U fun hlen w0=>?_
 try simp at hlen
 have hn0:n0<100:=by omega
 refine Af (AWl.ac ?_);refine Aa (Ae (Af (Ab ?_)));refine Ba ?_;refine Aa (Ah (.tm U) (fun h7=>?_) (fun h7=>?_))
 · try simp at h7
   refine Af (AWl.ac ?_);refine Aa (Ai (Bb U U ?_))
   (have e:n0=0:=(by omega);subst e;unfold numS;rw [dig_small (by simp)];rfl)
 try simp at h7
 refine AW.skip (Af (AWl.ac ?_));refine Aa (Af (Ab ?_));refine Cv ?_;refine Ag ?_;refine Aa (Ae (AW.block (C6 (fun (m:Nat) (O:ByteArray)=>(m<100∧O.size+2*m≤1000)∧bs (restD n0)=bs (restD m)++O) (fun (m:Nat) (O:ByteArray)=>⟨_,[(0,(true,.a (.one (.t (.v (.int .i64 (m:Nat))))))),(3,(true,.a (.one (.t (.v (.string O)))))),(2,_),(4,_)],[]⟩) (fun (m:Nat) (O:ByteArray)=>m) (n0) (⟨#[]⟩) ⟨⟨by omega,by simp [ByteArray.size];omega⟩,(by rw [show (⟨#[]⟩:ByteArray)=bs [] from U,bs_append,List.append_nil])⟩ (Az U ⟨U,U,U,U,Y⟩ trivial) ?_)))
 rintro m O ⟨hk,he⟩
 refine Ae (Af (Ab ?_));refine AWl.nc ?_;refine Aa (Ah (.tm U) (fun h11=>?_) (fun h11=>?_))
 · try simp at h11
   have hm0:m≠0:=by (first|omega|(simp at h11;omega))
   refine AW.skip (AW.block (Af (Ab ?_)));refine Ac (R_rem U (.no U) U (.tm U) (.const U) (fun _=>by omega)) U ?_;refine Ag ?_;refine Aa (Ae (Af (Ab ?_)));refine Cv ?_;refine Aa (Ah (.tm U) (fun h15=>?_) (fun h15=>?_))
   · exact absurd h15 (by (first|omega|(simp at h15;omega)))
   try simp at h15
   refine AW.skip (Ae (Al (Ap [0,2,3,4,5] []) ?_));refine Ad (Ab ?_);refine Ac (R_add U (.no U) U (.const U) (.tm U) (fun _=>by omega)) U ?_;refine Ac (R_conv U (.no U) U (.tm U) (by rw [Tryz.underlying3];rfl) Tryz.underlying5 (fun _=>(show IntKind.u8.wrap _=(48+(m:Int)%10) by simp [IntKind.wrap,IntKind.bits];omega))) U ?_;refine Ac (Ch (xs:=[.tmp 20]) (rows:=[[.v (.int .u8 (48+(m:Int)%10))]]) U U U (.cons (.tm U) U U .nil) Tryz.underlying22 in5 U U (U)) U ?_;refine Ac (R_byteStr U (.no U) U (.tm U) Tryz.underlying22 Tryz.underlying5 Tryz.underlying9) U ?_;refine Ab ?_;refine Ac (R_cat U (.no U) U (.tm U) (.tm U) (fun _=>by have:(⟨#[UInt8.ofNat ((48+(m:Int)%10)).toNat]⟩:ByteArray).size=1:=U;omega)) U ?_;refine Ag ?_;refine Aa (Al (Ap [0,2,3,4,5] []) ?_);refine Ad (Ab ?_);refine Ac (R_quo U (.no U) U (.tm U) (.const U) (fun _=>by omega)) U ?_;refine Ag ?_;refine Aa ?_
   repeat (with_reducible refine A7 ?_)
   refine Round2.next (m / 10) (((ByteArray.mk #[UInt8.ofNat ((48+(m:Int)%10)).toNat])++O)) ⟨⟨by omega,(by rw [ByteArray.size_append];have:(⟨#[UInt8.ofNat ((48+(m:Int)%10)).toNat]⟩:ByteArray).size=1:=rfl;omega)⟩,(by rw [he,restD_step (by omega),←bs_append,show (48+(m:Int)%10).toNat=48+m%10 by omega];rw [ByteArray.append_assoc];rfl)⟩ (by omega) (Az rfl ⟨rfl,rfl,rfl,rfl,Y⟩ trivial)
 try simp at h11
 refine Bz (Ae (Af (Ab ?_)));refine Aa (Ah (.tm U) (fun h27=>?_) (fun h27=>?_))
 · exact absurd h27 (by simp)
 try simp at h27
 refine AW.skip (Af (Ab ?_));refine Ag ?_;refine Aa (Ai (Bb U U ?_))
 (have e:m=0:=(by omega);have e0:n0≠0:=(by omega);rw [e] at he;unfold restD at he;rw [if_neg e0,if_pos rfl] at he;unfold numS;rw [Int.toNat_natCast,he,bs_nil_append])
theorem specFormatLetter (k:Int) (h0:0≤k) (h8:k≤8):FnT Tryz.prog 185 [.one (.v (.int .i64 k))] (.a (.one (.v (.string (bs (letS k)))))):=by
 refine A6 Tryz.func185 U (by kernel_rfl) Tryz.ntmps185 U fun hlen w0=>?_
 try simp at hlen
 have hl:inB k 0 8=true:=by unfold inB;simp;omega
 refine Af (AWl.ac ?_);refine Aa (Ae (Af (Ab ?_)));refine Bu (specl2Letter k) ?_;refine Cw ?_;refine Aa (Ah (.tm U) (fun h5=>?_) (fun h5=>?_))
 · exact absurd h5 (by simp [hl] at h5)
 try simp at h5
 refine AW.skip (Af (Ac (Ch (xs:=[.const (.string ⟨#[97]⟩),.const (.string ⟨#[97,45]⟩),.const (.string ⟨#[98]⟩),.const (.string ⟨#[98,45]⟩),.const (.string ⟨#[99]⟩),.const (.string ⟨#[99,45]⟩),.const (.string ⟨#[48]⟩),.const (.string ⟨#[49]⟩),.const (.string ⟨#[50]⟩)]) (rows:=letNames.map cStr) U U U (.cons (.const U) U U (.cons (.const U) U U (.cons (.const U) U U (.cons (.const U) U U (.cons (.const U) U U (.cons (.const U) U U (.cons (.const U) U U (.cons (.const U) U U (.cons (.const U) U U .nil))))))))) Tryz.underlying200 in9 U U (U)) U ?_));refine Ab ?_;refine Ac (An U (.no U) U (.tm U) (.tm U) Tryz.underlying200 ty9 (fun _=>⟨by omega,(letS_get h0 h8)⟩)) U ?_;refine Ak ty9 ?_;refine Ag ?_;refine Aa (Ai (Bb U U ?_))
 rfl
end Go.Proofs.YtdhojcaoljhbiaaGreat
namespace Go.Q
open Go.RowKit
section
variable {P:Program} {ops:Array Oper} {o:Oper} {σ:St} {q:Bool}
def Keeps (w:World) (K:List (Nat×Obj)):Prop:=∀ x∈K,w.heap[x.1]?=some x.2
theorem Keeps.lt {w:World} {K:List (Nat×Obj)} (h:Keeps w K):∀ x∈K,x.1<w.heap.size:=fun x hx=>(Array.getElem?_eq_some_iff.1 (h x hx)).1
def FnCk (P:Program) (f:FuncId) (K:List (Nat×Obj)) (ins:List (Bool×V0)) (out:V):Prop:=Callee P f∧∀ w vs F,Good w F→V0c w F ins vs F→F.Nodup→(∀ b∈F,Thaw w b)→Keeps w K→(∀ x∈K,x.1∉F)→Calls P f (List.toArray vs) w (CPost w out F)
theorem FnCk.walk {n:Nat} {f:FuncId} {fn:Func} {c:Code} {K:List (Nat×Obj)} {ins:List (Bool×V0)} {out:V} {σ':St} (hf:P.funcs[f]?=some fn) (hb:fn.body=some c) (hname:(fn.name == "runtime.NumGoroutine")=false) (hnt:fn.ntmps=n) (hn:Nat.ble ins.length n=true) (hi:initC 0 ins ⟨n,[],[(999999,.kept K)]⟩=some σ')
 (h:∀ w0,AW P w0 c (RetQ P fn true out) σ'):FnCk P f K ins out:=by
 subst hnt
 refine⟨⟨fn,hf,hname,by rw [hb];rfl⟩,fun w vs F hG hv hnd hth hK hKF=>?_⟩
 have hl:=hv.len
 have hn':ins.length≤fn.ntmps:=Nat.le_of_ble_eq_true hn
 have hlt:=hv.sub
 let a0:Act:=⟨(List.toArray vs)++Array.replicate (fn.ntmps-(List.toArray vs).size) undef,[]⟩
 let I0:Ip:=⟨fun b=>b<w.heap.size∧b∉F,fun _=>[],fun _=>undef,fun _=>0⟩
 have hr0:RelI I0 ⟨w,F,hG⟩ ⟨fn.ntmps,[],[(999999,.kept K)]⟩ a0 w:=by
  refine⟨Chg.refl w F,rfl,by simp [a0,hl];omega,fun i z hi=>(by cases hi),fun id r hi=>?_,fun b hb=>hb.1,fun id b hb=>(by cases hb),fun id r hi=>⟨List.nodup_nil,fun b hb=>(by cases hb)⟩,fun i j _ b hb=>(by cases hb)⟩
  rw [look_cons] at hi
  split at hi
  · cases hi;exact⟨rfl,fun x hx=>⟨hK x hx,hK.lt x hx,hKF x hx⟩⟩
  cases hi
 obtain⟨I1,r1⟩:=initC_ok (fun _ _ _=>trivial) hi hr0 (fun b h1 h2=>⟨h1,h2⟩) hv hnd (fun b hb=>⟨.inr hb,hlt b hb,hth b hb,fun hz=>hz.2 hb,fun i hi=>by cases hi⟩) fun j v hj=>by
  have hjl:j<vs.length:=(List.getElem?_eq_some_iff.1 hj).1
  simp only [Nat.zero_add,a0]
  rw [Array.getD_eq_getD_getElem?,Array.getElem?_append_left (by simpa using hjl)]
  simp [hj]
 refine calls_of_wp hf hb (Code.wp_mono ?_ (h ⟨w,F,hG⟩ _ _ ⟨_,r1⟩))
 rintro e a' w' ⟨σ1,h1,I,hI⟩
 have key:Res P fn true out σ1→a'.defers=[]∧∃ v',(results fn a'.tmps).run P w'=.ok v' w'∧CPost w out F (.returned v') w':=fun h1=>by
  obtain⟨v',F',g1,g2,g3,g4⟩:=h1 I ⟨w,F,hG⟩ a' w' hI
  exact⟨hI.defers,v',g1,v',F',rfl,g2,(g4 rfl).1,fun b hb=>⟨g3 b hb,(g4 rfl).2 b hb⟩,hI.ext⟩
 cases e with
 | normal=>exact key h1
 | ret=>exact key h1
 | exit id=>exact h1.elim
 | goto l=>exact h1.elim
 | panic c=>exact h1.elim
 | outgrown=>exact h1.elim
theorem Rws_split {o:Bool} {w:World} {b:Nat}:∀ {ts:List T} {off:Nat} {F:List Nat},Rws o w b 1 off (ts.map fun t=>[t]) F→∃ (hs:List Value) (Gs:List (List Nat)),hs.length=ts.length∧Gs.length=ts.length∧F=Gs.flatten∧
 ∀ i t,ts[i]?=some t→∃ h G,hs[i]?=some h∧Gs[i]?=some G∧w.cell? ⟨b,off+i,none⟩=some h∧C o w t h G
 | [],off,F,h=>by simp only [List.map_nil,Rws] at h;exact⟨[],[],rfl,rfl,h,fun i t hi=>by simp at hi⟩
 | t::ts,off,F,h=>by
  simp only [List.map_cons,Rws,Ms] at h
  obtain⟨G1,G2,_,⟨c,A1,A2,h1,h2,rfl,rfl⟩,h3,rfl⟩:=h
  obtain⟨hs,Gs,e1,e2,e3,e4⟩:=Rws_split h3
  refine⟨c::hs,A1::Gs,by simp [e1],by simp [e2],by simp [e3],fun i u hi=>?_⟩
  match i,hi with
  | 0,hi=>simp at hi;subst hi;exact⟨c,A1,rfl,rfl,h1,h2⟩
  | i+1,hi=>
   obtain⟨h,G,g1,g2,g3,g4⟩:=e4 i u (by simpa using hi)
   exact⟨h,G,by simpa using g1,by simpa using g2,by rw [show off+(i+1)=off+1+i by omega];exact g3,g4⟩
theorem Rws_join {o:Bool} {w:World} {b:Nat} {α:Type} {t:α→T} {h:α→Value} {G:α→List Nat}:∀ {l:List α} {off:Nat},(∀ i x,l[i]?=some x→w.cell? ⟨b,off+i,none⟩=some (h x)∧C o w (t x) (h x) (G x))→Rws o w b 1 off (l.map fun x=>[t x]) (l.flatMap G)
 | [],off,_=>by simp [Rws]
 | x::l,off,hc=>by
  simp only [List.map_cons,Rws,Ms,List.flatMap_cons]
  obtain⟨c1,c2⟩:=hc 0 x rfl
  refine⟨G x,l.flatMap G,rfl,⟨h x,G x,[],c1,c2,rfl,by simp⟩,Rws_join (h:=h) fun i y hi=>?_,rfl⟩
  obtain⟨d1,d2⟩:=hc (i+1) y (by simpa using hi)
  exact⟨by rw [show off+1+i=off+(i+1) by omega];exact d1,d2⟩
theorem C_split {w:World} {ts:List T} {v:Value} {F:List Nat} (hC:C true w (.sl 1 (ts.map fun t=>[t])) v F) (hnd:F.Nodup):∃ (h:Nat→Value) (G:Nat→List Nat) (F0:List Nat),(∀ i t,ts[i]?=some t→C true w t (h i) (G i))∧C true w (.sl 1 ((List.range ts.length).map fun i=>[.v (h i)])) v F0∧F0.Nodup∧
 (∀ b∈F0,b∈F)∧(∀ i,i<ts.length→∀ b∈G i,b∈F∧b∉F0)∧(∀ i,i<ts.length→(G i).Nodup)∧∀ i j,i<ts.length→j<ts.length→i≠j→∀ b∈G i,b∉G j:=by
 have hCc:=hC
 simp only [C] at hCc
 obtain⟨a,len,cap,rfl,h2,h3,h4,h5⟩:=hCc
 rcases h5 with ⟨h5,rfl,h6⟩|⟨b,off,G,rfl,rfl,h7,h8,h9⟩
 · have:ts=[]:=List.eq_nil_of_length_eq_zero (by rw [List.length_map] at h2;omega)
   subst this
   exact⟨fun _=>undef,fun _=>[],[],fun i t hi=>by simp at hi,hC,List.nodup_nil,fun b hb=>hb,fun i hi=>by simp at hi,fun i hi=>by simp at hi,fun i j hi=>by simp at hi⟩
 obtain⟨hs,Gs,e1,e2,rfl,e4⟩:=Rws_split h9
 obtain⟨n1,n2⟩:=List.nodup_cons.1 hnd
 have n2:=List.pairwise_flatten.1 n2
 have hG:∀ i,i<ts.length→Gs.getD i []∈Gs:=fun i hi=>by
  rw [List.getD_eq_getElem?_getD,List.getElem?_eq_getElem (by omega)];exact List.getElem_mem _
 have hin:∀ i,i<ts.length→∀ x∈Gs.getD i [],x∈Gs.flatten:=fun i hi x hx=>List.mem_flatten.2 ⟨_,hG i hi,hx⟩
 refine⟨fun i=>hs.getD i undef,fun i=>Gs.getD i [],[b],fun i t hi=>?_,?_,by simp,fun x hx=>by simp at hx;simp [hx],fun i hi x hx=>⟨by simp [hin i hi x hx],fun hb=>?_⟩,fun i hi=>n2.1 _ (hG i hi),fun i j hi hj hne x hx hx'=>?_⟩
 · obtain⟨h,A,g1,g2,g3,g4⟩:=e4 i t hi
   simp only [List.getD_eq_getElem?_getD,g1,g2,Option.getD_some]
   exact g4
 · simp only [C]
   refine⟨_,_,_,rfl,by simpa using h2,h3,h4,.inr ⟨b,off,[],rfl,rfl,h7,h8,?_⟩⟩
   have:=Rws_join (o:=true) (w:=w) (b:=b) (t:=fun i=>T.v (hs.getD i undef)) (h:=fun i=>hs.getD i undef) (G:=fun _=>([]:List Nat)) (l:=List.range ts.length) (off:=off) fun i x hi=>by
    obtain⟨hi1,hi2⟩:=List.getElem?_eq_some_iff.1 hi
    rw [List.length_range] at hi1
    simp at hi2
    subst hi2
    obtain⟨h,A,g1,g2,g3,g4⟩:=e4 i _ (List.getElem?_eq_getElem hi1)
    simp only [List.getD_eq_getElem?_getD,g1,Option.getD_some]
    exact⟨g3,by simp only [C];exact⟨trivial,trivial,g4.cell1⟩⟩
   have hz:(List.range ts.length).flatMap (fun _=>([]:List Nat))=[]:=by rw [List.flatMap_eq_nil_iff];intro _ _;rfl
   rw [hz] at this
   exact this
 · simp at hb;subst hb;exact n1 (hin i hi _ hx)
 have hp:=n2.2
 have key:∀ i j,i<j→j<ts.length→∀ x∈Gs.getD i [],∀ y∈Gs.getD j [],x≠y:=fun i j hij hj=>by
  have:=List.pairwise_iff_getElem.1 hp i j (by omega) (by omega) hij
  simpa [List.getD_eq_getElem?_getD,List.getElem?_eq_getElem (show i<Gs.length by omega),List.getElem?_eq_getElem (show j<Gs.length by omega)] using this
 rcases Nat.lt_or_gt_of_ne hne with g|g
 · exact key i j g hj x hx x hx' rfl
 exact key j i g hi x hx' x hx rfl
theorem C_join {w:World} {α:Type} {t:α→T} {h:α→Value} {G:α→List Nat} {l:List α} {v:Value} {F0:List Nat} (hC:C true w (.sl 1 (l.map fun i=>[.v (h i)])) v F0) (ht:∀ x∈l,C true w (t x) (h x) (G x)):C true w (.sl 1 (l.map fun i=>[t i])) v (F0++if l=[] then [] else l.flatMap G):=by
 simp only [C] at hC ⊢
 obtain⟨a,len,cap,rfl,h2,h3,h4,h5⟩:=hC
 rcases h5 with ⟨h5,rfl,h6⟩|⟨b,off,G0,rfl,rfl,h7,h8,h9⟩
 · have:l=[]:=List.eq_nil_of_length_eq_zero (by rw [List.length_map] at h2;omega)
   subst this
   exact⟨_,_,_,rfl,h2,h3,h4,.inl ⟨h5,rfl,h6⟩⟩
 refine⟨_,_,_,rfl,by simpa using h2,h3,h4,.inr ⟨b,off,l.flatMap G,rfl,?_,h7,h8,Rws_join (h:=h) fun i x hi=>?_⟩⟩
 · obtain⟨hs,Gs,e1,e2,rfl,e4⟩:=Rws_split (ts:=l.map fun i=>T.v (h i)) (by rw [List.map_map];exact h9)
   have:Gs.flatten=[]:=by
    rw [List.flatten_eq_nil_iff]
    intro A hA
    obtain⟨i,hi,rfl⟩:=List.mem_iff_getElem.1 hA
    obtain⟨_,A,g1,g2,g3,g4⟩:=e4 i _ (List.getElem?_eq_getElem (by omega))
    rw [List.getElem?_eq_getElem hi] at g2
    cases g2
    simp [C] at g4
    exact g4.2.1
   rw [this]
   by_cases hl:l=[]
   · subst hl;simp
   simp [hl]
 obtain⟨hs,Gs,e1,e2,_,e4⟩:=Rws_split (ts:=l.map fun i=>T.v (h i)) (by rw [List.map_map];exact h9)
 obtain⟨c,A,g1,g2,g3,g4⟩:=e4 i (.v (h x)) (by simp [hi])
 simp only [C] at g4
 rw [g4.1] at g3
 exact⟨g3,ht x (List.mem_of_getElem? hi)⟩
def KT (K:List (Nat×Obj)) (t:T) (h:Value):Prop:=∀ w,Keeps w K→∃ G,C false w t h G
def rdAll (rest:List V0):List (Bool×V0):=rest.map fun x=>(false,x)
theorem V0c_rdAll {w:World} {FF FF':List Nat} (hs:∀ b∈FF',b∈FF):∀ {rest:List V0} {vs:List Value} {G:List Nat},V0c w FF (rdAll rest) vs G→G=[]∧V0c w FF' (rdAll rest) vs []
 | [],vs,G,⟨h1,h2⟩=>⟨h2,h1,rfl⟩
 | x::r,vs,G,⟨v,vr,G1,G2,e,h1,h2,h3⟩=>by
  simp only [Bool.false_eq_true,if_false] at h3
  obtain⟨rfl,h3⟩:=h3
  obtain⟨rfl,h4⟩:=V0c_rdAll hs (rest:=r) h2
  refine⟨rfl,v,vr,G1,[],e,h1,h4,?_⟩
  simp only [Bool.false_eq_true,if_false]
  exact⟨trivial,fun b hb hf=>h3 b hb (hs b hf)⟩
theorem KT.of {w:World} {K:List (Nat×Obj)} {t:T} {h:Value} {G:List Nat} {o:Bool} (hC:C o w t h G) (hK:∀ b∈G,∃ x,w.heap[b]?=some x∧(b,x)∈K):KT K t h:=fun w' hw=>⟨G,hC.read'.congr fun b hb=>by
 obtain⟨x,h1,h2⟩:=hK b hb
 rw [h1];exact hw _ h2⟩
def blocksOf (w:World) (Gs:List Nat):List (Nat×Obj):=Gs.filterMap fun b=>(w.heap[b]?).map fun x=>(b,x)
theorem blocksOf_mem {w:World} {Gs:List Nat} {b:Nat} {x:Obj}:(b,x)∈blocksOf w Gs↔b∈Gs∧w.heap[b]?=some x:=by
 unfold blocksOf
 rw [List.mem_filterMap]
 constructor
 · rintro⟨c,h1,h2⟩
   rw [Option.map_eq_some_iff] at h2
   obtain⟨y,h3,h4⟩:=h2
   cases h4
   exact⟨h1,h3⟩
 rintro⟨h1,h2⟩
 exact⟨b,h1,by rw [h2];rfl⟩
theorem blocksOf_keeps {w:World} {Gs:List Nat}:Keeps w (blocksOf w Gs):=fun x hx=>(blocksOf_mem (b:=x.1) (x:=x.2)).1 hx |>.2
theorem Good.part {w:World} {H G:List Nat} (h:Good w H) (hs:∀ b∈G,b∈H):Good w G:=h.step (Nat.le_refl _) (fun _ _ _=>rfl) fun b hb=>.inr (hs b hb)
theorem nodup_flatMap {α:Type} {G:α→List Nat}:∀ {l:List α},l.Nodup→(∀ x∈l,(G x).Nodup)→(∀ x∈l,∀ y∈l,x≠y→∀ b∈G x,b∉G y)→(l.flatMap G).Nodup
 | [],_,_,_=>List.nodup_nil
 | x::l,hn,h1,h2=>by
  obtain⟨n1,n2⟩:=List.nodup_cons.1 hn
  rw [List.flatMap_cons]
  refine List.nodup_append.2 ⟨h1 x (by simp),nodup_flatMap n2 (fun y hy=>h1 y (by simp [hy])) (fun y hy z hz=>h2 y (by simp [hy]) z (by simp [hz])),fun b hb c hc e=>?_⟩;subst e
  obtain⟨y,hy,hc⟩:=List.mem_flatMap.1 hc
  exact h2 x (by simp) y (by simp [hy]) (fun e=>n1 (e▸hy)) b hb hc
theorem FnC.lift {f:FuncId} {ts:List T} {L:List Nat} {rest:List V0} (hcl:Callee P f) (hL:L.Nodup) (hLn:∀ i∈L,i<ts.length)
 (h:∀ (hd:Nat→Value) (K:List (Nat×Obj)),(∀ i t,ts[i]?=some t→KT K t (hd i))→FnCk P f K ((true,.one (.sl 1 ((List.range ts.length).map fun i=>[.v (hd i)])))::rdAll rest) (.a (.one (.sl 1 (L.map fun i=>[.v (hd i)]))))) :
 FnC P f ((true,.one (.sl 1 (ts.map fun t=>[t])))::rdAll rest) (.a (.one (.sl 1 (L.map fun i=>[ts.getD i (.v undef)])))):=⟨hcl,fun w vs F hG hv hnd hth=>by
 obtain⟨v,vr,G1,G2,rfl,h1,h2,h3⟩:=hv
 simp only [if_true] at h3
 obtain⟨rfl,h2'⟩:=V0c_rdAll (FF':=F) (fun b hb=>hb) h2
 rw [List.append_nil] at h3
 subst h3
 have h1:C true w (.sl 1 (ts.map fun t=>[t])) v F:=h1
 obtain⟨hd,G,F0,c1,c2,c3,c4,c5,c6,c7⟩:=C_split h1 hnd
 have hlt:∀ b∈F,b<w.heap.size:=h1.lt
 have hK:∀ i t,ts[i]?=some t→KT (blocksOf w ((List.range ts.length).flatMap G)) t (hd i):=fun i t hi=>KT.of (c1 i t hi) fun b hb=>by
  have hil:=(List.getElem?_eq_some_iff.1 hi).1
  exact⟨_,Array.getElem?_eq_getElem (hlt b (c5 i hil b hb).1),blocksOf_mem.2 ⟨List.mem_flatMap.2 ⟨i,by simpa using hil,hb⟩,Array.getElem?_eq_getElem _⟩⟩
 refine ((h hd _ hK).2 w (v::vr) F0 (hG.part c4) ⟨v,vr,F0,[],rfl,c2,(V0c_rdAll c4 h2').2,by simp⟩ c3 (fun b hb=>hth b (c4 b hb)) blocksOf_keeps fun x hx hx'=>?_).mono fun e w' hR=>?_
 · obtain⟨i,hi,hb⟩:=List.mem_flatMap.1 ((blocksOf_mem (b:=x.1) (x:=x.2)).1 hx).1
   exact (c5 i (by simpa using hi) _ hb).2 hx'
 obtain⟨v',F',e1,r1,r2,r3,r4⟩:=hR
 have r1:C true w' (.sl 1 (L.map fun i=>[.v (hd i)])) v' F':=r1
 have hsame:∀ i∈L,∀ b∈G i,w'.heap[b]?=w.heap[b]?:=fun i hi b hb=>r4.block b (hlt b (c5 i (hLn i hi) b hb).1) (c5 i (hLn i hi) b hb).2
 have hj:=C_join (t:=fun i=>ts.getD i (.v undef)) (G:=G) r1 fun i hi=>by
  have hti:ts[i]?=some (ts.getD i (.v undef)):=by rw [List.getD_eq_getElem?_getD,List.getElem?_eq_getElem (hLn i hi)];rfl
  exact (c1 i _ hti).congr (hsame i hi)
 have hflat:(if L=[] then [] else L.flatMap G)=L.flatMap G:=by split<;>simp_all
 rw [hflat] at hj
 have hmem:∀ b∈L.flatMap G,∃ i∈L,b∈G i:=fun b hb=>List.mem_flatMap.1 hb
 refine⟨v',F'++L.flatMap G,e1,hj,List.nodup_append.2 ⟨r2,nodup_flatMap hL (fun i hi=>c6 i (hLn i hi)) (fun i hi j hj hne=>c7 i j (hLn i hi) (hLn j hj) hne),fun b hb c hc ebc=>?_⟩,fun b hb=>?_,⟨r4.os,r4.tape,r4.output,r4.size,fun k hk hn=>r4.block k hk fun hk'=>hn (c4 k hk')⟩⟩
 · subst ebc
   obtain⟨i,hi,hb'⟩:=hmem b hc
   have q:=c5 i (hLn i hi) b hb'
   rcases (r3 b hb).1 with g|g
   · have:=hlt b q.1;omega
   exact q.2 g
 rcases List.mem_append.1 hb with hb|hb
 · exact⟨(r3 b hb).1.imp id (c4 b),(r3 b hb).2⟩
 obtain⟨i,hi,hb'⟩:=hmem b hb
 have q:=c5 i (hLn i hi) b hb'
 obtain⟨cc,ee,o3⟩:=hth b q.1
 exact⟨.inr q.1,cc,ee,(hsame i hi b hb').trans o3⟩⟩
end
end Go.Q
namespace Go.Q
open Go.RowKit
section
variable {P:Program} {ops:Array Oper} {o:Oper} {σ:St} {τ:Type}
def CuOk (w:World) (g:Nat×Value):Prop:=CuB (fun b=>b<w.heap.size∧b≠g.1) w g∧Thaw w g.1
def DPost (w:World) (g:Nat×Value) (p:τ→Prop) (out:τ→V) (e:Ending) (w':World):Prop:=
 ∃ x v F,e=.returned v∧p x∧Vr true w' (out x) v F∧F.Nodup∧(∀ b∈F,w.heap.size≤b∧Thaw w' b)∧Chg w w' [g.1]∧CuOk w' g
def FnD (P:Program) (f:FuncId) (ins:List V0) (p:τ→Prop) (out:τ→V):Prop:=
 Callee P f∧∀ w g vs F,Good w [g.1]→CuOk w g→V0s false w ins vs F→g.1∉F→Calls P f (List.toArray (.pointer (some ⟨g.1,0,none⟩)::vs)) w (DPost w g p out)
def FnE (P:Program) (f:FuncId) (ins:List V0) (p:τ→Prop) (out:τ→V):Prop:=
 Callee P f∧∀ w vs F,Good w []→V0s false w ins vs F→Calls P f (List.toArray vs) w fun e w'=>∃ x,p x∧FnPost w (out x) e w'
def FnN (P:Program) (f:FuncId):Prop:=
 Callee P f∧∀ w v F bs,Good w []→C false w (.sl 1 (byR bs)) v F→(∀ n∈bs,0≤n∧n<256)→Calls P f #[v] w fun e w'=>∃ g i h t,e=.returned (.pointer (some ⟨g,0,none⟩))∧w.heap.size≤g∧Thaw w' g∧w'.heap[g]?=some (.cells #[v,.int .i64 i,.int .i64 h] t (0,0))∧0≤i∧Ext w w'
theorem setR_same:∀ (l:List (Nat×R)) (u:Nat) (r:R),look l u=some r→setR l u r=l
 | [],_,_,h=>by cases h
 | (j,y)::l,u,r,h=>by
  rw [look_cons] at h
  rw [setR]
  by_cases e:j=u
  · subst e;rw [if_pos rfl] at h;cases h;simp [Nat.beq_refl]
  rw [if_neg e] at h
  rw [beq_false e,cond_false,setR_same l u r h]
theorem V0s.c {w:World} {FF:List Nat}:∀ {ins:List V0} {vs:List Value} {F:List Nat},V0s false w ins vs F→(∀ b∈F,b∉FF)→V0c w FF (ins.map fun x=>(false,x)) vs []
 | [],vs,F,⟨h,_⟩,_=>⟨h,rfl⟩
 | x::r,vs,F,⟨v,vr,G1,G2,h1,h2,h3,h4⟩,hF=>by
  subst h4
  exact⟨v,vr,G1,[],h1,h2,h3.c fun b hb=>hF b (by simp [hb]),by simpa using fun b hb=>hF b (by simp [hb])⟩
def DRes (P:Program) (fn:Func) (g:Nat×Value) (p:τ→Prop) (out:τ→V) (σ:St):Prop:=∃ x,p x∧look σ.res 888888=some (.cur g)∧Res P fn true (out x) ⟨σ.n,σ.slots,delR σ.res 888888⟩
def RetD (P:Program) (fn:Func) (g:Nat×Value) (p:τ→Prop) (out:τ→V):Exit→St→Prop
 | .normal,σ=>DRes P fn g p out σ
 | .ret,σ=>DRes P fn g p out σ
 | _,_=>False
def RetE (P:Program) (fn:Func) (p:τ→Prop) (out:τ→V):Exit→St→Prop
 | .normal,σ=>∃ x,p x∧Res P fn true (out x) σ
 | .ret,σ=>∃ x,p x∧Res P fn true (out x) σ
 | _,_=>False
theorem DRes.mk {fn:Func} {g:Nat×Value} {p:τ→Prop} {out:τ→V} {σ:St} {x:τ} (hc:look σ.res 888888=some (.cur g)) (h:Res P fn true (out x) ⟨σ.n,σ.slots,delR σ.res 888888⟩) (hp:p x):DRes P fn g p out σ:=⟨x,hp,hc,h⟩
theorem ERes.mk {fn:Func} {p:τ→Prop} {out:τ→V} {σ:St} {x:τ} (h:Res P fn true (out x) σ) (hp:p x):∃ x,p x∧Res P fn true (out x) σ:=⟨x,hp,h⟩
theorem FnE.walk {n:Nat} {f:FuncId} {fn:Func} {c:Code} {ins:List V0} {p:τ→Prop} {out:τ→V} (hf:P.funcs[f]?=some fn) (hb:fn.body=some c) (hname:(fn.name == "runtime.NumGoroutine")=false) (hnt:fn.ntmps=n) (hn:Nat.ble ins.length n=true)
 (h:∀ w0,AW P w0 c (RetE P fn p out) (st0 n ins)):FnE P f ins p out:=by
 subst hnt
 refine⟨⟨fn,hf,hname,by rw [hb];rfl⟩,fun w vs F hG hv=>?_⟩
 refine calls_of_wp hf hb (Code.wp_mono ?_ (h ⟨w,[],hG⟩ _ _ (rel0 hG hv hn)))
 rintro e a' w' ⟨σ,h1,I,hI⟩
 have key:(∃ x,p x∧Res P fn true (out x) σ)→a'.defers=[]∧∃ v,(results fn a'.tmps).run P w'=.ok v w'∧∃ x,p x∧FnPost w (out x) (.returned v) w':=fun ⟨x,hp,h1⟩=>by
  obtain⟨v,F,g1,g2,g3⟩:=h1 I ⟨w,[],hG⟩ a' w' hI
  exact⟨hI.defers,v,g1,x,hp,v,F,rfl,g2,(g3.2 rfl).1,fun b hb=>⟨(g3.1 b hb).resolve_right (by simp),(g3.2 rfl).2 b hb⟩,hI.ext.toExt⟩
 cases e with
 | normal=>exact key h1
 | ret=>exact key h1
 | exit id=>exact h1.elim
 | goto l=>exact h1.elim
 | panic c=>exact h1.elim
 | outgrown=>exact h1.elim
theorem trunc_get {α:Type} (l:Array α) (n k:Nat) (h:n≤l.size) (hk:k<n):(l.extract 0 n)[k]?=l[k]?:=by
 rw [Array.getElem?_extract]
 simp
 omega
theorem FnD.walk {n:Nat} {f:FuncId} {fn:Func} {c:Code} {ins:List V0} {p:τ→Prop} {out:τ→V} {σ':Nat×Value→St} (hf:P.funcs[f]?=some fn) (hb:fn.body=some c) (hname:(fn.name == "runtime.NumGoroutine")=false) (hnt:fn.ntmps=n) (hn:Nat.ble (ins.length+1) n=true)
 (hi:∀ g,initC 1 (ins.map fun x=>(false,x)) ⟨n,[(0,(true,.a (.one (.pp 888888 0))))],[(888888,.cur g)]⟩=some (σ' g)) (h:∀ w0 g,AW P w0 c (RetD P fn g p out) (σ' g)):FnD P f ins p out:=by
 subst hnt
 refine⟨⟨fn,hf,hname,by rw [hb];rfl⟩,fun w g vs F hG hC hv hgF=>?_⟩
 have hv':=hv.c (FF:=[g.1]) fun b hb hm=>hgF (by simp only [List.mem_singleton] at hm;rwa [←hm])
 have hl:vs.length=ins.length:=by simpa using hv'.len
 have hn':ins.length+1≤fn.ntmps:=Nat.le_of_ble_eq_true hn
 have hglt:g.1<w.heap.size:=hC.1.lt
 let a0:Act:=⟨(List.toArray (.pointer (some ⟨g.1,0,none⟩)::vs))++Array.replicate (fn.ntmps-(List.toArray (Value.pointer (some ⟨g.1,0,none⟩)::vs)).size) undef,[]⟩
 let I0:Ip:=⟨fun b=>b<w.heap.size∧b≠g.1,fun i=>if i=888888 then [g.1] else [],fun _=>undef,fun i=>if i=888888 then g.1 else 0⟩
 have hget:∀ (j:Nat) v,(Value.pointer (some ⟨g.1,0,none⟩)::vs)[j]?=some v→a0.tmps.getD j undef=v:=fun j v hj=>by
  have hjl:=(List.getElem?_eq_some_iff.1 hj).1
  simp only [a0]
  rw [Array.getD_eq_getD_getElem?,Array.getElem?_append_left (by simpa using hjl)]
  have:(List.toArray (Value.pointer (some ⟨g.1,0,none⟩)::vs))[j]?=some v:=by simpa using hj
  rw [this];rfl
 have hr0:RelI I0 ⟨w,[g.1],hG⟩ ⟨fn.ntmps,[(0,(true,.a (.one (.pp 888888 0))))],[(888888,.cur g)]⟩ a0 w:=by
  have key:∀ i r,look [(888888,R.cur g)] i=some r→i=888888∧r=.cur g:=fun i r hi=>by
   rw [look_cons] at hi
   split at hi
   · rename_i e;cases hi;exact⟨e.symm,rfl⟩
   cases hi
  refine⟨Chg.refl w [g.1],rfl,by simp [a0,hl];omega,fun i z hi=>?_,fun id r hi=>?_,fun b hb=>hb.1,fun id b hb=>?_,fun id r hi=>?_,fun i j hne b hb hb'=>?_⟩
  · rw [look_cons] at hi
    split at hi
    · rename_i e
      subst e;cases hi;exact hget 0 _ rfl
    cases hi
  · obtain⟨rfl,rfl⟩:=key id r hi
    exact⟨rfl,rfl,hC.1⟩
  · simp only [I0] at hb ⊢
    split at hb
    · simp only [List.mem_singleton] at hb;subst hb;exact⟨hglt,fun h=>h.2 rfl⟩
    cases hb
  · obtain⟨rfl,rfl⟩:=key id r hi
    refine⟨by simp [I0],fun b hb=>?_⟩
    have:b=g.1:=by simpa [I0] using hb
    subst this
    exact⟨.inr (by simp),hC.2⟩
  simp only [I0] at hb hb'
  split at hb
  · split at hb'
    · omega
    cases hb'
  cases hb
 obtain⟨I1,r1⟩:=initC_ok (FF:=[g.1]) (fun _ _ _=>trivial) (hi g) hr0 (fun b h1 h2=>⟨h1,fun e=>h2 (by simp [e])⟩) hv' (by simp) (fun b hb=>by cases hb) fun j v hj=>hget (1+j) v (by rw [Nat.add_comm];simpa using hj)
 refine calls_of_wp hf hb (Code.wp_mono ?_ (h ⟨w,[g.1],hG⟩ g _ _ ⟨I1,r1⟩))
 rintro e a' w' ⟨σ1,h1,I,hI⟩
 have key:DRes P fn g p out σ1→a'.defers=[]∧∃ v,(results fn a'.tmps).run P w'=.ok v w'∧DPost w g p out (.returned v) w':=fun ⟨x,hp,hcur,h1⟩=>by
  obtain⟨hF,hB,hcu⟩:I.F 888888=[g.1]∧I.B 888888=g.1∧CuB I.Z w' g:=hI.res _ _ hcur
  have hsz:w.heap.size≤w'.heap.size:=hI.ext.size
  let W:World:={ w' with heap:=w'.heap.extract 0 w.heap.size }
  have hW:W.heap.size=w.heap.size:=by simp [W];omega
  have hWk:∀ k,k<w.heap.size→W.heap[k]?=w'.heap[k]?:=fun k hk=>trunc_get _ _ _ hsz hk
  have hGW:Good W []:=hG.step (Nat.le_of_eq hW.symm) (fun k hk hn=>(hWk k hk).trans (hI.ext.block k hk hn)) fun b hb=>by cases hb
  have hI2:RelI I ⟨W,[],hGW⟩ ⟨σ1.n,σ1.slots,delR σ1.res 888888⟩ a' w':=by
   refine⟨⟨rfl,rfl,rfl,by rw [hW];exact hsz,fun k hk _=>?_⟩,hI.defers,hI.size,hI.slots,fun id r hr=>hI.res id r (look_delR _ _ _ _ hr).2,hI.old,hI.lt,fun id r hr=>?_,hI.apart⟩
   · rw [hW] at hk;exact (hWk k hk).symm
   obtain⟨e1,e2⟩:=look_delR _ _ _ _ hr
   refine⟨(hI.own id r e2).1,fun b hb=>⟨?_,((hI.own id r e2).2 b hb).2⟩⟩
   rcases ((hI.own id r e2).2 b hb).1 with h|h
   · left;show W.heap.size≤b;rw [hW];exact h
   exfalso
   have:b=g.1:=by simpa using h
   subst this;exact hI.apart id 888888 e1 _ hb (by rw [hF];simp)
  obtain⟨v,F,g1,g2,g3⟩:=h1 I ⟨W,[],hGW⟩ a' w' hI2
  refine⟨hI.defers,v,g1,x,v,F,rfl,hp,g2,(g3.2 rfl).1,fun b hb=>⟨?_,(g3.2 rfl).2 b hb⟩,hI.ext,?_,?_⟩
  · have:=(g3.1 b hb).resolve_right (by simp)
    rwa [show (Base.W ⟨W,[],hGW⟩).heap.size=w.heap.size from hW] at this
  · refine hcu.congr rfl fun b _ hz=>⟨⟨hI.old b hz,fun e=>?_⟩,rfl⟩
    subst e;exact (hI.lt 888888 _ (by rw [hF];simp)).2 hz
  exact ((hI.own 888888 _ hcur).2 g.1 (by rw [hF];simp)).2
 cases e with
 | normal=>exact key h1
 | ret=>exact key h1
 | exit id=>exact h1.elim
 | goto l=>exact h1.elim
 | panic c=>exact h1.elim
 | outgrown=>exact h1.elim
def readD (u:Nat) (σ:St):E→Option T
 | .t x=>some x
 | .vw id x=>bif Nat.beq id u then none else some x
 | .rf id=>match look σ.res id with|some (.row k rows)=>some (.sl k rows)|_=>none
 | _=>none
def readDA (u:Nat) (σ:St):A→Option V0
 | .one e=>match readD u σ e with|some t=>some (.one t)|none=>none
 | .agg l=>match mapO (readD u σ) l with|some ts=>some (.agg ts)|none=>none
inductive ArgsD (σ:St) (u:Nat) (q:Bool):List Operand→List V0→Prop where
 | nil:ArgsD σ u q [] []
 | cons {x:Operand} {A0:A} {v:V0} {l:List Operand} {vs:List V0} (hx:Get σ q x A0) (hv:readDA u σ A0=some v) (h:ArgsD σ u q l vs):ArgsD σ u q (x::l) (v::vs)
section
variable {I:Ip} {w0:Base} {w:World} {a:Act} {u:Nat} {g:Nat×Value}
theorem readD_ok (hr:RelI I w0 σ a w) (hu:look σ.res u=some (.cur g)) {e:E} {t:T} {c:Value} (h:readD u σ e=some t) (hv:VE I w e c):∃ G,C false w t c G∧∀ b∈G,b∉I.F u:=by
 cases e with
 | t x=>cases h;obtain⟨G,h1,h2⟩:=hv;exact⟨G,h1,fun b hb hm=>(hr.lt u b hm).2 (h2 b hb)⟩
 | vw id x=>
  rw [readD] at h
  cases hb:Nat.beq id u with
  | true=>rw [hb] at h;cases h
  | false=>
   rw [hb] at h;cases h
   obtain⟨G,h1,h2⟩:=hv
   exact⟨G,h1,fun b hb'=>hr.apart id u (beq_ne hb) b (h2 b hb')⟩
 | rf id=>
  rw [readD] at h
  split at h
  · rename_i k rows h0
    cases h
    have hc:c=I.hd id:=hv.1
    have hne:id≠u:=fun e=>by subst e;rw [hu] at h0;cases h0
    rw [hc];exact⟨_,C.read (show C true w (.sl k rows) _ _ from hr.res id _ h0),hr.apart id u hne⟩
  cases h
 | pp id off=>cases h
 | pr id k i j=>cases h
 | sb id k i j=>cases h
 | tl id k j=>cases h
 | pf id k j=>cases h
 | no=>cases h
theorem mapD_ok (hr:RelI I w0 σ a w) (hu:look σ.res u=some (.cur g)):∀ {l:List E} {ts:List T} {cs:List Value},mapO (readD u σ) l=some ts→VEs I w l cs→∃ G,Cs false w ts cs G∧∀ b∈G,b∉I.F u
 | [],ts,cs,h,hv=>by cases h;exact⟨[],by unfold Cs;exact⟨hv,rfl⟩,fun _ hb=>by cases hb⟩
 | e::r,ts,cs,h,hv=>by
  obtain⟨c,cr,rfl,h1,h2⟩:=hv
  rw [mapO] at h
  split at h
  · rename_i t e1
    split at h
    · rename_i ts' e2
      cases h
      obtain⟨G1,g1,k1⟩:=readD_ok hr hu e1 h1
      obtain⟨G2,g2,k2⟩:=mapD_ok hr hu e2 h2
      exact⟨G1++G2,by unfold Cs;exact⟨c,cr,G1,G2,rfl,g1,g2,rfl⟩,fun b hb=>(List.mem_append.1 hb).elim (k1 b) (k2 b)⟩
    cases h
  cases h
theorem readDA_ok (hr:RelI I w0 σ a w) (hu:look σ.res u=some (.cur g)) {x:A} {t:V0} {v:Value} (h:readDA u σ x=some t) (hv:VA I w x v):∃ G,V0r false w t v G∧∀ b∈G,b∉I.F u:=by
 cases x with
 | one e=>
  rw [readDA] at h
  split at h
  · rename_i t' h1;cases h;exact readD_ok hr hu h1 hv
  cases h
 | agg l=>
  rw [readDA] at h
  split at h
  · rename_i ts h1;cases h
    obtain⟨cs,h2,h3⟩:=hv
    obtain⟨G,h4,h5⟩:=mapD_ok hr hu h1 h3
    exact⟨G,⟨cs,h2,h4⟩,h5⟩
  cases h
theorem ArgsD.ok {l:List Operand} {ins:List V0} (h:ArgsD σ u true l ins) (hr:RelI I w0 σ a w) (hu:look σ.res u=some (.cur g)):∃ F,V0s false w ins (l.map a.eval) F∧∀ b∈F,b∉I.F u:=by
 induction h with
 | nil=>exact⟨[],⟨rfl,rfl⟩,fun _ hb=>by cases hb⟩
 | cons hx hv h ih=>
  obtain⟨F,ih,k1⟩:=ih
  obtain⟨G,hg,k2⟩:=readDA_ok hr hu hv (hx.va hr rfl)
  exact⟨G++F,⟨_,_,G,F,rfl,hg,ih,rfl⟩,fun b hb=>(List.mem_append.1 hb).elim (k2 b) (k1 b)⟩
theorem RelI.moved (hr:RelI I w0 σ a w) (hu:look σ.res u=some (.cur g)) (hn:nvB u σ.slots σ.res=true) {w':World} (hc:Chg w w' [g.1]) (hg:CuOk w' g) (hZ:∀ b,I.Z b→b≠g.1) (hcu:CuB I.Z w' g):∃ I',RelI I' w0 σ a w'∧I'.Z=I.Z∧I'.F=I.F:=by
 obtain⟨hF,hB,_⟩:I.F u=[g.1]∧I.B u=g.1∧CuB I.Z w g:=hr.res _ _ hu
 have h:=hr.upd (w':=w') hu (by rw [hF];exact hc) (G:=[g.1]) (r:=.cur g) ⟨by simp,fun b hb=>?_⟩ ⟨by simp [Ip.set],by simp [Ip.set,hB],hcu⟩
 · rw [upd_nv hn,setR_same _ _ _ hu] at h
   refine⟨_,h,rfl,?_⟩
   funext i
   simp only [Ip.set]
   split
   · rename_i e;rw [e,hF]
   rfl
 simp only [List.mem_singleton] at hb
 subst hb
 exact⟨((hr.own u _ hu).2 _ (by rw [hF];simp)).1,hcu.lt,hg.2,.inl (by rw [hF];simp)⟩
end
theorem R_calldG {f:FuncId} {x:Operand} {l:List Operand} {tys:Array TypeId} {ins:List V0} {p:τ→Prop} {out:τ→V} {g:Nat×Value} {u:Nat} {y:τ→S} {rs:τ→List (Nat×R)} (n:Nat) (h:FnD P f ins p out) (ho:o.op=.call { callee:=.value (.func f),args:=(x::l).toArray,argTypes:=tys }) (hg:Grd ops o σ true) (hd:o.dst.all (fun d=>Nat.blt d σ.n)=true)
 (hx:Get σ true x (.one (.pp u 0))) (hu:look σ.res u=some (.cur g)) (hn:nvB u σ.slots σ.res=true) (ha:ArgsD σ u true l ins) (hout:∀ z,outV n (out z)=some (y z,rs z)) (hf:∀ z,((rs z).all fun x=>!σ.has x.1)=true):OpE P ops o σ fun σ'=>∃ z,p z∧σ'=(σ.adds (rs z)).put o.dst (true,y z):=by
 rintro w0 a w ⟨I,hr⟩ K Q hK
 rw [hg.wanted hr]
 simp only [if_true]
 obtain⟨hF,hB,hcu⟩:I.F u=[g.1]∧I.B u=g.1∧CuB I.Z w g:=hr.res _ _ hu
 obtain⟨F,hV,hap⟩:=ha.ok hr hu
 have hv:a.eval x=.pointer (some ⟨g.1,0,none⟩):=by
  have:a.eval x=.pointer (some ⟨I.B u,0,none⟩):=hx.va hr rfl
  rw [this,hB]
 have hZg:∀ b,I.Z b→b≠g.1:=fun b hz e=>by subst e;exact (hr.lt u _ (by rw [hF];simp)).2 hz
 have hgo:=(hr.own u _ hu).2 g.1 (by rw [hF];simp)
 have hok:CuOk w g:=⟨hcu.congr rfl fun b _ hz=>⟨⟨hr.old b hz,hZg b hz⟩,rfl⟩,hgo.2⟩
 have hgood:Good w [g.1]:=hr.goodF fun b hb=>by simp only [List.mem_singleton] at hb;subst hb;exact hgo.1
 unfold Oper.wp
 rw [run_enter h.1 ho,List.map_cons,hv]
 refine (h.2 w g _ F hgood hok hV (fun hm=>hap g.1 hm (by rw [hF];simp))).mono fun e w' hR=>?_
 obtain⟨z,v,G,rfl,hp,h1,h2,h3,h4,h5⟩:=hR
 have hsize:=h4.size
 have hcu':CuB I.Z w' g:=by
  obtain⟨i,m,t,G0,bs,k1,k2,k3,k4,k5⟩:=hcu
  obtain⟨i',m',t',G0',bs',j1,j2,j3,j4,j5⟩:=h5.1
  exact⟨i',m',t',G0,bs,j1,k2.congr fun b hb=>h4.block b (k2.lt b hb) (by simpa using hZg b (k3 b hb)),k3,j4,k5⟩
 obtain⟨I',hr',hZ',hF'⟩:=hr.moved hu hn h4 h5 hZg hcu'
 obtain⟨I2,g1,g2⟩:=outV_ok (hout z) (hf z) hr' h1 h2 fun b hb=>⟨.inl (Nat.le_trans hr.ext.size (h3 b hb).1),(Vr.lt h1 b hb),(h3 b hb).2,fun hz=>by rw [hZ'] at hz;have:=hr.old b hz;have:=(h3 b hb).1;omega,fun i hi=>by rw [hF'] at hi;have:=(hr.lt i b hi).1;have:=(h3 b hb).1;omega⟩
 refine hK _ _ _ ⟨z,hp,rfl⟩ ⟨I2,g1.put ?_ g2⟩
 have:(σ.adds (rs z)).n=σ.n:=adds_n (rs z)
 rw [this];exact hd
theorem B8 {f:FuncId} {x:Operand} {l:List Operand} {tys:Array TypeId} {ins:List V0} {p:τ→Prop} {out:τ→V} {g:Nat×Value} {u:Nat} {y:τ→S} {rs:τ→List (Nat×R)} (n:Nat) (h:FnD P f ins p out) (ho:o.op=.call { callee:=.value (.func f),args:=(x::l).toArray,argTypes:=tys }) (hg:o.guard=none) (hd:o.dst.all (fun d=>Nat.blt d σ.n)=true)
 (hx:Get σ true x (.one (.pp u 0))) (hu:look σ.res u=some (.cur g)) (hn:nvB u σ.slots σ.res=true) (ha:ArgsD σ u true l ins) (hout:∀ z,outV n (out z)=some (y z,rs z)) (hf:∀ z,((rs z).all fun x=>!σ.has x.1)=true):OpE P ops o σ fun σ'=>∃ z,p z∧σ'=(σ.adds (rs z)).put o.dst (true,y z):=
 R_calldG n h ho (.no hg) hd hx hu hn ha hout hf
theorem C8 {f:FuncId} {l:List Operand} {tys:Array TypeId} {ins:List V0} {p:τ→Prop} {out:τ→V} {y:τ→S} {rs:τ→List (Nat×R)} (n:Nat) (h:FnE P f ins p out) (ho:o.op=.call { callee:=.value (.func f),args:=l.toArray,argTypes:=tys }) (hg:o.guard=none) (hd:o.dst.all (fun d=>Nat.blt d σ.n)=true)
 (ha:Args σ true l ins) (hout:∀ z,outV n (out z)=some (y z,rs z)) (hf:∀ z,((rs z).all fun x=>!σ.has x.1)=true):OpE P ops o σ fun σ'=>∃ z,p z∧σ'=(σ.adds (rs z)).put o.dst (true,y z):=by
 rintro w0 a w ⟨I,hr⟩ K Q hK
 simp only [Region.wanted,hg,if_true]
 obtain⟨F,hF⟩:=ha.ok hr rfl
 unfold Oper.wp
 rw [run_enter h.1 ho]
 refine (h.2 w _ F hr.good hF).mono fun e w' hR=>?_
 obtain⟨z,hp,v,G,rfl,h1,h2,h3,h4⟩:=hR
 obtain⟨I',g1,g2⟩:=outV_ok (hout z) (hf z) (hr.later h4) h1 h2 fun b hb=>⟨.inl (Nat.le_trans hr.ext.size (h3 b hb).1),(Vr.lt h1 b hb),(h3 b hb).2,fun hz=>by have:=hr.old b hz;have:=(h3 b hb).1;omega,fun i hi=>by have:=(hr.lt i b hi).1;have:=(h3 b hb).1;omega⟩
 refine hK _ _ _ ⟨z,hp,rfl⟩ ⟨I',g1.put ?_ g2⟩
 have:(σ.adds (rs z)).n=σ.n:=adds_n (rs z)
 rw [this];exact hd
theorem R_calln {f:FuncId} {x:Operand} {tys:Array TypeId} {bs:List Int} (u:Nat) (h:FnN P f) (ho:o.op=.call { callee:=.value (.func f),args:=[x].toArray,argTypes:=tys }) (hg:o.guard=none) (hd:o.dst.all (fun d=>Nat.blt d σ.n)=true)
 (hx:Get σ true x (.one (.t (.sl 1 (byR bs))))) (hb:∀ n∈bs,0≤n∧n<256) (hf:σ.has u=false):OpE P ops o σ fun σ'=>∃ g,σ'=(σ.add u (.cur g)).put o.dst (true,.a (.one (.pp u 0))):=by
 rintro w0 a w ⟨I,hr⟩ K Q hK
 simp only [Region.wanted,hg,if_true]
 obtain⟨G,hC,hZ⟩:VE I w (.t (.sl 1 (byR bs))) (a.eval x):=hx.va hr rfl
 unfold Oper.wp
 rw [run_enter h.1 ho]
 refine (h.2 w _ G bs hr.good hC hb).mono fun e w' hR=>?_
 obtain⟨g,i,m,t,rfl,h1,h2,h3,h4,h5⟩:=hR
 have hlt:g<w'.heap.size:=(Array.getElem?_eq_some_iff.1 h3).1
 have hr':=hr.add (id:=u) hf h5 (G:=[g]) (u:=undef) (b:=g) (r:=.cur (g,a.eval x)) ⟨by simp,fun b hb=>by simp only [List.mem_singleton] at hb;subst hb;exact⟨h1,hlt,h2⟩⟩
  ⟨by simp [Ip.set],by simp [Ip.set],i,m,t,G,bs,h3,hC.mono h5,hZ,h4,hb⟩
 exact hK _ _ _ ⟨(g,a.eval x),rfl⟩ ⟨_,hr'.put hd (by show Value.pointer _=Value.pointer _;simp [Ip.set])⟩
end
end Go.Q
namespace Go.Q
open Go.RowKit
section
variable {P:Program}
def EndP (Φ:St→Prop):Exit→St→Prop
 | .normal,σ=>∃ σt,Φ σt∧Le σ σt
 | _,_=>False
theorem EndP.run {ops:Array Oper} {o:Oper} {σ:St} {Φ:St→Prop} (h:∀ w0,AWl P w0 ops (EndP Φ) [o] σ) {w0:Base} {a:Act} {w:World} (hr:Rel w0 σ a w) (K:Act→World→Prop) (Q:Exit→Act→World→Prop) (hK:∀ a' w' σ',Φ σ'→Rel w0 σ' a' w'→K a' w') :
 if Region.wanted o (yielded ops a.tmps) then o.wp P a w K Q else K (a.put o.dst undef) w:=by
 have h1:=h w0 a w hr
 unfold wpList at h1
 have hN:∀ a' w',wpList P ops (lift w0 (EndP Φ)) [] a' w'→K a' w':=fun a' w' h=>by
  obtain⟨σ',⟨σt,h2,h4⟩,h3⟩:=h
  exact hK a' w' σt h2 (h4 w0 a' w' h3)
 have hF:∀ e a' w',e≠Exit.normal→lift w0 (EndP Φ) e a' w'→False:=fun e a' w' he h=>by
  obtain⟨σ',h2,h3⟩:=h
  cases e<;>first|exact he rfl|exact h2
 have hL:LetsOut (lift w0 (EndP Φ))→False:=fun ⟨a',w',h⟩=>hF _ a' w' (by simp) h
 split
 · rename_i hw
   rw [if_pos hw] at h1
   rcases h1 with h1|⟨_,h1⟩
   · unfold Oper.wp at *
     generalize (execOp a.eval o).run P w=r at *
     cases r with
     | ok n w'=>
      cases n<;>simp only [Oper.upon] at h1 ⊢<;>
       first
        | exact hN _ _ h1
        | exact Calls.mono h1 (fun e w'' he=>by cases e<;>first|exact hN _ _ he|exact (hL he).elim|exact (hF _ _ _ (by simp) he).elim)
        | exact Rows.mono h1 (fun _ _ he=>hN _ _ he)
     | halt x w'=>cases x<;>simp only [Oper.upon] at h1 ⊢<;>first|exact h1.elim|exact (hF _ _ _ (by simp) h1).elim
   exact (hL h1).elim
 rename_i hw
 rw [if_neg hw] at h1
 exact hN _ _ h1
def Stp (P:Program) (l:List Oper) (o:Oper) (Φ:St→Prop) (σ:St):Prop:=∀ w0 a w,Rel w0 σ a w→∀ (K:Act→World→Prop) (Q:Exit→Act→World→Prop),(∀ a' w' σ',Φ σ'→Rel w0 σ' a' w'→K a' w')→
 if Region.wanted o (yielded l.toArray a.tmps) then o.wp P a w K Q else K (a.put o.dst undef) w
theorem AW.dagP {w0:Base} {Q:Exit→St→Prop} {σ:St} {id:Nat} {l:List Oper} (N k:Nat) (ms:List (List Nat)) (es:List (Nat×Nat×Nat)) (st:Nat→St→Prop) (hm:P.follows .mixedOrders=true) (hB:planC l.toArray N=true) (hP:dagB l N ms es k=true)
 (hes:∀ e∈es,∀ o,l[e.2.1]?=some o→∀ σ,st e.1 σ→Stp P l o (st e.2.2) σ) (hσ:st 0 σ) (hfin:∀ σ',st k σ'→AWl P w0 l.toArray Q (l.drop N) σ'):AW P w0 (.region id l.toArray true) Q σ:=by
 intro a w hr;refine wp_region_any hm ?_
 simp only [dagB,Bool.and_eq_true] at hP
 obtain⟨hP,hms⟩:=hP
 have hms0:ms[0]?=some []:=by
  match ms,hms with
  | []::_,_=>rfl
 have hlN:N≤l.length:=by
  have hB':=hB
  simp only [planC,Bool.and_eq_true,decide_eq_true_eq] at hB'
  simpa using hB'.1.1.1
 have hdep:∀ i o,i<N→l[i]?=some o→∀ j∈deps o,j<N:=fun i o hi ho j hj=>by
  have hB':=hB
  simp only [planC,Bool.and_eq_true,decide_eq_true_eq] at hB'
  have:=List.all_eq_true.1 hB'.1.1.2 i (List.mem_range.2 hi)
  have ho':l.toArray[i]?=some o:=by simpa using ho
  rw [ho'] at this
  have:=List.all_eq_true.1 this j hj
  simp only [decide_eq_true_eq] at this
  omega
 have hat:∀ (b:Nat) (m:List Nat),ms[b]?=some m→((∀ i,i<N→memN m i=false→∀ o,l[i]?=some o→(∀ j∈deps o,memN m j=true)→∃ e∈es,e.1=b∧e.2.1=i∧∃ m',ms[e.2.2]?=some m'∧∀ j,j<N→memN m' j=(Nat.beq j i||memN m j))∧((∀ i,i<N→memN m i=true)→b=k)):=by
  intro b m hb
  have:=List.all_eq_true.1 hP b (List.mem_range.2 (List.getElem?_eq_some_iff.1 hb).1)
  rw [hb] at this
  simp only [Bool.and_eq_true] at this
  refine⟨fun i hi hu o ho hd=>?_,fun hall=>?_⟩
  · have:=List.all_eq_true.1 this.1 i (List.mem_range.2 hi)
    rw [hu,Bool.false_or,ho] at this
    simp only [Bool.or_eq_true,Bool.not_eq_true'] at this
    rcases this with h|h
    · rw [List.all_eq_true.2 hd] at h;cases h
    obtain⟨e,he,h⟩:=List.any_eq_true.1 h
    simp only [Bool.and_eq_true] at h
    obtain⟨⟨h1,h2⟩,h3⟩:=h
    refine⟨e,he,Nat.eq_of_beq_eq_true h1,Nat.eq_of_beq_eq_true h2,?_⟩
    split at h3
    · cases h3
    rename_i m' hm'
    exact⟨m',hm',fun j hj=>by simpa using List.all_eq_true.1 h3 j (List.mem_range.2 hj)⟩
  have h2:=this.2
  simp only [Bool.or_eq_true] at h2
  rcases h2 with h|h
  · exact Nat.eq_of_beq_eq_true h
  obtain⟨i,hi,h⟩:=List.any_eq_true.1 h
  rw [hall i (List.mem_range.1 hi)] at h;cases h
 have H:=wpAny_inv (P:=P) (Q:=lift w0 Q) (J:=fun listed a w=>∃ b m,ms[b]?=some m∧(∀ j,j<N→memN m j=listed.getD j false)∧∃ σ,st b σ∧Rel w0 σ a w) hB (fun i o hi ho listed a w inv hd hu hJ=>?_) (fun listed a w hall hJ=>?_)
  (unl N (Array.replicate l.toArray.size false)) (Array.replicate l.toArray.size false) a { w with drawn:=w.drawn+1 } rfl
  ⟨by simp,fun j oj _ hl=>(by rw [getD_replicate_false] at hl;cases hl),fun t _ ht=>getD_in (by simpa using ht) (getD_replicate_false _ _)⟩ ?_
 · have hu:unl N (Array.replicate l.toArray.size false)=N:=by
    unfold unl
    rw [List.countP_eq_length.2 (fun j _=>by rw [getD_replicate_false];rfl),List.length_range]
   rw [hu,show N+(l.toArray.size-N)=l.toArray.size by simp;omega] at H
   exact H
 · obtain⟨b,m,hb,hmj,σ,hσ,hr⟩:=hJ
   have ho0:l[i]?=some o:=by simpa using ho
   obtain⟨e,he,rfl,rfl,m',hm',hj'⟩:=(hat b m hb).1 i hi (by rw [hmj i hi];exact hu) o ho0 fun j hj=>by rw [hmj j (hdep i o hi ho0 j hj)];exact hd j hj
   intro K Q' hK;refine hes e he o ho0 σ hσ w0 a w hr K Q' fun a' w' σ' hσ' hr'=>hK a' w' ⟨e.2.2,m',hm',fun j hj=>?_,σ',hσ',hr'⟩
   rw [hj' j hj,hmj j hj]
   by_cases ej:j=e.2.1
   · subst ej
     have:e.2.1<listed.size:=by rw [inv.size];simp;omega
     simp [this,Nat.beq_refl]
   rw [beq_false ej,Bool.false_or,getD_set_ne false (fun h=>ej h.symm)]
 · obtain⟨b,m,hb,hmj,σ,hσ,hr⟩:=hJ
   have:=(hat b m hb).2 fun i hi=>by rw [hmj i hi];exact hall i hi
   subst this;exact hfin σ hσ a w hr
 refine⟨0,[],hms0,fun j _=>by rw [getD_replicate_false];rfl,σ,hσ,?_⟩
 obtain⟨I,hI⟩:=hr
 exact⟨I,hI.later (Ext.refl w).drawn⟩
structure Dg (P:Program) (l:List Oper) (acc:List (Nat×(St→Prop))) (es:List (Nat×Nat×Nat)) (Fin:(Nat→St→Prop)→Prop):Prop where
 pf:∃ st:Nat→St→Prop,(∀ k Φ,look acc k=some Φ→st k=Φ)∧(∀ e∈es,∀ o,l[e.2.1]?=some o→∀ σ,st e.1 σ→Stp P l o (st e.2.2) σ)∧Fin st
variable {l:List Oper} {acc:List (Nat×(St→Prop))} {es:List (Nat×Nat×Nat)} {Fin:(Nat→St→Prop)→Prop}
theorem Dg.new {a i b:Nat} {Φ Φ':St→Prop} {o:Oper} (ha:look acc a=some Φ) (ho:l[i]?=some o) (hb:look acc b=none) (hE:∀ σ,Φ σ→Stp P l o Φ' σ) (h:Dg P l ((b,Φ')::acc) es Fin):Dg P l acc ((a,i,b)::es) Fin:=by
 obtain⟨st,h1,h2,h3⟩:=h.pf
 have hne:b≠a:=fun e=>by subst e;rw [hb] at ha;cases ha
 have h1':∀ k σ,look acc k=some σ→st k=σ:=fun k σ hk=>h1 k σ (by
  rw [look_cons,if_neg (fun e=>?_)]
  · exact hk
  subst e;rw [hb] at hk;cases hk)
 refine⟨st,h1',fun e he o' ho' σ hσ=>?_,h3⟩
 rcases List.mem_cons.1 he with rfl|he
 · simp only at ho' hσ ⊢
   rw [ho] at ho';cases ho'
   rw [h1' a Φ ha] at hσ
   rw [h1 b Φ' (by rw [look_cons,if_pos rfl])]
   exact hE σ hσ
 exact h2 e he o' ho' σ hσ
theorem Dg.old {a i b:Nat} {Φ Φ':St→Prop} {o:Oper} (ha:look acc a=some Φ) (ho:l[i]?=some o) (hb:look acc b=some Φ') (hE:∀ σ,Φ σ→Stp P l o Φ' σ) (h:Dg P l acc es Fin):Dg P l acc ((a,i,b)::es) Fin:=by
 obtain⟨st,h1,h2,h3⟩:=h.pf
 refine⟨st,h1,fun e he o' ho' σ hσ=>?_,h3⟩
 rcases List.mem_cons.1 he with rfl|he
 · simp only at ho' hσ ⊢
   rw [ho] at ho';cases ho'
   rw [h1 a Φ ha] at hσ
   rw [h1 b Φ' hb]
   exact hE σ hσ
 exact h2 e he o' ho' σ hσ
theorem Dg.fin {w0:Base} {Q:Exit→St→Prop} {N k:Nat} {Φ:St→Prop} (hk:look acc k=some Φ) (h:∀ σ',Φ σ'→AWl P w0 l.toArray Q (l.drop N) σ'):Dg P l acc [] (fun st=>∀ σ',st k σ'→AWl P w0 l.toArray Q (l.drop N) σ'):=
 ⟨fun i=>(look acc i).getD fun _=>False,fun i σ' hi=>by simp [hi],fun e he=>(by cases he),by simpa [hk] using h⟩
theorem EndQ.eq {σ σ' s:St} (h:Le σ σ') (e:s=σ'):EndQ s .normal σ:=by subst e;exact h
theorem Stp.run {o:Oper} {σ σt:St} {Φ:St→Prop} (h:∀ w0,AWl P w0 l.toArray (EndQ σt) [o] σ) (hΦ:Φ σt):Stp P l o Φ σ:=fun w0 a w hr K Q hK=>EndQ.run h hr K Q fun a' w' hr'=>hK a' w' σt hΦ hr'
theorem Stp.opE {o:Oper} {σ:St} {Φ Ψ:St→Prop} (h:OpE P l.toArray o σ Ψ) (hL:∀ σ',Ψ σ'→∃ σt,Φ σt∧Le σ' σt):Stp P l o Φ σ:=fun w0 a w hr K Q hK=>h w0 a w hr K Q fun σ' a' w' hσ' hr'=>by
 obtain⟨σt,h1,h2⟩:=hL σ' hσ'
 exact hK a' w' σt h1 (h2 w0 a' w' hr')
def Nd0  (p:Prop) (s:St):St→Prop:=fun σ=>p∧σ=s
def Nd1 {α1:Type} (p:α1→Prop) (s:α1→St):St→Prop:=fun σ=>∃ z1,p z1∧σ=s z1
def Nd2 {α1:Type} {α2:Type} (p:α1→α2→Prop) (s:α1→α2→St):St→Prop:=fun σ=>∃ z1 z2,p z1 z2∧σ=s z1 z2
def Nd3 {α1:Type} {α2:Type} {α3:Type} (p:α1→α2→α3→Prop) (s:α1→α2→α3→St):St→Prop:=fun σ=>∃ z1 z2 z3,p z1 z2 z3∧σ=s z1 z2 z3
def Nd4 {α1:Type} {α2:Type} {α3:Type} {α4:Type} (p:α1→α2→α3→α4→Prop) (s:α1→α2→α3→α4→St):St→Prop:=fun σ=>∃ z1 z2 z3 z4,p z1 z2 z3 z4∧σ=s z1 z2 z3 z4
theorem Dg.new0 {a i b:Nat}  {p:Prop} {s s':St} {o:Oper} (ha:look acc a=some (Nd0 p s)) (ho:l[i]?=some o) (hb:look acc b=none) (hE:∀ w0,p→AWl P w0 l.toArray (EndQ (s')) [o] (s)) (h:Dg P l ((b,Nd0 p s')::acc) es Fin):Dg P l acc ((a,i,b)::es) Fin:=
 Dg.new ha ho hb (fun σ h=>by obtain⟨hp,rfl⟩:=h;exact Stp.run (fun w0=>hE w0  hp) ⟨hp,rfl⟩) h
theorem Dg.old0 {a i b:Nat}  {p:Prop} {s s':St} {o:Oper} (ha:look acc a=some (Nd0 p s)) (ho:l[i]?=some o) (hb:look acc b=some (Nd0 p s')) (hE:∀ w0,p→AWl P w0 l.toArray (EndQ (s')) [o] (s)) (h:Dg P l acc es Fin):Dg P l acc ((a,i,b)::es) Fin:=
 Dg.old ha ho hb (fun σ h=>by obtain⟨hp,rfl⟩:=h;exact Stp.run (fun w0=>hE w0  hp) ⟨hp,rfl⟩) h
theorem Dg.fin0 {w0:Base} {Q:Exit→St→Prop} {N k:Nat}  {p:Prop} {s:St} (hk:look acc k=some (Nd0 p s)) (h:p→AWl P w0 l.toArray Q (l.drop N) (s)):Dg P l acc [] (fun st=>∀ σ',st k σ'→AWl P w0 l.toArray Q (l.drop N) σ'):=
 Dg.fin hk fun σ h'=>by obtain⟨hp,rfl⟩:=h';exact h  hp
theorem Dg.drw0 {a i b:Nat}  {β:Type} {p:Prop} {s:St} {q:β→Prop} {f s':β→St} {o:Oper} (ha:look acc a=some (Nd0 p s)) (ho:l[i]?=some o) (hE:p→OpE P l.toArray o (s) (fun σ'=>∃ y,q y∧σ'=f y)) (hb:look acc b=none) (hL:∀ y,p→q y→EndQ (s' y) .normal (f y)) (h:Dg P l ((b,Nd1 (fun y=>p∧q y) s')::acc) es Fin):Dg P l acc ((a,i,b)::es) Fin:=
 Dg.new ha ho hb (fun σ h=>by
  obtain⟨hp,rfl⟩:=h
  refine Stp.opE (hE  hp) ?_
  rintro _ ⟨y,hy,rfl⟩
  exact⟨_,⟨y,⟨hp,hy⟩,rfl⟩,hL y hp hy⟩) h
theorem Dg.odr0 {a i b:Nat}  {β:Type} {p:Prop} {s:St} {q:β→Prop} {f s':β→St} {o:Oper} (ha:look acc a=some (Nd0 p s)) (ho:l[i]?=some o) (hE:p→OpE P l.toArray o (s) (fun σ'=>∃ y,q y∧σ'=f y)) (hb:look acc b=some (Nd1 (fun y=>p∧q y) s')) (hL:∀ y,p→q y→EndQ (s' y) .normal (f y)) (h:Dg P l acc es Fin):Dg P l acc ((a,i,b)::es) Fin:=
 Dg.old ha ho hb (fun σ h=>by
  obtain⟨hp,rfl⟩:=h
  refine Stp.opE (hE  hp) ?_
  rintro _ ⟨y,hy,rfl⟩
  exact⟨_,⟨y,⟨hp,hy⟩,rfl⟩,hL y hp hy⟩) h
theorem Dg.new1 {a i b:Nat} {α1:Type} {p:α1→Prop} {s s':α1→St} {o:Oper} (ha:look acc a=some (Nd1 p s)) (ho:l[i]?=some o) (hb:look acc b=none) (hE:∀ w0,∀ z1,p z1→AWl P w0 l.toArray (EndQ (s' z1)) [o] (s z1)) (h:Dg P l ((b,Nd1 p s')::acc) es Fin):Dg P l acc ((a,i,b)::es) Fin:=
 Dg.new ha ho hb (fun σ h=>by obtain⟨z1,hp,rfl⟩:=h;exact Stp.run (fun w0=>hE w0 z1 hp) ⟨z1,hp,rfl⟩) h
theorem Dg.old1 {a i b:Nat} {α1:Type} {p:α1→Prop} {s s':α1→St} {o:Oper} (ha:look acc a=some (Nd1 p s)) (ho:l[i]?=some o) (hb:look acc b=some (Nd1 p s')) (hE:∀ w0,∀ z1,p z1→AWl P w0 l.toArray (EndQ (s' z1)) [o] (s z1)) (h:Dg P l acc es Fin):Dg P l acc ((a,i,b)::es) Fin:=
 Dg.old ha ho hb (fun σ h=>by obtain⟨z1,hp,rfl⟩:=h;exact Stp.run (fun w0=>hE w0 z1 hp) ⟨z1,hp,rfl⟩) h
theorem Dg.fin1 {w0:Base} {Q:Exit→St→Prop} {N k:Nat} {α1:Type} {p:α1→Prop} {s:α1→St} (hk:look acc k=some (Nd1 p s)) (h:∀ z1,p z1→AWl P w0 l.toArray Q (l.drop N) (s z1)):Dg P l acc [] (fun st=>∀ σ',st k σ'→AWl P w0 l.toArray Q (l.drop N) σ'):=
 Dg.fin hk fun σ h'=>by obtain⟨z1,hp,rfl⟩:=h';exact h z1 hp
theorem Dg.drw1 {a i b:Nat} {α1:Type} {β:Type} {p:α1→Prop} {s:α1→St} {q:α1→β→Prop} {f s':α1→β→St} {o:Oper} (ha:look acc a=some (Nd1 p s)) (ho:l[i]?=some o) (hE:∀ z1,p z1→OpE P l.toArray o (s z1) (fun σ'=>∃ y,q z1 y∧σ'=f z1 y)) (hb:look acc b=none) (hL:∀ z1 y,p z1→q z1 y→EndQ (s' z1 y) .normal (f z1 y)) (h:Dg P l ((b,Nd2 (fun z1 y=>p z1∧q z1 y) s')::acc) es Fin):Dg P l acc ((a,i,b)::es) Fin:=
 Dg.new ha ho hb (fun σ h=>by
  obtain⟨z1,hp,rfl⟩:=h
  refine Stp.opE (hE z1 hp) ?_
  rintro _ ⟨y,hy,rfl⟩
  exact⟨_,⟨z1,y,⟨hp,hy⟩,rfl⟩,hL z1 y hp hy⟩) h
theorem Dg.old2 {a i b:Nat} {α1:Type} {α2:Type} {p:α1→α2→Prop} {s s':α1→α2→St} {o:Oper} (ha:look acc a=some (Nd2 p s)) (ho:l[i]?=some o) (hb:look acc b=some (Nd2 p s')) (hE:∀ w0,∀ z1 z2,p z1 z2→AWl P w0 l.toArray (EndQ (s' z1 z2)) [o] (s z1 z2)) (h:Dg P l acc es Fin):Dg P l acc ((a,i,b)::es) Fin:=
 Dg.old ha ho hb (fun σ h=>by obtain⟨z1,z2,hp,rfl⟩:=h;exact Stp.run (fun w0=>hE w0 z1 z2 hp) ⟨z1,z2,hp,rfl⟩) h
theorem Dg.drw2 {a i b:Nat} {α1:Type} {α2:Type} {β:Type} {p:α1→α2→Prop} {s:α1→α2→St} {q:α1→α2→β→Prop} {f s':α1→α2→β→St} {o:Oper} (ha:look acc a=some (Nd2 p s)) (ho:l[i]?=some o) (hE:∀ z1 z2,p z1 z2→OpE P l.toArray o (s z1 z2) (fun σ'=>∃ y,q z1 z2 y∧σ'=f z1 z2 y)) (hb:look acc b=none) (hL:∀ z1 z2 y,p z1 z2→q z1 z2 y→EndQ (s' z1 z2 y) .normal (f z1 z2 y)) (h:Dg P l ((b,Nd3 (fun z1 z2 y=>p z1 z2∧q z1 z2 y) s')::acc) es Fin):Dg P l acc ((a,i,b)::es) Fin:=
 Dg.new ha ho hb (fun σ h=>by
  obtain⟨z1,z2,hp,rfl⟩:=h
  refine Stp.opE (hE z1 z2 hp) ?_
  rintro _ ⟨y,hy,rfl⟩
  exact⟨_,⟨z1,z2,y,⟨hp,hy⟩,rfl⟩,hL z1 z2 y hp hy⟩) h
theorem Dg.new3 {a i b:Nat} {α1:Type} {α2:Type} {α3:Type} {p:α1→α2→α3→Prop} {s s':α1→α2→α3→St} {o:Oper} (ha:look acc a=some (Nd3 p s)) (ho:l[i]?=some o) (hb:look acc b=none) (hE:∀ w0,∀ z1 z2 z3,p z1 z2 z3→AWl P w0 l.toArray (EndQ (s' z1 z2 z3)) [o] (s z1 z2 z3)) (h:Dg P l ((b,Nd3 p s')::acc) es Fin):Dg P l acc ((a,i,b)::es) Fin:=
 Dg.new ha ho hb (fun σ h=>by obtain⟨z1,z2,z3,hp,rfl⟩:=h;exact Stp.run (fun w0=>hE w0 z1 z2 z3 hp) ⟨z1,z2,z3,hp,rfl⟩) h
theorem Dg.fin3 {w0:Base} {Q:Exit→St→Prop} {N k:Nat} {α1:Type} {α2:Type} {α3:Type} {p:α1→α2→α3→Prop} {s:α1→α2→α3→St} (hk:look acc k=some (Nd3 p s)) (h:∀ z1 z2 z3,p z1 z2 z3→AWl P w0 l.toArray Q (l.drop N) (s z1 z2 z3)):Dg P l acc [] (fun st=>∀ σ',st k σ'→AWl P w0 l.toArray Q (l.drop N) σ'):=
 Dg.fin hk fun σ h'=>by obtain⟨z1,z2,z3,hp,rfl⟩:=h';exact h z1 z2 z3 hp
theorem Dg.drw3 {a i b:Nat} {α1:Type} {α2:Type} {α3:Type} {β:Type} {p:α1→α2→α3→Prop} {s:α1→α2→α3→St} {q:α1→α2→α3→β→Prop} {f s':α1→α2→α3→β→St} {o:Oper} (ha:look acc a=some (Nd3 p s)) (ho:l[i]?=some o) (hE:∀ z1 z2 z3,p z1 z2 z3→OpE P l.toArray o (s z1 z2 z3) (fun σ'=>∃ y,q z1 z2 z3 y∧σ'=f z1 z2 z3 y)) (hb:look acc b=none) (hL:∀ z1 z2 z3 y,p z1 z2 z3→q z1 z2 z3 y→EndQ (s' z1 z2 z3 y) .normal (f z1 z2 z3 y)) (h:Dg P l ((b,Nd4 (fun z1 z2 z3 y=>p z1 z2 z3∧q z1 z2 z3 y) s')::acc) es Fin):Dg P l acc ((a,i,b)::es) Fin:=
 Dg.new ha ho hb (fun σ h=>by
  obtain⟨z1,z2,z3,hp,rfl⟩:=h
  refine Stp.opE (hE z1 z2 z3 hp) ?_
  rintro _ ⟨y,hy,rfl⟩
  exact⟨_,⟨z1,z2,z3,y,⟨hp,hy⟩,rfl⟩,hL z1 z2 z3 y hp hy⟩) h
theorem Dg.new4 {a i b:Nat} {α1:Type} {α2:Type} {α3:Type} {α4:Type} {p:α1→α2→α3→α4→Prop} {s s':α1→α2→α3→α4→St} {o:Oper} (ha:look acc a=some (Nd4 p s)) (ho:l[i]?=some o) (hb:look acc b=none) (hE:∀ w0,∀ z1 z2 z3 z4,p z1 z2 z3 z4→AWl P w0 l.toArray (EndQ (s' z1 z2 z3 z4)) [o] (s z1 z2 z3 z4)) (h:Dg P l ((b,Nd4 p s')::acc) es Fin):Dg P l acc ((a,i,b)::es) Fin:=
 Dg.new ha ho hb (fun σ h=>by obtain⟨z1,z2,z3,z4,hp,rfl⟩:=h;exact Stp.run (fun w0=>hE w0 z1 z2 z3 z4 hp) ⟨z1,z2,z3,z4,hp,rfl⟩) h
theorem Dg.fin4 {w0:Base} {Q:Exit→St→Prop} {N k:Nat} {α1:Type} {α2:Type} {α3:Type} {α4:Type} {p:α1→α2→α3→α4→Prop} {s:α1→α2→α3→α4→St} (hk:look acc k=some (Nd4 p s)) (h:∀ z1 z2 z3 z4,p z1 z2 z3 z4→AWl P w0 l.toArray Q (l.drop N) (s z1 z2 z3 z4)):Dg P l acc [] (fun st=>∀ σ',st k σ'→AWl P w0 l.toArray Q (l.drop N) σ'):=
 Dg.fin hk fun σ h'=>by obtain⟨z1,z2,z3,z4,hp,rfl⟩:=h';exact h z1 z2 z3 z4 hp
theorem AW.dg0 {w0:Base} {Q:Exit→St→Prop} {σ:St} {id:Nat} (N k:Nat) (ms:List (List Nat)) (es:List (Nat×Nat×Nat)) (hm:P.follows .mixedOrders=true) (hB:planC l.toArray N=true) (hP:dagB l N ms es k=true)
 (h:Dg P l [(0,Nd0 True σ)] es (fun st=>∀ σ',st k σ'→AWl P w0 l.toArray Q (l.drop N) σ')):AW P w0 (.region id l.toArray true) Q σ:=by
 obtain⟨st,h1,h2,h3⟩:=h.pf
 exact AW.dagP N k ms es st hm hB hP h2 (by rw [h1 0 _ U];exact⟨trivial,U⟩) h3
end
end Go.Q
namespace Go.Q
open Go.RowKit
section
variable {P:Program} {ops:Array Oper} {o:Oper} {σ:St} {τ:Type}
def readR (σ:St):E→Option T
 | .t (.v x)=>some (.v x)
 | .vw id x=>match look σ.res id with|some _=>some x|none=>none
 | .rf id=>match look σ.res id with|some (.row k rows)=>some (.sl k rows)|_=>none
 | .pp id off=>match look σ.res id with|some (.cur g)=>some (.v (.pointer (some ⟨g.1,off,none⟩)))|_=>none
 | _=>none
theorem readR_ok {I:Ip} {w0:Base} {w:World} {a:Act} (hr:RelI I w0 σ a w) {e:E} {t:T} {c:Value} (h:readR σ e=some t) (hv:VE I w e c):∃ G,C false w t c G∧∀ b∈G,w0.own b∧Thaw w b:=by
 match e,h with
 | .t (.v x),h=>
  cases h
  obtain⟨G,h1,_⟩:=hv
  have h1':=h1
  simp only [C] at h1'
  obtain⟨_,rfl,_⟩:=h1'
  exact⟨[],h1,by simp⟩
 | .vw id x,h=>
  rw [readR] at h
  split at h
  · rename_i r h0
    cases h
    obtain⟨G,h1,h2⟩:=hv
    exact⟨G,h1,fun b hb=>(hr.own id _ h0).2 b (h2 b hb)⟩
  cases h
 | .rf id,h=>
  rw [readR] at h
  split at h
  · rename_i k rows h0
    cases h
    have hc:c=I.hd id:=hv.1
    rw [hc];exact⟨_,C.read (show C true w (.sl k rows) _ _ from hr.res id _ h0),(hr.own id _ h0).2⟩
  cases h
 | .t (.sl _ _),h=>cases h
 | .t (.ad _),h=>cases h
 | .t (.fn _ _ _),h=>cases h
 | .pp id off,h=>
  rw [readR] at h
  split at h
  · rename_i g h0
    cases h
    have h1:=(hr.res id _ h0).2.1
    have h2:c=.pointer (some ⟨I.B id,off,none⟩):=hv
    rw [h1] at h2
    exact⟨[],by unfold C;exact⟨h2,rfl,rfl⟩,by simp⟩
  cases h
 | .pr _ _ _ _,h=>cases h
 | .sb _ _ _ _,h=>cases h
 | .tl _ _ _,h=>cases h
 | .pf _ _ _,h=>cases h
 | .no,h=>cases h
theorem readsR_ok {I:Ip} {w0:Base} {w:World} {a:Act} (hr:RelI I w0 σ a w):∀ {l:List E} {ts:List T} {cs:List Value},mapO (readR σ) l=some ts→VEs I w l cs→ts.length=l.length∧∃ G,Cs false w ts cs G∧∀ b∈G,w0.own b∧Thaw w b
 | [],ts,cs,h,hv=>by cases h;exact⟨rfl,[],by unfold Cs;exact⟨hv,rfl⟩,fun _ hb=>by cases hb⟩
 | e::r,ts,cs,h,hv=>by
  obtain⟨c,cr,rfl,h1,h2⟩:=hv
  rw [mapO] at h
  split at h
  · rename_i t e1
    split at h
    · rename_i ts' e2
      cases h
      obtain⟨G1,g1,k1⟩:=readR_ok hr e1 h1
      obtain⟨hl,G2,g2,k2⟩:=readsR_ok hr e2 h2
      exact⟨by simp [hl],G1++G2,by unfold Cs;exact⟨c,cr,G1,G2,rfl,g1,g2,rfl⟩,fun b hb=>(List.mem_append.1 hb).elim (k1 b) (k2 b)⟩
    cases h
  cases h
def ResR (P:Program) (fn:Func) (out:V) (σ:St):Prop:=∀ I w0 a w,RelI I w0 σ a w→∃ v F,(results fn a.tmps).run P w=.ok v w∧Vr false w out v F∧∀ b∈F,w0.own b∧Thaw w b
theorem ResR.one {fn:Func} {r:ResultVar} {x:A} {ts:List T} {y:V0} (hl:fn.results=#[r]) (h:RVs P σ [r] [x]) (ha:mapO (readR σ) (cellsA x)=some ts) (hy:unflT [x] ts=[y]):ResR P fn (.a y) σ:=by
 intro I w0 a w hr
 obtain⟨vs,h1,h2⟩:=run_results (fn:=fn) (l:=[r]) hr (by rw [hl]) h
 obtain⟨cs,g1,g2⟩:=VAs_cells h2
 simp only [List.flatMap_cons,List.flatMap_nil,List.append_nil] at g1 g2
 obtain⟨kl,G,k2,k4⟩:=readsR_ok hr ha g1
 have hV:=g2 false ts G k2 kl
 rw [hy] at hV
 obtain⟨v,vr,G1,G2,rfl,m1,⟨rfl,rfl⟩,m2⟩:=hV
 rw [List.append_nil] at m2
 subst m2
 exact⟨v,_,h1,m1,k4⟩
theorem ResR.many {fn:Func} {l:List ResultVar} {xs:List A} {ts:List T} {ys:List V0} (hl:fn.results=l.toArray) (h:RVs P σ l xs) (ha:mapO (readR σ) (xs.flatMap cellsA)=some ts) (hy:unflT xs ts=ys) (h2:(2≤ys.length)=True):ResR P fn (.tup ys) σ:=by
 intro I w0 a w hr
 obtain⟨vs,h1,h2'⟩:=run_results (fn:=fn) hr hl h
 obtain⟨cs,g1,g2⟩:=VAs_cells h2'
 obtain⟨kl,G,k2,k4⟩:=readsR_ok hr ha g1
 have hV:=g2 false ts G k2 kl
 rw [hy] at hV
 have hlen:∀ (ys:List V0) (vs:List Value) (G:List Nat),V0s false w ys vs G→vs.length=ys.length:=by
  intro ys
  induction ys with
  | nil=>rintro vs G ⟨rfl,_⟩;rfl
  | cons y ys ih=>rintro vs G ⟨v,vr,G1,G2,rfl,_,m,_⟩;simp [ih vr G2 m]
 have hl2:=hlen ys vs G hV
 have h3:2≤vs.length:=by rw [hl2,h2];trivial
 match vs,h3,h1,hV with
 | v1::v2::vr,_,h1,hV=>exact⟨_,G,h1,⟨_,rfl,hV⟩,k4⟩
def DRPost (w:World) (g:Nat×Value) (p:τ→Prop) (out:τ→V) (e:Ending) (w':World):Prop:=
 ∃ x v F,e=.returned v∧p x∧Vr false w' (out x) v F∧(∀ b∈F,w.heap.size≤b∧Thaw w' b)∧Chg w w' [g.1]∧CuOk w' g
def FrD (P:Program) (f:FuncId) (ins:List V0) (p:τ→Prop) (out:τ→V):Prop:=
 Callee P f∧∀ w g vs F,Good w [g.1]→CuOk w g→V0s false w ins vs F→g.1∉F→Calls P f (List.toArray (.pointer (some ⟨g.1,0,none⟩)::vs)) w (DRPost w g p out)
def DRRes (P:Program) (fn:Func) (g:Nat×Value) (p:τ→Prop) (out:τ→V) (σ:St):Prop:=∃ x,p x∧look σ.res 888888=some (.cur g)∧ResR P fn (out x) ⟨σ.n,σ.slots,delR σ.res 888888⟩
theorem DRRes.mk {fn:Func} {g:Nat×Value} {p:τ→Prop} {out:τ→V} {σ:St} {x:τ} (hc:look σ.res 888888=some (.cur g)) (h:ResR P fn (out x) ⟨σ.n,σ.slots,delR σ.res 888888⟩) (hp:p x):DRRes P fn g p out σ:=⟨x,hp,hc,h⟩
theorem ERRes.mk {fn:Func} {p:τ→Prop} {out:τ→V} {σ:St} {x:τ} (h:ResR P fn (out x) σ) (hp:p x):∃ x,p x∧ResR P fn (out x) σ:=⟨x,hp,h⟩
def RetDR (P:Program) (fn:Func) (g:Nat×Value) (p:τ→Prop) (out:τ→V):Exit→St→Prop
 | .normal,σ=>DRRes P fn g p out σ
 | .ret,σ=>DRRes P fn g p out σ
 | _,_=>False
def RetER (P:Program) (fn:Func) (p:τ→Prop) (out:τ→V):Exit→St→Prop
 | .normal,σ=>∃ x,p x∧ResR P fn (out x) σ
 | .ret,σ=>∃ x,p x∧ResR P fn (out x) σ
 | _,_=>False
theorem FrE.walk {n:Nat} {f:FuncId} {fn:Func} {c:Code} {ins:List V0} {p:τ→Prop} {out:τ→V} (hf:P.funcs[f]?=some fn) (hb:fn.body=some c) (hname:(fn.name == "runtime.NumGoroutine")=false) (hnt:fn.ntmps=n) (hn:Nat.ble ins.length n=true)
 (h:∀ w0,AW P w0 c (RetER P fn p out) (st0 n ins)):FrE P f ins (fun o=>∃ x,p x∧o=out x):=by
 subst hnt
 refine⟨⟨fn,hf,hname,by rw [hb];rfl⟩,fun w vs F hG hv=>?_⟩
 refine calls_of_wp hf hb (Code.wp_mono ?_ (h ⟨w,[],hG⟩ _ _ (rel0 hG hv hn)))
 rintro e a' w' ⟨σ,h1,I,hI⟩
 have key:(∃ x,p x∧ResR P fn (out x) σ)→a'.defers=[]∧∃ v,(results fn a'.tmps).run P w'=.ok v w'∧∃ o,(∃ x,p x∧o=out x)∧FrPost w o (.returned v) w':=fun ⟨x,hp,h1⟩=>by
  obtain⟨v,F,g1,g2,g3⟩:=h1 I ⟨w,[],hG⟩ a' w' hI
  exact⟨hI.defers,v,g1,_,⟨x,hp,rfl⟩,v,F,rfl,g2,fun b hb=>(g3 b hb).1.resolve_right (by simp),hI.ext.toExt⟩
 cases e with
 | normal=>exact key h1
 | ret=>exact key h1
 | exit id=>exact h1.elim
 | goto l=>exact h1.elim
 | panic c=>exact h1.elim
 | outgrown=>exact h1.elim
def XPost (w:World) (out:V) (e:Ending) (w':World):Prop:=∃ v F,e=.returned v∧Vr false w' out v F∧(∀ b∈F,w.heap.size≤b∧Thaw w' b)∧Ext w w'
def FrX (P:Program) (f:FuncId) (ins:List V0) (p:τ→Prop) (out:τ→V):Prop:=
 Callee P f∧∀ w vs F,Good w []→V0s false w ins vs F→Calls P f (List.toArray vs) w fun e w'=>∃ x,p x∧XPost w (out x) e w'
theorem FrX.fr {f:FuncId} {ins:List V0} {p:τ→Prop} {out:τ→V} (h:FrX P f ins p out):FrE P f ins (fun o=>∃ x,p x∧o=out x):=
 ⟨h.1,fun w vs F hg hv=>(h.2 w vs F hg hv).mono fun _ _ ⟨x,hx,v,G,h1,h2,h4,h5⟩=>⟨_,⟨x,hx,rfl⟩,v,G,h1,h2,fun b hb=>(h4 b hb).1,h5⟩⟩
theorem FrX.walk {n:Nat} {f:FuncId} {fn:Func} {c:Code} {ins:List V0} {p:τ→Prop} {out:τ→V} (hf:P.funcs[f]?=some fn) (hb:fn.body=some c) (hname:(fn.name == "runtime.NumGoroutine")=false) (hnt:fn.ntmps=n) (hn:Nat.ble ins.length n=true)
 (h:∀ w0,AW P w0 c (RetER P fn p out) (st0 n ins)):FrX P f ins p out:=by
 subst hnt
 refine⟨⟨fn,hf,hname,by rw [hb];rfl⟩,fun w vs F hG hv=>?_⟩
 refine calls_of_wp hf hb (Code.wp_mono ?_ (h ⟨w,[],hG⟩ _ _ (rel0 hG hv hn)))
 rintro e a' w' ⟨σ,h1,I,hI⟩
 have key:(∃ x,p x∧ResR P fn (out x) σ)→a'.defers=[]∧∃ v,(results fn a'.tmps).run P w'=.ok v w'∧∃ x,p x∧XPost w (out x) (.returned v) w':=fun ⟨x,hp,h1⟩=>by
  obtain⟨v,F,g1,g2,g3⟩:=h1 I ⟨w,[],hG⟩ a' w' hI
  exact⟨hI.defers,v,g1,x,hp,v,F,rfl,g2,fun b hb=>⟨(g3 b hb).1.resolve_right (by simp),(g3 b hb).2⟩,hI.ext.toExt⟩
 cases e with
 | normal=>exact key h1
 | ret=>exact key h1
 | exit id=>exact h1.elim
 | goto l=>exact h1.elim
 | panic c=>exact h1.elim
 | outgrown=>exact h1.elim
theorem FrD.walk {n:Nat} {f:FuncId} {fn:Func} {c:Code} {ins:List V0} {p:τ→Prop} {out:τ→V} {σ':Nat×Value→St} (hf:P.funcs[f]?=some fn) (hb:fn.body=some c) (hname:(fn.name == "runtime.NumGoroutine")=false) (hnt:fn.ntmps=n) (hn:Nat.ble (ins.length+1) n=true)
 (hi:∀ g,initC 1 (ins.map fun x=>(false,x)) ⟨n,[(0,(true,.a (.one (.pp 888888 0))))],[(888888,.cur g)]⟩=some (σ' g)) (h:∀ w0 g,AW P w0 c (RetDR P fn g p out) (σ' g)):FrD P f ins p out:=by
 subst hnt
 refine⟨⟨fn,hf,hname,by rw [hb];rfl⟩,fun w g vs F hG hC hv hgF=>?_⟩
 have hv':=hv.c (FF:=[g.1]) fun b hb hm=>hgF (by simp only [List.mem_singleton] at hm;rwa [←hm])
 have hl:vs.length=ins.length:=by simpa using hv'.len
 have hn':ins.length+1≤fn.ntmps:=Nat.le_of_ble_eq_true hn
 have hglt:g.1<w.heap.size:=hC.1.lt
 let a0:Act:=⟨(List.toArray (.pointer (some ⟨g.1,0,none⟩)::vs))++Array.replicate (fn.ntmps-(List.toArray (Value.pointer (some ⟨g.1,0,none⟩)::vs)).size) undef,[]⟩
 let I0:Ip:=⟨fun b=>b<w.heap.size∧b≠g.1,fun i=>if i=888888 then [g.1] else [],fun _=>undef,fun i=>if i=888888 then g.1 else 0⟩
 have hget:∀ (j:Nat) v,(Value.pointer (some ⟨g.1,0,none⟩)::vs)[j]?=some v→a0.tmps.getD j undef=v:=fun j v hj=>by
  have hjl:=(List.getElem?_eq_some_iff.1 hj).1
  simp only [a0]
  rw [Array.getD_eq_getD_getElem?,Array.getElem?_append_left (by simpa using hjl)]
  have:(List.toArray (Value.pointer (some ⟨g.1,0,none⟩)::vs))[j]?=some v:=by simpa using hj
  rw [this];rfl
 have hr0:RelI I0 ⟨w,[g.1],hG⟩ ⟨fn.ntmps,[(0,(true,.a (.one (.pp 888888 0))))],[(888888,.cur g)]⟩ a0 w:=by
  have key:∀ i r,look [(888888,R.cur g)] i=some r→i=888888∧r=.cur g:=fun i r hi=>by
   rw [look_cons] at hi
   split at hi
   · rename_i e;cases hi;exact⟨e.symm,rfl⟩
   cases hi
  refine⟨Chg.refl w [g.1],rfl,by simp [a0,hl];omega,fun i z hi=>?_,fun id r hi=>?_,fun b hb=>hb.1,fun id b hb=>?_,fun id r hi=>?_,fun i j hne b hb hb'=>?_⟩
  · rw [look_cons] at hi
    split at hi
    · rename_i e
      subst e;cases hi;exact hget 0 _ rfl
    cases hi
  · obtain⟨rfl,rfl⟩:=key id r hi
    exact⟨rfl,rfl,hC.1⟩
  · simp only [I0] at hb ⊢
    split at hb
    · simp only [List.mem_singleton] at hb;subst hb;exact⟨hglt,fun h=>h.2 rfl⟩
    cases hb
  · obtain⟨rfl,rfl⟩:=key id r hi
    refine⟨by simp [I0],fun b hb=>?_⟩
    have:b=g.1:=by simpa [I0] using hb
    subst this
    exact⟨.inr (by simp),hC.2⟩
  simp only [I0] at hb hb'
  split at hb
  · split at hb'
    · omega
    cases hb'
  cases hb
 obtain⟨I1,r1⟩:=initC_ok (FF:=[g.1]) (fun _ _ _=>trivial) (hi g) hr0 (fun b h1 h2=>⟨h1,fun e=>h2 (by simp [e])⟩) hv' (by simp) (fun b hb=>by cases hb) fun j v hj=>hget (1+j) v (by rw [Nat.add_comm];simpa using hj)
 refine calls_of_wp hf hb (Code.wp_mono ?_ (h ⟨w,[g.1],hG⟩ g _ _ ⟨I1,r1⟩))
 rintro e a' w' ⟨σ1,h1,I,hI⟩
 have key:DRRes P fn g p out σ1→a'.defers=[]∧∃ v,(results fn a'.tmps).run P w'=.ok v w'∧DRPost w g p out (.returned v) w':=fun ⟨x,hp,hcur,h1⟩=>by
  obtain⟨hF,hB,hcu⟩:I.F 888888=[g.1]∧I.B 888888=g.1∧CuB I.Z w' g:=hI.res _ _ hcur
  have hsz:w.heap.size≤w'.heap.size:=hI.ext.size
  let W:World:={ w' with heap:=w'.heap.extract 0 w.heap.size }
  have hW:W.heap.size=w.heap.size:=by simp [W];omega
  have hWk:∀ k,k<w.heap.size→W.heap[k]?=w'.heap[k]?:=fun k hk=>trunc_get _ _ _ hsz hk
  have hGW:Good W []:=hG.step (Nat.le_of_eq hW.symm) (fun k hk hn=>(hWk k hk).trans (hI.ext.block k hk hn)) fun b hb=>by cases hb
  have hI2:RelI I ⟨W,[],hGW⟩ ⟨σ1.n,σ1.slots,delR σ1.res 888888⟩ a' w':=by
   refine⟨⟨rfl,rfl,rfl,by rw [hW];exact hsz,fun k hk _=>?_⟩,hI.defers,hI.size,hI.slots,fun id r hr=>hI.res id r (look_delR _ _ _ _ hr).2,hI.old,hI.lt,fun id r hr=>?_,hI.apart⟩
   · rw [hW] at hk;exact (hWk k hk).symm
   obtain⟨e1,e2⟩:=look_delR _ _ _ _ hr
   refine⟨(hI.own id r e2).1,fun b hb=>⟨?_,((hI.own id r e2).2 b hb).2⟩⟩
   rcases ((hI.own id r e2).2 b hb).1 with h|h
   · left;show W.heap.size≤b;rw [hW];exact h
   exfalso
   have:b=g.1:=by simpa using h
   subst this;exact hI.apart id 888888 e1 _ hb (by rw [hF];simp)
  obtain⟨v,F,g1,g2,g3⟩:=h1 I ⟨W,[],hGW⟩ a' w' hI2
  refine⟨hI.defers,v,g1,x,v,F,rfl,hp,g2,fun b hb=>⟨?_,(g3 b hb).2⟩,hI.ext,?_,?_⟩
  · have:=(g3 b hb).1.resolve_right (by simp)
    rwa [show (Base.W ⟨W,[],hGW⟩).heap.size=w.heap.size from hW] at this
  · refine hcu.congr rfl fun b _ hz=>⟨⟨hI.old b hz,fun e=>?_⟩,rfl⟩
    subst e;exact (hI.lt 888888 _ (by rw [hF];simp)).2 hz
  exact ((hI.own 888888 _ hcur).2 g.1 (by rw [hF];simp)).2
 cases e with
 | normal=>exact key h1
 | ret=>exact key h1
 | exit id=>exact h1.elim
 | goto l=>exact h1.elim
 | panic c=>exact h1.elim
 | outgrown=>exact h1.elim
def ddup:List Nat→List Nat
 | []=>[]
 | x::r=>if x∈r then ddup r else x::ddup r
theorem mem_ddup {x:Nat}:∀ {l:List Nat},x∈ddup l↔x∈l
 | []=>Iff.rfl
 | y::r=>by
  rw [ddup]
  split
  · rename_i h
    rw [mem_ddup,List.mem_cons]
    exact⟨.inr,fun h'=>h'.elim (fun e=>e▸h) id⟩
  rw [List.mem_cons,List.mem_cons,mem_ddup]
theorem nodup_ddup:∀ l:List Nat,(ddup l).Nodup
 | []=>List.nodup_nil
 | y::r=>by
  rw [ddup]
  split
  · exact nodup_ddup r
  rename_i h
  exact List.nodup_cons.2 ⟨fun hm=>h (mem_ddup.1 hm),nodup_ddup r⟩
def vwE (n:Nat):T→E
 | .v x=>.t (.v x)
 | t=>.vw n t
def vwA (n:Nat):V0→A
 | .one t=>.one (vwE n t)
 | .agg l=>.agg (l.map (vwE n))
def vwV (n:Nat):V→S
 | .a x=>.a (vwA n x)
 | .tup l=>.tup (l.map (vwA n))
section
variable {I:Ip} {w:World} {n:Nat}
theorem vwE_ok {t:T} {c:Value} {G:List Nat} (h:C false w t c G) (hG:∀ b∈G,b∈I.F n):VE I w (vwE n t) c:=by
 cases t with
 | v x=>
  have h':=h
  simp only [C] at h'
  obtain⟨_,rfl,_⟩:=h'
  exact⟨[],h,by simp⟩
 | sl k rows=>exact⟨G,h,hG⟩
 | ad cs=>exact⟨G,h,hG⟩
 | fn f fs cs=>exact⟨G,h,hG⟩
theorem vwEs_ok:∀ {ts:List T} {cs:List Value} {G:List Nat},Cs false w ts cs G→(∀ b∈G,b∈I.F n)→VEs I w (ts.map (vwE n)) cs
 | [],cs,G,h,_=>by simp only [Cs] at h;exact h.1
 | t::ts,cs,G,h,hG=>by
  simp only [Cs] at h
  obtain⟨c,cr,G1,G2,rfl,h1,h2,rfl⟩:=h
  exact⟨c,cr,rfl,vwE_ok h1 fun b hb=>hG b (by simp [hb]),vwEs_ok h2 fun b hb=>hG b (by simp [hb])⟩
theorem vwA_ok {x:V0} {v:Value} {G:List Nat} (h:V0r false w x v G) (hG:∀ b∈G,b∈I.F n):VA I w (vwA n x) v:=by
 cases x with
 | one t=>exact vwE_ok h hG
 | agg l=>obtain⟨cs,e,h⟩:=h;exact⟨cs,e,vwEs_ok h hG⟩
theorem vwAs_ok:∀ {xs:List V0} {vs:List Value} {G:List Nat},V0s false w xs vs G→(∀ b∈G,b∈I.F n)→VAs I w (xs.map (vwA n)) vs
 | [],vs,G,h,_=>h.1
 | x::xs,vs,G,⟨v,vr,G1,G2,e,h1,h2,e2⟩,hG=>by
  subst e2
  exact⟨v,vr,e,vwA_ok h1 fun b hb=>hG b (by simp [hb]),vwAs_ok h2 fun b hb=>hG b (by simp [hb])⟩
theorem vwV_ok {x:V} {v:Value} {G:List Nat} (h:Vr false w x v G) (hG:∀ b∈G,b∈I.F n):VS I w (true,vwV n x) v:=by
 cases x with
 | a x=>exact vwA_ok h hG
 | tup l=>obtain⟨vs,e,h⟩:=h;exact⟨vs,e,vwAs_ok h hG⟩
end
theorem R_calldr {f:FuncId} {x:Operand} {l:List Operand} {tys:Array TypeId} {ins:List V0} {p:τ→Prop} {out:τ→V} {g:Nat×Value} {u:Nat} (n:Nat) (h:FrD P f ins p out) (ho:o.op=.call { callee:=.value (.func f),args:=(x::l).toArray,argTypes:=tys }) (hg:o.guard=none) (hd:o.dst.all (fun d=>Nat.blt d σ.n)=true)
 (hx:Get σ true x (.one (.pp u 0))) (hu:look σ.res u=some (.cur g)) (hn:nvB u σ.slots σ.res=true) (ha:ArgsD σ u true l ins) (hf:σ.has n=false):OpE P ops o σ fun σ'=>∃ z,p z∧σ'=(σ.add n .opq).put o.dst (true,vwV n (out z)):=by
 rintro w0 a w ⟨I,hr⟩ K Q hK
 simp only [Region.wanted,hg,if_true]
 obtain⟨hF,hB,hcu⟩:I.F u=[g.1]∧I.B u=g.1∧CuB I.Z w g:=hr.res _ _ hu
 obtain⟨F,hV,hap⟩:=ha.ok hr hu
 have hv:a.eval x=.pointer (some ⟨g.1,0,none⟩):=by
  have:a.eval x=.pointer (some ⟨I.B u,0,none⟩):=hx.va hr rfl
  rw [this,hB]
 have hZg:∀ b,I.Z b→b≠g.1:=fun b hz e=>by subst e;exact (hr.lt u _ (by rw [hF];simp)).2 hz
 have hgo:=(hr.own u _ hu).2 g.1 (by rw [hF];simp)
 have hok:CuOk w g:=⟨hcu.congr rfl fun b _ hz=>⟨⟨hr.old b hz,hZg b hz⟩,rfl⟩,hgo.2⟩
 have hgood:Good w [g.1]:=hr.goodF fun b hb=>by simp only [List.mem_singleton] at hb;subst hb;exact hgo.1
 unfold Oper.wp
 rw [run_enter h.1 ho,List.map_cons,hv]
 refine (h.2 w g _ F hgood hok hV (fun hm=>hap g.1 hm (by rw [hF];simp))).mono fun e w' hR=>?_
 obtain⟨z,v,G,rfl,hp,h1,h3,h4,h5⟩:=hR
 have hcu':CuB I.Z w' g:=by
  obtain⟨i,m,t,G0,bs,k1,k2,k3,k4,k5⟩:=hcu
  obtain⟨i',m',t',G0',bs',j1,j2,j3,j4,j5⟩:=h5.1
  exact⟨i',m',t',G0,bs,j1,k2.congr fun b hb=>h4.block b (k2.lt b hb) (by simpa using hZg b (k3 b hb)),k3,j4,k5⟩
 obtain⟨I',hr',hZ',hF'⟩:=hr.moved hu hn h4 h5 hZg hcu'
 have hr2:=hr'.addF (id:=n) hf (G:=ddup G) (u:=undef) (b:=0) (r:=.opq) (nodup_ddup G) (fun b hb=>by
  have hb:=mem_ddup.1 hb
  exact⟨.inl (Nat.le_trans hr.ext.size (h3 b hb).1),Vr.lt h1 b hb,(h3 b hb).2,fun hz=>by rw [hZ'] at hz;have:=hr.old b hz;have:=(h3 b hb).1;omega,fun i hi=>by rw [hF'] at hi;have:=(hr.lt i b hi).1;have:=(h3 b hb).1;omega⟩) trivial
 exact hK _ _ _ ⟨z,hp,rfl⟩ ⟨_,hr2.put hd (vwV_ok h1 fun b hb=>by simp only [Ip.set,if_true];exact mem_ddup.2 hb)⟩
theorem R_calleX {f:FuncId} {l:List Operand} {tys:Array TypeId} {ins:List V0} {p:τ→Prop} {out:τ→V} (h:FrE P f ins (fun o=>∃ x,p x∧o=out x)) (ho:o.op=.call { callee:=.value (.func f),args:=l.toArray,argTypes:=tys }) (hg:o.guard=none) (hd:o.dst.all (fun d=>Nat.blt d σ.n)=true)
 (ha:Args σ true l ins):OpE P ops o σ fun σ'=>∃ z,p z∧σ'=σ.put o.dst (true,inS (out z)):=fun w0 a w hr K Q hK=>
 R_calle h ho hg hd ha w0 a w hr K Q fun σ' a' w' ⟨_,⟨z,hz,e1⟩,e2⟩ hr'=>hK σ' a' w' ⟨z,hz,by rw [e2,e1]⟩ hr'
end
end Go.Q
