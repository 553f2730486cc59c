import Derived.Test.YtdhojcaoljhbiaaGreatDoorAbsRxk
import Derived.Test.YtdhojcaoljhbiaaGreatDoorAbs13xk
import Derived.WideLaws
import Derived.Test.YtdhojcaoljhbiaaGreatDoorAbsJxk
set_option linter.unusedVariables false
set_option linter.unusedSimpArgs false
namespace Go.Q
open Go.RowKit
theorem Ms_of {I:Ip} {w:World} {b:Nat}:∀ (xs:List T) (vs:List Value) (off:Nat),VEs I w (xs.map .t) vs→(∀ j v,vs[j]?=some v→w.cell? ⟨b,off+j,none⟩=some v)→∃ G,Ms false w b off xs G∧∀ q∈G,I.Z q
 | [],_,_,_,_=>⟨[],by simp only [Ms],by simp⟩
 | x::xs,vs,off,⟨c,cr,e,⟨G1,k1,k2⟩,h3⟩,hc=>by
  subst e
  obtain⟨G2,g1,g2⟩:=Ms_of xs cr (off+1) h3 fun j v hj=>by
   have:=hc (j+1) v (by simpa using hj)
   rwa [show off+(j+1)=off+1+j by omega] at this
  refine⟨G1++G2,?_,fun q hq=>?_⟩
  · simp only [Ms]
    exact⟨c,G1,G2,hc 0 c rfl,k1,g1,rfl⟩
  rcases List.mem_append.1 hq with hq|hq
  · exact k2 q hq
  exact g2 q hq
theorem Le.frz (id d:Nat) {n:Nat} {sl:List (Nat×(Bool×S))} {rs:List (Nat×R)} {xs:List T} {cs:List E} (h1:look rs id=some (.box cs)) (hcs:cs=xs.map .t) (h2:look sl d=some (true,.a (.one (.pp id 0)))) :
 Le ⟨n,sl,rs⟩ ⟨n,(d,(true,.a (.one (.t (.ad xs)))))::((⟨n,sl,rs⟩:St).chg id (.hdr none undef)).slots,((⟨n,sl,rs⟩:St).chg id (.hdr none undef)).res⟩:=by
 rintro w0 a w ⟨I,hr⟩
 subst hcs
 have hbox:=hr.res id _ h1
 obtain⟨hF,vs,e,hb,hvs⟩:=hbox
 have hpp:VS I w (true,.a (.one (.pp id 0))) (a.tmps.getD d undef):=hr.slots d _ h2
 have hpp:a.tmps.getD d undef=.pointer (some ⟨I.B id,0,none⟩):=hpp
 have hlt:I.B id<w.heap.size:=(Array.getElem?_eq_some_iff.1 hb).1
 have s1:=hr.chg h1 (Chg.refl w _) (G:=[]) (u:=undef) (r:=.hdr none undef) ⟨List.nodup_nil,by simp⟩ ⟨by simp [Ip.set],fun i h=>by cases h⟩
 have hno:∀ i,I.B id∉(I.set id [] undef (I.B id)).F i:=fun i hi=>by
  by_cases e:i=id
  · subst e;simp [Ip.set] at hi
  simp only [Ip.set,if_neg e] at hi
  exact hr.apart i id e _ hi (by rw [hF];simp)
 have s2:=s1.also (G:=[I.B id]) fun b hb'=>by
  rw [List.mem_singleton] at hb';subst hb'
  exact⟨hlt,hno⟩
 obtain⟨G,g1,g2⟩:=Ms_of (b:=I.B id) xs vs 0 hvs fun j v hj=>by
  rw [Nat.zero_add]
  simp [World.cell?,hb,hj]
 refine⟨_,⟨s2.ext,s2.defers,s2.size,fun i x hx=>?_,s2.res,s2.old,s2.lt,s2.own,s2.apart⟩⟩
 rw [look_cons] at hx
 by_cases ei:d=i
 · rw [if_pos ei] at hx
   cases hx
   subst ei
   refine⟨I.B id::G,?_,fun b hb'=>?_⟩
   · rw [hpp]
     simp only [C]
     exact⟨I.B id,0,G,rfl,rfl,hlt,g1⟩
   rcases List.mem_cons.1 hb' with rfl|hb'
   · exact .inr (by simp)
   exact .inl (g2 b hb')
 rw [if_neg ei] at hx
 exact s2.slots i x hx
end Go.Q
namespace Go.Q
open Go.RowKit
theorem Le.frzR (id d:Nat) {n k:Nat} {sl:List (Nat×(Bool×S))} {rs:List (Nat×R)} {rows:List (List T)} (h1:look rs id=some (.row k rows)) (h2:look sl d=some (true,.a (.one (.rf id)))) :
 Le ⟨n,sl,rs⟩ ⟨n,(d,(true,.a (.one (.t (.sl k rows)))))::((⟨n,sl,rs⟩:St).chg id (.hdr none undef)).slots,((⟨n,sl,rs⟩:St).chg id (.hdr none undef)).res⟩:=by
 rintro w0 a w ⟨I,hr⟩
 have hC:C true w (.sl k rows) (I.hd id) (I.F id):=hr.res id _ h1
 have hv:VS I w (true,.a (.one (.rf id))) (a.tmps.getD d undef):=hr.slots d _ h2
 obtain⟨hv,_⟩:VE I w (.rf id) (a.tmps.getD d undef):=hv
 have s1:=hr.chg h1 (Chg.refl w _) (G:=[]) (u:=undef) (r:=.hdr none undef) ⟨List.nodup_nil,by simp⟩ ⟨by simp [Ip.set],fun i h=>by cases h⟩
 have s2:=s1.also (G:=I.F id) fun b hb=>by
  refine⟨(hr.lt id b hb).1,fun i hi=>?_⟩
  by_cases e:i=id
  · subst e;simp [Ip.set] at hi
  simp only [Ip.set,if_neg e] at hi
  exact hr.apart i id e _ hi hb
 refine⟨_,⟨s2.ext,s2.defers,s2.size,fun i x hx=>?_,s2.res,s2.old,s2.lt,s2.own,s2.apart⟩⟩
 rw [look_cons] at hx
 by_cases ei:d=i
 · rw [if_pos ei] at hx
   cases hx
   subst ei
   exact⟨I.F id,by rw [hv];exact hC.read,fun b hb=>.inr hb⟩
 rw [if_neg ei] at hx
 exact s2.slots i x hx
theorem Le.frzRe (id d:Nat) {n k:Nat} {sl:List (Nat×(Bool×S))} {rs:List (Nat×R)} {rows:List (List T)} (rows':List (List T)) (h0:rows=rows') (h1:look rs id=some (.row k rows)) (h2:look sl d=some (true,.a (.one (.rf id)))) :
 Le ⟨n,sl,rs⟩ ⟨n,(d,(true,.a (.one (.t (.sl k rows')))))::((⟨n,sl,rs⟩:St).chg id (.hdr none undef)).slots,((⟨n,sl,rs⟩:St).chg id (.hdr none undef)).res⟩:=by
 subst h0;exact Le.frzR id d h1 h2
section
variable {P:Program} {ops:Array Oper} {o:Oper} {σ:St}
end
end Go.Q
namespace Go.Q
open Go.RowKit
section
variable {P:Program} {ops:Array Oper} {o:Oper} {σ:St} {q:Bool}
theorem guard_str {op:BinOp} {t:TypeId} {x y:Operand} {a b:ByteArray} (w:World):(eqGuard op t x y (.string a) (.string b)).run P w=.ok () w:=by
 unfold eqGuard;split<;>rfl
theorem str_eq (a b:ByteArray):(a.toList == b.toList)=decide (a=b):=by
 rw [Bool.eq_iff_iff,beq_iff_eq,decide_eq_true_eq]
 exact⟨fun h=>by
  rw [ByteArray.toList_eq,ByteArray.toList_eq] at h
  exact ByteArray.ext (Array.toList_inj.1 h),fun h=>by rw [h]⟩
theorem R_cat {t t':TypeId} {x y:Operand} {a b:ByteArray} (ho:o.op=.binOp .add t x y t') (hg:Grd ops o σ q) (hd:o.dst.all (fun d=>Nat.blt d σ.n)=true) (hx:Get σ q x (.one (.t (.v (.string a))))) (hy:Get σ q y (.one (.t (.v (.string b)))))
 (hb:q=true→a.size+b.size≤9223372036854775807):Op1 P ops o σ (σ.put o.dst (q,.a (.one (.t (.v (.string (a++b))))))):=
 D1 ho hg hd hx hy guard_str (h:=fun hq w=>by
  have:=hb hq
  simp only [binOp,Op.stringOp]
  rw [if_neg (show ¬ (((a.size+b.size:Nat):Int)>IntKind.i64.max) by rw [show IntKind.i64.max=9223372036854775807 from rfl];omega)]
  rfl)
theorem R_eqstr {t t':TypeId} {x y:Operand} {a b:ByteArray} (ho:o.op=.binOp .eql t x y t') (hg:Grd ops o σ q) (hd:o.dst.all (fun d=>Nat.blt d σ.n)=true) (hx:Get σ q x (.one (.t (.v (.string a))))) (hy:Get σ q y (.one (.t (.v (.string b))))) :
 Op1 P ops o σ (σ.put o.dst (q,.a (.one (.t (.v (.bool (decide (a=b)))))))):=
 D1 ho hg hd hx hy guard_str (h:=fun hq w=>by simp only [binOp,Op.stringOp,str_eq];rfl)
theorem R_nestr {t t':TypeId} {x y:Operand} {a b:ByteArray} (ho:o.op=.binOp .neq t x y t') (hg:Grd ops o σ q) (hd:o.dst.all (fun d=>Nat.blt d σ.n)=true) (hx:Get σ q x (.one (.t (.v (.string a))))) (hy:Get σ q y (.one (.t (.v (.string b))))) :
 Op1 P ops o σ (σ.put o.dst (q,.a (.one (.t (.v (.bool (!decide (a=b)))))))):=
 D1 ho hg hd hx hy guard_str (h:=fun hq w=>by simp only [binOp,Op.stringOp,str_eq];rfl)
theorem R_strIndex {t:TypeId} {x y:Operand} {s:ByteArray} {n:Int} {b:UInt8} (ho:o.op=.index t x y) (hg:Grd ops o σ q) (hd:o.dst.all (fun d=>Nat.blt d σ.n)=true) (hx:Get σ q x (.one (.t (.v (.string s))))) (hy:Get σ q y (.one (.t (.v (.int .i64 n)))))
 (hu:P.underlying t=some .string) (hi:q=true→0≤n∧s[n.toNat]?=some b):Op1 P ops o σ (σ.put o.dst (q,.a (.one (.t (.v (.int .u8 b.toNat)))))):=
 .val hg hd fun I w0 a w hr hq=>⟨_,by
  obtain⟨h0,h1⟩:=hi hq
  simp [execOp,ho,hx.int hr hq,hy.int hr hq,Instr.index,asIntOf,run_underlying hu,h0,h1],VS_v _⟩
theorem R_strSlice {t:TypeId} {x:Operand} {lo hi:Option Operand} {n m:Nat} {s:ByteArray} (ho:o.op=.slice t x lo hi none) (hg:Grd ops o σ q) (hd:o.dst.all (fun d=>Nat.blt d σ.n)=true) (hx:Get σ q x (.one (.t (.v (.string s)))))
 (hl:Bnd σ q lo 0 n) (hh:Bnd σ q hi s.size m) (hu:P.underlying t=some .string) (hb:q=true→n≤m∧m≤s.size):Op1 P ops o σ (σ.put o.dst (q,.a (.one (.t (.v (.string (s.extract n m))))))):=
 .val hg hd fun I w0 a w hr hq=>⟨_,by
  obtain⟨b1,b2⟩:=hb hq
  have b3:n≤s.size:=Nat.le_trans b1 b2
  have hs:=hx.int hr hq
  have hlo:=hl.val hr hq
  have hhi:=hh.val hr hq
  rcases hlo with ⟨e1,rfl⟩|e1<;>rcases hhi with ⟨e2,rfl⟩|e2<;>simp [execOp,ho,hs,e1,e2,Instr.sliceAt,Instr.slice,run_underlying hu,Instr.sliceBounds,Instr.sliceBound,asIntOf,b1,b2,b3],VS_v _⟩
end
end Go.Q
namespace Go.Q
open Go.RowKit
section
variable {P:Program} {ops:Array Oper} {o:Oper} {σ:St}
end
end Go.Q
namespace Go.Q
open Go.RowKit
end Go.Q
namespace Go.Q
open Go.RowKit
section
variable {P:Program} {ops:Array Oper} {o:Oper} {σ:St} {q:Bool}
theorem run_byteStr {w:World} {n:Int} {v:Value} {G:List Nat} (h:C false w (.sl 1 [[.v (.int .u8 n)]]) v G):(Conv.bytesToString v).run P w=.ok (.string ⟨#[UInt8.ofNat n.toNat]⟩) w:=by
 simp only [C] at h
 obtain⟨a,len,cap,rfl,e1,e2,e3,e4⟩:=h
 have e1:len=1:=by simpa using e1.symm
 subst e1
 rcases e4 with ⟨h0,_⟩|⟨b,off,G',rfl,_,hb,_,hR⟩
 · omega
 simp only [Rws,Ms,C] at hR
 obtain⟨_,_,_,⟨c,_,_,hc,⟨rfl,_⟩,_⟩,_⟩:=hR
 have hl:=run_loadCells_list (P:=P) w ⟨b,off,none⟩ [.int .u8 n] (fun j u hj=>by
  cases j with
  | zero=>cases hj;rw [Addr.add_lit];simpa using hc
  | succ j=>cases hj)
 simp only [List.length_singleton] at hl
 simp [Conv.bytesToString,hl]
 rfl
theorem R_byteStr {t t' e:TypeId} {x:Operand} {n:Int} (ho:o.op=.convert t t' x) (hg:Grd ops o σ q) (hd:o.dst.all (fun d=>Nat.blt d σ.n)=true) (hx:Get σ q x (.one (.t (.sl 1 [[.v (.int .u8 n)]]))))
 (hu:P.underlying t=some (.slice e)) (he:P.underlying e=some (.int .u8)) (hu':P.underlying t'=some .string):Op1 P ops o σ (σ.put o.dst (q,.a (.one (.t (.v (.string ⟨#[UInt8.ofNat n.toNat]⟩)))))):=
 .val hg hd fun I w0 a w hr hq=>by
  obtain⟨G,h1,_⟩:VE I w (.t (.sl 1 [[.v (.int .u8 n)]])) (a.eval x):=hx.va hr hq
  have hb:=run_byteStr (P:=P) h1
  have hs:=h1
  simp only [C] at hs
  obtain⟨ad,len,cap,e0,_⟩:=hs
  exact⟨_,by
   rw [e0] at hb
   simp [execOp,ho,e0,Go.convert,run_underlying hu,run_underlying hu',run_underlying he,hb],VS_v _⟩
end
end Go.Q
namespace Go.Q
open Go.RowKit
section
variable {P:Program} {ops:Array Oper} {o:Oper} {σ:St} {q:Bool}
theorem R_nenil0 {t t':TypeId} {x:Operand} (ho:o.op=.binOp .neq t x (.const .nilIface) t') (hg:Grd ops o σ q) (hd:o.dst.all (fun d=>Nat.blt d σ.n)=true) (hx:Get σ q x (.one (.t (.v .nilIface)))) (_:Get σ q (.const .nilIface) (.one (.t (.v .nilIface))))
 (hu:P.underlying t=some (.interface (P.methodsAt t))):Op1 P ops o σ (σ.put o.dst (q,.a (.one (.t (.v (.bool false)))))):=
 D1 ho hg hd hx (.const rfl) (fun w=>by simp [eqGuard]) (h:=fun hq w=>by simp [binOp,run_equal_nil_nil w t hu])
theorem R_nenil1 {t t' T:TypeId} {x:Operand} {p:Value} (ho:o.op=.binOp .neq t x (.const .nilIface) t') (hg:Grd ops o σ q) (hd:o.dst.all (fun d=>Nat.blt d σ.n)=true) (hx:Get σ q x (.one (.t (.v (.iface T p))))) (_:Get σ q (.const .nilIface) (.one (.t (.v .nilIface))))
 (hu:P.underlying t=some (.interface (P.methodsAt t))):Op1 P ops o σ (σ.put o.dst (q,.a (.one (.t (.v (.bool true)))))):=
 D1 ho hg hd hx (.const rfl) (fun w=>by simp [eqGuard]) (h:=fun hq w=>by simp [binOp,run_equal_held_nil w t T p hu])
theorem wrapI {n:Int} (h:-9223372036854775808≤n∧n≤9223372036854775807):IntKind.i64.wrap n=n:=wrap_in h
def FrE (P:Program) (f:FuncId) (ins:List V0) (Out:V→Prop):Prop:=Callee P f∧∀ w vs F,Good w []→V0s false w ins vs F→Calls P f (List.toArray vs) w fun e w'=>∃ out,Out out∧FrPost w out e w'
theorem R_calle {f:FuncId} {l:List Operand} {tys:Array TypeId} {ins:List V0} {Out:V→Prop} (h:FrE P f ins Out) (ho:o.op=.call { callee:=.value (.func f),args:=l.toArray,argTypes:=tys }) (hg:o.guard=none) (hd:o.dst.all (fun d=>Nat.blt d σ.n)=true)
 (ha:Args σ true l ins):OpE P ops o σ fun σ'=>∃ out,Out out∧σ'=σ.put o.dst (true,inS out):=by
 rintro w0 a w ⟨I,hr⟩ K Q hK
 simp only [Region.wanted,hg,if_true]
 obtain⟨F,hF⟩:=ha.ok hr rfl
 unfold Oper.wp
 rw [run_enter h.1 ho]
 refine (h.2 w _ F hr.good hF).mono fun e w' hR=>?_
 obtain⟨out,hout,v,G,rfl,h1,h3,h4⟩:=hR
 have hr':=(hr.later h4).also (G:=G) fun b hb=>⟨Vr.lt h1 b hb,fun i hi=>by have:=(hr.lt i b hi).1;have:=h3 b hb;omega⟩
 exact hK _ _ _ ⟨out,hout,rfl⟩ ⟨_,hr'.put hd (VS_also h1 fun b hb=>.inr hb)⟩
end
end Go.Q
namespace Go.Q
open Go.RowKit
section
variable {P:Program} {ops:Array Oper} {o:Oper} {σ:St} {q:Bool}
theorem R_max3 {x y z:Operand} {tys:Array TypeId} {n m r:Int} (ho:o.op=.call { callee:=.builtin .max,args:=#[x,y,z],argTypes:=tys }) (hg:Grd ops o σ q) (hd:o.dst.all (fun d=>Nat.blt d σ.n)=true)
 (hx:Get σ q x (.one (.t (.v (.int .i64 n))))) (hy:Get σ q y (.one (.t (.v (.int .i64 m))))) (hz:Get σ q z (.one (.t (.v (.int .i64 r))))):Op1 P ops o σ (σ.put o.dst (q,.a (.one (.t (.v (.int .i64 (max (max n m) r))))))):=
 .val hg hd fun I w0 a w hr hq=>⟨.int .i64 (max (max n m) r),by
  have e:(if m>n then m else n)=max n m:=by split<;>omega
  have e2:(if r>max n m then r else max n m)=max (max n m) r:=by split<;>omega
  simp [execOp,ho,resolve,invoke,builtin,hx.int hr hq,hy.int hr hq,hz.int hr hq,Builtin.max_,Builtin.max2,e,e2],VS_v _⟩
end
end Go.Q
namespace Go.Q
open Go.RowKit
section
variable {P:Program} {ops:Array Oper} {o:Oper} {σ:St}
inductive GetL (σ:St):List Operand→List E→Prop where
 | nil:GetL σ [] []
 | cons {x:Operand} {e:E} {l:List Operand} {es:List E} (hx:Get σ true x (.one e)) (h:GetL σ l es):GetL σ (x::l) (e::es)
theorem GetL.ves {I:Ip} {w0:Base} {w:World} {a:Act} (hr:RelI I w0 σ a w) {l:List Operand} {es:List E} (h:GetL σ l es):VEs I w es (l.map a.eval):=by
 induction h with
 | nil=>rfl
 | cons hx h ih=>exact⟨_,_,rfl,hx.va hr rfl,ih⟩
def ownAll (ts:List T):List (Bool×V0):=ts.map fun t=>(true,.one t)
theorem V0c_all {w:World} {FF:List Nat}:∀ {ts:List T} {cs:List Value} {G:List Nat},Cs true w ts cs G→V0c w FF (ownAll ts) cs G
 | [],cs,G,h=>by simp only [Cs] at h;exact h
 | t::ts,cs,G,h=>by
  simp only [Cs] at h
  obtain⟨c,cr,G1,G2,rfl,h1,h2,rfl⟩:=h
  exact⟨c,cr,G1,G2,rfl,h1,V0c_all h2,by simp⟩
theorem R_consumeL {f:FuncId} {l:List Operand} {tys:Array TypeId} {es:List E} {ts:List T} {out:V} {σ':St} {y:S} {rs:List (Nat×R)} (n:Nat) (h:FnC P f (ownAll ts) out) (ho:o.op=.call { callee:=.value (.func f),args:=l.toArray,argTypes:=tys }) (hg:o.guard=none) (hd:o.dst.all (fun d=>Nat.blt d σ.n)=true)
 (hx:GetL σ l es) (ha:absorb σ es=some (σ',ts)) (hout:outV n out=some (y,rs)) (hf:(rs.all fun x=>!σ'.has x.1)=true):Op1 P ops o σ ((σ'.adds rs).put o.dst (true,y)):=by
 rintro w0 a w ⟨I,hr⟩ K Q hK
 simp only [Region.wanted,hg,if_true]
 obtain⟨I',G,r1,r2,r3,r4,_⟩:=RelI.absorb ha hr (hx.ves hr)
 have hc:V0c w G (ownAll ts) (l.map a.eval) G:=V0c_all r2
 unfold Oper.wp
 rw [run_enter h.1 ho]
 refine (h.2 w _ G (r1.goodF fun b hb=>(r4 b hb).1) hc r3 fun b hb=>(r4 b hb).2.2.1).mono fun e w' hR=>?_
 obtain⟨v,F',rfl,h1,h2,h3,h4⟩:=hR
 have r1':=r1.chgF r4 h4
 have hfree:∀ b∈F',Free I' w0 w' b:=fun b hb=>by
  rcases (h3 b hb).1 with g|g
  · exact⟨.inl (Nat.le_trans r1.ext.size g),Vr.lt h1 b hb,(h3 b hb).2,fun hz=>by have:=r1.old b hz;omega,fun i hi=>by have:=(r1.lt i b hi).1;omega⟩
  exact⟨(r4 b g).1,Vr.lt h1 b hb,(h3 b hb).2,(r4 b g).2.2.2.1,(r4 b g).2.2.2.2⟩
 obtain⟨I2,g1,g2⟩:=outV_ok hout hf r1' h1 h2 hfree
 refine hK _ _ ⟨I2,g1.put ?_ g2⟩
 have e1:(σ'.adds rs).n=σ'.n:=adds_n rs
 rw [e1,absorb_n ha];exact hd
end
end Go.Q
namespace Go.Q
open Go.RowKit
section
variable {P:Program} {ops:Array Oper} {o:Oper} {σ:St} {q:Bool}
def Keeps (w:World) (K:List (Nat×Obj)):Prop:=∀ x∈K,w.heap[x.1]?=some x.2
theorem Keeps.lt {w:World} {K:List (Nat×Obj)} (h:Keeps w K):∀ x∈K,x.1<w.heap.size:=fun x hx=>(Array.getElem?_eq_some_iff.1 (h x hx)).1
def FnCk (P:Program) (f:FuncId) (K:List (Nat×Obj)) (ins:List (Bool×V0)) (out:V):Prop:=Callee P f∧∀ w vs F,Good w F→V0c w F ins vs F→F.Nodup→(∀ b∈F,Thaw w b)→Keeps w K→(∀ x∈K,x.1∉F)→Calls P f (List.toArray vs) w (CPost w out F)
def FrTk (P:Program) (f:FuncId) (K:List (Nat×Obj)) (ins:List V0) (out:V):Prop:=Callee P f∧∀ w vs F,Good w []→V0s false w ins vs F→Keeps w K→Calls P f (List.toArray vs) w (FrPost w out)
theorem FnCk.walk {n:Nat} {f:FuncId} {fn:Func} {c:Code} {K:List (Nat×Obj)} {ins:List (Bool×V0)} {out:V} {σ':St} (hf:P.funcs[f]?=some fn) (hb:fn.body=some c) (hname:(fn.name == "runtime.NumGoroutine")=false) (hnt:fn.ntmps=n) (hn:Nat.ble ins.length n=true) (hi:initC 0 ins ⟨n,[],[(999999,.kept K)]⟩=some σ')
 (h:∀ w0,AW P w0 c (RetQ P fn true out) σ'):FnCk P f K ins out:=by
 subst hnt
 refine⟨⟨fn,hf,hname,by rw [hb];rfl⟩,fun w vs F hG hv hnd hth hK hKF=>?_⟩
 have hl:=hv.len
 have hn':ins.length≤fn.ntmps:=Nat.le_of_ble_eq_true hn
 have hlt:=hv.sub
 let a0:Act:=⟨(List.toArray vs)++Array.replicate (fn.ntmps-(List.toArray vs).size) undef,[]⟩
 let I0:Ip:=⟨fun b=>b<w.heap.size∧b∉F,fun _=>[],fun _=>undef,fun _=>0⟩
 have hr0:RelI I0 ⟨w,F,hG⟩ ⟨fn.ntmps,[],[(999999,.kept K)]⟩ a0 w:=by
  refine⟨Chg.refl w F,rfl,by simp [a0,hl];omega,fun i z hi=>(by cases hi),fun id r hi=>?_,fun b hb=>hb.1,fun id b hb=>(by cases hb),fun id r hi=>⟨List.nodup_nil,fun b hb=>(by cases hb)⟩,fun i j _ b hb=>(by cases hb)⟩
  rw [look_cons] at hi
  split at hi
  · cases hi;exact⟨rfl,fun x hx=>⟨hK x hx,hK.lt x hx,hKF x hx⟩⟩
  cases hi
 obtain⟨I1,r1⟩:=initC_ok (fun _ _ _=>trivial) hi hr0 (fun b h1 h2=>⟨h1,h2⟩) hv hnd (fun b hb=>⟨.inr hb,hlt b hb,hth b hb,fun hz=>hz.2 hb,fun i hi=>by cases hi⟩) fun j v hj=>by
  have hjl:j<vs.length:=(List.getElem?_eq_some_iff.1 hj).1
  simp only [Nat.zero_add,a0]
  rw [Array.getD_eq_getD_getElem?,Array.getElem?_append_left (by simpa using hjl)]
  simp [hj]
 refine calls_of_wp hf hb (Code.wp_mono ?_ (h ⟨w,F,hG⟩ _ _ ⟨_,r1⟩))
 rintro e a' w' ⟨σ1,h1,I,hI⟩
 have key:Res P fn true out σ1→a'.defers=[]∧∃ v',(results fn a'.tmps).run P w'=.ok v' w'∧CPost w out F (.returned v') w':=fun h1=>by
  obtain⟨v',F',g1,g2,g3,g4⟩:=h1 I ⟨w,F,hG⟩ a' w' hI
  exact⟨hI.defers,v',g1,v',F',rfl,g2,(g4 rfl).1,fun b hb=>⟨g3 b hb,(g4 rfl).2 b hb⟩,hI.ext⟩
 cases e with
 | normal=>exact key h1
 | ret=>exact key h1
 | exit id=>exact h1.elim
 | goto l=>exact h1.elim
 | panic c=>exact h1.elim
 | outgrown=>exact h1.elim
theorem kept_at {I:Ip} {w0:Base} {w:World} {a:Act} {K:List (Nat×Obj)} (hr:RelI I w0 σ a w) (hk:look σ.res 999999=some (.kept K)):Keeps w K:=fun x hx=>((hr.res _ _ hk).2 x hx).1
theorem R_callk {f:FuncId} {K:List (Nat×Obj)} {l:List Operand} {tys:Array TypeId} {ins:List V0} {out:V} (h:FrTk P f K ins out) (hk:look σ.res 999999=some (.kept K)) (ho:o.op=.call { callee:=.value (.func f),args:=l.toArray,argTypes:=tys }) (hg:Grd ops o σ q) (hd:o.dst.all (fun d=>Nat.blt d σ.n)=true)
 (ha:Args σ q l ins):Op1 P ops o σ (σ.put o.dst (q,inS out)):=by
 rintro w0 a w ⟨I,hr⟩ KK Q hK
 rw [hg.wanted hr]
 cases q with
 | false=>exact hK _ _ ⟨I,hr.put hd rfl⟩
 | true=>
  simp only [if_true]
  obtain⟨F,hF⟩:=ha.ok hr rfl
  unfold Oper.wp
  rw [run_enter h.1 ho]
  refine (h.2 w _ F hr.good hF (kept_at hr hk)).mono fun e w' hR=>?_
  obtain⟨v,G,rfl,h1,h3,h4⟩:=hR
  have hr':=(hr.later h4).also (G:=G) fun b hb=>⟨Vr.lt h1 b hb,fun i hi=>by have:=(hr.lt i b hi).1;have:=h3 b hb;omega⟩
  exact hK _ _ ⟨_,hr'.put hd (VS_also h1 fun b hb=>.inr hb)⟩
theorem R_callvk {f:FuncId} {K:List (Nat×Obj)} {c:Operand} {l:List Operand} {tys:Array TypeId} {ins:List V0} {caps:List T} {out:V} (ho:o.op=.call { callee:=.value c,args:=l.toArray,argTypes:=tys }) (hg:Grd ops o σ q) (hd:o.dst.all (fun d=>Nat.blt d σ.n)=true)
 (hc:Get σ q c (.one (.t (.fn (.func f) [] caps)))) (ha:Args σ q l ins) (hk:look σ.res 999999=some (.kept K)) (h:FrTk P f K (ins++caps.map .one) out):Op1 P ops o σ (σ.put o.dst (q,inS out)):=by
 rintro w0 a w ⟨I,hr⟩ KK Q hK
 rw [hg.wanted hr]
 cases q with
 | false=>exact hK _ _ ⟨I,hr.put hd rfl⟩
 | true=>
  simp only [if_true]
  obtain⟨F,hF⟩:=ha.ok hr rfl
  obtain⟨Gc,hv,_⟩:=hc.va hr rfl
  simp only [C] at hv
  obtain⟨xs,ys,G1,G2,e,h1,h2,rfl⟩:=hv
  simp only [Cs] at h1
  obtain⟨rfl,rfl⟩:=h1
  have hrun:(execOp a.eval o).run P w=.ok (.enter f (l.map a.eval++ys).toArray) w:=by
   obtain⟨fn,k1,k2,k3⟩:=h.1
   have k2':¬ fn.name= "runtime.NumGoroutine":=by simpa using k2
   have k3':¬ fn.body=none:=by intro e;rw [e] at k3;cases k3
   simp [execOp,ho,resolve,e,Deferred.ofValue,invoke,callFunc,k1,k2',k3']
  unfold Oper.wp
  rw [hrun]
  refine (h.2 w _ _ hr.good (V0s_append hF (V0s_of_Cs h2)) (kept_at hr hk)).mono fun e w' hR=>?_
  obtain⟨v,G,rfl,h1,h3,h4⟩:=hR
  have hr':=(hr.later h4).also (G:=G) fun b hb=>⟨Vr.lt h1 b hb,fun i hi=>by have:=(hr.lt i b hi).1;have:=h3 b hb;omega⟩
  exact hK _ _ ⟨_,hr'.put hd (VS_also h1 fun b hb=>.inr hb)⟩
theorem Rws_split {o:Bool} {w:World} {b:Nat}:∀ {ts:List T} {off:Nat} {F:List Nat},Rws o w b 1 off (ts.map fun t=>[t]) F→∃ (hs:List Value) (Gs:List (List Nat)),hs.length=ts.length∧Gs.length=ts.length∧F=Gs.flatten∧
 ∀ i t,ts[i]?=some t→∃ h G,hs[i]?=some h∧Gs[i]?=some G∧w.cell? ⟨b,off+i,none⟩=some h∧C o w t h G
 | [],off,F,h=>by simp only [List.map_nil,Rws] at h;exact⟨[],[],rfl,rfl,h,fun i t hi=>by simp at hi⟩
 | t::ts,off,F,h=>by
  simp only [List.map_cons,Rws,Ms] at h
  obtain⟨G1,G2,_,⟨c,A1,A2,h1,h2,rfl,rfl⟩,h3,rfl⟩:=h
  obtain⟨hs,Gs,e1,e2,e3,e4⟩:=Rws_split h3
  refine⟨c::hs,A1::Gs,by simp [e1],by simp [e2],by simp [e3],fun i u hi=>?_⟩
  match i,hi with
  | 0,hi=>simp at hi;subst hi;exact⟨c,A1,rfl,rfl,h1,h2⟩
  | i+1,hi=>
   obtain⟨h,G,g1,g2,g3,g4⟩:=e4 i u (by simpa using hi)
   exact⟨h,G,by simpa using g1,by simpa using g2,by rw [show off+(i+1)=off+1+i by omega];exact g3,g4⟩
theorem Rws_join {o:Bool} {w:World} {b:Nat} {α:Type} {t:α→T} {h:α→Value} {G:α→List Nat}:∀ {l:List α} {off:Nat},(∀ i x,l[i]?=some x→w.cell? ⟨b,off+i,none⟩=some (h x)∧C o w (t x) (h x) (G x))→Rws o w b 1 off (l.map fun x=>[t x]) (l.flatMap G)
 | [],off,_=>by simp [Rws]
 | x::l,off,hc=>by
  simp only [List.map_cons,Rws,Ms,List.flatMap_cons]
  obtain⟨c1,c2⟩:=hc 0 x rfl
  refine⟨G x,l.flatMap G,rfl,⟨h x,G x,[],c1,c2,rfl,by simp⟩,Rws_join (h:=h) fun i y hi=>?_,rfl⟩
  obtain⟨d1,d2⟩:=hc (i+1) y (by simpa using hi)
  exact⟨by rw [show off+1+i=off+(i+1) by omega];exact d1,d2⟩
theorem C_split {w:World} {ts:List T} {v:Value} {F:List Nat} (hC:C true w (.sl 1 (ts.map fun t=>[t])) v F) (hnd:F.Nodup):∃ (h:Nat→Value) (G:Nat→List Nat) (F0:List Nat),(∀ i t,ts[i]?=some t→C true w t (h i) (G i))∧C true w (.sl 1 ((List.range ts.length).map fun i=>[.v (h i)])) v F0∧F0.Nodup∧
 (∀ b∈F0,b∈F)∧(∀ i,i<ts.length→∀ b∈G i,b∈F∧b∉F0)∧(∀ i,i<ts.length→(G i).Nodup)∧∀ i j,i<ts.length→j<ts.length→i≠j→∀ b∈G i,b∉G j:=by
 have hCc:=hC
 simp only [C] at hCc
 obtain⟨a,len,cap,rfl,h2,h3,h4,h5⟩:=hCc
 rcases h5 with ⟨h5,rfl,h6⟩|⟨b,off,G,rfl,rfl,h7,h8,h9⟩
 · have:ts=[]:=List.eq_nil_of_length_eq_zero (by rw [List.length_map] at h2;omega)
   subst this
   exact⟨fun _=>undef,fun _=>[],[],fun i t hi=>by simp at hi,hC,List.nodup_nil,fun b hb=>hb,fun i hi=>by simp at hi,fun i hi=>by simp at hi,fun i j hi=>by simp at hi⟩
 obtain⟨hs,Gs,e1,e2,rfl,e4⟩:=Rws_split h9
 obtain⟨n1,n2⟩:=List.nodup_cons.1 hnd
 have n2:=List.pairwise_flatten.1 n2
 have hG:∀ i,i<ts.length→Gs.getD i []∈Gs:=fun i hi=>by
  rw [List.getD_eq_getElem?_getD,List.getElem?_eq_getElem (by omega)];exact List.getElem_mem _
 have hin:∀ i,i<ts.length→∀ x∈Gs.getD i [],x∈Gs.flatten:=fun i hi x hx=>List.mem_flatten.2 ⟨_,hG i hi,hx⟩
 refine⟨fun i=>hs.getD i undef,fun i=>Gs.getD i [],[b],fun i t hi=>?_,?_,by simp,fun x hx=>by simp at hx;simp [hx],fun i hi x hx=>⟨by simp [hin i hi x hx],fun hb=>?_⟩,fun i hi=>n2.1 _ (hG i hi),fun i j hi hj hne x hx hx'=>?_⟩
 · obtain⟨h,A,g1,g2,g3,g4⟩:=e4 i t hi
   simp only [List.getD_eq_getElem?_getD,g1,g2,Option.getD_some]
   exact g4
 · simp only [C]
   refine⟨_,_,_,rfl,by simpa using h2,h3,h4,.inr ⟨b,off,[],rfl,rfl,h7,h8,?_⟩⟩
   have:=Rws_join (o:=true) (w:=w) (b:=b) (t:=fun i=>T.v (hs.getD i undef)) (h:=fun i=>hs.getD i undef) (G:=fun _=>([]:List Nat)) (l:=List.range ts.length) (off:=off) fun i x hi=>by
    obtain⟨hi1,hi2⟩:=List.getElem?_eq_some_iff.1 hi
    rw [List.length_range] at hi1
    simp at hi2
    subst hi2
    obtain⟨h,A,g1,g2,g3,g4⟩:=e4 i _ (List.getElem?_eq_getElem hi1)
    simp only [List.getD_eq_getElem?_getD,g1,Option.getD_some]
    exact⟨g3,by simp only [C];exact⟨trivial,trivial,g4.cell1⟩⟩
   have hz:(List.range ts.length).flatMap (fun _=>([]:List Nat))=[]:=by rw [List.flatMap_eq_nil_iff];intro _ _;rfl
   rw [hz] at this
   exact this
 · simp at hb;subst hb;exact n1 (hin i hi _ hx)
 have hp:=n2.2
 have key:∀ i j,i<j→j<ts.length→∀ x∈Gs.getD i [],∀ y∈Gs.getD j [],x≠y:=fun i j hij hj=>by
  have:=List.pairwise_iff_getElem.1 hp i j (by omega) (by omega) hij
  simpa [List.getD_eq_getElem?_getD,List.getElem?_eq_getElem (show i<Gs.length by omega),List.getElem?_eq_getElem (show j<Gs.length by omega)] using this
 rcases Nat.lt_or_gt_of_ne hne with g|g
 · exact key i j g hj x hx x hx' rfl
 exact key j i g hi x hx' x hx rfl
theorem C_join {w:World} {α:Type} {t:α→T} {h:α→Value} {G:α→List Nat} {l:List α} {v:Value} {F0:List Nat} (hC:C true w (.sl 1 (l.map fun i=>[.v (h i)])) v F0) (ht:∀ x∈l,C true w (t x) (h x) (G x)):C true w (.sl 1 (l.map fun i=>[t i])) v (F0++if l=[] then [] else l.flatMap G):=by
 simp only [C] at hC ⊢
 obtain⟨a,len,cap,rfl,h2,h3,h4,h5⟩:=hC
 rcases h5 with ⟨h5,rfl,h6⟩|⟨b,off,G0,rfl,rfl,h7,h8,h9⟩
 · have:l=[]:=List.eq_nil_of_length_eq_zero (by rw [List.length_map] at h2;omega)
   subst this
   exact⟨_,_,_,rfl,h2,h3,h4,.inl ⟨h5,rfl,h6⟩⟩
 refine⟨_,_,_,rfl,by simpa using h2,h3,h4,.inr ⟨b,off,l.flatMap G,rfl,?_,h7,h8,Rws_join (h:=h) fun i x hi=>?_⟩⟩
 · obtain⟨hs,Gs,e1,e2,rfl,e4⟩:=Rws_split (ts:=l.map fun i=>T.v (h i)) (by rw [List.map_map];exact h9)
   have:Gs.flatten=[]:=by
    rw [List.flatten_eq_nil_iff]
    intro A hA
    obtain⟨i,hi,rfl⟩:=List.mem_iff_getElem.1 hA
    obtain⟨_,A,g1,g2,g3,g4⟩:=e4 i _ (List.getElem?_eq_getElem (by omega))
    rw [List.getElem?_eq_getElem hi] at g2
    cases g2
    simp [C] at g4
    exact g4.2.1
   rw [this]
   by_cases hl:l=[]
   · subst hl;simp
   simp [hl]
 obtain⟨hs,Gs,e1,e2,_,e4⟩:=Rws_split (ts:=l.map fun i=>T.v (h i)) (by rw [List.map_map];exact h9)
 obtain⟨c,A,g1,g2,g3,g4⟩:=e4 i (.v (h x)) (by simp [hi])
 simp only [C] at g4
 rw [g4.1] at g3
 exact⟨g3,ht x (List.mem_of_getElem? hi)⟩
def KT (K:List (Nat×Obj)) (t:T) (h:Value):Prop:=∀ w,Keeps w K→∃ G,C false w t h G
def rdAll (rest:List V0):List (Bool×V0):=rest.map fun x=>(false,x)
theorem V0c_rdAll {w:World} {FF FF':List Nat} (hs:∀ b∈FF',b∈FF):∀ {rest:List V0} {vs:List Value} {G:List Nat},V0c w FF (rdAll rest) vs G→G=[]∧V0c w FF' (rdAll rest) vs []
 | [],vs,G,⟨h1,h2⟩=>⟨h2,h1,rfl⟩
 | x::r,vs,G,⟨v,vr,G1,G2,e,h1,h2,h3⟩=>by
  simp only [Bool.false_eq_true,if_false] at h3
  obtain⟨rfl,h3⟩:=h3
  obtain⟨rfl,h4⟩:=V0c_rdAll hs (rest:=r) h2
  refine⟨rfl,v,vr,G1,[],e,h1,h4,?_⟩
  simp only [Bool.false_eq_true,if_false]
  exact⟨trivial,fun b hb hf=>h3 b hb (hs b hf)⟩
theorem KT.of {w:World} {K:List (Nat×Obj)} {t:T} {h:Value} {G:List Nat} {o:Bool} (hC:C o w t h G) (hK:∀ b∈G,∃ x,w.heap[b]?=some x∧(b,x)∈K):KT K t h:=fun w' hw=>⟨G,hC.read'.congr fun b hb=>by
 obtain⟨x,h1,h2⟩:=hK b hb
 rw [h1];exact hw _ h2⟩
def blocksOf (w:World) (Gs:List Nat):List (Nat×Obj):=Gs.filterMap fun b=>(w.heap[b]?).map fun x=>(b,x)
theorem blocksOf_mem {w:World} {Gs:List Nat} {b:Nat} {x:Obj}:(b,x)∈blocksOf w Gs↔b∈Gs∧w.heap[b]?=some x:=by
 unfold blocksOf
 rw [List.mem_filterMap]
 constructor
 · rintro⟨c,h1,h2⟩
   rw [Option.map_eq_some_iff] at h2
   obtain⟨y,h3,h4⟩:=h2
   cases h4
   exact⟨h1,h3⟩
 rintro⟨h1,h2⟩
 exact⟨b,h1,by rw [h2];rfl⟩
theorem blocksOf_keeps {w:World} {Gs:List Nat}:Keeps w (blocksOf w Gs):=fun x hx=>(blocksOf_mem (b:=x.1) (x:=x.2)).1 hx |>.2
theorem Good.part {w:World} {H G:List Nat} (h:Good w H) (hs:∀ b∈G,b∈H):Good w G:=h.step (Nat.le_refl _) (fun _ _ _=>rfl) fun b hb=>.inr (hs b hb)
theorem nodup_flatMap {α:Type} {G:α→List Nat}:∀ {l:List α},l.Nodup→(∀ x∈l,(G x).Nodup)→(∀ x∈l,∀ y∈l,x≠y→∀ b∈G x,b∉G y)→(l.flatMap G).Nodup
 | [],_,_,_=>List.nodup_nil
 | x::l,hn,h1,h2=>by
  obtain⟨n1,n2⟩:=List.nodup_cons.1 hn
  rw [List.flatMap_cons]
  refine List.nodup_append.2 ⟨h1 x (by simp),nodup_flatMap n2 (fun y hy=>h1 y (by simp [hy])) (fun y hy z hz=>h2 y (by simp [hy]) z (by simp [hz])),fun b hb c hc e=>?_⟩;subst e
  obtain⟨y,hy,hc⟩:=List.mem_flatMap.1 hc
  exact h2 x (by simp) y (by simp [hy]) (fun e=>n1 (e▸hy)) b hb hc
theorem FnC.lift {f:FuncId} {ts:List T} {L:List Nat} {rest:List V0} (hcl:Callee P f) (hL:L.Nodup) (hLn:∀ i∈L,i<ts.length)
 (h:∀ (hd:Nat→Value) (K:List (Nat×Obj)),(∀ i t,ts[i]?=some t→KT K t (hd i))→FnCk P f K ((true,.one (.sl 1 ((List.range ts.length).map fun i=>[.v (hd i)])))::rdAll rest) (.a (.one (.sl 1 (L.map fun i=>[.v (hd i)]))))) :
 FnC P f ((true,.one (.sl 1 (ts.map fun t=>[t])))::rdAll rest) (.a (.one (.sl 1 (L.map fun i=>[ts.getD i (.v undef)])))):=⟨hcl,fun w vs F hG hv hnd hth=>by
 obtain⟨v,vr,G1,G2,rfl,h1,h2,h3⟩:=hv
 simp only [if_true] at h3
 obtain⟨rfl,h2'⟩:=V0c_rdAll (FF':=F) (fun b hb=>hb) h2
 rw [List.append_nil] at h3
 subst h3
 have h1:C true w (.sl 1 (ts.map fun t=>[t])) v F:=h1
 obtain⟨hd,G,F0,c1,c2,c3,c4,c5,c6,c7⟩:=C_split h1 hnd
 have hlt:∀ b∈F,b<w.heap.size:=h1.lt
 have hK:∀ i t,ts[i]?=some t→KT (blocksOf w ((List.range ts.length).flatMap G)) t (hd i):=fun i t hi=>KT.of (c1 i t hi) fun b hb=>by
  have hil:=(List.getElem?_eq_some_iff.1 hi).1
  exact⟨_,Array.getElem?_eq_getElem (hlt b (c5 i hil b hb).1),blocksOf_mem.2 ⟨List.mem_flatMap.2 ⟨i,by simpa using hil,hb⟩,Array.getElem?_eq_getElem _⟩⟩
 refine ((h hd _ hK).2 w (v::vr) F0 (hG.part c4) ⟨v,vr,F0,[],rfl,c2,(V0c_rdAll c4 h2').2,by simp⟩ c3 (fun b hb=>hth b (c4 b hb)) blocksOf_keeps fun x hx hx'=>?_).mono fun e w' hR=>?_
 · obtain⟨i,hi,hb⟩:=List.mem_flatMap.1 ((blocksOf_mem (b:=x.1) (x:=x.2)).1 hx).1
   exact (c5 i (by simpa using hi) _ hb).2 hx'
 obtain⟨v',F',e1,r1,r2,r3,r4⟩:=hR
 have r1:C true w' (.sl 1 (L.map fun i=>[.v (hd i)])) v' F':=r1
 have hsame:∀ i∈L,∀ b∈G i,w'.heap[b]?=w.heap[b]?:=fun i hi b hb=>r4.block b (hlt b (c5 i (hLn i hi) b hb).1) (c5 i (hLn i hi) b hb).2
 have hj:=C_join (t:=fun i=>ts.getD i (.v undef)) (G:=G) r1 fun i hi=>by
  have hti:ts[i]?=some (ts.getD i (.v undef)):=by rw [List.getD_eq_getElem?_getD,List.getElem?_eq_getElem (hLn i hi)];rfl
  exact (c1 i _ hti).congr (hsame i hi)
 have hflat:(if L=[] then [] else L.flatMap G)=L.flatMap G:=by split<;>simp_all
 rw [hflat] at hj
 have hmem:∀ b∈L.flatMap G,∃ i∈L,b∈G i:=fun b hb=>List.mem_flatMap.1 hb
 refine⟨v',F'++L.flatMap G,e1,hj,List.nodup_append.2 ⟨r2,nodup_flatMap hL (fun i hi=>c6 i (hLn i hi)) (fun i hi j hj hne=>c7 i j (hLn i hi) (hLn j hj) hne),fun b hb c hc ebc=>?_⟩,fun b hb=>?_,⟨r4.os,r4.tape,r4.output,r4.size,fun k hk hn=>r4.block k hk fun hk'=>hn (c4 k hk')⟩⟩
 · subst ebc
   obtain⟨i,hi,hb'⟩:=hmem b hc
   have q:=c5 i (hLn i hi) b hb'
   rcases (r3 b hb).1 with g|g
   · have:=hlt b q.1;omega
   exact q.2 g
 rcases List.mem_append.1 hb with hb|hb
 · exact⟨(r3 b hb).1.imp id (c4 b),(r3 b hb).2⟩
 obtain⟨i,hi,hb'⟩:=hmem b hb
 have q:=c5 i (hLn i hi) b hb'
 obtain⟨cc,ee,o3⟩:=hth b q.1
 exact⟨.inr q.1,cc,ee,(hsame i hi b hb').trans o3⟩⟩
end
end Go.Q
namespace Go.Q
open Go.RowKit
section
variable {P:Program}
theorem KT.cell {K:List (Nat×Obj)} {t:T} {h:Value} {w:World} (hk:KT K t h) (hw:Keeps w K):h.oneCell'=true:=by
 obtain⟨G,hC⟩:=hk w hw
 exact hC.cell1
theorem FrTk.of2 {f:FuncId} {K:List (Nat×Obj)} {tx ty:T} {vx vy:Value} {rest:List V0} {out:V} (h:FrT P f (.one tx::.one ty::rest) out) (hx:KT K tx vx) (hy:KT K ty vy):FrTk P f K (.one (.v vx)::.one (.v vy)::rest) out:=⟨h.1,fun w vs F hG hv hK=>by
 obtain⟨v1,r1,A1,B1,rfl,g1,⟨v2,r2,A2,B2,rfl,g2,g3,rfl⟩,rfl⟩:=hv
 have g1:C false w (.v vx) v1 A1:=g1
 have g2:C false w (.v vy) v2 A2:=g2
 simp only [C] at g1 g2
 obtain⟨rfl,rfl,_⟩:=g1
 obtain⟨rfl,rfl,_⟩:=g2
 obtain⟨Gx,cx⟩:=hx w hK
 obtain⟨Gy,cy⟩:=hy w hK
 exact h.2 w _ (Gx++(Gy++B2)) hG ⟨_,_,Gx,Gy++B2,rfl,cx,⟨_,_,Gy,B2,rfl,cy,g3,rfl⟩,rfl⟩⟩
theorem FrTk.of1 {f:FuncId} {K:List (Nat×Obj)} {tx:T} {vx:Value} {rest:List V0} {out:V} (h:FrT P f (.one tx::rest) out) (hx:KT K tx vx):FrTk P f K (.one (.v vx)::rest) out:=⟨h.1,fun w vs F hG hv hK=>by
 obtain⟨v1,r1,A1,B1,rfl,g1,g3,rfl⟩:=hv
 have g1:C false w (.v vx) v1 A1:=g1
 simp only [C] at g1
 obtain⟨rfl,rfl,_⟩:=g1
 obtain⟨Gx,cx⟩:=hx w hK
 exact h.2 w _ (Gx++B1) hG ⟨_,_,Gx,B1,rfl,cx,g3,rfl⟩⟩
theorem FnC.lift2 {f:FuncId} {ts:List T} {t0:T} {L:List Nat} (hcl:Callee P f) (hL:L.Nodup) (hLn:∀ i∈L,i<ts.length+1)
 (h:∀ (hd:Nat→Value) (K:List (Nat×Obj)),(∀ i t,(ts++[t0])[i]?=some t→KT K t (hd i))→FnCk P f K [(true,.one (.sl 1 ((List.range ts.length).map fun i=>[.v (hd i)]))),(false,.one (.v (hd ts.length)))] (.a (.one (.sl 1 (L.map fun i=>[.v (hd i)]))))) :
 FnC P f [(true,.one (.sl 1 (ts.map fun t=>[t]))),(true,.one t0)] (.a (.one (.sl 1 (L.map fun i=>[(ts++[t0]).getD i (.v undef)])))):=⟨hcl,fun w vs F hG hv hnd hth=>by
 obtain⟨v,vr,G1,G2,rfl,h1,⟨v0,vr0,G3,G4,rfl,h2,⟨h3,h4⟩,h5⟩,h6⟩:=hv
 subst h3;subst h4
 simp only [if_true] at h5 h6
 rw [List.append_nil] at h5
 subst h5;subst h6
 have h1:C true w (.sl 1 (ts.map fun t=>[t])) v G1:=h1
 have h2:C true w t0 v0 G2:=h2
 obtain⟨nd1,nd2,nd3⟩:=List.nodup_append.1 hnd
 obtain⟨hd1,Ga,F0,c1,c2,c3,c4,c5,c6,c7⟩:=C_split h1 nd1
 let hd:Nat→Value:=fun i=>if i<ts.length then hd1 i else v0
 let G:Nat→List Nat:=fun i=>if i<ts.length then Ga i else G2
 have hlt1:∀ b∈G1,b<w.heap.size:=h1.lt
 have hlt2:∀ b∈G2,b<w.heap.size:=h2.lt
 have hGin:∀ i,i<ts.length+1→∀ b∈G i,b∈G1++G2∧b∉F0:=fun i hi b hb=>by
  simp only [G] at hb
  split at hb
  · rename_i hc
    exact⟨List.mem_append_left _ (c5 i hc b hb).1,(c5 i hc b hb).2⟩
  exact⟨List.mem_append_right _ hb,fun hb0=>nd3 b (c4 b hb0) b hb rfl⟩
 have hlt:∀ b∈G1++G2,b<w.heap.size:=fun b hb=>(List.mem_append.1 hb).elim (hlt1 b) (hlt2 b)
 have hct:∀ i t,(ts++[t0])[i]?=some t→C true w t (hd i) (G i):=fun i t hi=>by
  simp only [hd,G]
  split
  · rename_i hc
    rw [List.getElem?_append_left hc] at hi
    exact c1 i t hi
  rename_i hc
  rw [List.getElem?_append_right (by omega)] at hi
  have:i-ts.length=0:=by
   have:=(List.getElem?_eq_some_iff.1 hi).1
   simp at this;exact this
  rw [this] at hi
  cases hi
  exact h2
 have hnG:∀ i,i<ts.length+1→(G i).Nodup:=fun i hi=>by
  simp only [G];split
  · rename_i hc;exact c6 i hc
  exact nd2
 have hap:∀ i j,i<ts.length+1→j<ts.length+1→i≠j→∀ b∈G i,b∉G j:=fun i j hi hj hne b hb hb'=>by
  simp only [G] at hb hb'
  split at hb<;>split at hb'
  · rename_i p1 p2;exact c7 i j p1 p2 hne b hb hb'
  · rename_i p1 p2;exact nd3 b (c5 i p1 b hb).1 b hb' rfl
  · rename_i p1 p2;exact nd3 b (c5 j p2 b hb').1 b hb rfl
  omega
 have hK:∀ i t,(ts++[t0])[i]?=some t→KT (blocksOf w ((List.range (ts.length+1)).flatMap G)) t (hd i):=fun i t hi=>KT.of (hct i t hi) fun b hb=>by
  have hil:i<ts.length+1:=by have:=(List.getElem?_eq_some_iff.1 hi).1;simpa using this
  exact⟨_,Array.getElem?_eq_getElem (hlt b (hGin i hil b hb).1),blocksOf_mem.2 ⟨List.mem_flatMap.2 ⟨i,by simpa using hil,hb⟩,Array.getElem?_eq_getElem _⟩⟩
 have hrange:((List.range ts.length).map fun i=>[T.v (hd i)])=(List.range ts.length).map fun i=>[T.v (hd1 i)]:=List.map_congr_left fun i hi=>by
  simp only [List.mem_range] at hi
  simp only [hd,if_pos hi]
 have hv0:hd ts.length=v0:=by simp [hd]
 refine ((h hd _ hK).2 w [v,v0] F0 (hG.part fun b hb=>List.mem_append_left _ (c4 b hb)) ⟨v,[v0],F0,[],rfl,(by show C true w _ v F0;rw [hrange];exact c2),⟨v0,[],[],[],rfl,(by show C false w _ v0 [];simp only [C];exact⟨hv0.symm,trivial,by rw [hv0];exact h2.cell1⟩),⟨rfl,rfl⟩,by simp⟩,by simp⟩ c3 (fun b hb=>hth b (List.mem_append_left _ (c4 b hb))) blocksOf_keeps fun x hx hx'=>?_).mono fun e w' hR=>?_
 · obtain⟨i,hi,hb⟩:=List.mem_flatMap.1 ((blocksOf_mem (b:=x.1) (x:=x.2)).1 hx).1
   exact (hGin i (by simpa using hi) _ hb).2 hx'
 obtain⟨v',F',e1,r1,r2,r3,r4⟩:=hR
 have r1:C true w' (.sl 1 (L.map fun i=>[.v (hd i)])) v' F':=r1
 have hsame:∀ i∈L,∀ b∈G i,w'.heap[b]?=w.heap[b]?:=fun i hi b hb=>r4.block b (hlt b (hGin i (hLn i hi) b hb).1) (hGin i (hLn i hi) b hb).2
 have hj:=C_join (t:=fun i=>(ts++[t0]).getD i (.v undef)) (G:=G) r1 fun i hi=>by
  have hti:(ts++[t0])[i]?=some ((ts++[t0]).getD i (.v undef)):=by rw [List.getD_eq_getElem?_getD,List.getElem?_eq_getElem (by simpa using hLn i hi)];rfl
  exact (hct i _ hti).congr (hsame i hi)
 have hflat:(if L=[] then [] else L.flatMap G)=L.flatMap G:=by split<;>simp_all
 rw [hflat] at hj
 have hmem:∀ b∈L.flatMap G,∃ i∈L,b∈G i:=fun b hb=>List.mem_flatMap.1 hb
 refine⟨v',F'++L.flatMap G,e1,hj,List.nodup_append.2 ⟨r2,nodup_flatMap hL (fun i hi=>hnG i (hLn i hi)) (fun i hi j hj hne=>hap i j (hLn i hi) (hLn j hj) hne),fun b hb c hc ebc=>?_⟩,fun b hb=>?_,⟨r4.os,r4.tape,r4.output,r4.size,fun k hk hn=>r4.block k hk fun hk'=>hn (List.mem_append_left _ (c4 k hk'))⟩⟩
 · subst ebc
   obtain⟨i,hi,hb'⟩:=hmem b hc
   have q:=hGin i (hLn i hi) b hb'
   rcases (r3 b hb).1 with g|g
   · have:=hlt b q.1;omega
   exact q.2 g
 rcases List.mem_append.1 hb with hb|hb
 · exact⟨(r3 b hb).1.imp id fun g=>List.mem_append_left _ (c4 b g),(r3 b hb).2⟩
 obtain⟨i,hi,hb'⟩:=hmem b hb
 have q:=hGin i (hLn i hi) b hb'
 obtain⟨cc,ee,o3⟩:=hth b q.1
 exact⟨.inr q.1,cc,ee,(hsame i hi b hb').trans o3⟩⟩
theorem R_callkq {ops:Array Oper} {o:Oper} {σ:St} {q:Bool} {f:FuncId} {K:List (Nat×Obj)} {l:List Operand} {tys:Array TypeId} {ins:List V0} {out:V} (ho:o.op=.call { callee:=.value (.func f),args:=l.toArray,argTypes:=tys }) (hg:Grd ops o σ q) (hd:o.dst.all (fun d=>Nat.blt d σ.n)=true)
 (hk:look σ.res 999999=some (.kept K)) (ha:Args σ q l ins) (h:q=true→FrTk P f K ins out):Op1 P ops o σ (σ.put o.dst (q,inS out)):=by
 cases q with
 | true=>exact R_callk (h rfl) hk ho hg hd ha
 | false=>
  rintro w0 a w ⟨I,hr⟩ K Q hK
  rw [hg.wanted hr]
  exact hK _ _ ⟨I,hr.put hd rfl⟩
theorem V0c_rd {w:World}:∀ {l:List V0} {vs:List Value} {F:List Nat},V0s false w l vs F→V0c w [] (rdAll l) vs []
 | [],_,_,h=>⟨h.1,rfl⟩
 | x::l,_,_,⟨v,vr,G1,G2,e,h1,h2,_⟩=>⟨v,vr,G1,[],e,h1,V0c_rd h2,by simp⟩
theorem FrTk.ofC {f:FuncId} {K:List (Nat×Obj)} {ins:List V0} {out:V} (h:FnCk P f K (rdAll ins) out):FrTk P f K ins out:=⟨h.1,fun w vs F hG hv hK=>
 (h.2 w vs [] hG (V0c_rd hv) List.nodup_nil (by simp) hK (by simp)).mono fun _ _ ⟨v,F',e,h1,_,h3,h4⟩=>⟨v,F',e,h1.read,fun b hb=>(h3 b hb).1.resolve_right (by simp),h4.toExt⟩⟩
end
end Go.Q
namespace Go.Q
open Go.RowKit
section
variable {P:Program} {ops:Array Oper} {o:Oper} {σ:St} {q:Bool}
theorem RelI.drop {I:Ip} {w0:Base} {w:World} {a:Act} (h:RelI I w0 σ a w) {rs':List (Nat×R)} (hs:∀ i r,look rs' i=some r→look σ.res i=some r):RelI I w0 ⟨σ.n,σ.slots,rs'⟩ a w:=
 ⟨h.ext,h.defers,h.size,h.slots,fun i r hi=>h.res i r (hs i r hi),h.old,h.lt,fun i r hi=>h.own i r (hs i r hi),h.apart⟩
theorem RelI.setF {I:Ip} {w0:Base} {w:World} {a:Act} (h:RelI I w0 σ a w) {u:Nat} (hn:nvB u σ.slots σ.res=true) (hu:∀ r,look σ.res u≠some r) {G:List Nat} (hG:∀ b∈G,b<w.heap.size∧¬ I.Z b∧∀ i,i≠u→b∉I.F i):RelI (I.set u G (I.hd u) (I.B u)) w0 σ a w:=by
 simp only [nvB,Bool.and_eq_true,List.all_eq_true] at hn
 have hZ:∀ b,I.Z b→b∉I.F u:=fun b hz hb=>(h.lt u b hb).2 hz
 have hv:∀ i,i≠u→∀ b∈I.F i,b∉I.F u:=fun i hi=>h.apart i u hi
 have hmem:∀ {α:Type} {l:List (Nat×α)} {i:Nat} {x:α},look l i=some x→(i,x)∈l:=by
  intro α l
  induction l with
  | nil=>intro i x hx;cases hx
  | cons y l ih=>
   intro i x hx
   obtain⟨j,y⟩:=y
   rw [look_cons] at hx
   split at hx
   · rename_i e;subst e;cases hx;simp
   exact List.mem_cons_of_mem _ (ih hx)
 refine⟨h.ext,h.defers,h.size,fun i x hi=>?_,fun i r hi=>?_,h.old,fun i b hb=>?_,fun i r hi=>?_,fun i j hne b hb hb'=>?_⟩
 · have:=(h.slots i x hi).puv (G:=G) (Chg.refl w (I.F u)) hZ hv
   rw [S.puv_nv (hn.1 _ (hmem hi))] at this
   exact this
 · have hi':i≠u:=fun e=>hu r (e▸hi)
   have hnr:=hn.2 _ (hmem hi)
   have:=h.res i r hi
   cases r with
   | row k rows=>
    have this:C true w (.sl k rows) (I.hd i) (I.F i):=this
    show C true w (.sl k rows) _ _
    simpa only [Ip.set,if_neg hi'] using this
   | box cs=>
    obtain⟨h1,vs,t,h2,h3⟩:=this
    have h3:=h3.puv (G:=G) (Chg.refl w (I.F u)) hZ hv
    rw [map_same fun e he=>E.puv_nv (List.all_eq_true.1 hnr e he)] at h3
    exact⟨by simpa only [Ip.set,if_neg hi'] using h1,vs,t,by simpa only [Ip.set,if_neg hi'] using h2,h3⟩
   | hdr j x=>
    refine⟨by simpa only [Ip.set,if_neg hi'] using this.1,fun k hk=>?_⟩
    have:=this.2 k hk
    simp only [Ip.set]
    split
    · rename_i e;rw [←e];exact this
    exact this
   | blk j x=>
    refine⟨by simpa only [Ip.set,if_neg hi'] using this.1,fun k hk=>?_⟩
    have:=this.2 k hk
    simp only [Ip.set]
    split
    · rename_i e;rw [←e];exact this
    exact this
   | kept K=>exact⟨by simpa only [Ip.set,if_neg hi'] using this.1,this.2⟩
   | opq=>trivial
   | cur g=>exact⟨by simpa only [Ip.set,if_neg hi'] using this.1,by simpa only [Ip.set,if_neg hi'] using this.2.1,this.2.2⟩
   | mp b f=>exact⟨by simpa only [Ip.set,if_neg hi'] using this.1,this.2⟩
 · simp only [Ip.set] at hb ⊢
   split at hb
   · exact⟨(hG b hb).1,(hG b hb).2.1⟩
   exact h.lt i b hb
 · have hi':i≠u:=fun e=>hu r (e▸hi)
   simp only [Ip.set,if_neg hi']
   exact h.own i r hi
 simp only [Ip.set] at hb hb'
 split at hb
 · rename_i e
   rw [if_neg (fun e'=>hne (e.trans e'.symm))] at hb'
   exact (hG b hb).2.2 j (fun e'=>hne (e.trans e'.symm)) hb'
 split at hb'
 · rename_i e
   exact (hG b hb').2.2 i (fun e'=>hne (e'.trans e.symm)) hb
 exact h.apart i j hne b hb hb'
theorem RelI.keepR {I:Ip} {w0:Base} {w:World} {a:Act} (h:RelI I w0 σ a w) {u:Nat} {r:R} (hr:RR I w u r) (ho:(I.F u).Nodup∧∀ b∈I.F u,w0.own b∧Thaw w b):RelI I w0 (σ.add u r) a w:=by
 have key:∀ i r',look (σ.add u r).res i=some r'→(i=u∧r'=r)∨look σ.res i=some r':=fun i r' hi=>by
  rw [St.add,look_cons] at hi
  split at hi
  · rename_i e;cases hi;exact .inl ⟨e.symm,rfl⟩
  exact .inr hi
 exact⟨h.ext,h.defers,h.size,h.slots,fun i r' hi=>(key i r' hi).elim (fun e=>by rw [e.1,e.2];exact hr) (h.res i r'),h.old,h.lt,fun i r' hi=>(key i r' hi).elim (fun e=>by rw [e.1];exact ho) (h.own i r'),h.apart⟩
structure Pos where
 L:List Int
 F:List Int
 x:Int
 y:Int
 z:Bool
def rowI (l:List Int):R:=.row 1 (l.map fun n=>[.v (.int .i64 n)])
def treeI (l:List Int):T:=.sl 1 (l.map fun n=>[.v (.int .i64 n)])
def boxP (i1 i2:Nat) (p:Pos):R:=.box [.rf i1,.t (.v (.int .i64 p.x)),.t (.v (.int .i64 p.y)),.rf i2,.t (.v (.bool p.z))]
def PosB (w:World) (b:Nat) (p:Pos) (G:List Nat):Prop:=∃ h1 h2 e G1 G2,w.heap[b]?=some (.cells #[h1,.int .i64 p.x,.int .i64 p.y,h2,.bool p.z] e (0,0))∧C true w (treeI p.L) h1 G1∧C true w (treeI p.F) h2 G2∧G=b::(G1++G2)
def PosOk (w:World) (b:Nat) (p:Pos) (G:List Nat):Prop:=PosB w b p G∧G.Nodup∧∀ c∈G,Thaw w c
theorem PosB.lt {w:World} {b:Nat} {p:Pos} {G:List Nat} (h:PosB w b p G):∀ c∈G,c<w.heap.size:=by
 obtain⟨h1,h2,e,G1,G2,hB,c1,c2,rfl⟩:=h
 intro c hc
 rcases List.mem_cons.1 hc with rfl|hc
 · exact (Array.getElem?_eq_some_iff.1 hB).1
 rcases List.mem_append.1 hc with hc|hc
 · exact C.lt c1 c hc
 exact C.lt c2 c hc
def PPost {τ:Type} (w:World) (b:Nat) (G:List Nat) (post:Pos→τ→Prop) (out:τ→List Value) (e:Ending) (w':World):Prop:=
 ∃ p' t G',e=.returned (match out t with|[]=>.tuple #[]|l=>.agg l.toArray)∧post p' t∧PosOk w' b p' G'∧(∀ c∈G',c∈G∨w.heap.size≤c)∧Chg w w' G
def FnP {τ:Type} (P:Program) (f:FuncId) (ins:List V0) (pre:Pos→Prop) (post:Pos→Pos→τ→Prop) (out:τ→List Value):Prop:=
 Callee P f∧∀ w b p G vs A,pre p→Good w G→PosOk w b p G→V0s false w ins vs A→(∀ c∈A,c∉G)→Calls P f (List.toArray (.pointer (some ⟨b,0,none⟩)::vs)) w (PPost w b G (post p) out)
theorem V0s.cp {w:World} {FF:List Nat}:∀ {ins:List V0} {vs:List Value} {F:List Nat},V0s false w ins vs F→(∀ b∈F,b∉FF)→V0c w FF (ins.map fun x=>(false,x)) vs []
 | [],vs,F,⟨h,_⟩,_=>⟨h,rfl⟩
 | x::r,vs,F,⟨v,vr,G1,G2,h1,h2,h3,h4⟩,hF=>by
  subst h4
  exact⟨v,vr,G1,[],h1,h2,h3.cp fun b hb=>hF b (by simp [hb]),by simpa using fun b hb=>hF b (by simp [hb])⟩
def PRes {τ:Type} (P:Program) (fn:Func) (b:Nat) (post:Pos→τ→Prop) (out:τ→List Value) (σ:St):Prop:=
 ∃ p' t rs xs,post p' t∧look σ.res 700=some (boxP 701 702 p')∧look σ.res 701=some (rowI p'.L)∧look σ.res 702=some (rowI p'.F)∧look σ.res 703=some (.blk (some 700) b)∧fn.results=List.toArray rs∧RVs P σ rs xs∧((xs=[]∧out t=[])∨(out t≠[]∧xs=[.agg ((out t).map fun v=>.t (.v v))]))
def RetP {τ:Type} (P:Program) (fn:Func) (b:Nat) (post:Pos→τ→Prop) (out:τ→List Value):Exit→St→Prop
 | .normal,σ=>PRes P fn b post out σ
 | .ret,σ=>PRes P fn b post out σ
 | _,_=>False
theorem VEs_plain {I:Ip} {w:World}:∀ {l cs:List Value},VEs I w (l.map (fun v=>E.t (.v v))) cs→cs=l
 | [],cs,h=>h
 | x::l,cs,⟨c,cr,e,⟨_,g,_⟩,h⟩=>by
  simp only [C] at g
  rw [e,g.1,VEs_plain h]
theorem FnP.walk {τ:Type} {n:Nat} {f:FuncId} {fn:Func} {c:Code} {ins:List V0} {pre:Pos→Prop} {post:Pos→Pos→τ→Prop} {out:τ→List Value} {σ':Nat→Pos→St} (hf:P.funcs[f]?=some fn) (hb:fn.body=some c) (hname:(fn.name == "runtime.NumGoroutine")=false) (hnt:fn.ntmps=n) (hn:Nat.ble (ins.length+1) n=true)
 (hi:∀ b p,initC 1 (ins.map fun x=>(false,x)) ⟨n,[(0,(true,.a (.one (.pp 700 0))))],[(700,boxP 701 702 p),(701,rowI p.L),(702,rowI p.F),(703,.blk (some 700) b)]⟩=some (σ' b p)) (h:∀ w0 b p,pre p→AW P w0 c (RetP P fn b (post p) out) (σ' b p)):FnP P f ins pre post out:=by
 subst hnt
 refine⟨⟨fn,hf,hname,by rw [hb];rfl⟩,fun w b p G vs A hp hG hok hv hap=>?_⟩
 have hv':=hv.cp (FF:=G) hap
 have hl:vs.length=ins.length:=by simpa using hv'.len
 have hn':ins.length+1≤fn.ntmps:=Nat.le_of_ble_eq_true hn
 obtain⟨hB,hnd,hth⟩:=hok
 have hlt:=hB.lt
 obtain⟨h1,h2,e,G1,G2,hcell,c1,c2,rfl⟩:=hB
 obtain⟨nb,n12⟩:=List.nodup_cons.1 hnd
 obtain⟨n1,n2,n3⟩:=List.nodup_append.1 n12
 let a0:Act:=⟨(List.toArray (.pointer (some ⟨b,0,none⟩)::vs))++Array.replicate (fn.ntmps-(List.toArray (Value.pointer (some ⟨b,0,none⟩)::vs)).size) undef,[]⟩
 let I0:Ip:=⟨fun c=>c<w.heap.size∧c∉b::(G1++G2),fun i=>if i=700 then [b] else if i=701 then G1 else if i=702 then G2 else [],fun i=>if i=701 then h1 else if i=702 then h2 else undef,fun i=>if i=700 then b else 0⟩
 have hget:∀ (j:Nat) v,(Value.pointer (some ⟨b,0,none⟩)::vs)[j]?=some v→a0.tmps.getD j undef=v:=fun j v hj=>by
  have hjl:=(List.getElem?_eq_some_iff.1 hj).1
  simp only [a0]
  rw [Array.getD_eq_getD_getElem?,Array.getElem?_append_left (by simpa using hjl)]
  have:(List.toArray (Value.pointer (some ⟨b,0,none⟩)::vs))[j]?=some v:=by simpa using hj
  rw [this];rfl
 have hF0:∀ i,∀ x∈I0.F i,x∈b::(G1++G2):=fun i x hx=>by
  simp only [I0] at hx
  split at hx
  · simp only [List.mem_singleton] at hx;subst hx;simp
  split at hx
  · simp [hx]
  split at hx
  · simp [hx]
  cases hx
 have hdr:∀ {k1:Value} {l:List Int} {g:List Nat},C true w (treeI l) k1 g→∃ a' l' k',k1=.slice a' l' k':=fun h=>by
  unfold treeI at h
  simp only [C] at h
  obtain⟨a',l',k',e,_⟩:=h
  exact⟨a',l',k',e⟩
 have hr0:RelI I0 ⟨w,b::(G1++G2),hG⟩ ⟨fn.ntmps,[(0,(true,.a (.one (.pp 700 0))))],[(700,boxP 701 702 p),(701,rowI p.L),(702,rowI p.F),(703,.blk (some 700) b)]⟩ a0 w:=by
  have key:∀ i r,look [(700,boxP 701 702 p),(701,rowI p.L),(702,rowI p.F),(703,R.blk (some 700) b)] i=some r→(i=700∧r=boxP 701 702 p)∨(i=701∧r=rowI p.L)∨(i=702∧r=rowI p.F)∨(i=703∧r=.blk (some 700) b):=fun i r hi=>by
   rw [look_cons] at hi
   split at hi
   · rename_i e;cases hi;exact .inl ⟨e.symm,rfl⟩
   rw [look_cons] at hi
   split at hi
   · rename_i e;cases hi;exact .inr (.inl ⟨e.symm,rfl⟩)
   rw [look_cons] at hi
   split at hi
   · rename_i e;cases hi;exact .inr (.inr (.inl ⟨e.symm,rfl⟩))
   rw [look_cons] at hi
   split at hi
   · rename_i e;cases hi;exact .inr (.inr (.inr ⟨e.symm,rfl⟩))
   cases hi
  refine⟨Chg.refl w _,rfl,by simp [a0,hl];omega,fun i z hi=>?_,fun id r hi=>?_,fun x hx=>hx.1,fun id x hx=>⟨hlt x (hF0 id x hx),fun hz=>hz.2 (hF0 id x hx)⟩,fun id r hi=>?_,fun i j hne x hx hx'=>?_⟩
  · rw [look_cons] at hi
    split at hi
    · rename_i e;subst e;cases hi
      exact hget 0 _ rfl
    cases hi
  · rcases key id r hi with ⟨rfl,rfl⟩|⟨rfl,rfl⟩|⟨rfl,rfl⟩|⟨rfl,rfl⟩
    · exact⟨rfl,_,e,hcell,_,_,rfl,⟨rfl,hdr c1⟩,_,_,rfl,⟨[],by simp only [C];exact⟨trivial,trivial,rfl⟩,by simp⟩,_,_,rfl,⟨[],by simp only [C];exact⟨trivial,trivial,rfl⟩,by simp⟩,_,_,rfl,⟨rfl,hdr c2⟩,_,_,rfl,⟨[],by simp only [C];exact⟨trivial,trivial,rfl⟩,by simp⟩,rfl⟩
    · exact c1
    · exact c2
    exact⟨rfl,fun i hi=>by cases hi;rfl⟩
  · have hall:∀ x∈I0.F id,Base.own ⟨w,b::(G1++G2),hG⟩ x∧Thaw w x:=fun x hx=>⟨.inr (hF0 id x hx),hth x (hF0 id x hx)⟩
    refine⟨?_,hall⟩
    rcases key id r hi with ⟨rfl,rfl⟩|⟨rfl,rfl⟩|⟨rfl,rfl⟩|⟨rfl,rfl⟩
    · simp [I0]
    · exact n1
    · exact n2
    simp [I0]
  simp only [I0] at hx hx'
  have nb1:b∉G1:=fun h=>nb (List.mem_append_left _ h)
  have nb2:b∉G2:=fun h=>nb (List.mem_append_right _ h)
  split at hx
  · simp only [List.mem_singleton] at hx;subst hx
    split at hx'
    · omega
    split at hx'
    · exact nb1 hx'
    split at hx'
    · exact nb2 hx'
    cases hx'
  split at hx
  · split at hx'
    · simp only [List.mem_singleton] at hx';subst hx';exact nb1 hx
    split at hx'
    · omega
    split at hx'
    · exact n3 x hx x hx' rfl
    cases hx'
  split at hx
  · split at hx'
    · simp only [List.mem_singleton] at hx';subst hx';exact nb2 hx
    split at hx'
    · exact n3 x hx' x hx rfl
    split at hx'
    · omega
    cases hx'
  cases hx
 obtain⟨I1,r1⟩:=initC_ok (FF:=b::(G1++G2)) (fun _ _ _=>trivial) (hi b p) hr0 (fun x h1 h2=>⟨h1,h2⟩) hv' (by simp) (fun x hx=>by cases hx) fun j v hj=>hget (1+j) v (by rw [Nat.add_comm];simpa using hj)
 refine calls_of_wp hf hb (Code.wp_mono ?_ (h ⟨w,b::(G1++G2),hG⟩ b p hp _ _ ⟨I1,r1⟩))
 rintro e a' w' ⟨σ1,hR,I,hI⟩
 have key:PRes P fn b (post p) out σ1→a'.defers=[]∧∃ v,(results fn a'.tmps).run P w'=.ok v w'∧PPost w b (b::(G1++G2)) (post p) out (.returned v) w':=fun ⟨p',t,rs,xs,q1,q2,q3,q4,q5,q6,q7,q8⟩=>by
  obtain⟨vs',r1,r2⟩:=run_results (P:=P) (fn:=fn) (l:=rs) hI q6 q7
  obtain⟨m1,ws,t',m2,c,cr,e1,⟨g1,_⟩,c',cr',e2,⟨_,g2,_⟩,c'',cr'',e3,⟨_,g3,_⟩,c3,cr3,e4,⟨g4,_⟩,c4,cr4,e5,⟨_,g5,_⟩,e6⟩:I.F 700=[I.B 700]∧∃ vs e,w'.heap[I.B 700]?=some (.cells (List.toArray vs) e (0,0))∧VEs I w' _ vs:=hI.res _ _ q2
  have e6:cr4=[]:=e6
  simp only [C] at g2 g3 g5
  have hbb:I.B 700=b:=(hI.res _ _ q5).2 700 rfl
  have k1:C true w' (treeI p'.L) (I.hd 701) (I.F 701):=hI.res _ _ q3
  have k2:C true w' (treeI p'.F) (I.hd 702) (I.F 702):=hI.res _ _ q4
  have hcell':w'.heap[b]?=some (.cells #[I.hd 701,.int .i64 p'.x,.int .i64 p'.y,I.hd 702,.bool p'.z] t' (0,0)):=by
   rw [←hbb,m2,e1,e2,e3,e4,e5,e6,g1,g2.1,g3.1,g4,g5.1]
  have ap1:b∉I.F 701:=fun hm=>hI.apart 700 701 (by decide) b (by rw [m1,hbb];simp) hm
  have ap2:b∉I.F 702:=fun hm=>hI.apart 700 702 (by decide) b (by rw [m1,hbb];simp) hm
  have own:∀ c∈b::(I.F 701++I.F 702),(c∈b::(G1++G2)∨w.heap.size≤c)∧Thaw w' c:=fun c hc=>by
   rcases List.mem_cons.1 hc with rfl|hc
   · have:=(hI.own 700 _ q2).2 c (by rw [m1,hbb];simp)
     exact⟨this.1.symm,this.2⟩
   rcases List.mem_append.1 hc with hc|hc
   · exact⟨((hI.own 701 _ q3).2 c hc).1.symm,((hI.own 701 _ q3).2 c hc).2⟩
   exact⟨((hI.own 702 _ q4).2 c hc).1.symm,((hI.own 702 _ q4).2 c hc).2⟩
  refine⟨hI.defers,_,r1,p',t,b::(I.F 701++I.F 702),?_,q1,⟨⟨_,_,t',_,_,hcell',k1,k2,rfl⟩,?_,fun c hc=>(own c hc).2⟩,fun c hc=>(own c hc).1,hI.ext⟩
  · rcases q8 with ⟨rfl,h0⟩|⟨h0,rfl⟩
    · have r2:vs'=[]:=r2
      rw [r2,h0]
    obtain⟨v,vr,rfl,⟨cs,rfl,h3⟩,h4⟩:=r2
    have h4:vr=[]:=h4
    subst h4
    rw [VEs_plain h3]
    match out t,h0 with
    | _::_,_=>rfl
  refine List.nodup_cons.2 ⟨fun hm=>(List.mem_append.1 hm).elim ap1 ap2,List.nodup_append.2 ⟨(hI.own 701 _ q3).1,(hI.own 702 _ q4).1,fun x hx y hy e=>?_⟩⟩
  subst e;exact hI.apart 701 702 (by decide) x hx hy
 cases e with
 | normal=>exact key hR
 | ret=>exact key hR
 | exit id=>exact hR.elim
 | goto l=>exact hR.elim
 | panic c=>exact hR.elim
 | outgrown=>exact hR.elim
def readT:A→Option V0
 | .one (.t x)=>some (.one x)
 | .agg l=>match mapO (fun e=>match e with|E.t x=>some x|_=>none) l with|some ts=>some (.agg ts)|none=>none
 | _=>none
inductive ArgsT (σ:St):List Operand→List V0→Prop where
 | nil:ArgsT σ [] []
 | cons {x:Operand} {A0:A} {v:V0} {l:List Operand} {vs:List V0} (hx:Get σ true x A0) (hv:readT A0=some v) (h:ArgsT σ l vs):ArgsT σ (x::l) (v::vs)
theorem readT_ok {I:Ip} {w:World} {x:A} {t:V0} {v:Value} (h:readT x=some t) (hv:VA I w x v):∃ G,V0r false w t v G∧∀ c∈G,I.Z c:=by
 match x,h with
 | .one (.t x),h=>
  cases h
  obtain⟨G,h1,h2⟩:=hv
  exact⟨G,h1,h2⟩
 | .agg l,h=>
  rw [readT] at h
  split at h
  · rename_i ts h1
    cases h
    obtain⟨cs,rfl,h3⟩:=hv
    have key:∀ {l:List E} {ts:List T} {cs:List Value},mapO (fun e=>match e with|E.t x=>some x|_=>none) l=some ts→VEs I w l cs→∃ G,Cs false w ts cs G∧∀ c∈G,I.Z c:=by
     intro l
     induction l with
     | nil=>intro ts cs h hv;cases h;exact⟨[],by unfold Cs;exact⟨hv,rfl⟩,fun _ hb=>by cases hb⟩
     | cons e l ih=>
      rintro ts cs h ⟨c,cr,rfl,g1,g2⟩
      rw [mapO] at h
      cases e with
      | t x=>
       simp only at h
       split at h
       · rename_i ts' h'
         cases h
         obtain⟨G2,k1,k2⟩:=ih h' g2
         obtain⟨G1,k3,k4⟩:=g1
         exact⟨G1++G2,by unfold Cs;exact⟨c,cr,G1,G2,rfl,k3,k1,rfl⟩,fun c hc=>(List.mem_append.1 hc).elim (k4 c) (k2 c)⟩
       cases h
      | _=>simp at h
    obtain⟨G,k1,k2⟩:=key h1 h3
    exact⟨G,⟨cs,rfl,k1⟩,k2⟩
  cases h
 | .one (.rf _),h=>cases h
 | .one (.vw _ _),h=>cases h
 | .one (.pp _ _),h=>cases h
 | .one (.pr _ _ _ _),h=>cases h
 | .one (.sb _ _ _ _),h=>cases h
 | .one (.tl _ _ _),h=>cases h
 | .one (.pf _ _ _),h=>cases h
 | .one .no,h=>cases h
theorem ArgsT.ok {l:List Operand} {ins:List V0} (h:ArgsT σ l ins) {I:Ip} {w0:Base} {w:World} {a:Act} (hr:RelI I w0 σ a w):∃ F,V0s false w ins (l.map a.eval) F∧∀ c∈F,I.Z c:=by
 induction h with
 | nil=>exact⟨[],⟨rfl,rfl⟩,fun _ hb=>by cases hb⟩
 | cons hx hv h ih=>
  obtain⟨F,ih,k1⟩:=ih
  obtain⟨G,hg,k2⟩:=readT_ok hv (hx.va hr rfl)
  exact⟨G++F,⟨_,_,G,F,rfl,hg,ih,rfl⟩,fun c hc=>(List.mem_append.1 hc).elim (k2 c) (k1 c)⟩
end
end Go.Q
namespace Go.Q
open Go.RowKit
section
variable {P:Program} {ops:Array Oper} {o:Oper} {σ:St}
theorem VE.grow {I I2:Ip} {w:World} (hZ:I2.Z=I.Z) (hh:I2.hd=I.hd) (hB:I2.B=I.B) (hF:∀ i b,b∈I.F i→b∈I2.F i) {e:E} {c:Value} (h:VE I w e c):VE I2 w e c:=by
 cases e with
 | t x=>obtain⟨G,h1,h2⟩:=h;exact⟨G,h1,fun b hb=>by rw [hZ];exact h2 b hb⟩
 | rf id=>exact⟨by rw [hh];exact h.1,h.2⟩
 | vw id x=>obtain⟨G,h1,h2⟩:=h;exact⟨G,h1,fun b hb=>hF _ _ (h2 b hb)⟩
 | pp id off=>show c=_;rw [hB];exact h
 | pr id k i j=>obtain⟨g,n,m,h1,h2⟩:=h;exact⟨g,n,m,by rw [hh];exact h1,h2⟩
 | sb id k i j=>obtain⟨g,n,m,h1,h2,h3⟩:=h;exact⟨g,n,m,by rw [hh];exact h1,hF _ _ h2,h3⟩
 | tl id k j=>obtain⟨a,a',n,m,h1,h2⟩:=h;exact⟨a,a',n,m,by rw [hh];exact h1,h2⟩
 | pf id k m=>obtain⟨a,n,M,h1,h2⟩:=h;exact⟨a,n,M,by rw [hh];exact h1,h2⟩
 | no=>trivial
theorem VEs.grow {I I2:Ip} {w:World} (hZ:I2.Z=I.Z) (hh:I2.hd=I.hd) (hB:I2.B=I.B) (hF:∀ i b,b∈I.F i→b∈I2.F i):∀ {l:List E} {cs:List Value},VEs I w l cs→VEs I2 w l cs
 | [],_,h=>h
 | _::_,_,⟨c,cr,e,h1,h2⟩=>⟨c,cr,e,h1.grow hZ hh hB hF,h2.grow hZ hh hB hF⟩
theorem VA.grow {I I2:Ip} {w:World} (hZ:I2.Z=I.Z) (hh:I2.hd=I.hd) (hB:I2.B=I.B) (hF:∀ i b,b∈I.F i→b∈I2.F i) {x:A} {v:Value} (h:VA I w x v):VA I2 w x v:=by
 cases x with
 | one e=>exact VE.grow hZ hh hB hF h
 | agg l=>obtain⟨cs,e,h1⟩:=h;exact⟨cs,e,h1.grow hZ hh hB hF⟩
theorem VAs.grow {I I2:Ip} {w:World} (hZ:I2.Z=I.Z) (hh:I2.hd=I.hd) (hB:I2.B=I.B) (hF:∀ i b,b∈I.F i→b∈I2.F i):∀ {l:List A} {cs:List Value},VAs I w l cs→VAs I2 w l cs
 | [],_,h=>h
 | _::_,_,⟨c,cr,e,h1,h2⟩=>⟨c,cr,e,h1.grow hZ hh hB hF,h2.grow hZ hh hB hF⟩
theorem VS.grow {I I2:Ip} {w:World} (hZ:I2.Z=I.Z) (hh:I2.hd=I.hd) (hB:I2.B=I.B) (hF:∀ i b,b∈I.F i→b∈I2.F i) {x:Bool×S} {v:Value} (h:VS I w x v):VS I2 w x v:=by
 obtain⟨p,x⟩:=x
 cases p with
 | false=>exact h
 | true=>
  cases x with
  | a x=>exact VA.grow hZ hh hB hF (show VA I w x v from h)
  | tup l=>
   obtain⟨vs,e,h1⟩:∃ vs,v=.tuple (List.toArray vs)∧VAs I w l vs:=h
   exact⟨vs,e,h1.grow hZ hh hB hF⟩
theorem RelI.grow {I:Ip} {w0:Base} {w:World} {a:Act} (h:RelI I w0 σ a w) {j:Nat} (hj:look σ.res j=some .opq) {G:List Nat} (hn:G.Nodup) (hG:∀ b∈G,Free I w0 w b):RelI (I.set j (I.F j++G) (I.hd j) (I.B j)) w0 σ a w:=by
 have hF:∀ i b,b∈I.F i→b∈(I.set j (I.F j++G) (I.hd j) (I.B j)).F i:=fun i b hb=>by
  simp only [Ip.set]
  split
  · rename_i e;subst e;exact List.mem_append_left _ hb
  exact hb
 have hh:(I.set j (I.F j++G) (I.hd j) (I.B j)).hd=I.hd:=by
  funext i;simp only [Ip.set];split
  · rename_i e;rw [e]
  rfl
 have hB:(I.set j (I.F j++G) (I.hd j) (I.B j)).B=I.B:=by
  funext i;simp only [Ip.set];split
  · rename_i e;rw [e]
  rfl
 have hmem:∀ i b,b∈(I.set j (I.F j++G) (I.hd j) (I.B j)).F i→b∈I.F i∨(i=j∧b∈G):=fun i b hb=>by
  simp only [Ip.set] at hb
  split at hb
  · rename_i e;subst e;exact (List.mem_append.1 hb).imp id fun h=>⟨rfl,h⟩
  exact .inl hb
 refine⟨h.ext,h.defers,h.size,fun i x hi=>VS.grow (I:=I) (I2:=I.set j (I.F j++G) (I.hd j) (I.B j)) rfl hh hB hF (h.slots i x hi),fun i r hi=>?_,h.old,fun i b hb=>?_,fun i r hi=>?_,fun i i2 hne b hb hb'=>?_⟩
 · by_cases e:i=j
   · subst e;rw [hj] at hi;cases hi;trivial
   have:=h.res i r hi
   have hFi:(I.set j (I.F j++G) (I.hd j) (I.B j)).F i=I.F i:=by simp [Ip.set,e]
   cases r with
   | row k rows=>show C true w _ _ _;rw [hh,hFi];exact this
   | box cs=>obtain⟨h1,vs,t,h2,h3⟩:=this;exact⟨by rw [hFi,hB];exact h1,vs,t,by rw [hB];exact h2,VEs.grow (I:=I) (I2:=I.set j (I.F j++G) (I.hd j) (I.B j)) rfl hh hB hF h3⟩
   | hdr q x=>exact⟨by rw [hFi];exact this.1,fun k hk=>by rw [hh];exact this.2 k hk⟩
   | blk q x=>exact⟨by rw [hFi];exact this.1,fun k hk=>by rw [hB];exact this.2 k hk⟩
   | kept K=>exact⟨by rw [hFi];exact this.1,this.2⟩
   | opq=>trivial
   | cur g=>exact⟨by rw [hFi];exact this.1,by rw [hB];exact this.2.1,this.2.2⟩
   | mp b f=>exact⟨by rw [hFi];exact this.1,this.2⟩
 · rcases hmem i b hb with hb|⟨_,hb⟩
   · exact h.lt i b hb
   exact⟨(hG b hb).2.1,(hG b hb).2.2.2.1⟩
 · by_cases e:i=j
   · subst e
     have ho:=h.own i _ hj
     have e:(I.set i (I.F i++G) (I.hd i) (I.B i)).F i=I.F i++G:=by simp [Ip.set]
     rw [e]
     refine⟨List.nodup_append.2 ⟨ho.1,hn,fun x hx y hy e=>by subst e;exact (hG x hy).2.2.2.2 i hx⟩,fun b hb=>?_⟩
     rcases List.mem_append.1 hb with hb|hb
     · exact ho.2 b hb
     exact⟨(hG b hb).1,(hG b hb).2.2.1⟩
   rw [show (I.set j (I.F j++G) (I.hd j) (I.B j)).F i=I.F i by simp [Ip.set,e]]
   exact h.own i r hi
 rcases hmem i b hb with h1|⟨rfl,h1⟩
 · rcases hmem i2 b hb' with h2|⟨rfl,h2⟩
   · exact h.apart i i2 hne b h1 h2
   exact (hG b h2).2.2.2.2 i h1
 rcases hmem i2 b hb' with h2|⟨rfl,h2⟩
 · exact (hG b h1).2.2.2.2 i2 h2
 exact hne rfl
def frzW (id j k:Nat) (rows:List (List T)):E→E
 | .t x=>.t x
 | .rf i=>bif Nat.beq i id then .vw j (.sl k rows) else .no
 | _=>.no
theorem look_keep {l:List (Nat×R)} {i j:Nat} {r:R} (h:look l i=some r) (hne:i≠j):look (delR l j) i=some r:=by
 induction l with
 | nil=>cases h
 | cons y l ih=>
  obtain⟨q,y⟩:=y
  rw [look_cons] at h
  rw [delR]
  by_cases e:q=j
  · subst e
    rw [if_neg (fun e=>hne e.symm)] at h
    rw [Nat.beq_refl,cond_true]
    exact ih h
  rw [beq_false e,cond_false,look_cons]
  split
  · rename_i h1;rw [if_pos h1] at h;exact h
  rename_i h1;rw [if_neg h1] at h;exact ih h
theorem R_store_pv (u j:Nat) {id k i p:Nat} {t:TypeId} {x y:Operand} {rows:List (List T)} {row:List T} {A0:A} {tx:T} {ag:Bool} {n:Nat} {cs:List E} (ho:o.op=.store t x y) (hg:o.guard=none) (hdn:o.dst=none) (hy:Get σ true y A0) (hca:cellsA A0=[.vw j tx])
 (hx:Get σ true x (.one (.pr id k i p))) (hs:look σ.res id=some (.row k rows)) (hj:look σ.res j=some .opq) (hu:look σ.res u=some (.box cs)) (hne:u≠id∧u≠j∧id≠j) (hi:rows[i]?=some row) (ht:tyB P t ag n=true) (he:(cellsA A0).all E.cell1=true) (hl:Nat.beq (cellsA A0).length n=true) (hn:Nat.ble (p+n) row.length=true)
 (hnv:nvB id σ.slots (delR (delR σ.res u) id)=true) :
 Op1 P ops o σ ⟨σ.n,σ.slots,(u,.box (cs.map (frzW id j k (rows.set i (row.take p++[tx]++row.drop (p+n))))))::delR (delR σ.res u) id⟩:=
 .skip hg fun w0 a w ⟨I,hr⟩=>by
  obtain⟨ds,hd1,hd2,hd3⟩:=(hy.va hr rfl).cells he
  have hdl:=VEs_len hd2
  have hd2':=hd2
  rw [hca] at hd2'
  obtain⟨c0,cr0,e0,⟨Gv,q1,q2⟩,q3⟩:=hd2'
  have q3:cr0=[]:=q3
  subst q3
  obtain⟨g,n',m',hg1,hv⟩:VE I w (.pr id k i p) (a.eval x):=hx.va hr rfl
  have hC:C true w (.sl k rows) _ _:=hr.res id _ hs
  have own:=hr.own id _ hs
  have hlt:=hr.lt id
  simp only [C] at hC
  obtain⟨a0,len,cap,g1,g2,g3,g4,g5⟩:=hC
  have hlti:i<rows.length:=(List.getElem?_eq_some_iff.1 hi).1
  have hn':=Nat.le_of_ble_eq_true hn
  have hl':=Nat.eq_of_beq_eq_true hl
  rcases g5 with ⟨g5,_⟩|⟨b,off,Gr,rfl,hF,g6,g7,g8⟩
  · omega
  obtain⟨rfl,cur,e,hcur,hcs⟩:=g7 trivial
  rw [hg1] at g1
  cases g1
  rw [hF] at own hlt
  obtain⟨u1,xs,u2,u3,u4⟩:=g8.flat
  simp only [Nat.zero_add] at u4
  obtain⟨s1x,s2x⟩:=set_split (row.take p++[tx]++row.drop (p+n)) hi
  have hrow:row=row.take p++((row.drop p).take n++row.drop (p+n)):=by
   rw [←List.drop_drop,List.take_append_drop,List.take_append_drop]
  have hrk:row.length=k:=u1 row (List.mem_of_getElem? hi)
  have e1:rows.flatten=((rows.take i).flatten++row.take p)++((row.drop p).take n++(row.drop (p+n)++(rows.drop (i+1)).flatten)):=by
   conv=>lhs;rw [s1x,hrow]
   simp
  rw [e1] at u2
  obtain⟨x1,x23,F1,F23,rfl,rfl,v1,v2,v3⟩:=u2.split
  obtain⟨x2,x3,F2,F3,rfl,rfl,v4,v5,v6⟩:=v2.split
  have hfl:((rows.take i).flatten).length=i*k:=by
   have key:∀ (l:List (List T)),(∀ r∈l,r.length=k)→l.flatten.length=l.length*k:=by
    intro l
    induction l with
    | nil=>intro _;simp
    | cons r l ih=>intro h;rw [List.flatten_cons,List.length_append,ih fun r hr=>h r (by simp [hr]),h r (by simp),List.length_cons,Nat.succ_mul];omega
   rw [key _ fun r hr=>u1 r (List.mem_of_mem_take hr),List.length_take,Nat.min_eq_left (Nat.le_of_lt hlti)]
  have lx1:x1.length=i*k+p:=by rw [v3,List.length_append,hfl,List.length_take];omega
  have lx2:x2.length=n:=by rw [v6,List.length_take,List.length_drop];omega
  have hdn':ds.length=n:=hdl.trans hl'
  have htot:(i*k+p)+n+x3.length=rows.length*k:=by
   have:=u3
   simp only [List.length_append] at this
   omega
  have hcurl:cur.toList=x1++(x2++x3)++cur.toList.drop (x1++(x2++x3)).length:=by
   apply List.ext_getElem?;intro j
   by_cases hj:j<(x1++(x2++x3)).length
   · have:=u4 j _ (List.getElem?_eq_getElem hj)
     simp only [World.cell?,hcur] at this
     rw [List.getElem?_append_left hj,List.getElem?_eq_getElem hj]
     simpa using this
   rw [List.getElem?_append_right (by omega),List.getElem?_drop]
   congr 1
   omega
  have hst:=run_storeCells_at P g (i*k+p) e ds 0 cur w hcur (by rw [hcs];have:=Nat.mul_le_mul_right k g3;rw [←g2] at this;simp;omega) hd3
  simp only [Nat.add_zero] at hst
  have hnew:cur.toList.take (i*k+p)++ds++cur.toList.drop (i*k+p+ds.length)=x1++(ds++x3)++cur.toList.drop (x1++(x2++x3)).length:=by
   rw [hcurl]
   generalize cur.toList.drop (x1++(x2++x3)).length=tl
   have t1:(x1++(x2++x3)++tl).take (i*k+p)=x1:=by rw [List.append_assoc,←lx1,List.take_left' rfl]
   have t2:(x1++(x2++x3)++tl).drop (i*k+p+ds.length)=x3++tl:=by
    rw [←List.drop_drop,List.append_assoc,←lx1,List.drop_left' rfl,List.append_assoc,hdn',←lx2,List.drop_left' rfl]
   rw [t1,t2]
   have t3:(x1++(x2++x3)++tl).drop (x1++(x2++x3)).length=tl:=List.drop_left' rfl
   simp
  rw [hnew] at hst
  generalize htl:cur.toList.drop (x1++(x2++x3)).length=tl at hst
  have hb:g∈I.F id:=by rw [hF];simp
  have hgF:∀ c∈F1++(F2++F3),c≠g:=fun c hc e=>(List.nodup_cons.1 own.1).1 (e▸hc)
  have hset:=setRow_heap w g cur (x1++(ds++x3)++tl).toArray e (0,0) hcur
  have hoth:∀ c,c≠g→(w.setRow g (x1++(ds++x3)++tl).toArray).heap[c]?=w.heap[c]?:=fun c hc=>setRow_other w g c _ hc
  have hsz:(w.setRow g (x1++(ds++x3)++tl).toArray).heap.size=w.heap.size:=by simp [World.setRow]
  have hch:Chg w (w.setRow g (x1++(ds++x3)++tl).toArray) [g]:=
   ⟨rfl,rfl,rfl,by simp [World.setRow],fun c _ hk=>setRow_other w g c _ (fun e=>hk (by simp [e]))⟩
  have hlk:∀ q r,look (delR (delR σ.res u) id) q=some r→q≠u∧q≠id∧look σ.res q=some r:=fun q r hq=>by
   obtain⟨a1,a2⟩:=look_delR _ _ _ _ hq
   obtain⟨b1,b2⟩:=look_delR _ _ _ _ a2
   exact⟨b1,a1,b2⟩
  have hjk:look (delR (delR σ.res u) id) j=some .opq:=look_keep (look_keep hj hne.2.1.symm) hne.2.2.symm
  have s1:=hr.drop (rs':=delR (delR σ.res u) id) fun q r hq=>(hlk q r hq).2.2
  have s2:=s1.setF (u:=id) hnv (fun r hq=>(hlk _ _ hq).2.1 rfl) (G:=[]) (fun b hb=>by cases hb)
  have hfree:∀ c∈g::(F1++(F2++F3)),Free (I.set id [] (I.hd id) (I.B id)) w0 w c:=fun c hc=>by
   have hc':c∈I.F id:=by rw [hF];exact hc
   have o1:=own.2 c hc
   refine⟨o1.1,(hr.lt id c hc').1,o1.2,(hr.lt id c hc').2,fun q hq=>?_⟩
   simp only [Ip.set] at hq
   split at hq
   · cases hq
   rename_i hqi;exact hr.apart q id hqi c hq hc'
  have s3:=s2.chgF (G:=[g]) (fun c hc=>by simp only [List.mem_singleton] at hc;subst hc;exact hfree c (by simp)) hch
  have hfree3:∀ c∈g::(F1++F3),Free (I.set id [] (I.hd id) (I.B id)) w0 (w.setRow g (x1++(ds++x3)++tl).toArray) c:=fun c hc=>by
   have hm:c∈g::(F1++(F2++F3)):=by
    rcases List.mem_cons.1 hc with rfl|hc
    · simp
    rcases List.mem_append.1 hc with hc|hc<;>simp [hc]
   have f:=hfree c hm
   by_cases hcg:c=g
   · subst hcg
     exact⟨f.1,by rw [hsz];exact f.2.1,⟨.inl _,e,hset⟩,f.2.2.2⟩
   obtain⟨cc,ee,f3⟩:=f.2.2.1
   exact⟨f.1,by rw [hsz];exact f.2.1,⟨cc,ee,(hoth c hcg).trans f3⟩,f.2.2.2⟩
  have hnd:(g::(F1++F3)).Nodup:=by
   obtain⟨d0,dr⟩:=List.nodup_cons.1 own.1
   obtain⟨d1,d23,d3⟩:=List.nodup_append.1 dr
   obtain⟨_,d2,_⟩:=List.nodup_append.1 d23
   refine List.nodup_cons.2 ⟨fun hm=>d0 ?_,List.nodup_append.2 ⟨d1,d2,fun x hx y hy e=>d3 x hx y (by simp [hy]) e⟩⟩
   rcases List.mem_append.1 hm with hm|hm<;>simp [hm]
  have s4:=s3.grow hjk hnd hfree3
  obtain⟨hFu,vs,te,hbu,hvu⟩:RR I w u (.box cs):=hr.res _ _ hu
  have hBu:I.B u≠g:=fun e=>hr.apart u id hne.1 g (by rw [hFu,e];simp) hb
  have hgj:∀ c∈Gv,c≠g:=fun c hc e=>hr.apart j id hne.2.2.symm g (e▸q2 c hc) hb
  have hC':C false (w.setRow g (x1++(ds++x3)++tl).toArray) (.sl k (rows.set i (row.take p++[tx]++row.drop (p+n)))) (I.hd id) (g::(F1++(Gv++F3))):=by
   unfold C
   refine⟨_,_,_,hg1,by simpa using g2,g3,g4,.inr ⟨g,0,F1++(Gv++F3),rfl,rfl,by rw [hsz];exact g6,fun h=>(by cases h),Rws.of (xs:=x1++(ds++x3)) (fun r hm=>?_) ?_ fun j u hj=>?_⟩⟩
   · rcases List.mem_or_eq_of_mem_set hm with hm|rfl
     · exact u1 r hm
     have h1:n=1:=by have h2:(cellsA A0).length=n:=hl';rw [hca] at h2;exact h2.symm
     simp only [List.length_append,List.length_take,List.length_drop,List.length_cons,List.length_nil]
     omega
   · rw [s2x]
     have ef:(rows.take i++(row.take p++[tx]++row.drop (p+n))::rows.drop (i+1)).flatten=((rows.take i).flatten++row.take p)++([tx]++(row.drop (p+n)++(rows.drop (i+1)).flatten)):=by simp
     rw [ef]
     have w1:Cs false w ((rows.take i).flatten++row.take p) x1 F1:=Cs.read v1
     have w2:Cs false w [tx] ds Gv:=by rw [e0];simp only [Cs];exact⟨c0,[],Gv,[],rfl,q1,⟨rfl,rfl⟩,by simp⟩
     have w3:Cs false w (row.drop (p+n)++(rows.drop (i+1)).flatten) x3 F3:=Cs.read v5
     exact (w1.congr fun c hc=>hoth c (hgF c (by simp [hc]))).append ((w2.congr fun c hc=>hoth c (hgj c hc)).append (w3.congr fun c hc=>hoth c (hgF c (by simp [hc]))))
   simp only [World.cell?,hset,Nat.zero_add]
   simp only [Option.isSome_none,Bool.false_eq_true,if_false,List.getElem?_toArray]
   rw [List.getElem?_append_left (List.getElem?_eq_some_iff.1 hj).1]
   exact hj
  refine⟨w.setRow g (x1++(ds++x3)++tl).toArray,?_,((I.set id [] (I.hd id) (I.B id)).set j ((I.set id [] (I.hd id) (I.B id)).F j++g::(F1++F3)) ((I.set id [] (I.hd id) (I.B id)).hd j) ((I.set id [] (I.hd id) (I.B id)).B j)),?_⟩
  · have hsz':(a.eval y).cells.size=n:=by rw [hd1];simpa using hdn'
    simp [execOp,ho,hv,Instr.storeAt,Instr.sureAddr,storeVar,tyB_size ht,hd1,hst]
    omega
  rw [hdn]
  have hFv:∀ c∈g::(F1++(Gv++F3)),c∈((I.set id [] (I.hd id) (I.B id)).set j ((I.set id [] (I.hd id) (I.B id)).F j++g::(F1++F3)) ((I.set id [] (I.hd id) (I.B id)).hd j) ((I.set id [] (I.hd id) (I.B id)).B j)).F j:=fun c hc=>by
   have hjj:(I.set id [] (I.hd id) (I.B id)).F j=I.F j:=by simp [Ip.set,hne.2.2.symm]
   simp only [Ip.set,if_true]
   have hjj:(if j=id then ([]:List Nat) else I.F j)=I.F j:=if_neg hne.2.2.symm
   rw [hjj]
   rcases List.mem_cons.1 hc with rfl|hc
   · simp
   rcases List.mem_append.1 hc with hc|hc
   · simp [hc]
   rcases List.mem_append.1 hc with hc|hc
   · exact List.mem_append_left _ (q2 c hc)
   simp [hc]
  have hvs:∀ {es:List E} {ws:List Value},VEs I w es ws→VEs ((I.set id [] (I.hd id) (I.B id)).set j ((I.set id [] (I.hd id) (I.B id)).F j++g::(F1++F3)) ((I.set id [] (I.hd id) (I.B id)).hd j) ((I.set id [] (I.hd id) (I.B id)).B j)) (w.setRow g (x1++(ds++x3)++tl).toArray) (es.map (frzW id j k (rows.set i (row.take p++[tx]++row.drop (p+n))))) ws:=by
   intro es
   induction es with
   | nil=>intro ws h;exact h
   | cons e0 es ih=>
    rintro ws ⟨c1,cr1,rfl,h1,h2⟩
    refine⟨c1,cr1,rfl,?_,ih h2⟩
    cases e0 with
    | t x0=>
     obtain⟨G0,k1,k2⟩:=h1
     exact⟨G0,k1.congr fun b hb0=>hoth b (fun e=>(hr.lt id g hb).2 (e▸k2 b hb0)),k2⟩
    | rf i0=>
     show VE _ _ (bif Nat.beq i0 id then _ else _) c1
     cases hbq:Nat.beq i0 id with
     | true=>
      have e1:=Nat.eq_of_beq_eq_true hbq
      subst e1
      exact⟨_,by rw [h1.1];exact hC',hFv⟩
     | false=>trivial
    | vw _ _=>trivial
    | pp _ _=>trivial
    | pr _ _ _ _=>trivial
    | sb _ _ _ _=>trivial
    | tl _ _ _=>trivial
    | pf _ _ _=>trivial
    | no=>trivial
  refine s4.keepR (u:=u) (r:=.box (cs.map (frzW id j k (rows.set i (row.take p++[tx]++row.drop (p+n)))))) ⟨?_,vs,te,?_,hvs hvu⟩ ⟨?_,fun c hc=>?_⟩
  · simpa [Ip.set,hne.1,hne.2.1] using hFu
  · simp only [Ip.set,if_neg hne.1,if_neg hne.2.1]
    rw [hoth _ hBu];exact hbu
  · simp only [Ip.set,if_neg hne.1,if_neg hne.2.1]
    exact (hr.own u _ hu).1
  have hc:c∈I.F u:=by simpa [Ip.set,hne.1,hne.2.1] using hc
  obtain⟨o1,cc,ee,o2⟩:=(hr.own u _ hu).2 c hc
  exact⟨o1,cc,ee,(hoth c (fun e=>hr.apart u id hne.1 c hc (e▸hb))).trans o2⟩
end
end Go.Q
