import Derived.Test.YtdhojcaoljhbiaaGreatB55xc
import Derived.Test.YtdhojcaoljhbiaaGreatAbs12xc
import Derived.Test.YtdhojcaoljhbiaaGreatOpenBxc
import Derived.Test.YtdhojcaoljhbiaaGreatB15xc
import Derived.Test.YtdhojcaoljhbiaaGreatB08xc
import Derived.Test.YtdhojcaoljhbiaaGreatAbsOxc
import Derived.Lib.Join
import Derived.Lib.ItoaNum
import Derived.Lib.SplitLaws
import Derived.Lib.Atoi
import Derived.WideLaws
import Derived.Test.YtdhojcaoljhbiaaGreatAbsHxc
import Derived.Shelf.Abstract
import Derived.Shelf.Strings.OnBuilder
import Derived.Shelf.Strconv.Itoa3
import Derived.Ground.NamesProg
import Derived.Shelf.Strings.SplitShaped
import Derived.Shelf.Strings.Shaped
import Derived.Shelf.Strings.Prefix
import Derived.Shelf.Small.Strs
import Derived.Shelf.Strconv.Atoi
import Derived.Shelf.Strconv.AtoiErr
import Derived.DeepKeys4
set_option linter.unusedVariables false
set_option linter.unusedSimpArgs false
set_option maxHeartbeats 1000000
set_option maxRecDepth 100000
open Nat renaming blt->Z9,beq->ZH,zero_add->ZJ,le_trans->ZR,ble->ZS,le_refl->ZZ,le_of_ble_eq_true->Aaa
open List renaming mem_append->ZA,getElem?_eq_some_iff->ZB,toArray->ZC,mem_singleton->ZD,getElem?_eq_getElem->ZE,nodup_nil->ZG,mem_cons->ZK,nodup_cons->ZL,nodup_append->ZM,map_cons->ZN,range->ZO,getD_eq_getElem?_getD->ZP,length_cons->ZT,mem_flatMap->ZU,mem_of_getElem?->ZW,append_nil->ZX,length_take->ZY,mem_filterMap->Aae,nil_append->Aah,drop_drop->Aai,getElem?_drop->Aaj,drop_append->Aam,map_nil->Aar,flatMap_cons->Aas,eq_nil_of_length_eq_zero->Aat,length_map->Aau,map_map->Aaw,any_cons->Aay
open UInt8 renaming ofNat->ZF
open Array renaming getElem?_eq_some_iff->ZI,replicate->Aab,getD_eq_getD_getElem?->Aac,getElem?_append_left->Aad,getElem?_eq_getElem->Aaf
open ByteArray renaming ext->ZQ,data_append->Aak,size->Aal
open Go.Value renaming agg->ZV,pointer->Aaz
open Go.Proofs.Tryz renaming prog->Aan,underlying5->Aao,underlying22->Aap,underlying200->Aaq,func186->Aba,ntmps186->Abb,underlying3->Abc,underlying9->Abd,func185->Abe,ntmps185->Abf
namespace Go.Q
open Go.RowKit Go.Proofs.YtdhojcaoljhbiaaGreat
theorem Yi {I:Ip} {w:World} {b:Nat}:∀ (xs:List T) (vs:List Value) (off:Nat),VEs I w (xs.map .t) vs→(∀ j v,vs[j]?=some v→w.cell? ⟨b,off+j,none⟩=some v)→∃ G,Ms false w b off xs G∧∀ q∈G,I.Z q
 | [],_,_,_,_=>⟨[],by simp only [Ms],by simp⟩
 | x::xs,vs,off,⟨c,cr,e,⟨G1,k1,k2⟩,h3⟩,hc=>by
  subst e
  obtain⟨G2,g1,g2⟩:=Yi xs cr (off+1) h3 fun j v hj=>by
   have:=hc (j+1) v (by simpa using hj)
   rwa [show off+(j+1)=off+1+j by omega] at this
  refine⟨G1++G2,?_,fun q hq=>?_⟩
  · simp only [Ms]
    exact⟨c,G1,G2,hc 0 c rfl,k1,g1,rfl⟩
  rcases ZA.1 hq with hq|hq
  · exact k2 q hq
  exact g2 q hq
theorem Le.frz (id d:Nat) {n:Nat} {sl:List (Nat×(Bool×S))} {rs:List (Nat×R)} {xs:List T} {cs:List E} (h1:look rs id=some (.box cs)) (hcs:cs=xs.map .t) (h2:look sl d=some (true,.a (.one (.pp id 0)))) :
 Le ⟨n,sl,rs⟩ ⟨n,(d,(true,.a (.one (.t (.ad xs)))))::((⟨n,sl,rs⟩:St).chg id (.hdr none undef)).slots,((⟨n,sl,rs⟩:St).chg id (.hdr none undef)).res⟩:=by
 rintro w0 a w ⟨I,hr⟩
 subst hcs
 have hbox:=hr.res id _ h1
 obtain⟨hF,vs,e,hb,hvs⟩:=hbox
 have hpp:VS I w (true,.a (.one (.pp id 0))) (a.tmps.getD d undef):=hr.slots d _ h2
 have hpp:a.tmps.getD d undef=.pointer (some ⟨I.B id,0,none⟩):=hpp
 have hlt:I.B id<w.heap.size:=(ZI.1 hb).1
 have s1:=hr.chg h1 (Chg.refl w _) (G:=[]) (u:=undef) (r:=.hdr none undef) ⟨ZG,by simp⟩ ⟨by simp [Ip.set],fun i h=>by cases h⟩
 have hno:∀ i,I.B id∉(I.set id [] undef (I.B id)).F i:=fun i hi=>by
  by_cases e:i=id
  · subst e;simp [Ip.set] at hi
  simp only [Ip.set,if_neg e] at hi
  exact hr.apart i id e _ hi (by rw [hF];simp)
 have s2:=s1.also (G:=[I.B id]) fun b hb'=>by
  rw [ZD] at hb';subst hb'
  exact⟨hlt,hno⟩
 obtain⟨G,g1,g2⟩:=Yi (b:=I.B id) xs vs 0 hvs fun j v hj=>by
  rw [ZJ]
  simp [World.cell?,hb,hj]
 refine⟨_,⟨s2.ext,s2.defers,s2.size,fun i x hx=>?_,s2.res,s2.old,s2.lt,s2.own,s2.apart⟩⟩
 rw [AF] at hx
 by_cases ei:d=i
 · rw [if_pos ei] at hx
   cases hx
   subst ei
   refine⟨I.B id::G,?_,fun b hb'=>?_⟩
   · rw [hpp]
     simp only [C]
     exact⟨I.B id,0,G,rfl,rfl,hlt,g1⟩
   rcases ZK.1 hb' with rfl|hb'
   · exact .inr (by simp)
   exact .inl (g2 b hb')
 rw [if_neg ei] at hx
 exact s2.slots i x hx
theorem Le.frzR (id d:Nat) {n k:Nat} {sl:List (Nat×(Bool×S))} {rs:List (Nat×R)} {rows:List (List T)} (h1:look rs id=some (.row k rows)) (h2:look sl d=some (true,.a (.one (.rf id)))) :
 Le ⟨n,sl,rs⟩ ⟨n,(d,(true,.a (.one (.t (.sl k rows)))))::((⟨n,sl,rs⟩:St).chg id (.hdr none undef)).slots,((⟨n,sl,rs⟩:St).chg id (.hdr none undef)).res⟩:=by
 rintro w0 a w ⟨I,hr⟩
 have hC:C true w (.sl k rows) (I.hd id) (I.F id):=hr.res id _ h1
 have hv:VS I w (true,.a (.one (.rf id))) (a.tmps.getD d undef):=hr.slots d _ h2
 obtain⟨hv,_⟩:VE I w (.rf id) (a.tmps.getD d undef):=hv
 have s1:=hr.chg h1 (Chg.refl w _) (G:=[]) (u:=undef) (r:=.hdr none undef) ⟨ZG,by simp⟩ ⟨by simp [Ip.set],fun i h=>by cases h⟩
 have s2:=s1.also (G:=I.F id) fun b hb=>by
  refine⟨(hr.lt id b hb).1,fun i hi=>?_⟩
  by_cases e:i=id
  · subst e;simp [Ip.set] at hi
  simp only [Ip.set,if_neg e] at hi
  exact hr.apart i id e _ hi hb
 refine⟨_,⟨s2.ext,s2.defers,s2.size,fun i x hx=>?_,s2.res,s2.old,s2.lt,s2.own,s2.apart⟩⟩
 rw [AF] at hx
 by_cases ei:d=i
 · rw [if_pos ei] at hx
   cases hx
   subst ei
   exact⟨I.F id,by rw [hv];exact hC.read,fun b hb=>.inr hb⟩
 rw [if_neg ei] at hx
 exact s2.slots i x hx
section
variable {P:Program} {ops:Array Oper} {o:Oper} {σ:St}
end
section
variable {P:Program} {ops:Array Oper} {o:Oper} {σ:St} {q:Bool}
theorem Ps {op:BinOp} {t:TypeId} {x y:Operand} {a b:ByteArray} (w:World):(eqGuard op t x y (.string a) (.string b)).run P w=.ok () w:=by
 unfold eqGuard;split<;>rfl
theorem Ys (a b:ByteArray):(a.toList == b.toList)=decide (a=b):=by
 rw [Bool.eq_iff_iff,beq_iff_eq,decide_eq_true_eq]
 exact⟨fun h=>by
  rw [ByteArray.toList_eq,ByteArray.toList_eq] at h
  exact ZQ (Array.toList_inj.1 h),fun h=>by rw [h]⟩
theorem Se {t t':TypeId} {x y:Operand} {a b:ByteArray} (ho:o.op=.binOp .add t x y t') (hg:Grd ops o σ q) (hd:o.dst.all (fun d=>Z9 d σ.n)=true) (hx:Get σ q x (.one (.t (.v (.string a))))) (hy:Get σ q y (.one (.t (.v (.string b)))))
 (hb:q=true→a.size+b.size≤9223372036854775807):Op1 P ops o σ (σ.put o.dst (q,.a (.one (.t (.v (.string (a++b))))))):=
 D9 ho hg hd hx hy Ps (h:=fun hq w=>by
  have:=hb hq
  simp only [binOp,Op.stringOp]
  rw [if_neg (show ¬ (((a.size+b.size:Nat):Int)>IntKind.i64.max) by rw [show IntKind.i64.max=9223372036854775807 from rfl];omega)]
  rfl)
theorem Uf {t t':TypeId} {x y:Operand} {a b:ByteArray} (ho:o.op=.binOp .eql t x y t') (hg:Grd ops o σ q) (hd:o.dst.all (fun d=>Z9 d σ.n)=true) (hx:Get σ q x (.one (.t (.v (.string a))))) (hy:Get σ q y (.one (.t (.v (.string b))))) :
 Op1 P ops o σ (σ.put o.dst (q,.a (.one (.t (.v (.bool (decide (a=b)))))))):=
 D9 ho hg hd hx hy Ps (h:=fun hq w=>by simp only [binOp,Op.stringOp,Ys];rfl)
theorem FK {t:TypeId} {x y:Operand} {s:ByteArray} {n:Int} {b:UInt8} (ho:o.op=.index t x y) (hg:Grd ops o σ q) (hd:o.dst.all (fun d=>Z9 d σ.n)=true) (hx:Get σ q x (.one (.t (.v (.string s))))) (hy:Get σ q y (.one (.t (.v (.int .i64 n)))))
 (hu:P.underlying t=some .string) (hi:q=true→0≤n∧s[n.toNat]?=some b):Op1 P ops o σ (σ.put o.dst (q,.a (.one (.t (.v (.int .u8 b.toNat)))))):=
 .val hg hd fun I w0 a w hr hq=>⟨_,by
  obtain⟨h0,h1⟩:=hi hq
  simp [execOp,ho,hx.int hr hq,hy.int hr hq,Instr.index,asIntOf,run_underlying hu,h0,h1],Ka _⟩
theorem Ox {t:TypeId} {x:Operand} {lo hi:Option Operand} {n m:Nat} {s:ByteArray} (ho:o.op=.slice t x lo hi none) (hg:Grd ops o σ q) (hd:o.dst.all (fun d=>Z9 d σ.n)=true) (hx:Get σ q x (.one (.t (.v (.string s)))))
 (hl:Bnd σ q lo 0 n) (hh:Bnd σ q hi s.size m) (hu:P.underlying t=some .string) (hb:q=true→n≤m∧m≤s.size):Op1 P ops o σ (σ.put o.dst (q,.a (.one (.t (.v (.string (s.extract n m))))))):=
 .val hg hd fun I w0 a w hr hq=>⟨_,by
  obtain⟨b1,b2⟩:=hb hq
  have b3:n≤s.size:=ZR b1 b2
  have hs:=hx.int hr hq
  have hlo:=hl.val hr hq
  have hhi:=hh.val hr hq
  rcases hlo with ⟨e1,rfl⟩|e1<;>rcases hhi with ⟨e2,rfl⟩|e2<;>simp [execOp,ho,hs,e1,e2,Instr.sliceAt,Instr.slice,run_underlying hu,Instr.sliceBounds,Instr.sliceBound,asIntOf,b1,b2,b3],Ka _⟩
end
section
variable {P:Program} {ops:Array Oper} {o:Oper} {σ:St}
theorem UK {d nid hid k:Nat} {c0:Value} {rows:List (List T)} (h:Op1 P ops o σ (σ.put o.dst (true,.a (.one (.t (.v c0)))))) (hdst:o.dst=some d) (hh:look σ.res hid=some (.hdr (some nid) c0)) (hs:look σ.res nid=some (.row k rows)) :
 Op1 P ops o σ (σ.put o.dst (true,.a (.one (.rf nid)))):=fun w0 a w hr K Q hK=>h w0 a w hr K Q fun a' w' hr'=>hK a' w' (by
 rw [hdst] at hr' ⊢
 obtain⟨I,g⟩:=hr'
 refine⟨I,g.ext,g.defers,g.size,fun i x hi=>?_,g.res,g.old,g.lt,g.own,g.apart⟩
 have hi2:look ((d,(true,S.a (.one (.rf nid))))::σ.slots) i=some x:=hi
 clear hi
 rw [AF] at hi2
 by_cases e:d=i
 · subst e
   rw [if_pos rfl] at hi2
   cases hi2
   have h1:VS I w' (true,.a (.one (.t (.v c0)))) (a'.tmps.getD d undef):=g.slots d _ (by show look ((d,_)::σ.slots) d=_;rw [AF,if_pos rfl])
   obtain⟨G,k1,_⟩:VE I w' (.t (.v c0)) (a'.tmps.getD d undef):=h1
   simp only [C] at k1
   have k2:I.hd nid=c0:=(g.res _ _ hh).2 nid rfl
   have hC:C true w' (.sl k rows) (I.hd nid) (I.F nid):=g.res nid _ hs
   simp only [C] at hC
   obtain⟨a1,l1,c1,e1,_⟩:=hC
   exact show VE I w' (.rf nid) _ from ⟨by rw [k1.1,k2],a1,l1,c1,by rw [k1.1,←k2,e1]⟩
 rw [if_neg e] at hi2
 exact g.slots i x (by show look ((d,_)::σ.slots) i=_;rw [AF,if_neg e];exact hi2))
theorem C2 {d nid hid k2:Nat} {c0:Value} {rows2:List (List T)} {id k i p:Nat} {t:TypeId} {x:Operand} {rows:List (List T)} {row:List T} {ag:Bool} {n:Nat} (ho:o.op=.load t x) (hg:Grd ops o σ true) (hd:o.dst.all (fun d=>Z9 d σ.n)=true) (hx:Get σ true x (.one (.pr id k i p))) (hs:look σ.res id=some (.row k rows)) (hi:rows[i]?=some row) (ht:tyB P t ag n=true)
 (hn:ZS (p+n) row.length=true) (h1:(ag||ZH n 1)=true) (hc:mkA ag (((row.drop p).take n).map (toE id))=.one (.t (.v c0))) (hdst:o.dst=some d) (hh:look σ.res hid=some (.hdr (some nid) c0)) (hs2:look σ.res nid=some (.row k2 rows2)) :
 Op1 P ops o σ (σ.put o.dst (true,.a (.one (.rf nid)))):=
 UK (c0:=c0) (by have:=Ca ho hg hd hx hs hi ht hn h1;rw [hc] at this;exact this) hdst hh hs2
end
section
variable {P:Program} {ops:Array Oper} {o:Oper} {σ:St} {q:Bool}
theorem Ra {w:World} {n:Int} {v:Value} {G:List Nat} (h:C false w (.sl 1 [[.v (.int .u8 n)]]) v G):(Conv.bytesToString v).run P w=.ok (.string ⟨#[ZF n.toNat]⟩) w:=by
 simp only [C] at h
 obtain⟨a,len,cap,rfl,e1,e2,e3,e4⟩:=h
 have e1:len=1:=by simpa using e1.symm
 subst e1
 rcases e4 with ⟨h0,_⟩|⟨b,off,G',rfl,_,hb,_,hR⟩
 · omega
 simp only [Rws,Ms,C] at hR
 obtain⟨_,_,_,⟨c,_,_,hc,⟨rfl,_⟩,_⟩,_⟩:=hR
 have hl:=run_loadCells_list (P:=P) w ⟨b,off,none⟩ [.int .u8 n] (fun j u hj=>by
  cases j with
  | zero=>cases hj;rw [Addr.add_lit];simpa using hc
  | succ j=>cases hj)
 simp only [List.length_singleton] at hl
 simp [Conv.bytesToString,hl]
 rfl
theorem UL {t t' e:TypeId} {x:Operand} {n:Int} (ho:o.op=.convert t t' x) (hg:Grd ops o σ q) (hd:o.dst.all (fun d=>Z9 d σ.n)=true) (hx:Get σ q x (.one (.t (.sl 1 [[.v (.int .u8 n)]]))))
 (hu:P.underlying t=some (.slice e)) (he:P.underlying e=some (.int .u8)) (hu':P.underlying t'=some .string):Op1 P ops o σ (σ.put o.dst (q,.a (.one (.t (.v (.string ⟨#[ZF n.toNat]⟩)))))):=
 .val hg hd fun I w0 a w hr hq=>by
  obtain⟨G,h1,_⟩:VE I w (.t (.sl 1 [[.v (.int .u8 n)]])) (a.eval x):=hx.va hr hq
  have hb:=Ra (P:=P) h1
  have hs:=h1
  simp only [C] at hs
  obtain⟨ad,len,cap,e0,_⟩:=hs
  exact⟨_,by
   rw [e0] at hb
   simp [execOp,ho,e0,Go.convert,run_underlying hu,run_underlying hu',run_underlying he,hb],Ka _⟩
end
theorem Le.putR {σ:St} {nid hid id k i p k2:Nat} {c0:Value} {rows rows2:List (List T)} {row:List T} (hh:look σ.res hid=some (.hdr (some nid) c0)) (hn:look σ.res nid=some (.row k2 rows2)) (hs:look σ.res id=some (.row k rows)) (hi:rows[i]?=some row) (hp:row[p]?=some (.v c0))
 (e1:ZH id nid=false) (e2:ZH id hid=false) (e3:ZH nid hid=false):Le σ (((σ.kill hid).kill nid).upd id (.row k (rows.set i (row.take p++.sl k2 rows2::row.drop (p+1))))):=by
 rintro w0 a w ⟨I,hr⟩
 have hc:I.hd nid=c0:=(hr.res _ _ hh).2 nid rfl
 have hC2:C true w (.sl k2 rows2) (I.hd nid) (I.F nid):=hr.res nid _ hn
 have own2:=hr.own nid _ hn
 have ap:=hr.apart id nid (BT e1)
 obtain⟨q1,_,_⟩:=hr.kill hh
 have hn':=JI (BT e3) hn
 obtain⟨q2,qf,_⟩:=q1.kill hn'
 have hs':=JI (BT e1) (JI (BT e2) hs)
 have hC:C true w (.sl k rows) _ _:=hr.res id _ hs
 have own:=hr.own id _ hs
 simp only [C] at hC
 obtain⟨a0,len,cap,g1,g2,g3,g4,g5⟩:=hC
 have hlti:i<rows.length:=(ZB.1 hi).1
 rcases g5 with ⟨g5,_⟩|⟨g,off,Gr,rfl,hF,g6,g7,g8⟩
 · omega
 obtain⟨rfl,cur,e,hcur,hcs⟩:=g7 trivial
 have hF2:((I.set hid [] (I.hd hid) (I.B hid)).set nid [] ((I.set hid [] (I.hd hid) (I.B hid)).hd nid) ((I.set hid [] (I.hd hid) (I.B hid)).B nid)).F id=g::Gr:=by
  simp only [Ip.set,if_neg (BT e1),if_neg (BT e2)];exact hF
 have hF1:(I.set hid [] (I.hd hid) (I.B hid)).F nid=I.F nid:=by simp only [Ip.set,if_neg (BT e3)]
 have hhd:((I.set hid [] (I.hd hid) (I.B hid)).set nid [] ((I.set hid [] (I.hd hid) (I.B hid)).hd nid) ((I.set hid [] (I.hd hid) (I.B hid)).B nid)).hd id=I.hd id:=by
  simp only [Ip.set,if_neg (BT e1),if_neg (BT e2)]
 rw [hF] at own ap
 obtain⟨u1,xs,u2,u3,u4⟩:=g8.flat
 simp only [ZJ] at u4
 obtain⟨p1,_⟩:=FD (.v c0:T) hp
 have hrk:row.length=k:=u1 row (ZW hi)
 have hpl:p<row.length:=(ZB.1 hp).1
 have s1:=(FD row hi).1
 have x0:rows.flatten=((rows.take i).flatten++row.take p)++([.v c0]++(row.drop (p+1)++(rows.drop (i+1)).flatten)):=by
  conv=>lhs;rw [s1,p1]
  simp
 rw [x0] at u2
 obtain⟨x1,x23,F1,F23,rfl,rfl,v1,v2,v3⟩:=u2.split
 obtain⟨x2,x3,F2,F3,rfl,rfl,v4,v5,v6⟩:=v2.split
 match x2,v6 with
 | [c],_=>
 rw [Cs] at v4
 obtain⟨c',cr,G1,G2,ec,y1,y2,rfl⟩:=v4
 cases ec
 rw [Cs] at y2
 obtain⟨_,rfl⟩:=y2
 simp only [C] at y1
 obtain⟨rfl,rfl,_⟩:=y1
 simp only [Aah,ZX] at *
 have hnd:=ZL.1 own.1
 obtain⟨d1,d3,d13⟩:=ZM.1 hnd.2
 have apb:∀ b,b∈g::(F1++F3)→b∉I.F nid:=fun b hb=>ap b hb
 refine⟨_,q2.upd (G:=g::(F1++(I.F nid++F3))) (r:=.row k (rows.set i (row.take p++.sl k2 rows2::row.drop (p+1)))) hs' (Chg.refl w _) ⟨ZL.2 ⟨fun hm=>?_,ZM.2 ⟨d1,ZM.2 ⟨own2.1,d3,fun b hb b' hb' ee=>?_⟩,fun b hb b' hb' ee=>?_⟩⟩,fun b hb=>?_⟩ ?_⟩
 · rcases ZA.1 hm with hm|hm
   · exact hnd.1 (by simp [hm])
   rcases ZA.1 hm with hm|hm
   · exact apb g (by simp) hm
   exact hnd.1 (by simp [hm])
 · subst ee
   exact apb b (by simp [hb']) hb
 · subst ee
   rcases ZA.1 hb' with hb'|hb'
   · exact apb b (by simp [hb]) hb'
   exact d13 b hb b hb' rfl
 · have hcase:b∈g::(F1++F3)∨b∈I.F nid:=by
    rcases ZK.1 hb with rfl|hb
    · exact .inl (by simp)
    rcases ZA.1 hb with hb|hb
    · exact .inl (by simp [hb])
    rcases ZA.1 hb with hb|hb
    · exact .inr hb
    exact .inl (by simp [hb])
   rcases hcase with hb|hb
   · obtain⟨o1,cc,ee,o2⟩:=own.2 b hb
     exact⟨o1,(ZI.1 o2).1,⟨cc,ee,o2⟩,.inl (by rw [hF2];exact hb)⟩
   obtain⟨o1,cc,ee,o2⟩:=own2.2 b hb
   exact⟨o1,(ZI.1 o2).1,⟨cc,ee,o2⟩,.inr (.inr (qf b (by rw [hF1];exact hb)))⟩
 show C true _ _ _ _
 simp only [Ip.set,if_true]
 rw [if_neg (BT e1),if_neg (BT e2)]
 unfold C
 refine⟨_,_,_,g1,by simpa using g2,g3,g4,.inr ⟨g,0,F1++(I.F nid++F3),rfl,rfl,g6,fun _=>⟨rfl,cur,e,hcur,hcs⟩,Rws.of (xs:=x1++([I.hd nid]++x3)) (fun r hm=>?_) ?_ fun j u hj=>?_⟩⟩
 · rcases List.mem_or_eq_of_mem_set hm with hm|rfl
   · exact u1 r hm
   simp only [List.length_append,ZY,ZT,List.length_drop]
   omega
 · rw [(FD (row.take p++.sl k2 rows2::row.drop (p+1)) hi).2]
   have ef:(rows.take i++(row.take p++.sl k2 rows2::row.drop (p+1))::rows.drop (i+1)).flatten=((rows.take i).flatten++row.take p)++([.sl k2 rows2]++(row.drop (p+1)++(rows.drop (i+1)).flatten)):=by simp
   rw [ef]
   refine v1.append (Cs.append ?_ v5)
   simp only [Cs]
   exact⟨_,_,_,_,rfl,hC2,⟨rfl,rfl⟩,by simp⟩
 rw [hc] at hj
 simp only [ZJ]
 exact u4 j u hj
open Go.D
theorem Ro {α:Type} [DecidableEq α]:∀ {l r:List α},l.Nodup→(∀ x∈l,x∈r)→l.length≤r.length
 | [],_,_,_=>Nat.zero_le _
 | a::l,r,h,hs=>by
  have h2:=ZL.1 h
  have ha:=hs a (by simp)
  have:=Ro (l:=l) (r:=r.erase a) h2.2 fun x hx=>(List.mem_erase_of_ne (fun e=>h2.1 (by rw [←e];exact hx))).2 (hs x (by simp [hx]))
  rw [List.length_erase_of_mem ha] at this
  have hp:=List.length_pos_of_mem ha
  simp only [ZT];omega
theorem Pw {α:Type} {l r:List α} {m m':Nat} (h:r.drop m=l.drop m) (hm:m≤m'):r.drop m'=l.drop m':=by
 have:m'=m+(m'-m):=by omega
 rw [this,←Aai,←Aai,h]
theorem VU {α:Type} {c:α→List T} {R l:List α} {k:Nat} {z:List (List T)} (h:R.take k=l) (hk:k≤R.length):((R.map c).take k++z).take k=l.map c:=by
 rw [List.take_append_of_le_length (by simp;omega),List.take_take,Nat.min_self,←List.map_take,h]
theorem VR {α:Type} {l r:List α} {m i:Nat} (h:r.drop m=l.drop m) (hi:m≤i):r[i]?=l[i]?:=by
 have e1:r[i]?=(r.drop m)[i-m]?:=by rw [Aaj];congr 1;omega
 have e2:l[i]?=(l.drop m)[i-m]?:=by rw [Aaj];congr 1;omega
 rw [e1,e2,h]
theorem UZ {α:Type} {r:List α} {k:Nat} {x:α} (h:k<r.length):(r.set k x).take (k+1)=r.take k++[x]:=by
 rw [CO (l:=r.set k x) (i:=k) (x:=x) (by rw [List.getElem?_set_self h]),List.take_set_of_le (ZZ _)]
theorem Va {α:Type} {r:List α} {k m:Nat} {x:α} (h:k<m):(r.set k x).drop m=r.drop m:=by
 rw [List.drop_set,if_pos h]
theorem Jp {α:Type} {p:α→Bool} {l:List α} {k:Nat} {x:α} (h:l[k]?=some x):(l.take (k+1)).filter p=(l.take k).filter p++if p x then [x] else []:=by
 rw [CO h,List.filter_append]
 cases hp:p x<;>simp [hp]
theorem Od {α:Type} (p:α→Bool):∀ (l:List α) (m:Nat),(GQ p l m=-1∧∀ x∈l,p x=false)∨∃ (k:Nat) (x:α),l[k]?=some x∧p x=true∧GQ p l m=((m+k:Nat):Int)∧∀ y∈l.take k,p y=false
 | [],m=>.inl ⟨rfl,by simp⟩
 | z::l,m=>by
  rw [GQ]
  cases hz:p z with
  | true=>exact .inr ⟨0,z,rfl,hz,by simp,by simp⟩
  | false=>
   rw [if_neg (by simp)]
   rcases Od p l (m+1) with ⟨h1,h2⟩|⟨k,x,h1,h2,h3,h4⟩
   · refine .inl ⟨h1,fun x hx=>?_⟩
     rcases ZK.1 hx with rfl|hx
     · exact hz
     exact h2 x hx
   refine .inr ⟨k+1,x,by simpa using h1,h2,by rw [h3];omega,fun y hy=>?_⟩
   rw [List.take_succ_cons] at hy
   rcases ZK.1 hy with rfl|hy
   · exact hz
   exact h4 y hy
theorem M1 {α:Type} {p:α→Bool} {l:List α} (h:∀ x∈l,p x=false):(l.filter fun x=>!p x)=l:=List.filter_eq_self.2 fun x hx=>by rw [h x hx];rfl
def bs (l:List UInt8):ByteArray:=⟨l.toArray⟩
theorem LU (l m:List UInt8):bs l++bs m=bs (l++m):=by
 apply ZQ
 rw [Aak]
 simp [bs]
theorem OJ (O:ByteArray):bs []++O=O:=by
 apply ZQ
 rw [Aak]
 simp [bs]
theorem Iy (l:List UInt8):(bs l).size=l.length:=by simp [bs,Aal]
theorem Qv (l:List UInt8):(bs l).data.toList=l:=by simp [bs]
theorem Wb {l m:List UInt8} (h:bs l=bs m):l=m:=by rw [←Qv l,←Qv m,h]
def SC (n:Int):List UInt8:=Lib.decDigits n.toNat
theorem JN {n:Nat} (h:n<10):Lib.decDigits n=[ZF (48+n)]:=by rw [Lib.decDigits,dif_pos h]
theorem RB {n:Nat} (h:10≤n):Lib.decDigits n=Lib.decDigits (n / 10)++[ZF (48+n%10)]:=by rw [Lib.decDigits,dif_neg (by omega)]
theorem X3 {n:Nat} (h:n<100):1≤(Lib.decDigits n).length∧(Lib.decDigits n).length≤2:=by
 by_cases h1:n<10
 · rw [JN h1];simp
 rw [RB (by omega),JN (by omega)];simp
theorem Rn {n:Int} (h:n<100):1≤(SC n).length∧(SC n).length≤2:=X3 (by omega)
def OY (n:Nat):List UInt8:=if n=0 then [] else Lib.decDigits n
theorem S6 {n:Nat} (h:n≠0):OY n=OY (n / 10)++[ZF (48+n%10)]:=by
 unfold OY
 rw [if_neg h]
 by_cases h1:n<10
 · rw [JN h1,if_pos (by omega),Nat.mod_eq_of_lt h1];rfl
 rw [RB (by omega),if_neg (by omega)]
def Qu (s:List UInt8):List T:=[.v (.string (bs s))]
end Go.Q
namespace Go.D
open Go.Q
end Go.D
namespace Go.Q
open Go.D Go.Proofs.YtdhojcaoljhbiaaGreat
open Go.RowKit
def Ji:List (List UInt8):=[[97],[97,45],[98],[98,45],[99],[99,45],[48],[49],[50]]
def NN (k:Int):List UInt8:=Ji[k.toNat]?.getD []
theorem V2 {k:Int} (h0:0≤k) (h8:k≤8):(Ji.map Qu)[k.toNat]?=some (Qu (NN k)):=by
 have hk:k.toNat<Ji.length:=by simp [Ji];omega
 rw [List.getElem?_map,ZE hk]
 unfold NN
 rw [ZE hk];rfl
def CY (c:UInt8):List UInt8→List (List UInt8)
 | []=>[[]]
 | b::l=>if b=c then []::CY c l else (b::(CY c l).headD [])::(CY c l).tail
theorem OU {c:UInt8}:∀ {l:List UInt8},c∉l→CY c l=[l]
 | [],_=>rfl
 | b::l,h=>by
  unfold CY
  rw [if_neg (fun e=>h (by simp [e])),OU fun hm=>h (by simp [hm])]
  rfl
theorem Nw {c:UInt8} {r:List UInt8}:∀ {l:List UInt8},c∉l→CY c (l++c::r)=l::CY c r
 | [],_=>by rw [Aah,CY,if_pos rfl]
 | b::l,h=>by
  rw [List.cons_append,CY,if_neg (fun e=>h (by simp [e])),Nw fun hm=>h (by simp [hm])]
  rfl
theorem Nv (c:UInt8):∀ l:List UInt8,(CY c l).length=l.count c+1
 | []=>rfl
 | b::l=>by
  unfold CY
  have ih:=Nv c l
  split
  · rename_i h;subst h;rw [ZT,ih,List.count_cons_self]
  rename_i h
  rw [ZT,List.length_tail,ih,List.count_cons_of_ne (by simpa using h)];omega
theorem VT {c b:UInt8} {l:List UInt8} {O:List (List UInt8)} {F i:Nat} (hb:l[i]?=some b) (hi:F≤i∧i≤l.length∧c∉(l.take i).drop F∧O.length≤i) (hbe:b=c) (he:CY c l=O++CY c (l.drop F)) :
 CY c l=(O++[(l.take i).drop F])++CY c (l.drop (i+1)):=by
 subst hbe
 have hl:=(ZB.1 hb).1
 have e:l.drop F=(l.take i).drop F++b::l.drop (i+1):=by
  conv=>lhs;rw [←List.take_append_drop i l]
  rw [Aam,ZY,show F-min i l.length=0 by omega,List.drop_zero,List.drop_eq_getElem_cons hl,(ZB.1 hb).2]
 rw [he,e,Nw hi.2.2.1]
 simp
theorem VV {c b:UInt8} {l:List UInt8} {O:List (List UInt8)} {F i:Nat} (hb:l[i]?=some b) (hi:F≤i∧i≤l.length∧c∉(l.take i).drop F∧O.length≤i) (hbe:b≠c):c∉(l.take (i+1)).drop F:=by
 have hl:=(ZB.1 hb).1
 rw [List.take_add_one,hb,Aam,ZY]
 intro h
 rcases ZA.1 h with h|h
 · exact hi.2.2.1 h
 rw [show F-min i l.length=0 by omega] at h
 simp at h
 exact hbe h.symm
theorem LS (l:List UInt8) (n:Nat):(bs l)[n]?=l[n]?:=by
 show (bs l).data[n]?=l[n]?
 simp [bs]
theorem KE (l:List UInt8) (n m:Nat):(bs l).extract n m=bs ((l.take m).drop n):=by
 apply ZQ
 rw [ByteArray.data_extract]
 apply Array.ext'
 rw [Array.toList_extract,List.extract_eq_take_drop,Qv]
 simp only [bs]
 rw [List.drop_take]
section
variable {P:Program} {ops:Array Oper} {o:Oper} {σ:St} {q:Bool}
theorem XN {n:Int} (h:-9223372036854775808≤n∧n≤9223372036854775807):IntKind.i64.wrap n=n:=Gn h
def FrE (P:Program) (f:FuncId) (ins:List V0) (Out:V→Prop):Prop:=Ek P f∧∀ w vs F,Good w []→V0s false w ins vs F→Calls P f (ZC vs) w fun e w'=>∃ out,Out out∧Q8 w out e w'
theorem XI {f:FuncId} {l:List Operand} {tys:Array TypeId} {ins:List V0} {Out:V→Prop} (h:FrE P f ins Out) (ho:o.op=.call { callee:=.value (.func f),args:=l.toArray,argTypes:=tys }) (hg:o.guard=none) (hd:o.dst.all (fun d=>Z9 d σ.n)=true)
 (ha:L0 σ true l ins):OpE P ops o σ fun σ'=>∃ out,Out out∧σ'=σ.put o.dst (true,inS out):=by
 rintro w0 a w ⟨I,hr⟩ K Q hK
 simp only [Region.wanted,hg,if_true]
 obtain⟨F,hF⟩:=ha.ok hr rfl
 unfold Oper.wp
 rw [Et h.1 ho]
 refine (h.2 w _ F hr.good hF).mono fun e w' hR=>?_
 obtain⟨out,hout,v,G,rfl,h1,h3,h4⟩:=hR
 have hr':=(hr.later h4).also (G:=G) fun b hb=>⟨Vr.lt h1 b hb,fun i hi=>by have:=(hr.lt i b hi).1;have:=h3 b hb;omega⟩
 exact hK _ _ _ ⟨out,hout,rfl⟩ ⟨_,hr'.put hd (Qy h1 fun b hb=>.inr hb)⟩
end
section
variable {P:Program} {ops:Array Oper} {o:Oper} {σ:St} {q:Bool}
end
section
variable {P:Program} {ops:Array Oper} {o:Oper} {σ:St}
inductive YL (σ:St):List Operand→List E→Prop where
 | nil:YL σ [] []
 | cons {x:Operand} {e:E} {l:List Operand} {es:List E} (hx:Get σ true x (.one e)) (h:YL σ l es):YL σ (x::l) (e::es)
end
open Go.Shelf
theorem Kg (n:Int) (h0:0≤n) (h1:n<100):FnT Aan 186 [.one (.v (.int .i64 n))] (.a (.one (.v (.string (bs (SC n)))))):=by
 obtain⟨n0,rfl⟩:=Int.eq_ofNat_of_zero_le h0
 refine A8 Aba U (by kernel_rfl) Abb U fun hlen w0=>?_
 try simp at hlen
 have hn0:n0<100:=by omega
 refine Af (An ?_);refine Aa (Ae (Af (Ab ?_)));refine Bw ?_;refine Aa (Ai (.tm U) (fun h7=>?_) (fun h7=>?_))
 · try simp at h7
   refine Af (An ?_);refine Aa (Aq (Bl U U ?_))
   (have e:n0=0:=(by omega);subst e;unfold SC;rw [JN (by simp)];rfl)
 try simp at h7
 refine Am (Af (An ?_));refine Aa (Af (Ab ?_));refine D7 ?_;refine Ah ?_;refine Aa (Ae (AW.block (Cp (fun (m:Nat) (O:ByteArray)=>(m<100∧O.size+2*m≤1000)∧bs (OY n0)=bs (OY m)++O) (fun (m:Nat) (O:ByteArray)=>⟨_,[(0,(true,.a (.one (.t (.v (.int .i64 (m:Nat))))))),(3,(true,.a (.one (.t (.v (.string O)))))),(2,_),(4,_)],[]⟩) (fun (m:Nat) (O:ByteArray)=>m) (n0) (⟨#[]⟩) ⟨⟨by omega,by simp [Aal];omega⟩,(by rw [show (⟨#[]⟩:ByteArray)=bs [] from U,LU,ZX])⟩ (Au U ⟨U,U,U,U,Y⟩ trivial) ?_)))
 rintro m O ⟨hk,he⟩
 refine Ae (Af (Ab ?_));refine AWl.nc ?_;refine Aa (Ai (.tm U) (fun h11=>?_) (fun h11=>?_))
 · try simp at h11
   have hm0:m≠0:=by (first|omega|(simp at h11;omega))
   refine Am (AW.block (Af (Ab ?_)));refine Ac (Sc U (.no U) U (.tm U) (.const U) (fun _=>by omega)) U ?_;refine Ah ?_;refine Aa (Ae (Af (Ab ?_)));refine D7 ?_;refine Aa (Ai (.tm U) (fun h15=>?_) (fun h15=>?_))
   · exact absurd h15 (by (first|omega|(simp at h15;omega)))
   try simp at h15
   refine Am (Ae (As (Ay [0,2,3,4,5] []) ?_));refine Ad (Ab ?_);refine Ac (Dn U (.no U) U (.const U) (.tm U) (fun _=>by omega)) U ?_;refine Ac (Mb U (.no U) U (.tm U) (by rw [Abc];rfl) Aao (fun _=>(show IntKind.u8.wrap _=(48+(m:Int)%10) by simp [IntKind.wrap,IntKind.bits];omega))) U ?_;refine Ac (Cf (xs:=[.tmp 20]) (rows:=[[.v (.int .u8 (48+(m:Int)%10))]]) U U U (.cons (.tm U) U U .nil) Aap in5 U U (U)) U ?_;refine Ac (UL U (.no U) U (.tm U) Aap Aao Abd) U ?_;refine Ab ?_;refine Ac (Se U (.no U) U (.tm U) (.tm U) (fun _=>by have:(⟨#[ZF ((48+(m:Int)%10)).toNat]⟩:ByteArray).size=1:=U;omega)) U ?_;refine Ah ?_;refine Aa (As (Ay [0,2,3,4,5] []) ?_);refine Ad (Ab ?_);refine Ac (Uc U (.no U) U (.tm U) (.const U) (fun _=>by omega)) U ?_;refine Ah ?_;refine Aa ?_
   repeat (with_reducible refine Av ?_)
   refine BV.next (m / 10) (((ByteArray.mk #[ZF ((48+(m:Int)%10)).toNat])++O)) ⟨⟨by omega,(by rw [ByteArray.size_append];have:(⟨#[ZF ((48+(m:Int)%10)).toNat]⟩:ByteArray).size=1:=rfl;omega)⟩,(by rw [he,S6 (by omega),←LU,show (48+(m:Int)%10).toNat=48+m%10 by omega];rw [ByteArray.append_assoc];rfl)⟩ (by omega) (Au rfl ⟨rfl,rfl,rfl,rfl,Y⟩ trivial)
 try simp at h11
 refine Bf (Ae (Af (Ab ?_)));refine Aa (Ai (.tm U) (fun h27=>?_) (fun h27=>?_))
 · exact absurd h27 (by simp)
 try simp at h27
 refine Am (Af (Ab ?_));refine Ah ?_;refine Aa (Aq (Bl U U ?_))
 (have e:m=0:=(by omega);have e0:n0≠0:=(by omega);rw [e] at he;unfold OY at he;rw [if_neg e0,if_pos rfl] at he;unfold SC;rw [Int.toNat_natCast,he,OJ])
theorem H3 (k:Int) (h0:0≤k) (h8:k≤8):FnT Aan 185 [.one (.v (.int .i64 k))] (.a (.one (.v (.string (bs (NN k)))))):=by
 refine A8 Abe U (by kernel_rfl) Abf U fun hlen w0=>?_
 try simp at hlen
 have hl:inB k 0 8=true:=by unfold inB;simp;omega
 refine Af (An ?_);refine Aa (Ae (Af (Ab ?_)));refine By (KS k) ?_;refine Cy ?_;refine Aa (Ai (.tm U) (fun h5=>?_) (fun h5=>?_))
 · exact absurd h5 (by simp [hl] at h5)
 try simp at h5
 refine Am (Af (Ac (Cf (xs:=[.const (.string ⟨#[97]⟩),.const (.string ⟨#[97,45]⟩),.const (.string ⟨#[98]⟩),.const (.string ⟨#[98,45]⟩),.const (.string ⟨#[99]⟩),.const (.string ⟨#[99,45]⟩),.const (.string ⟨#[48]⟩),.const (.string ⟨#[49]⟩),.const (.string ⟨#[50]⟩)]) (rows:=Ji.map Qu) U U U (.cons (.const U) U U (.cons (.const U) U U (.cons (.const U) U U (.cons (.const U) U U (.cons (.const U) U U (.cons (.const U) U U (.cons (.const U) U U (.cons (.const U) U U (.cons (.const U) U U .nil))))))))) Aaq in9 U U (U)) U ?_));refine Ab ?_;refine Ac (Ak U (.no U) U (.tm U) (.tm U) Aaq ty9 (fun _=>⟨by omega,(V2 h0 h8)⟩)) U ?_;refine Aj ty9 ?_;refine Ah ?_;refine Aa (Aq (Bl U U ?_))
 rfl
section
variable {P:Program} {ops:Array Oper} {o:Oper} {σ:St} {q:Bool}
def J7 (w:World) (K:List (Nat×Obj)):Prop:=∀ x∈K,w.heap[x.1]?=some x.2
theorem J7.lt {w:World} {K:List (Nat×Obj)} (h:J7 w K):∀ x∈K,x.1<w.heap.size:=fun x hx=>(ZI.1 (h x hx)).1
def YN (P:Program) (f:FuncId) (K:List (Nat×Obj)) (ins:List (Bool×V0)) (out:V):Prop:=Ek P f∧∀ w vs F,Good w F→V0c w F ins vs F→F.Nodup→(∀ b∈F,DJ w b)→J7 w K→(∀ x∈K,x.1∉F)→Calls P f (ZC vs) w (Uj w out F)
theorem YN.walk {n:Nat} {f:FuncId} {fn:Func} {c:Code} {K:List (Nat×Obj)} {ins:List (Bool×V0)} {out:V} {σ':St} (hf:P.funcs[f]?=some fn) (hb:fn.body=some c) (hname:(fn.name == "runtime.NumGoroutine")=false) (hnt:fn.ntmps=n) (hn:ZS ins.length n=true) (hi:IE 0 ins ⟨n,[],[(999999,.kept K)]⟩=some σ')
 (h:∀ w0,AW P w0 c (Th P fn true out) σ'):YN P f K ins out:=by
 subst hnt
 refine⟨⟨fn,hf,hname,by rw [hb];rfl⟩,fun w vs F hG hv hnd hth hK hKF=>?_⟩
 have hl:=hv.len
 have hn':ins.length≤fn.ntmps:=Aaa hn
 have hlt:=hv.sub
 let a0:Act:=⟨(ZC vs)++Aab (fn.ntmps-(ZC vs).size) undef,[]⟩
 let I0:Ip:=⟨fun b=>b<w.heap.size∧b∉F,fun _=>[],fun _=>undef,fun _=>0⟩
 have hr0:AU I0 ⟨w,F,hG⟩ ⟨fn.ntmps,[],[(999999,.kept K)]⟩ a0 w:=by
  refine⟨Chg.refl w F,rfl,by simp [a0,hl];omega,fun i z hi=>(by cases hi),fun id r hi=>?_,fun b hb=>hb.1,fun id b hb=>(by cases hb),fun id r hi=>⟨ZG,fun b hb=>(by cases hb)⟩,fun i j _ b hb=>(by cases hb)⟩
  rw [AF] at hi
  split at hi
  · cases hi;exact⟨rfl,fun x hx=>⟨hK x hx,hK.lt x hx,hKF x hx⟩⟩
  cases hi
 obtain⟨I1,r1⟩:=FZ (fun _ _ _=>trivial) hi hr0 (fun b h1 h2=>⟨h1,h2⟩) hv hnd (fun b hb=>⟨.inr hb,hlt b hb,hth b hb,fun hz=>hz.2 hb,fun i hi=>by cases hi⟩) fun j v hj=>by
  have hjl:j<vs.length:=(ZB.1 hj).1
  simp only [ZJ,a0]
  rw [Aac,Aad (by simpa using hjl)]
  simp [hj]
 refine calls_of_wp hf hb (Code.wp_mono ?_ (h ⟨w,F,hG⟩ _ _ ⟨_,r1⟩))
 rintro e a' w' ⟨σ1,h1,I,hI⟩
 have key:Res P fn true out σ1→a'.defers=[]∧∃ v',(results fn a'.tmps).run P w'=.ok v' w'∧Uj w out F (.returned v') w':=fun h1=>by
  obtain⟨v',F',g1,g2,g3,g4⟩:=h1 I ⟨w,F,hG⟩ a' w' hI
  exact⟨hI.defers,v',g1,v',F',rfl,g2,(g4 rfl).1,fun b hb=>⟨g3 b hb,(g4 rfl).2 b hb⟩,hI.ext⟩
 cases e with
 | normal=>exact key h1
 | ret=>exact key h1
 | exit id=>exact h1.elim
 | goto l=>exact h1.elim
 | panic c=>exact h1.elim
 | outgrown=>exact h1.elim
theorem Xl {I:Ip} {w0:BB} {w:World} {a:Act} {K:List (Nat×Obj)} (hr:AU I w0 σ a w) (hk:look σ.res 999999=some (.kept K)):J7 w K:=fun x hx=>((hr.res _ _ hk).2 x hx).1
theorem JW {o:Bool} {w:World} {b:Nat}:∀ {ts:List T} {off:Nat} {F:List Nat},Rws o w b 1 off (ts.map fun t=>[t]) F→∃ (hs:List Value) (Gs:List (List Nat)),hs.length=ts.length∧Gs.length=ts.length∧F=Gs.flatten∧
 ∀ i t,ts[i]?=some t→∃ h G,hs[i]?=some h∧Gs[i]?=some G∧w.cell? ⟨b,off+i,none⟩=some h∧C o w t h G
 | [],off,F,h=>by simp only [Aar,Rws] at h;exact⟨[],[],rfl,rfl,h,fun i t hi=>by simp at hi⟩
 | t::ts,off,F,h=>by
  simp only [ZN,Rws,Ms] at h
  obtain⟨G1,G2,_,⟨c,A1,A2,h1,h2,rfl,rfl⟩,h3,rfl⟩:=h
  obtain⟨hs,Gs,e1,e2,e3,e4⟩:=JW h3
  refine⟨c::hs,A1::Gs,by simp [e1],by simp [e2],by simp [e3],fun i u hi=>?_⟩
  match i,hi with
  | 0,hi=>simp at hi;subst hi;exact⟨c,A1,rfl,rfl,h1,h2⟩
  | i+1,hi=>
   obtain⟨h,G,g1,g2,g3,g4⟩:=e4 i u (by simpa using hi)
   exact⟨h,G,by simpa using g1,by simpa using g2,by rw [show off+(i+1)=off+1+i by omega];exact g3,g4⟩
theorem Ow {o:Bool} {w:World} {b:Nat} {α:Type} {t:α→T} {h:α→Value} {G:α→List Nat}:∀ {l:List α} {off:Nat},(∀ i x,l[i]?=some x→w.cell? ⟨b,off+i,none⟩=some (h x)∧C o w (t x) (h x) (G x))→Rws o w b 1 off (l.map fun x=>[t x]) (l.flatMap G)
 | [],off,_=>by simp [Rws]
 | x::l,off,hc=>by
  simp only [ZN,Rws,Ms,Aas]
  obtain⟨c1,c2⟩:=hc 0 x rfl
  refine⟨G x,l.flatMap G,rfl,⟨h x,G x,[],c1,c2,rfl,by simp⟩,Ow (h:=h) fun i y hi=>?_,rfl⟩
  obtain⟨d1,d2⟩:=hc (i+1) y (by simpa using hi)
  exact⟨by rw [show off+1+i=off+(i+1) by omega];exact d1,d2⟩
theorem XM {w:World} {ts:List T} {v:Value} {F:List Nat} (hC:C true w (.sl 1 (ts.map fun t=>[t])) v F) (hnd:F.Nodup):∃ (h:Nat→Value) (G:Nat→List Nat) (F0:List Nat),(∀ i t,ts[i]?=some t→C true w t (h i) (G i))∧C true w (.sl 1 ((ZO ts.length).map fun i=>[.v (h i)])) v F0∧F0.Nodup∧
 (∀ b∈F0,b∈F)∧(∀ i,i<ts.length→∀ b∈G i,b∈F∧b∉F0)∧(∀ i,i<ts.length→(G i).Nodup)∧∀ i j,i<ts.length→j<ts.length→i≠j→∀ b∈G i,b∉G j:=by
 have hCc:=hC
 simp only [C] at hCc
 obtain⟨a,len,cap,rfl,h2,h3,h4,h5⟩:=hCc
 rcases h5 with ⟨h5,rfl,h6⟩|⟨b,off,G,rfl,rfl,h7,h8,h9⟩
 · have:ts=[]:=Aat (by rw [Aau] at h2;omega)
   subst this
   exact⟨fun _=>undef,fun _=>[],[],fun i t hi=>by simp at hi,hC,ZG,fun b hb=>hb,fun i hi=>by simp at hi,fun i hi=>by simp at hi,fun i j hi=>by simp at hi⟩
 obtain⟨hs,Gs,e1,e2,rfl,e4⟩:=JW h9
 obtain⟨n1,n2⟩:=ZL.1 hnd
 have n2:=List.pairwise_flatten.1 n2
 have hG:∀ i,i<ts.length→Gs.getD i []∈Gs:=fun i hi=>by
  rw [ZP,ZE (by omega)];exact List.getElem_mem _
 have hin:∀ i,i<ts.length→∀ x∈Gs.getD i [],x∈Gs.flatten:=fun i hi x hx=>List.mem_flatten.2 ⟨_,hG i hi,hx⟩
 refine⟨fun i=>hs.getD i undef,fun i=>Gs.getD i [],[b],fun i t hi=>?_,?_,by simp,fun x hx=>by simp at hx;simp [hx],fun i hi x hx=>⟨by simp [hin i hi x hx],fun hb=>?_⟩,fun i hi=>n2.1 _ (hG i hi),fun i j hi hj hne x hx hx'=>?_⟩
 · obtain⟨h,A,g1,g2,g3,g4⟩:=e4 i t hi
   simp only [ZP,g1,g2,Option.getD_some]
   exact g4
 · simp only [C]
   refine⟨_,_,_,rfl,by simpa using h2,h3,h4,.inr ⟨b,off,[],rfl,rfl,h7,h8,?_⟩⟩
   have:=Ow (o:=true) (w:=w) (b:=b) (t:=fun i=>T.v (hs.getD i undef)) (h:=fun i=>hs.getD i undef) (G:=fun _=>([]:List Nat)) (l:=ZO ts.length) (off:=off) fun i x hi=>by
    obtain⟨hi1,hi2⟩:=ZB.1 hi
    rw [List.length_range] at hi1
    simp at hi2
    subst hi2
    obtain⟨h,A,g1,g2,g3,g4⟩:=e4 i _ (ZE hi1)
    simp only [ZP,g1,Option.getD_some]
    exact⟨g3,by simp only [C];exact⟨trivial,trivial,g4.cell1⟩⟩
   have hz:(ZO ts.length).flatMap (fun _=>([]:List Nat))=[]:=by rw [List.flatMap_eq_nil_iff];intro _ _;rfl
   rw [hz] at this
   exact this
 · simp at hb;subst hb;exact n1 (hin i hi _ hx)
 have hp:=n2.2
 have key:∀ i j,i<j→j<ts.length→∀ x∈Gs.getD i [],∀ y∈Gs.getD j [],x≠y:=fun i j hij hj=>by
  have:=List.pairwise_iff_getElem.1 hp i j (by omega) (by omega) hij
  simpa [ZP,ZE (show i<Gs.length by omega),ZE (show j<Gs.length by omega)] using this
 rcases Nat.lt_or_gt_of_ne hne with g|g
 · exact key i j g hj x hx x hx' rfl
 exact key j i g hi x hx' x hx rfl
theorem YQ {w:World} {α:Type} {t:α→T} {h:α→Value} {G:α→List Nat} {l:List α} {v:Value} {F0:List Nat} (hC:C true w (.sl 1 (l.map fun i=>[.v (h i)])) v F0) (ht:∀ x∈l,C true w (t x) (h x) (G x)):C true w (.sl 1 (l.map fun i=>[t i])) v (F0++if l=[] then [] else l.flatMap G):=by
 simp only [C] at hC ⊢
 obtain⟨a,len,cap,rfl,h2,h3,h4,h5⟩:=hC
 rcases h5 with ⟨h5,rfl,h6⟩|⟨b,off,G0,rfl,rfl,h7,h8,h9⟩
 · have:l=[]:=Aat (by rw [Aau] at h2;omega)
   subst this
   exact⟨_,_,_,rfl,h2,h3,h4,.inl ⟨h5,rfl,h6⟩⟩
 refine⟨_,_,_,rfl,by simpa using h2,h3,h4,.inr ⟨b,off,l.flatMap G,rfl,?_,h7,h8,Ow (h:=h) fun i x hi=>?_⟩⟩
 · obtain⟨hs,Gs,e1,e2,rfl,e4⟩:=JW (ts:=l.map fun i=>T.v (h i)) (by rw [Aaw];exact h9)
   have:Gs.flatten=[]:=by
    rw [List.flatten_eq_nil_iff]
    intro A hA
    obtain⟨i,hi,rfl⟩:=List.mem_iff_getElem.1 hA
    obtain⟨_,A,g1,g2,g3,g4⟩:=e4 i _ (ZE (by omega))
    rw [ZE hi] at g2
    cases g2
    simp [C] at g4
    exact g4.2.1
   rw [this]
   by_cases hl:l=[]
   · subst hl;simp
   simp [hl]
 obtain⟨hs,Gs,e1,e2,_,e4⟩:=JW (ts:=l.map fun i=>T.v (h i)) (by rw [Aaw];exact h9)
 obtain⟨c,A,g1,g2,g3,g4⟩:=e4 i (.v (h x)) (by simp [hi])
 simp only [C] at g4
 rw [g4.1] at g3
 exact⟨g3,ht x (ZW hi)⟩
def KT (K:List (Nat×Obj)) (t:T) (h:Value):Prop:=∀ w,J7 w K→∃ G,C false w t h G
def T3 (rest:List V0):List (Bool×V0):=rest.map fun x=>(false,x)
theorem LX {w:World} {FF FF':List Nat} (hs:∀ b∈FF',b∈FF):∀ {rest:List V0} {vs:List Value} {G:List Nat},V0c w FF (T3 rest) vs G→G=[]∧V0c w FF' (T3 rest) vs []
 | [],vs,G,⟨h1,h2⟩=>⟨h2,h1,rfl⟩
 | x::r,vs,G,⟨v,vr,G1,G2,e,h1,h2,h3⟩=>by
  simp only [Bool.false_eq_true,if_false] at h3
  obtain⟨rfl,h3⟩:=h3
  obtain⟨rfl,h4⟩:=LX hs (rest:=r) h2
  refine⟨rfl,v,vr,G1,[],e,h1,h4,?_⟩
  simp only [Bool.false_eq_true,if_false]
  exact⟨trivial,fun b hb hf=>h3 b hb (hs b hf)⟩
theorem KT.of {w:World} {K:List (Nat×Obj)} {t:T} {h:Value} {G:List Nat} {o:Bool} (hC:C o w t h G) (hK:∀ b∈G,∃ x,w.heap[b]?=some x∧(b,x)∈K):KT K t h:=fun w' hw=>⟨G,hC.read'.congr fun b hb=>by
 obtain⟨x,h1,h2⟩:=hK b hb
 rw [h1];exact hw _ h2⟩
def Lr (w:World) (Gs:List Nat):List (Nat×Obj):=Gs.filterMap fun b=>(w.heap[b]?).map fun x=>(b,x)
theorem Iz {w:World} {Gs:List Nat} {b:Nat} {x:Obj}:(b,x)∈Lr w Gs↔b∈Gs∧w.heap[b]?=some x:=by
 unfold Lr
 rw [Aae]
 constructor
 · rintro⟨c,h1,h2⟩
   rw [Option.map_eq_some_iff] at h2
   obtain⟨y,h3,h4⟩:=h2
   cases h4
   exact⟨h1,h3⟩
 rintro⟨h1,h2⟩
 exact⟨b,h1,by rw [h2];rfl⟩
theorem Oj {w:World} {Gs:List Nat}:J7 w (Lr w Gs):=fun x hx=>(Iz (b:=x.1) (x:=x.2)).1 hx |>.2
theorem Good.part {w:World} {H G:List Nat} (h:Good w H) (hs:∀ b∈G,b∈H):Good w G:=h.step (ZZ _) (fun _ _ _=>rfl) fun b hb=>.inr (hs b hb)
theorem Kh {α:Type} {G:α→List Nat}:∀ {l:List α},l.Nodup→(∀ x∈l,(G x).Nodup)→(∀ x∈l,∀ y∈l,x≠y→∀ b∈G x,b∉G y)→(l.flatMap G).Nodup
 | [],_,_,_=>ZG
 | x::l,hn,h1,h2=>by
  obtain⟨n1,n2⟩:=ZL.1 hn
  rw [Aas]
  refine ZM.2 ⟨h1 x (by simp),Kh n2 (fun y hy=>h1 y (by simp [hy])) (fun y hy z hz=>h2 y (by simp [hy]) z (by simp [hz])),fun b hb c hc e=>?_⟩;subst e
  obtain⟨y,hy,hc⟩:=ZU.1 hc
  exact h2 x (by simp) y (by simp [hy]) (fun e=>n1 (e▸hy)) b hb hc
theorem FnC.lift {f:FuncId} {ts:List T} {L:List Nat} {rest:List V0} (hcl:Ek P f) (hL:L.Nodup) (hLn:∀ i∈L,i<ts.length)
 (h:∀ (hd:Nat→Value) (K:List (Nat×Obj)),(∀ i t,ts[i]?=some t→KT K t (hd i))→YN P f K ((true,.one (.sl 1 ((ZO ts.length).map fun i=>[.v (hd i)])))::T3 rest) (.a (.one (.sl 1 (L.map fun i=>[.v (hd i)]))))) :
 FnC P f ((true,.one (.sl 1 (ts.map fun t=>[t])))::T3 rest) (.a (.one (.sl 1 (L.map fun i=>[ts.getD i (.v undef)])))):=⟨hcl,fun w vs F hG hv hnd hth=>by
 obtain⟨v,vr,G1,G2,rfl,h1,h2,h3⟩:=hv
 simp only [if_true] at h3
 obtain⟨rfl,h2'⟩:=LX (FF':=F) (fun b hb=>hb) h2
 rw [ZX] at h3
 subst h3
 have h1:C true w (.sl 1 (ts.map fun t=>[t])) v F:=h1
 obtain⟨hd,G,F0,c1,c2,c3,c4,c5,c6,c7⟩:=XM h1 hnd
 have hlt:∀ b∈F,b<w.heap.size:=h1.lt
 have hK:∀ i t,ts[i]?=some t→KT (Lr w ((ZO ts.length).flatMap G)) t (hd i):=fun i t hi=>KT.of (c1 i t hi) fun b hb=>by
  have hil:=(ZB.1 hi).1
  exact⟨_,Aaf (hlt b (c5 i hil b hb).1),Iz.2 ⟨ZU.2 ⟨i,by simpa using hil,hb⟩,Aaf _⟩⟩
 refine ((h hd _ hK).2 w (v::vr) F0 (hG.part c4) ⟨v,vr,F0,[],rfl,c2,(LX c4 h2').2,by simp⟩ c3 (fun b hb=>hth b (c4 b hb)) Oj fun x hx hx'=>?_).mono fun e w' hR=>?_
 · obtain⟨i,hi,hb⟩:=ZU.1 ((Iz (b:=x.1) (x:=x.2)).1 hx).1
   exact (c5 i (by simpa using hi) _ hb).2 hx'
 obtain⟨v',F',e1,r1,r2,r3,r4⟩:=hR
 have r1:C true w' (.sl 1 (L.map fun i=>[.v (hd i)])) v' F':=r1
 have hsame:∀ i∈L,∀ b∈G i,w'.heap[b]?=w.heap[b]?:=fun i hi b hb=>r4.block b (hlt b (c5 i (hLn i hi) b hb).1) (c5 i (hLn i hi) b hb).2
 have hj:=YQ (t:=fun i=>ts.getD i (.v undef)) (G:=G) r1 fun i hi=>by
  have hti:ts[i]?=some (ts.getD i (.v undef)):=by rw [ZP,ZE (hLn i hi)];rfl
  exact (c1 i _ hti).congr (hsame i hi)
 have hflat:(if L=[] then [] else L.flatMap G)=L.flatMap G:=by split<;>simp_all
 rw [hflat] at hj
 have hmem:∀ b∈L.flatMap G,∃ i∈L,b∈G i:=fun b hb=>ZU.1 hb
 refine⟨v',F'++L.flatMap G,e1,hj,ZM.2 ⟨r2,Kh hL (fun i hi=>c6 i (hLn i hi)) (fun i hi j hj hne=>c7 i j (hLn i hi) (hLn j hj) hne),fun b hb c hc ebc=>?_⟩,fun b hb=>?_,⟨r4.os,r4.tape,r4.output,r4.size,fun k hk hn=>r4.block k hk fun hk'=>hn (c4 k hk')⟩⟩
 · subst ebc
   obtain⟨i,hi,hb'⟩:=hmem b hc
   have q:=c5 i (hLn i hi) b hb'
   rcases (r3 b hb).1 with g|g
   · have:=hlt b q.1;omega
   exact q.2 g
 rcases ZA.1 hb with hb|hb
 · exact⟨(r3 b hb).1.imp id (c4 b),(r3 b hb).2⟩
 obtain⟨i,hi,hb'⟩:=hmem b hb
 have q:=c5 i (hLn i hi) b hb'
 obtain⟨cc,ee,o3⟩:=hth b q.1
 exact⟨.inr q.1,cc,ee,(hsame i hi b hb').trans o3⟩⟩
end
open Go.ChangeMaps Go.WideMaps
section
variable {P:Program} {ops:Array Oper} {o:Oper} {σ:St}
theorem FL.thaw {w:World} {b:Nat} {f:Int→Int→Int→Int} (h:FL w b f):DJ w b:=by
 obtain⟨es,k,h1,_⟩:=h
 exact⟨.inr es,k,h1⟩
structure O3 (P:Program) (t kt et:TypeId):Prop where
 map:P.underlying t=some (.map kt et)
 law:KeyLaw P kt
 key:∀ x y z:Int,wfI x∧wfI y∧wfI z→∃ l,keyOf P kt (.agg #[.int .i64 x,.int .i64 y,.int .i64 z])=some l
 zero:∀ w,(zeroValue et).run P w=.ok (.int .i64 0) w
theorem O3.keys {t kt et:TypeId} (T:O3 P t kt et) {f:Int→Int→Int→Int} {es:Array MapEntry} (h:∀ e∈es.toList,∃ x y z:Int,e.key=.agg #[.int .i64 x,.int .i64 y,.int .i64 z]∧(wfI x∧wfI y∧wfI z)∧e.val=.int .i64 (f x y z)):∀ e∈es.toList,∃ l,keyOf P kt e.key=some l:=fun e he=>by
 obtain⟨x,y,z,h1,h2,_⟩:=h e he
 rw [h1];exact T.key x y z h2
theorem Xk {x y z p q r:Int} (h:ZV #[.int .i64 x,.int .i64 y,.int .i64 z]=.agg #[.int .i64 p,.int .i64 q,.int .i64 r]):x=p∧y=q∧z=r:=by
 injection h with h
 have h:=congrArg Array.toList h
 simp only [List.cons.injEq,Value.int.injEq,and_true,true_and] at h
 exact h
theorem Vh {t kt et:TypeId} (T:O3 P t kt et) {w:World} {b:Nat} {f:Int→Int→Int→Int} (h:FL w b f) {p q r:Int} (hk:wfI p∧wfI q∧wfI r):∃ (n:Int) (ok:Bool),(Instr.lookup t (.map (some b)) (.agg #[.int .i64 p,.int .i64 q,.int .i64 r]) true).run P w=.ok (.tuple #[.int .i64 n,.bool ok]) w∧(ok=true→n=f p q r):=by
 obtain⟨es,c,hb,hes⟩:=h
 obtain⟨l,hl⟩:=T.key p q r hk
 rcases T.law.find w hl es.toList (T.keys hes) with ⟨h1,_⟩|⟨j,e,h1,h2,h3⟩
 · exact⟨0,false,by simp [Instr.lookup,run_underlying T.map,MapKept.run_getObj_map hb,T.law.check w _ hl,h1,T.zero w,Result.andThen],fun h=>by cases h⟩
 obtain⟨x,y,z,e1,_,e3⟩:=hes e (ZW h2)
 obtain⟨rfl,rfl,rfl⟩:=Xk (e1.symm.trans h3)
 exact⟨f x y z,true,by simp [Instr.lookup,run_underlying T.map,MapKept.run_getObj_map hb,T.law.check w _ hl,h1,e3,Result.andThen],fun _=>rfl⟩
theorem WM {t kt et:TypeId} (T:O3 P t kt et) {w:World} {b:Nat} {f:Int→Int→Int→Int} (h:FL w b f) {p q r:Int} (hk:wfI p∧wfI q∧wfI r):∃ w',(Instr.mapUpdate t (.map (some b)) (.agg #[.int .i64 p,.int .i64 q,.int .i64 r]) (.int .i64 (f p q r))).run P w=.ok () w'∧Chg w w' [b]∧FL w' b f:=by
 obtain⟨es,c,hb,hes⟩:=h
 obtain⟨l,hl⟩:=T.key p q r hk
 have hch:∀ o,Chg w (setBlock w b o) [b]:=fun o=>⟨rfl,rfl,rfl,by simp [setBlock],fun k _ hn=>heap_setBlock_other hb o (by simpa using hn)⟩
 rcases T.law.find w hl es.toList (T.keys hes) with ⟨h1,_⟩|⟨j,e,h1,h2,h3⟩
 · refine⟨setBlock w b (.map (es.push ⟨.agg #[.int .i64 p,.int .i64 q,.int .i64 r],.int .i64 (f p q r),c⟩) (c+1)),?_,hch _,_,_,heap_setBlock_same hb _,fun e he=>?_⟩
   · simp [Instr.mapUpdate,run_underlying T.map,MapKept.run_getObj_map hb,T.law.check w false hl,h1,MapKept.run_setObj_map _ hb,Result.andThen,setBlock]
   simp only [Array.toList_push,ZA,ZD] at he
   rcases he with he|rfl
   · exact hes e he
   exact⟨p,q,r,rfl,hk,rfl⟩
 have hj:es[j]?=some e:=by simpa using h2
 refine⟨setBlock w b (.map (es.modify j fun e'=>{ e' with key:=.agg #[.int .i64 p,.int .i64 q,.int .i64 r],val:=.int .i64 (f p q r) }) c),?_,hch _,_,_,heap_setBlock_same hb _,fun e' he=>?_⟩
 · simp [Instr.mapUpdate,run_underlying T.map,MapKept.run_getObj_map hb,T.law.check w false hl,h1,hj,h3,T.law.stays w hl,MapKept.run_setObj_map _ hb,Result.andThen,setBlock]
 rcases MapFrom.mem_modify he with he|⟨e1,_,rfl⟩
 · exact hes e' he
 exact⟨p,q,r,rfl,hk,rfl⟩
theorem Wr {I:Ip} {w:World} (x:Value) (h:x.oneCell'=true:=by rfl):VE I w (.t (.v x)) x:=⟨[],by simp [C,h],by simp⟩
theorem Ty:∀ {l:List (Nat×R)} {u:Nat} {r:R},look l u=some r→FA l u r=l
 | [],_,_,h=>by cases h
 | (j,y)::l,u,r,h=>by
  rw [AF] at h
  rw [FA]
  by_cases e:j=u
  · subst e;rw [if_pos rfl] at h;cases h;simp [Nat.beq_refl]
  rw [if_neg e] at h
  rw [Fw e,cond_false,Ty h]
theorem Ob {σ:St} {id m:Nat} {r:R} (h:σ.has m=false) (hm:id≠m) (hr:r.has m=false):(σ.add id r).has m=false:=by
 unfold St.has St.add at *
 simp only [Bool.or_eq_false_iff,Aay] at h ⊢
 exact⟨h.1,⟨Fw hm,hr⟩,h.2⟩
theorem V6 {I:Ip} {w:World} {v:Value} {p q r:Int} (h:VA I w (.agg [.t (.v (.int .i64 p)),.t (.v (.int .i64 q)),.t (.v (.int .i64 r))]) v):v=.agg #[.int .i64 p,.int .i64 q,.int .i64 r]:=by
 obtain⟨cs,rfl,c1,r1,rfl,⟨_,g1,_⟩,c2,r2,rfl,⟨_,g2,_⟩,c3,r3,rfl,⟨_,g3,_⟩,h4⟩:=h
 simp only [C] at g1 g2 g3
 have h4:r3=[]:=h4
 rw [g1.1,g2.1,g3.1,h4]
theorem Qd {I:Ip} {w:World} {v x:Value} (h:VA I w (.one (.t (.v x))) v):v=x:=by
 obtain⟨_,g,_⟩:=h
 simp only [C] at g
 exact g.1
theorem YJ {t kt et:TypeId} {m x:Operand} {b u:Nat} {f:Int→Int→Int→Int} {p q r:Int} (T:O3 P t kt et) (ho:o.op=.lookup t m x true) (hg:o.guard=none) (hd:o.dst.all (fun d=>Z9 d σ.n)=true)
 (hm:Get σ true m (.one (.t (.v (.map (some b)))))) (hu:look σ.res u=some (.mp b f)) (hx:Get σ true x (.agg [.t (.v (.int .i64 p)),.t (.v (.int .i64 q)),.t (.v (.int .i64 r))])) (hk:wfI p∧wfI q∧wfI r) :
 OpE P ops o σ fun σ'=>∃ z:Int×Bool,(z.2=true→z.1=f p q r)∧σ'=σ.put o.dst (true,.tup [.one (.t (.v (.int .i64 z.1))),.one (.t (.v (.bool z.2)))]):=by
 rintro w0 a w ⟨I,hr⟩ K Q hK
 simp only [Region.wanted,hg,if_true]
 obtain⟨_,hM⟩:I.F u=[b]∧FL w b f:=hr.res _ _ hu
 have e1:=Qd (hm.va hr rfl)
 have e2:=V6 (hx.va hr rfl)
 obtain⟨n,ok,h1,h2⟩:=Vh T hM hk
 unfold Oper.wp
 simp [execOp,ho,e1,e2,h1,Result.andThen]
 refine hK _ _ _ ⟨(n,ok),h2,rfl⟩ ⟨I,hr.put hd ⟨[.int .i64 n,.bool ok],rfl,?_⟩⟩
 exact⟨_,_,rfl,Wr _,_,_,rfl,Wr _,rfl⟩
theorem AU.mapped {I:Ip} {w0:BB} {w:World} {a:Act} {u b:Nat} {f:Int→Int→Int→Int} (hr:AU I w0 σ a w) (hu:look σ.res u=some (.mp b f)) (hn:nvB u σ.slots σ.res=true) {w':World} (hc:Chg w w' [b]) (hM:FL w' b f):∃ I',AU I' w0 σ a w'∧I'.Z=I.Z∧I'.F=I.F:=by
 obtain⟨hF,_⟩:I.F u=[b]∧FL w b f:=hr.res _ _ hu
 have h:=hr.upd (w':=w') hu (by rw [hF];exact hc) (G:=[b]) (r:=.mp b f) ⟨by simp,fun x hx=>?_⟩ ⟨by simp [Ip.set],hM⟩
 · rw [Sn hn,Ty hu] at h
   refine⟨_,h,rfl,?_⟩
   funext i
   simp only [Ip.set]
   split
   · rename_i e;rw [e,hF]
   rfl
 simp only [ZD] at hx
 subst hx
 exact⟨((hr.own u _ hu).2 _ (by rw [hF];simp)).1,hM.lt,hM.thaw,.inl (by rw [hF];simp)⟩
theorem Wu {t kt et:TypeId} {m x y:Operand} {b u:Nat} {f:Int→Int→Int→Int} {p q r n:Int} (T:O3 P t kt et) (ho:o.op=.mapUpdate t m x y) (hg:o.guard=none) (hd:o.dst=none)
 (hm:Get σ true m (.one (.t (.v (.map (some b)))))) (hu:look σ.res u=some (.mp b f)) (hn:nvB u σ.slots σ.res=true) (hx:Get σ true x (.agg [.t (.v (.int .i64 p)),.t (.v (.int .i64 q)),.t (.v (.int .i64 r))])) (hk:wfI p∧wfI q∧wfI r)
 (hy:Get σ true y (.one (.t (.v (.int .i64 n))))) (hf:n=f p q r):Op1 P ops o σ σ:=by
 subst hf
 rintro w0 a w ⟨I,hr⟩ K Q hK
 simp only [Region.wanted,hg,if_true]
 obtain⟨_,hM⟩:I.F u=[b]∧FL w b f:=hr.res _ _ hu
 have e1:=Qd (hm.va hr rfl)
 have e2:=V6 (hx.va hr rfl)
 have e3:=Qd (hy.va hr rfl)
 obtain⟨w',h1,h2,h3⟩:=WM T hM hk
 obtain⟨I',hr',_,_⟩:=hr.mapped hu hn h2 h3
 unfold Oper.wp
 simp [execOp,ho,e1,e2,e3,h1,Result.andThen,Oper.upon]
 exact hK _ _ ⟨I',by rw [hd];exact hr'⟩
theorem V0s.ck {w:World} {FF:List Nat}:∀ {ins:List V0} {vs:List Value} {F:List Nat},V0s false w ins vs F→(∀ b∈F,b∉FF)→V0c w FF (ins.map fun x=>(false,x)) vs []
 | [],vs,F,⟨h,_⟩,_=>⟨h,rfl⟩
 | x::r,vs,F,⟨v,vr,G1,G2,h1,h2,h3,h4⟩,hF=>by
  subst h4
  exact⟨v,vr,G1,[],h1,h2,h3.ck fun b hb=>hF b (by simp [hb]),by simpa using fun b hb=>hF b (by simp [hb])⟩
def Yj (w:World) (b:Nat) (f:Int→Int→Int→Int) (out:V) (e:Ending) (w':World):Prop:=
 ∃ v F,e=.returned v∧Vr true w' out v F∧F.Nodup∧(∀ x∈F,w.heap.size≤x∧DJ w' x)∧Chg w w' [b]∧FL w' b f
def FnK (P:Program) (fid:FuncId) (b:Nat) (f:Int→Int→Int→Int) (ins:List V0) (out:V):Prop:=
 Ek P fid∧∀ w vs F,Good w [b]→FL w b f→V0s false w ins vs F→b∉F→Calls P fid (ZC vs) w (Yj w b f out)
def O4 (P:Program) (fn:Func) (b:Nat) (f:Int→Int→Int→Int) (out:V) (σ:St):Prop:=look σ.res 888888=some (.mp b f)∧Res P fn true out ⟨σ.n,σ.slots,Iw σ.res 888888⟩
def Z4 (P:Program) (fn:Func) (b:Nat) (f:Int→Int→Int→Int) (out:V):Exit→St→Prop
 | .normal,σ=>O4 P fn b f out σ
 | .ret,σ=>O4 P fn b f out σ
 | _,_=>False
theorem O4.mk {fn:Func} {b:Nat} {f:Int→Int→Int→Int} {out:V} {σ:St} (hc:look σ.res 888888=some (.mp b f)) (h:Res P fn true out ⟨σ.n,σ.slots,Iw σ.res 888888⟩):O4 P fn b f out σ:=⟨hc,h⟩
theorem FnK.walk {n:Nat} {fid:FuncId} {fn:Func} {c:Code} {b:Nat} {f:Int→Int→Int→Int} {ins:List V0} {out:V} {σ':St} (hf:P.funcs[fid]?=some fn) (hb:fn.body=some c) (hname:(fn.name == "runtime.NumGoroutine")=false) (hnt:fn.ntmps=n) (hn:ZS ins.length n=true)
 (hi:IE 0 (ins.map fun x=>(false,x)) ⟨n,[],[(888888,.mp b f)]⟩=some σ') (h:∀ w0,AW P w0 c (Z4 P fn b f out) σ'):FnK P fid b f ins out:=by
 subst hnt
 refine⟨⟨fn,hf,hname,by rw [hb];rfl⟩,fun w vs F hG hM hv hbF=>?_⟩
 have hv':=hv.ck (FF:=[b]) fun x hx hm=>hbF (by simp only [ZD] at hm;rwa [←hm])
 have hl:vs.length=ins.length:=by simpa using hv'.len
 have hn':ins.length≤fn.ntmps:=Aaa hn
 have hblt:b<w.heap.size:=hM.lt
 let a0:Act:=⟨(ZC vs)++Aab (fn.ntmps-(ZC vs).size) undef,[]⟩
 let I0:Ip:=⟨fun x=>x<w.heap.size∧x≠b,fun i=>if i=888888 then [b] else [],fun _=>undef,fun _=>0⟩
 have hget:∀ (j:Nat) v,vs[j]?=some v→a0.tmps.getD j undef=v:=fun j v hj=>by
  have hjl:=(ZB.1 hj).1
  simp only [a0]
  rw [Aac,Aad (by simpa using hjl)]
  have:(ZC vs)[j]?=some v:=by simpa using hj
  rw [this];rfl
 have hr0:AU I0 ⟨w,[b],hG⟩ ⟨fn.ntmps,[],[(888888,.mp b f)]⟩ a0 w:=by
  have key:∀ i r,look [(888888,R.mp b f)] i=some r→i=888888∧r=.mp b f:=fun i r hi=>by
   rw [AF] at hi
   split at hi
   · rename_i e;cases hi;exact⟨e.symm,rfl⟩
   cases hi
  refine⟨Chg.refl w [b],rfl,by simp [a0,hl];omega,fun i z hi=>(by cases hi),fun id r hi=>?_,fun x hx=>hx.1,fun id x hx=>?_,fun id r hi=>?_,fun i j hne x hx hx'=>?_⟩
  · obtain⟨rfl,rfl⟩:=key id r hi
    exact⟨rfl,hM⟩
  · simp only [I0] at hx ⊢
    split at hx
    · simp only [ZD] at hx;subst hx;exact⟨hblt,fun h=>h.2 rfl⟩
    cases hx
  · obtain⟨rfl,rfl⟩:=key id r hi
    refine⟨by simp [I0],fun x hx=>?_⟩
    have:x=b:=by simpa [I0] using hx
    subst this
    exact⟨.inr (by simp),hM.thaw⟩
  simp only [I0] at hx hx'
  split at hx
  · split at hx'
    · omega
    cases hx'
  cases hx
 obtain⟨I1,r1⟩:=FZ (FF:=[b]) (fun _ _ _=>trivial) hi hr0 (fun x h1 h2=>⟨h1,fun e=>h2 (by simp [e])⟩) hv' (by simp) (fun x hx=>by cases hx) fun j v hj=>hget (0+j) v (by rw [ZJ];exact hj)
 refine calls_of_wp hf hb (Code.wp_mono ?_ (h ⟨w,[b],hG⟩ _ _ ⟨I1,r1⟩))
 rintro e a' w' ⟨σ1,h1,I,hI⟩
 have key:O4 P fn b f out σ1→a'.defers=[]∧∃ v,(results fn a'.tmps).run P w'=.ok v w'∧Yj w b f out (.returned v) w':=fun ⟨hcur,h1⟩=>by
  obtain⟨hF,hM'⟩:I.F 888888=[b]∧FL w' b f:=hI.res _ _ hcur
  have hsz:w.heap.size≤w'.heap.size:=hI.ext.size
  let W:World:={ w' with heap:=w'.heap.extract 0 w.heap.size }
  have hW:W.heap.size=w.heap.size:=by simp [W];omega
  have hWk:∀ k,k<w.heap.size→W.heap[k]?=w'.heap[k]?:=fun k hk=>by
   show (w'.heap.extract 0 w.heap.size)[k]?=_
   rw [Array.getElem?_extract]
   simp
   omega
  have hGW:Good W []:=hG.step (Nat.le_of_eq hW.symm) (fun k hk hn=>(hWk k hk).trans (hI.ext.block k hk hn)) fun x hx=>by cases hx
  have hI2:AU I ⟨W,[],hGW⟩ ⟨σ1.n,σ1.slots,Iw σ1.res 888888⟩ a' w':=by
   refine⟨⟨rfl,rfl,rfl,by rw [hW];exact hsz,fun k hk _=>?_⟩,hI.defers,hI.size,hI.slots,fun id r hr=>hI.res id r (DW _ _ _ _ hr).2,hI.old,hI.lt,fun id r hr=>?_,hI.apart⟩
   · rw [hW] at hk;exact (hWk k hk).symm
   obtain⟨e1,e2⟩:=DW _ _ _ _ hr
   refine⟨(hI.own id r e2).1,fun x hx=>⟨?_,((hI.own id r e2).2 x hx).2⟩⟩
   rcases ((hI.own id r e2).2 x hx).1 with h|h
   · left;show W.heap.size≤x;rw [hW];exact h
   exfalso
   have:x=b:=by simpa using h
   subst this;exact hI.apart id 888888 e1 _ hx (by rw [hF];simp)
  obtain⟨v,F,g1,g2,g3⟩:=h1 I ⟨W,[],hGW⟩ a' w' hI2
  refine⟨hI.defers,v,g1,v,F,rfl,g2,(g3.2 rfl).1,fun x hx=>⟨?_,(g3.2 rfl).2 x hx⟩,hI.ext,hM'⟩
  have:=(g3.1 x hx).resolve_right (by simp)
  rwa [show (BB.W ⟨W,[],hGW⟩).heap.size=w.heap.size from hW] at this
 cases e with
 | normal=>exact key h1
 | ret=>exact key h1
 | exit id=>exact h1.elim
 | goto l=>exact h1.elim
 | panic c=>exact h1.elim
 | outgrown=>exact h1.elim
def OZ (u:Nat) (σ:St):E→Option T
 | .t x=>some x
 | .vw id x=>bif ZH id u then none else some x
 | .rf id=>match look σ.res id with|some (.row k rows)=>some (.sl k rows)|_=>none
 | _=>none
def PU (u:Nat) (σ:St):A→Option V0
 | .one e=>match OZ u σ e with|some t=>some (.one t)|none=>none
 | .agg l=>match Hu (OZ u σ) l with|some ts=>some (.agg ts)|none=>none
inductive PE (σ:St) (u:Nat):List Operand→List V0→Prop where
 | nil:PE σ u [] []
 | cons {x:Operand} {A0:A} {v:V0} {l:List Operand} {vs:List V0} (hx:Get σ true x A0) (hv:PU u σ A0=some v) (h:PE σ u l vs):PE σ u (x::l) (v::vs)
section
variable {I:Ip} {w0:BB} {w:World} {a:Act} {u b:Nat} {f:Int→Int→Int→Int}
theorem Rc (hr:AU I w0 σ a w) (hu:look σ.res u=some (.mp b f)) {e:E} {t:T} {c:Value} (h:OZ u σ e=some t) (hv:VE I w e c):∃ G,C false w t c G∧∀ x∈G,x∉I.F u:=by
 cases e with
 | t x=>cases h;obtain⟨G,h1,h2⟩:=hv;exact⟨G,h1,fun y hy hm=>(hr.lt u y hm).2 (h2 y hy)⟩
 | vw id x=>
  rw [OZ] at h
  cases hb:ZH id u with
  | true=>rw [hb] at h;cases h
  | false=>
   rw [hb] at h;cases h
   obtain⟨G,h1,h2⟩:=hv
   exact⟨G,h1,fun y hy=>hr.apart id u (BT hb) y (h2 y hy)⟩
 | rf id=>
  rw [OZ] at h
  split at h
  · rename_i k rows h0
    cases h
    have hc:c=I.hd id:=hv.1
    have hne:id≠u:=fun e=>by subst e;rw [hu] at h0;cases h0
    rw [hc];exact⟨_,C.read (show C true w (.sl k rows) _ _ from hr.res id _ h0),hr.apart id u hne⟩
  cases h
 | pp id off=>cases h
 | pr id k i j=>cases h
 | sb id k i j=>cases h
 | tl id k j=>cases h
 | pf id k j=>cases h
 | no=>cases h
theorem T7 (hr:AU I w0 σ a w) (hu:look σ.res u=some (.mp b f)):∀ {l:List E} {ts:List T} {cs:List Value},Hu (OZ u σ) l=some ts→VEs I w l cs→∃ G,Cs false w ts cs G∧∀ x∈G,x∉I.F u
 | [],ts,cs,h,hv=>by cases h;exact⟨[],by unfold Cs;exact⟨hv,rfl⟩,fun _ hb=>by cases hb⟩
 | e::r,ts,cs,h,hv=>by
  obtain⟨c,cr,rfl,h1,h2⟩:=hv
  rw [Hu] at h
  split at h
  · rename_i t e1
    split at h
    · rename_i ts' e2
      cases h
      obtain⟨G1,g1,k1⟩:=Rc hr hu e1 h1
      obtain⟨G2,g2,k2⟩:=T7 hr hu e2 h2
      exact⟨G1++G2,by unfold Cs;exact⟨c,cr,G1,G2,rfl,g1,g2,rfl⟩,fun x hx=>(ZA.1 hx).elim (k1 x) (k2 x)⟩
    cases h
  cases h
theorem Uv (hr:AU I w0 σ a w) (hu:look σ.res u=some (.mp b f)) {x:A} {t:V0} {v:Value} (h:PU u σ x=some t) (hv:VA I w x v):∃ G,V0r false w t v G∧∀ x∈G,x∉I.F u:=by
 cases x with
 | one e=>
  rw [PU] at h
  split at h
  · rename_i t' h1;cases h;exact Rc hr hu h1 hv
  cases h
 | agg l=>
  rw [PU] at h
  split at h
  · rename_i ts h1;cases h
    obtain⟨cs,h2,h3⟩:=hv
    obtain⟨G,h4,h5⟩:=T7 hr hu h1 h3
    exact⟨G,⟨cs,h2,h4⟩,h5⟩
  cases h
theorem PE.ok {l:List Operand} {ins:List V0} (h:PE σ u l ins) (hr:AU I w0 σ a w) (hu:look σ.res u=some (.mp b f)):∃ F,V0s false w ins (l.map a.eval) F∧∀ x∈F,x∉I.F u:=by
 induction h with
 | nil=>exact⟨[],⟨rfl,rfl⟩,fun _ hb=>by cases hb⟩
 | cons hx hv h ih=>
  obtain⟨F,ih,k1⟩:=ih
  obtain⟨G,hg,k2⟩:=Uv hr hu hv (hx.va hr rfl)
  exact⟨G++F,⟨_,_,G,F,rfl,hg,ih,rfl⟩,fun x hx=>(ZA.1 hx).elim (k2 x) (k1 x)⟩
end
theorem Q6 {fid:FuncId} {l:List Operand} {tys:Array TypeId} {ins:List V0} {out:V} {b:Nat} {f:Int→Int→Int→Int} {u:Nat} {y:S} {rs:List (Nat×R)} (n:Nat) (h:FnK P fid b f ins out) (ho:o.op=.call { callee:=.value (.func fid),args:=l.toArray,argTypes:=tys }) (hg:o.guard=none) (hd:o.dst.all (fun d=>Z9 d σ.n)=true)
 (hu:look σ.res u=some (.mp b f)) (hn:nvB u σ.slots σ.res=true) (ha:PE σ u l ins) (hout:OE n out=some (y,rs)) (hf:(rs.all fun x=>!σ.has x.1)=true):Op1 P ops o σ ((σ.adds rs).put o.dst (true,y)):=by
 rintro w0 a w ⟨I,hr⟩ K Q hK
 simp only [Region.wanted,hg,if_true]
 obtain⟨hF,hM⟩:I.F u=[b]∧FL w b f:=hr.res _ _ hu
 obtain⟨F,hV,hap⟩:=ha.ok hr hu
 have hgood:Good w [b]:=hr.goodF fun x hx=>by simp only [ZD] at hx;subst hx;exact ((hr.own u _ hu).2 _ (by rw [hF];simp)).1
 unfold Oper.wp
 rw [Et h.1 ho]
 refine (h.2 w _ F hgood hM hV (fun hm=>hap b hm (by rw [hF];simp))).mono fun e w' hR=>?_
 obtain⟨v,G,rfl,h1,h2,h3,h4,h5⟩:=hR
 obtain⟨I',hr',hZ',hF'⟩:=hr.mapped hu hn h4 h5
 obtain⟨I2,g1,g2⟩:=JG hout hf hr' h1 h2 fun x hx=>⟨.inl (ZR hr.ext.size (h3 x hx).1),(Vr.lt h1 x hx),(h3 x hx).2,fun hz=>by rw [hZ'] at hz;have:=hr.old x hz;have:=(h3 x hx).1;omega,fun i hi=>by rw [hF'] at hi;have:=(hr.lt i x hi).1;have:=(h3 x hx).1;omega⟩
 refine hK _ _ ⟨I2,g1.put ?_ g2⟩
 have:(σ.adds rs).n=σ.n:=KG rs
 rw [this];exact hd
def W4 (P:Program) (fid:FuncId) (tg ta:List T) (y:Value) (k:Nat) (rows:List (List T)) (f:Int→Int→Int→Int):Prop:=
 Ek P fid∧∀ w gs as1 F1 F2,Good w []→Cs false w tg gs F1→Cs false w ta as1 F2→Calls P fid #[.agg gs.toArray,.agg as1.toArray,y] w fun e w'=>∃ b mb v t F,e=.returned (.pointer (some ⟨b,0,none⟩))∧(w.heap.size≤b∧w.heap.size≤mb∧b≠mb)∧
  w'.heap[b]?=some (.cells (gs++(as1++[y,v,.map (some mb)])).toArray t (0,0))∧FL w' mb f∧C true w' (.sl k rows) v F∧F.Nodup∧(∀ x∈F,w.heap.size≤x∧DJ w' x∧x≠b∧x≠mb)∧Ext w w'
theorem Te {I:Ip} {w:World}:∀ {ts:List T} {cs:List Value},VEs I w (ts.map .t) cs→∃ F,Cs false w ts cs F
 | [],cs,h=>⟨[],by unfold Cs;exact⟨h,rfl⟩⟩
 | t::ts,cs,⟨c,cr,e,⟨G,h1,_⟩,h2⟩=>by
  subst e
  obtain⟨F,h3⟩:=Te h2
  exact⟨G++F,by unfold Cs;exact⟨c,cr,G,F,rfl,h1,h3,rfl⟩⟩
theorem P3 {id:Nat} (ts:List T):(ts.map E.t).any (E.has id)=false:=by
 induction ts with
 | nil=>rfl
 | cons t ts ih=>simp only [ZN,Aay,ih];rfl
theorem Q0 {I:Ip} {w:World}:∀ {l l':List E} {cs cs':List Value},VEs I w l cs→VEs I w l' cs'→VEs I w (l++l') (cs++cs')
 | [],_,cs,cs',h,h'=>by have h:cs=[]:=h;subst h;exact h'
 | _::_,_,_,_,⟨c,cr,e,h1,h2⟩,h'=>by subst e;exact⟨c,_,rfl,h1,Q0 h2 h'⟩
theorem W0 {fid:FuncId} {x1 x2 x3:Operand} {tys:Array TypeId} {tg ta:List T} {y:Int} {k:Nat} {rows:List (List T)} (n u:Nat) (f:Int→Int→Int→Int) (h:W4 P fid tg ta (.int .i64 y) k rows f) (ho:o.op=.call { callee:=.value (.func fid),args:=#[x1,x2,x3],argTypes:=tys }) (hg:o.guard=none) (hd:o.dst.all (fun d=>Z9 d σ.n)=true)
 (h1:Get σ true x1 (.agg (tg.map .t))) (h2:Get σ true x2 (.agg (ta.map .t))) (h3:Get σ true x3 (.one (.t (.v (.int .i64 y))))) (hf:σ.has u=false) (hf1:σ.has (n+1)=false) (hf2:σ.has n=false) (hun:u≠n+1∧u≠n) :
 OpE P ops o σ fun σ'=>∃ mb:Nat,σ'=(((σ.add u (.mp mb f)).add (n+1) (.row k rows)).add n (.box (tg.map .t++(ta.map .t++[.t (.v (.int .i64 y)),.rf (n+1),.t (.v (.map (some mb)))])))).put o.dst (true,.a (.one (.pp n 0))):=by
 rintro w0 a w ⟨I,hr⟩ K Q hK
 simp only [Region.wanted,hg,if_true]
 obtain⟨gs,e1,g1⟩:=h1.va hr rfl
 obtain⟨as1,e2,g2⟩:=h2.va hr rfl
 have e3:=Qd (h3.va hr rfl)
 obtain⟨F1,c1⟩:=Te g1
 obtain⟨F2,c2⟩:=Te g2
 unfold Oper.wp
 rw [Et (l:=[x1,x2,x3]) h.1 ho]
 simp only [ZN,Aar,e1,e2,e3]
 refine (h.2 w gs as1 F1 F2 hr.good c1 c2).mono fun e w' hR=>?_
 obtain⟨b,mb,v,t,F,rfl,⟨hb1,hb2,hb3⟩,hB,hMB,hC,hN,hFr,hx⟩:=hR
 have hr1:=hr.later hx
 have hblt:b<w'.heap.size:=(ZI.1 hB).1
 have hmlt:mb<w'.heap.size:=hMB.lt
 have hfree:∀ x,w.heap.size≤x→x<w'.heap.size→DJ w' x→EK I w0 w' x:=fun x h1 h2 h3=>⟨.inl (ZR hr.ext.size h1),h2,h3,fun hz=>by have:=hr.old x hz;omega,fun i hi=>by have:=(hr.lt i x hi).1;omega⟩
 have f1:=hfree mb hb2 hmlt hMB.thaw
 have f2:∀ x∈F,EK I w0 w' x:=fun x hm=>hfree x (hFr x hm).1 (C.lt hC x hm) (hFr x hm).2.1
 have f3:=hfree b hb1 hblt ⟨.inl _,_,hB⟩
 have r1:=hr1.addF (id:=u) hf (G:=[mb]) (u:=undef) (b:=mb) (r:=.mp mb f) (by simp) (fun x hm=>by simp only [ZD] at hm;subst hm;exact f1) ⟨by simp [Ip.set],hMB⟩
 have r2:=r1.addF (id:=n+1) (Ob hf1 hun.1 rfl) (G:=F) (u:=v) (b:=0) (r:=.row k rows) hN (fun x hm=>(f2 x hm).set fun h=>(hFr x hm).2.2.2 (by simpa using h)) (by show C true w' _ _ _;simpa [Ip.set] using hC)
 have r3:=r2.addF (id:=n) (Ob (Ob hf2 hun.2 rfl) (by omega) rfl) (G:=[b]) (u:=undef) (b:=b) (r:=.box (tg.map .t++(ta.map .t++[.t (.v (.int .i64 y)),.rf (n+1),.t (.v (.map (some mb)))]))) (by simp) (fun x hm=>by
  simp only [ZD] at hm;subst hm
  exact (f3.set fun h=>hb3 (by simpa using h)).set fun h=>(hFr x h).2.2.1 rfl) ⟨by simp [Ip.set],_,t,by simpa [Ip.set] using hB,by
   refine Q0 (((((g1.mono hx).set (P3 tg)).set (P3 tg)).set (P3 tg))) (Q0 (((((g2.mono hx).set (P3 ta)).set (P3 ta)).set (P3 ta))) ⟨_,_,rfl,Wr _,_,_,rfl,⟨by simp [Ip.set],?_⟩,_,_,rfl,Wr _,rfl⟩)
   simp only [C] at hC
   obtain⟨a',l',k',e,_⟩:=hC
   exact⟨a',l',k',e⟩⟩
 exact hK _ _ _ ⟨mb,rfl⟩ ⟨_,r3.put hd (by show Aaz _=Aaz _;simp [Ip.set])⟩
end
section
variable {P:Program} {ops:Array Oper} {o:Oper} {σ:St}
def Zq (P:Program) (f:FuncId) (K:List (Nat×Obj)) (ins:List V0) (out:V):Prop:=Ek P f∧∀ w vs F,Good w []→V0s false w ins vs F→J7 w K→Calls P f (ZC vs) w (O5 w out)
theorem Sf {f:FuncId} {K:List (Nat×Obj)} {l:List Operand} {tys:Array TypeId} {ins:List V0} {out:V} {y:S} {rs:List (Nat×R)} (n:Nat) (h:Zq P f K ins out) (hk:look σ.res 999999=some (.kept K)) (ho:o.op=.call { callee:=.value (.func f),args:=l.toArray,argTypes:=tys }) (hg:o.guard=none) (hd:o.dst.all (fun d=>Z9 d σ.n)=true)
 (ha:L0 σ true l ins) (hout:OE n out=some (y,rs)) (hf:(rs.all fun x=>!σ.has x.1)=true):Op1 P ops o σ ((σ.adds rs).put o.dst (true,y)):=by
 rintro w0 a w ⟨I,hr⟩ KK Q hK
 simp only [Region.wanted,hg,if_true]
 obtain⟨F,hF⟩:=ha.ok hr rfl
 unfold Oper.wp
 rw [Et h.1 ho]
 refine (h.2 w _ F hr.good hF (Xl hr hk)).mono fun e w' hR=>?_
 obtain⟨v,G,rfl,h1,h2,h3,h4⟩:=hR
 obtain⟨I',g1,g2⟩:=JG hout hf (hr.later h4) h1 h2 fun b hb=>⟨.inl (ZR hr.ext.size (h3 b hb).1),(Vr.lt h1 b hb),(h3 b hb).2,fun hz=>by have:=hr.old b hz;have:=(h3 b hb).1;omega,fun i hi=>by have:=(hr.lt i b hi).1;have:=(h3 b hb).1;omega⟩
 refine hK _ _ ⟨I',g1.put ?_ g2⟩
 have:(σ.adds rs).n=σ.n:=KG rs
 rw [this];exact hd
theorem FnT.tk {f:FuncId} {K:List (Nat×Obj)} {ts:List T} {gs:List Value} {out:V} (h:FnT P f [.agg ts] out) (hK:∀ w,J7 w K→∃ F,Cs false w ts gs F):Zq P f K [.agg (gs.map .v)] out:=⟨h.1,fun w vs F hG hv hk=>by
 obtain⟨v,vr,G1,G2,rfl,⟨cs,rfl,h2⟩,⟨rfl,rfl⟩,_⟩:=hv
 have e:∀ {l cs:List Value} {G:List Nat},Cs false w (l.map .v) cs G→cs=l:=by
  intro l
  induction l with
  | nil=>intro cs G h;unfold Cs at h;exact h.1
  | cons x l ih=>
   intro cs G h
   rw [ZN] at h
   unfold Cs at h
   obtain⟨c,cr,G1,G2,rfl,g1,g2,_⟩:=h
   unfold C at g1
   rw [ih g2,g1.1]
 rw [e h2]
 obtain⟨F',h3⟩:=hK w hk
 exact h.2 w _ (F'++[]) hG ⟨_,_,F',[],rfl,⟨gs,rfl,h3⟩,⟨rfl,rfl⟩,rfl⟩⟩
theorem PC {t:TypeId} (u:Nat) (f:Int→Int→Int→Int) (ho:o.op=.makeMap t none) (hg:o.guard=none) (hd:o.dst.all (fun d=>Z9 d σ.n)=true) (hf:σ.has u=false) :
 OpE P ops o σ fun σ'=>∃ mb:Nat,True∧σ'=(σ.add u (.mp mb f)).put o.dst (true,.a (.one (.t (.v (.map (some mb)))))):=by
 rintro w0 a w ⟨I,hr⟩ K Q hK
 simp only [Region.wanted,hg,if_true]
 have hrun:(Instr.makeMap t none).run P w=.ok (.map (some w.heap.size)) (w.alloc (.map #[] 0)):=by simp [Instr.makeMap]
 have h1:(w.alloc (.map #[] 0)).heap[w.heap.size]?=some (.map #[] 0):=heap_alloc_new w _
 have hMB:FL (w.alloc (.map #[] 0)) w.heap.size f:=⟨#[],0,h1,fun e he=>by simp at he⟩
 have hr':=hr.add (id:=u) hf ((Ext.refl w).alloc (.map #[] 0)) (G:=[w.heap.size]) (u:=undef) (b:=w.heap.size) (r:=.mp w.heap.size f) ⟨by simp,fun b hb=>by simp only [ZD] at hb;subst hb;exact⟨ZZ _,hMB.lt,hMB.thaw⟩⟩ ⟨by simp [Ip.set],hMB⟩
 unfold Oper.wp
 simp [execOp,ho,hrun,Result.andThen,Oper.upon]
 exact hK _ _ _ ⟨w.heap.size,trivial,rfl⟩ ⟨_,hr'.put hd (Ka _)⟩
def Uh (fn:Func) (cs:List Value) (k:Nat) (rows:List (List T)) (f:Int→Int→Int→Int) (σ:St):Prop:=
 ∃ r id aid mb:Nat,fn.results=#[.tmp r]∧look σ.slots r=some (true,.a (.one (.pp id 0)))∧look σ.res id=some (.box (cs.map (fun v=>.t (.v v))++[.rf aid,.t (.v (.map (some mb)))]))∧look σ.res aid=some (.row k rows)∧look σ.res 888888=some (.mp mb f)
def Zh (fn:Func) (cs:List Value) (k:Nat) (rows:List (List T)) (f:Int→Int→Int→Int):Exit→St→Prop
 | .normal,σ=>Uh fn cs k rows f σ
 | .ret,σ=>Uh fn cs k rows f σ
 | _,_=>False
theorem Yb {I:Ip} {w:World}:∀ {l:List Value} {l':List E} {cs:List Value},VEs I w (l.map (fun v=>.t (.v v))++l') cs→∃ cs',cs=l++cs'∧VEs I w l' cs'
 | [],_,cs,h=>⟨cs,rfl,h⟩
 | x::l,l',cs,⟨c,cr,e,⟨_,g,_⟩,h⟩=>by
  obtain⟨cs',e1,h2⟩:=Yb h
  simp only [C] at g
  exact⟨cs',by rw [e,e1,g.1];rfl,h2⟩
theorem Cs.one1 {w:World}:∀ {ts:List T} {cs:List Value} {F:List Nat},Cs false w ts cs F→∀ v∈cs,v.oneCell'=true
 | [],cs,F,h=>by unfold Cs at h;rw [h.1];exact fun v hv=>(by cases hv)
 | t::ts,cs,F,h=>by
  unfold Cs at h
  obtain⟨c,cr,G1,G2,rfl,g1,g2,_⟩:=h
  intro v hv
  rcases ZK.1 hv with rfl|hv
  · exact g1.cell1
  exact g2.one1 v hv
theorem W4.walk {n:Nat} {fid:FuncId} {fn:Func} {c:Code} {t1 t2 t3 t4 t5:T} {y:Value} {k:Nat} {rows:List (List T)} {f:Int→Int→Int→Int} (hf:P.funcs[fid]?=some fn) (hb:fn.body=some c) (hname:(fn.name == "runtime.NumGoroutine")=false) (hnt:fn.ntmps=n) (hn:ZS 3 n=true) (hy:y.oneCell'=true)
 (h:∀ (g0 g1 a0 a1 a2:Value) (K:List (Nat×Obj)),(∀ w,J7 w K→∃ F,Cs false w [t1,t2] [g0,g1] F)→∀ w0,AW P w0 c (Zh fn [g0,g1,a0,a1,a2,y] k rows f) ⟨n,[(2,(true,.a (.one (.t (.v y))))),(1,(true,.a (.agg ([T.v a0,.v a1,.v a2].map E.t)))),(0,(true,.a (.agg ([T.v g0,.v g1].map E.t))))],[(999999,.kept K)]⟩) :
 W4 P fid [t1,t2] [t3,t4,t5] y k rows f:=by
 subst hnt
 refine⟨⟨fn,hf,hname,by rw [hb];rfl⟩,fun w gs as1 F1 F2 hG h1 h2=>?_⟩
 obtain⟨g0,g1,rfl⟩:∃ g0 g1,gs=[g0,g1]:=by
  have:=h1.len
  match gs,this with
  | [g0,g1],_=>exact⟨g0,g1,rfl⟩
 obtain⟨a0,a1,a2,rfl⟩:∃ a0 a1 a2,as1=[a0,a1,a2]:=by
  have:=h2.len
  match as1,this with
  | [a0,a1,a2],_=>exact⟨a0,a1,a2,rfl⟩
 have hn':3≤fn.ntmps:=Aaa hn
 let K:List (Nat×Obj):=F1.filterMap fun b=>(w.heap[b]?).map fun o=>(b,o)
 have hK:J7 w K:=fun x hx=>by
  obtain⟨b,_,e⟩:=Aae.1 hx
  cases e1:w.heap[b]? with
  | none=>rw [e1] at e;cases e
  | some o=>rw [e1] at e;cases e;exact e1
 have hKr:∀ w',J7 w' K→∃ F,Cs false w' [t1,t2] [g0,g1] F:=fun w' hk=>⟨F1,h1.congr fun b hb=>by
  have hlt:=h1.lt b hb
  have e1:w.heap[b]?=some (w.heap[b]'hlt):=Aaf _
  rw [e1]
  exact hk (b,_) (Aae.2 ⟨b,hb,by rw [e1];rfl⟩)⟩
 have o1:=h1.one1
 have o2:=h2.one1
 let a:Act:=⟨#[.agg #[g0,g1],.agg #[a0,a1,a2],y]++Aab (fn.ntmps-(#[ZV #[g0,g1],.agg #[a0,a1,a2],y]).size) undef,[]⟩
 let I0:Ip:=⟨fun b=>b<w.heap.size,fun _=>[],fun _=>undef,fun _=>0⟩
 have hget:∀ (j:Nat) v,[ZV #[g0,g1],.agg #[a0,a1,a2],y][j]?=some v→a.tmps.getD j undef=v:=fun j v hj=>by
  have hjl:=(ZB.1 hj).1
  simp only [a]
  rw [Aac,Aad (by simpa using hjl)]
  have:#[ZV #[g0,g1],.agg #[a0,a1,a2],y][j]?=some v:=by simpa using hj
  rw [this];rfl
 have tv:∀ v:Value,v.oneCell'=true→VE I0 w (.t (.v v)) v:=fun v hv=>Wr v hv
 have hr0:AU I0 ⟨w,[],hG⟩ ⟨fn.ntmps,[(2,(true,.a (.one (.t (.v y))))),(1,(true,.a (.agg ([T.v a0,.v a1,.v a2].map E.t)))),(0,(true,.a (.agg ([T.v g0,.v g1].map E.t))))],[(999999,.kept K)]⟩ a w:=by
  refine⟨Chg.refl w [],rfl,by simp [a];omega,fun i x hi=>?_,fun id r hi=>?_,fun b hb=>hb,fun id b hb=>(by cases hb),fun id r hi=>⟨ZG,fun b hb=>(by cases hb)⟩,fun i j _ b hb=>(by cases hb)⟩
  · rw [AF] at hi
    split at hi
    · rename_i e;subst e;cases hi
      rw [hget 2 y rfl];exact tv y hy
    rw [AF] at hi
    split at hi
    · rename_i e;subst e;cases hi
      rw [hget 1 _ rfl]
      exact⟨[a0,a1,a2],rfl,_,_,rfl,tv a0 (o2 a0 (by simp)),_,_,rfl,tv a1 (o2 a1 (by simp)),_,_,rfl,tv a2 (o2 a2 (by simp)),rfl⟩
    rw [AF] at hi
    split at hi
    · rename_i e;subst e;cases hi
      rw [hget 0 _ rfl]
      exact⟨[g0,g1],rfl,_,_,rfl,tv g0 (o1 g0 (by simp)),_,_,rfl,tv g1 (o1 g1 (by simp)),rfl⟩
    cases hi
  rw [AF] at hi
  split at hi
  · cases hi;exact⟨rfl,fun x hx=>⟨hK x hx,hK.lt x hx⟩⟩
  cases hi
 refine calls_of_wp hf hb (Code.wp_mono ?_ (h g0 g1 a0 a1 a2 K hKr ⟨w,[],hG⟩ _ _ ⟨_,hr0⟩))
 rintro e a' w' ⟨σ1,h1,I,hI⟩
 have key:Uh fn [g0,g1,a0,a1,a2,y] k rows f σ1→a'.defers=[]∧∃ v',(results fn a'.tmps).run P w'=.ok v' w'∧∃ b mb v t F,(Ending.returned v')=.returned (.pointer (some ⟨b,0,none⟩))∧(w.heap.size≤b∧w.heap.size≤mb∧b≠mb)∧
  w'.heap[b]?=some (.cells ([g0,g1]++([a0,a1,a2]++[y,v,.map (some mb)])).toArray t (0,0))∧FL w' mb f∧C true w' (.sl k rows) v F∧F.Nodup∧(∀ x∈F,w.heap.size≤x∧DJ w' x∧x≠b∧x≠mb)∧Ext w w':=fun ⟨r,id,aid,mb,q1,q2,q3,q4,q5⟩=>by
  obtain⟨vs,r1,r2⟩:=EG (P:=P) (fn:=fn) (l:=[.tmp r]) hI q1 (.tmp q2 .nil)
  obtain⟨v1,vr,rfl,r3,r4⟩:=r2
  have r4:vr=[]:=r4
  subst r4
  have r3:v1=.pointer (some ⟨I.B id,0,none⟩):=r3
  subst r3
  obtain⟨m1,ws,t,m2,m3⟩:I.F id=[I.B id]∧∃ vs e,w'.heap[I.B id]?=some (.cells (ZC vs) e (0,0))∧VEs I w' _ vs:=hI.res _ _ q3
  obtain⟨cs',rfl,m4⟩:=Yb m3
  obtain⟨v,cr,rfl,⟨m5,_⟩,cm,cr2,rfl,⟨_,m6,_⟩,m7⟩:=m4
  have m7:cr2=[]:=m7
  subst m7
  simp only [C] at m6
  obtain⟨rfl,_⟩:=m6
  have hC:C true w' (.sl k rows) (I.hd aid) (I.F aid):=hI.res _ _ q4
  obtain⟨p1,p2⟩:I.F 888888=[mb]∧FL w' mb f:=hI.res _ _ q5
  have own:∀ i r0,look σ1.res i=some r0→∀ x∈I.F i,w.heap.size≤x∧DJ w' x:=fun i r0 hi x hx=>⟨((hI.own i r0 hi).2 x hx).1.resolve_right (by simp),((hI.own i r0 hi).2 x hx).2⟩
  have ne1:id≠888888:=fun e=>by rw [e,q5] at q3;cases q3
  have ne2:aid≠888888:=fun e=>by rw [e,q5] at q4;cases q4
  have ne3:aid≠id:=fun e=>by rw [e,q3] at q4;cases q4
  refine⟨hI.defers,_,r1,I.B id,mb,v,t,I.F aid,rfl,⟨(own id _ q3 _ (by rw [m1];simp)).1,(own 888888 _ q5 _ (by rw [p1];simp)).1,fun e=>hI.apart id 888888 ne1 (I.B id) (by rw [m1];simp) (by rw [p1,e];simp)⟩,m2,p2,by rw [m5];exact hC,(hI.own aid _ q4).1,fun x hx=>⟨(own aid _ q4 x hx).1,(own aid _ q4 x hx).2,fun e=>hI.apart aid id ne3 x hx (by rw [m1,e];simp),fun e=>hI.apart aid 888888 ne2 x hx (by rw [p1,e];simp)⟩,hI.ext.toExt⟩
 cases e with
 | normal=>exact key h1
 | ret=>exact key h1
 | exit id=>exact h1.elim
 | goto l=>exact h1.elim
 | panic c=>exact h1.elim
 | outgrown=>exact h1.elim
end
end Go.Q
