import Derived.Test.YtbecibmlbiebeaaGreatB56xa
import Derived.Test.YtbecibmlbiebeaaGreatAbs12xa
import Derived.Test.YtbecibmlbiebeaaGreatOpenBxa
import Derived.Test.YtbecibmlbiebeaaGreatAbsJxa
import Derived.Test.YtbecibmlbiebeaaGreatAbsOxa
import Derived.Lib.Join
import Derived.Lib.ItoaNum
import Derived.Lib.SplitLaws
import Derived.Lib.Atoi
import Derived.WideLaws
import Derived.Test.YtbecibmlbiebeaaGreatAbsHxa
import Derived.Shelf.Abstract
import Derived.Shelf.Strings.OnBuilder
import Derived.Shelf.Strconv.Itoa3
import Derived.Ground.NamesProg
import Derived.Shelf.Strings.SplitShaped
import Derived.Shelf.Strings.Shaped
import Derived.Shelf.Strings.Prefix
import Derived.Shelf.Small.Strs
import Derived.Shelf.Strconv.Atoi
import Derived.Shelf.Strconv.AtoiErr
import Derived.Test.YtbecibmlbiebeaaGreatB31xa
import Derived.Test.YtbecibmlbiebeaaGreatB05xa
import Derived.Lib.IndexMore
import Derived.Lib.SlTrimSet
set_option linter.unusedVariables false
set_option linter.unusedSimpArgs false
namespace Go.Q
open Go.RowKit
section
variable {P:Program} {ops:Array Oper} {o:Oper} {σ:St} {q:Bool}
theorem guard_str {op:BinOp} {t:TypeId} {x y:Operand} {a b:ByteArray} (w:World):(eqGuard op t x y (.string a) (.string b)).run P w=.ok () w:=by
 unfold eqGuard;split<;>rfl
theorem str_eq (a b:ByteArray):(a.toList == b.toList)=decide (a=b):=by
 rw [Bool.eq_iff_iff,beq_iff_eq,decide_eq_true_eq]
 exact⟨fun h=>by
  rw [ByteArray.toList_eq,ByteArray.toList_eq] at h
  exact ByteArray.ext (Array.toList_inj.1 h),fun h=>by rw [h]⟩
theorem R_cat {t t':TypeId} {x y:Operand} {a b:ByteArray} (ho:o.op=.binOp .add t x y t') (hg:Grd ops o σ q) (hd:o.dst.all (fun d=>Nat.blt d σ.n)=true) (hx:Get σ q x (.one (.t (.v (.string a))))) (hy:Get σ q y (.one (.t (.v (.string b)))))
 (hb:q=true→a.size+b.size≤9223372036854775807):Op1 P ops o σ (σ.put o.dst (q,.a (.one (.t (.v (.string (a++b))))))):=
 Di ho hg hd hx hy guard_str (h:=fun hq w=>by
  have:=hb hq
  simp only [binOp,Op.stringOp]
  rw [if_neg (show ¬ (((a.size+b.size:Nat):Int)>IntKind.i64.max) by rw [show IntKind.i64.max=9223372036854775807 from rfl];omega)]
  rfl)
theorem R_eqstr {t t':TypeId} {x y:Operand} {a b:ByteArray} (ho:o.op=.binOp .eql t x y t') (hg:Grd ops o σ q) (hd:o.dst.all (fun d=>Nat.blt d σ.n)=true) (hx:Get σ q x (.one (.t (.v (.string a))))) (hy:Get σ q y (.one (.t (.v (.string b))))) :
 Op1 P ops o σ (σ.put o.dst (q,.a (.one (.t (.v (.bool (decide (a=b)))))))):=
 Di ho hg hd hx hy guard_str (h:=fun hq w=>by simp only [binOp,Op.stringOp,str_eq];rfl)
theorem R_strIndex {t:TypeId} {x y:Operand} {s:ByteArray} {n:Int} {b:UInt8} (ho:o.op=.index t x y) (hg:Grd ops o σ q) (hd:o.dst.all (fun d=>Nat.blt d σ.n)=true) (hx:Get σ q x (.one (.t (.v (.string s))))) (hy:Get σ q y (.one (.t (.v (.int .i64 n)))))
 (hu:P.underlying t=some .string) (hi:q=true→0≤n∧s[n.toNat]?=some b):Op1 P ops o σ (σ.put o.dst (q,.a (.one (.t (.v (.int .u8 b.toNat)))))):=
 .val hg hd fun I w0 a w hr hq=>⟨_,by
  obtain⟨h0,h1⟩:=hi hq
  simp [execOp,ho,hx.int hr hq,hy.int hr hq,Instr.index,asIntOf,run_underlying hu,h0,h1],VS_v _⟩
theorem R_strSlice {t:TypeId} {x:Operand} {lo hi:Option Operand} {n m:Nat} {s:ByteArray} (ho:o.op=.slice t x lo hi none) (hg:Grd ops o σ q) (hd:o.dst.all (fun d=>Nat.blt d σ.n)=true) (hx:Get σ q x (.one (.t (.v (.string s)))))
 (hl:Bnd σ q lo 0 n) (hh:Bnd σ q hi s.size m) (hu:P.underlying t=some .string) (hb:q=true→n≤m∧m≤s.size):Op1 P ops o σ (σ.put o.dst (q,.a (.one (.t (.v (.string (s.extract n m))))))):=
 .val hg hd fun I w0 a w hr hq=>⟨_,by
  obtain⟨b1,b2⟩:=hb hq
  have b3:n≤s.size:=Nat.le_trans b1 b2
  have hs:=hx.int hr hq
  have hlo:=hl.val hr hq
  have hhi:=hh.val hr hq
  rcases hlo with ⟨e1,rfl⟩|e1<;>rcases hhi with ⟨e2,rfl⟩|e2<;>simp [execOp,ho,hs,e1,e2,Instr.sliceAt,Instr.slice,run_underlying hu,Instr.sliceBounds,Instr.sliceBound,asIntOf,b1,b2,b3],VS_v _⟩
end
end Go.Q
namespace Go.Q
open Go.RowKit
section
variable {P:Program} {ops:Array Oper} {o:Oper} {σ:St}
theorem R_load_hd {d nid hid k:Nat} {c0:Value} {rows:List (List T)} (h:Op1 P ops o σ (σ.put o.dst (true,.a (.one (.t (.v c0)))))) (hdst:o.dst=some d) (hh:look σ.res hid=some (.hdr (some nid) c0)) (hs:look σ.res nid=some (.row k rows)) :
 Op1 P ops o σ (σ.put o.dst (true,.a (.one (.rf nid)))):=fun w0 a w hr K Q hK=>h w0 a w hr K Q fun a' w' hr'=>hK a' w' (by
 rw [hdst] at hr' ⊢
 obtain⟨I,g⟩:=hr'
 refine⟨I,g.ext,g.defers,g.size,fun i x hi=>?_,g.res,g.old,g.lt,g.own,g.apart⟩
 have hi2:look ((d,(true,S.a (.one (.rf nid))))::σ.slots) i=some x:=hi
 clear hi
 rw [look_cons] at hi2
 by_cases e:d=i
 · subst e
   rw [if_pos rfl] at hi2
   cases hi2
   have h1:VS I w' (true,.a (.one (.t (.v c0)))) (a'.tmps.getD d undef):=g.slots d _ (by show look ((d,_)::σ.slots) d=_;rw [look_cons,if_pos rfl])
   obtain⟨G,k1,_⟩:VE I w' (.t (.v c0)) (a'.tmps.getD d undef):=h1
   simp only [C] at k1
   have k2:I.hd nid=c0:=(g.res _ _ hh).2 nid rfl
   have hC:C true w' (.sl k rows) (I.hd nid) (I.F nid):=g.res nid _ hs
   simp only [C] at hC
   obtain⟨a1,l1,c1,e1,_⟩:=hC
   exact show VE I w' (.rf nid) _ from ⟨by rw [k1.1,k2],a1,l1,c1,by rw [k1.1,←k2,e1]⟩
 · rw [if_neg e] at hi2
   exact g.slots i x (by show look ((d,_)::σ.slots) i=_;rw [look_cons,if_neg e];exact hi2))
theorem R_load_hdr {d nid hid k2:Nat} {c0:Value} {rows2:List (List T)} {id k i p:Nat} {t:TypeId} {x:Operand} {rows:List (List T)} {row:List T} {ag:Bool} {n:Nat} (ho:o.op=.load t x) (hg:Grd ops o σ true) (hd:o.dst.all (fun d=>Nat.blt d σ.n)=true) (hx:Get σ true x (.one (.pr id k i p))) (hs:look σ.res id=some (.row k rows)) (hi:rows[i]?=some row) (ht:tyB P t ag n=true)
 (hn:Nat.ble (p+n) row.length=true) (h1:(ag||Nat.beq n 1)=true) (hc:mkA ag (((row.drop p).take n).map (toE id))=.one (.t (.v c0))) (hdst:o.dst=some d) (hh:look σ.res hid=some (.hdr (some nid) c0)) (hs2:look σ.res nid=some (.row k2 rows2)) :
 Op1 P ops o σ (σ.put o.dst (true,.a (.one (.rf nid)))):=
 R_load_hd (c0:=c0) (by have:=Bv ho hg hd hx hs hi ht hn h1;rw [hc] at this;exact this) hdst hh hs2
end
end Go.Q
namespace Go.Q
open Go.RowKit
section
variable {P:Program} {ops:Array Oper} {o:Oper} {σ:St} {q:Bool}
theorem run_byteStr {w:World} {n:Int} {v:Value} {G:List Nat} (h:C false w (.sl 1 [[.v (.int .u8 n)]]) v G):(Conv.bytesToString v).run P w=.ok (.string ⟨#[UInt8.ofNat n.toNat]⟩) w:=by
 simp only [C] at h
 obtain⟨a,len,cap,rfl,e1,e2,e3,e4⟩:=h
 have e1:len=1:=by simpa using e1.symm
 subst e1
 rcases e4 with ⟨h0,_⟩|⟨b,off,G',rfl,_,hb,_,hR⟩
 · omega
 · simp only [Rws,Ms,C] at hR
   obtain⟨_,_,_,⟨c,_,_,hc,⟨rfl,_⟩,_⟩,_⟩:=hR
   have hl:=run_loadCells_list (P:=P) w ⟨b,off,none⟩ [.int .u8 n] (fun j u hj=>by
    cases j with
    | zero=>cases hj;rw [Addr.add_lit];simpa using hc
    | succ j=>cases hj)
   simp only [List.length_singleton] at hl
   simp [Conv.bytesToString,hl]
   rfl
theorem R_byteStr {t t' e:TypeId} {x:Operand} {n:Int} (ho:o.op=.convert t t' x) (hg:Grd ops o σ q) (hd:o.dst.all (fun d=>Nat.blt d σ.n)=true) (hx:Get σ q x (.one (.t (.sl 1 [[.v (.int .u8 n)]]))))
 (hu:P.underlying t=some (.slice e)) (he:P.underlying e=some (.int .u8)) (hu':P.underlying t'=some .string):Op1 P ops o σ (σ.put o.dst (q,.a (.one (.t (.v (.string ⟨#[UInt8.ofNat n.toNat]⟩)))))):=
 .val hg hd fun I w0 a w hr hq=>by
  obtain⟨G,h1,_⟩:VE I w (.t (.sl 1 [[.v (.int .u8 n)]])) (a.eval x):=hx.va hr hq
  have hb:=run_byteStr (P:=P) h1
  have hs:=h1
  simp only [C] at hs
  obtain⟨ad,len,cap,e0,_⟩:=hs
  exact⟨_,by
   rw [e0] at hb
   simp [execOp,ho,e0,Go.convert,run_underlying hu,run_underlying hu',run_underlying he,hb],VS_v _⟩
end
end Go.Q
namespace Go.Q
open Go.RowKit
theorem Le.putR {σ:St} {nid hid id k i p k2:Nat} {c0:Value} {rows rows2:List (List T)} {row:List T} (hh:look σ.res hid=some (.hdr (some nid) c0)) (hn:look σ.res nid=some (.row k2 rows2)) (hs:look σ.res id=some (.row k rows)) (hi:rows[i]?=some row) (hp:row[p]?=some (.v c0))
 (e1:Nat.beq id nid=false) (e2:Nat.beq id hid=false) (e3:Nat.beq nid hid=false):Le σ (((σ.kill hid).kill nid).upd id (.row k (rows.set i (row.take p++.sl k2 rows2::row.drop (p+1))))):=by
 rintro w0 a w ⟨I,hr⟩
 have hc:I.hd nid=c0:=(hr.res _ _ hh).2 nid rfl
 have hC2:C true w (.sl k2 rows2) (I.hd nid) (I.F nid):=hr.res nid _ hn
 have own2:=hr.own nid _ hn
 have ap:=hr.apart id nid (beq_ne e1)
 obtain⟨q1,_,_⟩:=hr.kill hh
 have hn':=look_kill (beq_ne e3) hn
 obtain⟨q2,qf,_⟩:=q1.kill hn'
 have hs':=look_kill (beq_ne e1) (look_kill (beq_ne e2) hs)
 have hC:C true w (.sl k rows) _ _:=hr.res id _ hs
 have own:=hr.own id _ hs
 simp only [C] at hC
 obtain⟨a0,len,cap,g1,g2,g3,g4,g5⟩:=hC
 have hlti:i<rows.length:=(List.getElem?_eq_some_iff.1 hi).1
 rcases g5 with ⟨g5,_⟩|⟨g,off,Gr,rfl,hF,g6,g7,g8⟩
 · omega
 obtain⟨rfl,cur,e,hcur,hcs⟩:=g7 trivial
 have hF2:((I.set hid [] (I.hd hid) (I.B hid)).set nid [] ((I.set hid [] (I.hd hid) (I.B hid)).hd nid) ((I.set hid [] (I.hd hid) (I.B hid)).B nid)).F id=g::Gr:=by
  simp only [Ip.set,if_neg (beq_ne e1),if_neg (beq_ne e2)];exact hF
 have hF1:(I.set hid [] (I.hd hid) (I.B hid)).F nid=I.F nid:=by simp only [Ip.set,if_neg (beq_ne e3)]
 have hhd:((I.set hid [] (I.hd hid) (I.B hid)).set nid [] ((I.set hid [] (I.hd hid) (I.B hid)).hd nid) ((I.set hid [] (I.hd hid) (I.B hid)).B nid)).hd id=I.hd id:=by
  simp only [Ip.set,if_neg (beq_ne e1),if_neg (beq_ne e2)]
 rw [hF] at own ap
 obtain⟨u1,xs,u2,u3,u4⟩:=g8.flat
 simp only [Nat.zero_add] at u4
 obtain⟨p1,_⟩:=set_split (.v c0:T) hp
 have hrk:row.length=k:=u1 row (List.mem_of_getElem? hi)
 have hpl:p<row.length:=(List.getElem?_eq_some_iff.1 hp).1
 have s1:=(set_split row hi).1
 have x0:rows.flatten=((rows.take i).flatten++row.take p)++([.v c0]++(row.drop (p+1)++(rows.drop (i+1)).flatten)):=by
  conv=>lhs;rw [s1,p1]
  simp
 rw [x0] at u2
 obtain⟨x1,x23,F1,F23,rfl,rfl,v1,v2,v3⟩:=u2.split
 obtain⟨x2,x3,F2,F3,rfl,rfl,v4,v5,v6⟩:=v2.split
 match x2,v6 with
 | [c],_=>
 rw [Cs] at v4
 obtain⟨c',cr,G1,G2,ec,y1,y2,rfl⟩:=v4
 cases ec
 rw [Cs] at y2
 obtain⟨_,rfl⟩:=y2
 simp only [C] at y1
 obtain⟨rfl,rfl,_⟩:=y1
 simp only [List.nil_append,List.append_nil] at *
 have hnd:=List.nodup_cons.1 own.1
 obtain⟨d1,d3,d13⟩:=List.nodup_append.1 hnd.2
 have apb:∀ b,b∈g::(F1++F3)→b∉I.F nid:=fun b hb=>ap b hb
 refine⟨_,q2.upd (G:=g::(F1++(I.F nid++F3))) (r:=.row k (rows.set i (row.take p++.sl k2 rows2::row.drop (p+1)))) hs' (Chg.refl w _) ⟨List.nodup_cons.2 ⟨fun hm=>?_,List.nodup_append.2 ⟨d1,List.nodup_append.2 ⟨own2.1,d3,fun b hb b' hb' ee=>?_⟩,fun b hb b' hb' ee=>?_⟩⟩,fun b hb=>?_⟩ ?_⟩
 · rcases List.mem_append.1 hm with hm|hm
   · exact hnd.1 (by simp [hm])
   · rcases List.mem_append.1 hm with hm|hm
     · exact apb g (by simp) hm
     · exact hnd.1 (by simp [hm])
 · subst ee
   exact apb b (by simp [hb']) hb
 · subst ee
   rcases List.mem_append.1 hb' with hb'|hb'
   · exact apb b (by simp [hb]) hb'
   · exact d13 b hb b hb' rfl
 · have hcase:b∈g::(F1++F3)∨b∈I.F nid:=by
    rcases List.mem_cons.1 hb with rfl|hb
    · exact .inl (by simp)
    · rcases List.mem_append.1 hb with hb|hb
      · exact .inl (by simp [hb])
      · rcases List.mem_append.1 hb with hb|hb
        · exact .inr hb
        · exact .inl (by simp [hb])
   rcases hcase with hb|hb
   · obtain⟨o1,cc,ee,o2⟩:=own.2 b hb
     exact⟨o1,(Array.getElem?_eq_some_iff.1 o2).1,⟨cc,ee,o2⟩,.inl (by rw [hF2];exact hb)⟩
   · obtain⟨o1,cc,ee,o2⟩:=own2.2 b hb
     exact⟨o1,(Array.getElem?_eq_some_iff.1 o2).1,⟨cc,ee,o2⟩,.inr (.inr (qf b (by rw [hF1];exact hb)))⟩
 · show C true _ _ _ _
   simp only [Ip.set,if_true]
   rw [if_neg (beq_ne e1),if_neg (beq_ne e2)]
   unfold C
   refine⟨_,_,_,g1,by simpa using g2,g3,g4,.inr ⟨g,0,F1++(I.F nid++F3),rfl,rfl,g6,fun _=>⟨rfl,cur,e,hcur,hcs⟩,Rws.of (xs:=x1++([I.hd nid]++x3)) (fun r hm=>?_) ?_ fun j u hj=>?_⟩⟩
   · rcases List.mem_or_eq_of_mem_set hm with hm|rfl
     · exact u1 r hm
     · simp only [List.length_append,List.length_take,List.length_cons,List.length_drop]
       omega
   · rw [(set_split (row.take p++.sl k2 rows2::row.drop (p+1)) hi).2]
     have ef:(rows.take i++(row.take p++.sl k2 rows2::row.drop (p+1))::rows.drop (i+1)).flatten=((rows.take i).flatten++row.take p)++([.sl k2 rows2]++(row.drop (p+1)++(rows.drop (i+1)).flatten)):=by simp
     rw [ef]
     refine v1.append (Cs.append ?_ v5)
     simp only [Cs]
     exact⟨_,_,_,_,rfl,hC2,⟨rfl,rfl⟩,by simp⟩
   · rw [hc] at hj
     simp only [Nat.zero_add]
     exact u4 j u hj
end Go.Q
set_option maxHeartbeats 1000000
set_option maxRecDepth 100000
namespace Go.Q
open Go.D
def bs (l:List UInt8):ByteArray:=⟨l.toArray⟩
theorem bs_append (l m:List UInt8):bs l++bs m=bs (l++m):=by
 apply ByteArray.ext
 rw [ByteArray.data_append]
 simp [bs]
theorem bs_nil_append (O:ByteArray):bs []++O=O:=by
 apply ByteArray.ext
 rw [ByteArray.data_append]
 simp [bs]
theorem bs_size (l:List UInt8):(bs l).size=l.length:=by simp [bs,ByteArray.size]
theorem bs_list (l:List UInt8):(bs l).data.toList=l:=by simp [bs]
theorem bs_inj {l m:List UInt8} (h:bs l=bs m):l=m:=by rw [←bs_list l,←bs_list m,h]
def numS (n:Int):List UInt8:=Lib.decDigits n.toNat
theorem dig_small {n:Nat} (h:n<10):Lib.decDigits n=[UInt8.ofNat (48+n)]:=by rw [Lib.decDigits,dif_pos h]
theorem dig_more {n:Nat} (h:10≤n):Lib.decDigits n=Lib.decDigits (n / 10)++[UInt8.ofNat (48+n%10)]:=by rw [Lib.decDigits,dif_neg (by omega)]
theorem dig_len {n:Nat} (h:n<100):1≤(Lib.decDigits n).length∧(Lib.decDigits n).length≤2:=by
 by_cases h1:n<10
 · rw [dig_small h1];simp
 · rw [dig_more (by omega),dig_small (by omega)];simp
theorem numS_len {n:Int} (h:n<100):1≤(numS n).length∧(numS n).length≤2:=dig_len (by omega)
def restD (n:Nat):List UInt8:=if n=0 then [] else Lib.decDigits n
theorem restD_step {n:Nat} (h:n≠0):restD n=restD (n / 10)++[UInt8.ofNat (48+n%10)]:=by
 unfold restD
 rw [if_neg h]
 by_cases h1:n<10
 · rw [dig_small h1,if_pos (by omega),Nat.mod_eq_of_lt h1];rfl
 · rw [dig_more (by omega),if_neg (by omega)]
def cStr (s:List UInt8):List T:=[.v (.string (bs s))]
end Go.Q
namespace Go.D
open Go.Q
end Go.D
set_option maxHeartbeats 1000000
set_option maxRecDepth 100000
namespace Go.Q
open Go.D
end Go.Q
namespace Go.Proofs.YtbecibmlbiebeaaGreat
open Go.RowKit Go.Q Go.D
end Go.Proofs.YtbecibmlbiebeaaGreat
set_option maxHeartbeats 1000000
set_option maxRecDepth 100000
namespace Go.Q
open Go.D
end Go.Q
namespace Go.Proofs.YtbecibmlbiebeaaGreat
open Go.RowKit Go.Q Go.D
end Go.Proofs.YtbecibmlbiebeaaGreat
set_option maxHeartbeats 1000000
set_option maxRecDepth 100000
namespace Go.Q
open Go.D
def letNames:List (List UInt8):=[[97],[97,45],[98],[98,45],[99],[99,45],[48],[49],[50]]
def letS (k:Int):List UInt8:=letNames[k.toNat]?.getD []
theorem letS_get {k:Int} (h0:0≤k) (h8:k≤8):(letNames.map cStr)[k.toNat]?=some (cStr (letS k)):=by
 have hk:k.toNat<letNames.length:=by simp [letNames];omega
 rw [List.getElem?_map,List.getElem?_eq_getElem hk]
 unfold letS
 rw [List.getElem?_eq_getElem hk];rfl
end Go.Q
set_option maxHeartbeats 1000000
set_option maxRecDepth 100000
namespace Go.Q
open Go.D
def splitL (c:UInt8):List UInt8→List (List UInt8)
 | []=>[[]]
 | b::l=>if b=c then []::splitL c l else (b::(splitL c l).headD [])::(splitL c l).tail
theorem splitL_no {c:UInt8}:∀ {l:List UInt8},c∉l→splitL c l=[l]
 | [],_=>rfl
 | b::l,h=>by
  unfold splitL
  rw [if_neg (fun e=>h (by simp [e])),splitL_no fun hm=>h (by simp [hm])]
  rfl
theorem splitL_hit {c:UInt8} {r:List UInt8}:∀ {l:List UInt8},c∉l→splitL c (l++c::r)=l::splitL c r
 | [],_=>by rw [List.nil_append,splitL,if_pos rfl]
 | b::l,h=>by
  rw [List.cons_append,splitL,if_neg (fun e=>h (by simp [e])),splitL_hit fun hm=>h (by simp [hm])]
  rfl
theorem splitL_len (c:UInt8):∀ l:List UInt8,(splitL c l).length=l.count c+1
 | []=>rfl
 | b::l=>by
  unfold splitL
  have ih:=splitL_len c l
  split
  · rename_i h;subst h;rw [List.length_cons,ih,List.count_cons_self]
  · rename_i h
    rw [List.length_cons,List.length_tail,ih,List.count_cons_of_ne (by simpa using h)];omega
theorem cut_step {c b:UInt8} {l:List UInt8} {O:List (List UInt8)} {F i:Nat} (hb:l[i]?=some b) (hi:F≤i∧i≤l.length∧c∉(l.take i).drop F∧O.length≤i) (hbe:b=c) (he:splitL c l=O++splitL c (l.drop F)) :
 splitL c l=(O++[(l.take i).drop F])++splitL c (l.drop (i+1)):=by
 subst hbe
 have hl:=(List.getElem?_eq_some_iff.1 hb).1
 have e:l.drop F=(l.take i).drop F++b::l.drop (i+1):=by
  conv=>lhs;rw [←List.take_append_drop i l]
  rw [List.drop_append,List.length_take,show F-min i l.length=0 by omega,List.drop_zero,List.drop_eq_getElem_cons hl,(List.getElem?_eq_some_iff.1 hb).2]
 rw [he,e,splitL_hit hi.2.2.1]
 simp
theorem cut_keep {c b:UInt8} {l:List UInt8} {O:List (List UInt8)} {F i:Nat} (hb:l[i]?=some b) (hi:F≤i∧i≤l.length∧c∉(l.take i).drop F∧O.length≤i) (hbe:b≠c):c∉(l.take (i+1)).drop F:=by
 have hl:=(List.getElem?_eq_some_iff.1 hb).1
 rw [List.take_add_one,hb,List.drop_append,List.length_take]
 intro h
 rcases List.mem_append.1 h with h|h
 · exact hi.2.2.1 h
 · rw [show F-min i l.length=0 by omega] at h
   simp at h
   exact hbe h.symm
theorem bs_get (l:List UInt8) (n:Nat):(bs l)[n]?=l[n]?:=by
 show (bs l).data[n]?=l[n]?
 simp [bs]
theorem bs_extract (l:List UInt8) (n m:Nat):(bs l).extract n m=bs ((l.take m).drop n):=by
 apply ByteArray.ext
 rw [ByteArray.data_extract]
 apply Array.ext'
 rw [Array.toList_extract,List.extract_eq_take_drop,bs_list]
 simp only [bs]
 rw [List.drop_take]
end Go.Q
namespace Go.Q
open Go.RowKit
section
variable {P:Program} {ops:Array Oper} {o:Oper} {σ:St} {q:Bool}
theorem wrapI {n:Int} (h:-9223372036854775808≤n∧n≤9223372036854775807):IntKind.i64.wrap n=n:=wrap_in h
def FrE (P:Program) (f:FuncId) (ins:List V0) (Out:V→Prop):Prop:=Callee P f∧∀ w vs F,Good w []→V0s false w ins vs F→Calls P f (List.toArray vs) w fun e w'=>∃ out,Out out∧FrPost w out e w'
theorem R_calle {f:FuncId} {l:List Operand} {tys:Array TypeId} {ins:List V0} {Out:V→Prop} (h:FrE P f ins Out) (ho:o.op=.call { callee:=.value (.func f),args:=l.toArray,argTypes:=tys }) (hg:o.guard=none) (hd:o.dst.all (fun d=>Nat.blt d σ.n)=true)
 (ha:Args σ true l ins):OpE P ops o σ fun σ'=>∃ out,Out out∧σ'=σ.put o.dst (true,inS out):=by
 rintro w0 a w ⟨I,hr⟩ K Q hK
 simp only [Region.wanted,hg,if_true]
 obtain⟨F,hF⟩:=ha.ok hr rfl
 unfold Oper.wp
 rw [run_enter h.1 ho]
 refine (h.2 w _ F hr.good hF).mono fun e w' hR=>?_
 obtain⟨out,hout,v,G,rfl,h1,h3,h4⟩:=hR
 have hr':=(hr.later h4).also (G:=G) fun b hb=>⟨Vr.lt h1 b hb,fun i hi=>by have:=(hr.lt i b hi).1;have:=h3 b hb;omega⟩
 exact hK _ _ _ ⟨out,hout,rfl⟩ ⟨_,hr'.put hd (VS_also h1 fun b hb=>.inr hb)⟩
end
end Go.Q
namespace Go.Q
open Go.RowKit
section
variable {P:Program} {ops:Array Oper} {o:Oper} {σ:St} {q:Bool}
end
end Go.Q
namespace Go.Q
open Go.RowKit
section
variable {P:Program} {ops:Array Oper} {o:Oper} {σ:St}
inductive GetL (σ:St):List Operand→List E→Prop where
 | nil:GetL σ [] []
 | cons {x:Operand} {e:E} {l:List Operand} {es:List E} (hx:Get σ true x (.one e)) (h:GetL σ l es):GetL σ (x::l) (e::es)
end
end Go.Q
set_option maxHeartbeats 1000000
set_option maxRecDepth 100000
namespace Go.Proofs.YtbecibmlbiebeaaGreat
open Go.RowKit Go.Q Go.D Go.Shelf
end Go.Proofs.YtbecibmlbiebeaaGreat
set_option maxHeartbeats 1000000
set_option maxRecDepth 100000
namespace Go.Q
open Go.RowKit
end Go.Q
namespace Go.Proofs.YtbecibmlbiebeaaGreat
open Go.RowKit Go.Q Go.D Go.Shelf
end Go.Proofs.YtbecibmlbiebeaaGreat
set_option maxHeartbeats 1000000
set_option maxRecDepth 100000
namespace Go.Q
open Go.D
end Go.Q
set_option maxHeartbeats 1000000
set_option maxRecDepth 100000
namespace Go.Proofs.YtbecibmlbiebeaaGreat
open Go.RowKit Go.Q Go.D Go.Shelf
end Go.Proofs.YtbecibmlbiebeaaGreat
set_option maxHeartbeats 1000000
set_option maxRecDepth 100000
namespace Go.Proofs.YtbecibmlbiebeaaGreat
open Go.RowKit Go.Q Go.D
theorem specFormatInt (n:Int) (h0:0≤n) (h1:n<100):FnT Tryz.prog 253 [.one (.v (.int .i64 n))] (.a (.one (.v (.string (bs (numS n)))))):=by
 obtain⟨n0,rfl⟩:=Int.eq_ofNat_of_zero_le h0
 refine Ba Tryz.func253 U (by kernel_rfl) Tryz.ntmps253 U fun hlen w0=>?_
 try simp [cToken] at hlen
 have hn0:n0<100:=by omega
 refine Ah (Av ?_);refine Aa (Af (Ah (Ac ?_)));refine Ab (B7 U (.no U) U (.tm U) (.const U)) U ?_;refine Aa (Aq (.tm U) (fun h7=>?_) (fun h7=>?_))
 · try simp at h7
   refine Ah (Av ?_);refine Aa (A3 (Bn U U ?_))
   (have e:n0=0:=(by omega);subst e;unfold numS;rw [dig_small (by simp)];rfl)
 · try simp at h7
   refine As (Ah (Av ?_));refine Aa (Ah (Ac ?_));refine Ab (Bz U (.no U) U (.tm U) (.const U)) U ?_;refine Ak ?_;refine Aa (Af (AW.block (Cj (fun (m:Nat) (O:ByteArray)=>(m<100∧O.size+2*m≤1000)∧bs (restD n0)=bs (restD m)++O) (fun (m:Nat) (O:ByteArray)=>⟨_,[(0,(true,.a (.one (.t (.v (.int .i64 (m:Nat))))))),(3,(true,.a (.one (.t (.v (.string O)))))),(2,_),(4,_)],[]⟩) (fun (m:Nat) (O:ByteArray)=>m) (n0) (⟨#[]⟩) ⟨⟨by omega,by simp [ByteArray.size];omega⟩,(by rw [show (⟨#[]⟩:ByteArray)=bs [] from U,bs_append,List.append_nil])⟩ (An U ⟨U,U,U,U,Y⟩ trivial) ?_)))
   rintro m O ⟨hk,he⟩
   refine Af (Ah (Ac ?_));refine Ab (Da U (.no U) U (.tm U) (.const U)) U ?_;refine Aa (Aq (.tm U) (fun h11=>?_) (fun h11=>?_))
   · try simp at h11
     have hm0:m≠0:=by (first|omega|(simp at h11;omega))
     refine As (AW.block (Ah (Ac ?_)));refine Ab (R_rem U (.no U) U (.tm U) (.const U) (fun _=>by omega)) U ?_;refine Ak ?_;refine Aa (Af (Ah (Ac ?_)));refine Ab (Bz U (.no U) U (.tm U) (.const U)) U ?_;refine Aa (Aq (.tm U) (fun h15=>?_) (fun h15=>?_))
     · exact absurd h15 (by (first|omega|(simp at h15;omega)))
     · try simp at h15
       refine As (Af (A4 (σ':=⟨_,[(0,_),(2,_),(3,_),(4,_),(5,_)],[]⟩) (An U ⟨U,U,U,U,U,Y⟩ trivial) ?_));refine Ae (Ac ?_);refine Ab (Be U (.no U) U (.const U) (.tm U) (fun _=>by omega)) U ?_;refine Ab (R_conv U (.no U) U (.tm U) (by rw [Tryz.underlying3];rfl) Tryz.underlying5 (fun _=>(show IntKind.u8.wrap _=(48+(m:Int)%10) by simp [IntKind.wrap,IntKind.bits];omega))) U ?_;refine Ab (B6 (xs:=[.tmp 20]) (rows:=[[.v (.int .u8 (48+(m:Int)%10))]]) U U U (.cons (.tm U) U U .nil) Tryz.underlying22 in5 U U (U)) U ?_;refine Ab (R_byteStr U (.no U) U (.tm U) Tryz.underlying22 Tryz.underlying5 Tryz.underlying9) U ?_;refine Ac ?_;refine Ab (R_cat U (.no U) U (.tm U) (.tm U) (fun _=>by have:(⟨#[UInt8.ofNat ((48+(m:Int)%10)).toNat]⟩:ByteArray).size=1:=U;omega)) U ?_;refine Ak ?_;refine Aa (A4 (σ':=⟨_,[(0,_),(2,_),(3,_),(4,_),(5,_)],[]⟩) (An U ⟨U,U,U,U,U,Y⟩ trivial) ?_);refine Ae (Ac ?_)
       refine Ab (R_quo U (.no U) U (.tm U) (.const U) (fun _=>by omega)) U ?_;refine Ak ?_;refine Aa ?_
       repeat (with_reducible refine Az ?_)
       refine Round2.next (m / 10) (((ByteArray.mk #[UInt8.ofNat ((48+(m:Int)%10)).toNat])++O)) ⟨⟨by omega,(by rw [ByteArray.size_append];have:(⟨#[UInt8.ofNat ((48+(m:Int)%10)).toNat]⟩:ByteArray).size=1:=rfl;omega)⟩,(by rw [he,restD_step (by omega),←bs_append,show (48+(m:Int)%10).toNat=48+m%10 by omega];rw [ByteArray.append_assoc];rfl)⟩ (by omega) (An rfl ⟨rfl,rfl,rfl,rfl,Y⟩ trivial)
   · try simp at h11
     refine Bf (Af (Ah (Ac ?_)));refine Aa (Aq (.tm U) (fun h27=>?_) (fun h27=>?_))
     · exact absurd h27 (by simp)
     · try simp at h27
       refine As (Ah (Ac ?_));refine Ak ?_;refine Aa (A3 (Bn U U ?_))
       (have e:m=0:=(by omega);have e0:n0≠0:=(by omega);rw [e] at he;unfold restD at he;rw [if_neg e0,if_pos rfl] at he;unfold numS;rw [Int.toNat_natCast,he,bs_nil_append])
theorem specFormatLetter (k:Int) (h0:0≤k) (h8:k≤8):FnT Tryz.prog 252 [.one (.v (.int .i64 k))] (.a (.one (.v (.string (bs (letS k)))))):=by
 refine Ba Tryz.func252 U (by kernel_rfl) Tryz.ntmps252 U fun hlen w0=>?_
 try simp [cToken] at hlen
 have hl:inB k 0 8=true:=by unfold inB;simp;omega
 refine Ah (Av ?_);refine Aa (Af (Ah (Ac ?_)));refine Ab (A6 (FnT.fr (specl2Letter k)) U (.no U) U (.cons (.tm U) U .nil)) U ?_;refine Ab (Cq U (.no U) U (.tm U)) U ?_;refine Aa (Aq (.tm U) (fun h5=>?_) (fun h5=>?_))
 · exact absurd h5 (by simp [hl] at h5)
 · try simp at h5
   refine As (Ah (Ab (B6 (xs:=[.const (.string ⟨#[97]⟩),.const (.string ⟨#[97,45]⟩),.const (.string ⟨#[98]⟩),.const (.string ⟨#[98,45]⟩),.const (.string ⟨#[99]⟩),.const (.string ⟨#[99,45]⟩),.const (.string ⟨#[48]⟩),.const (.string ⟨#[49]⟩),.const (.string ⟨#[50]⟩)]) (rows:=letNames.map cStr) U U U (.cons (.const U) U U (.cons (.const U) U U (.cons (.const U) U U (.cons (.const U) U U (.cons (.const U) U U (.cons (.const U) U U (.cons (.const U) U U (.cons (.const U) U U (.cons (.const U) U U .nil))))))))) Tryz.underlying227 in9 U U (U)) U ?_));refine Ac ?_;refine Ab (Aw U (.no U) U (.tm U) (.tm U) Tryz.underlying227 ty9 (fun _=>⟨by omega,(letS_get h0 h8)⟩)) U ?_;refine Ab (Ap U (.no U) U (.tm U) ty9 U U) U ?_;refine Ak ?_;refine Aa (A3 (Bn U U ?_))
   rfl
end Go.Proofs.YtbecibmlbiebeaaGreat
set_option maxHeartbeats 1000000
set_option maxRecDepth 100000
namespace Go.Proofs.YtbecibmlbiebeaaGreat
open Go.RowKit Go.Q Go.D
theorem specl2Cut (l:List UInt8) (c:UInt8) (hz:l.length≤1073741824):FnT Tryz.prog 229 [.one (.v (.string (bs l))),.one (.v (.int .u8 c.toNat))] (.a (.one (.sl 1 ((splitL c l).map cStr)))):=by
 refine Ba Tryz.func229 U (by kernel_rfl) Tryz.ntmps229 U fun hlen w0=>?_
 try simp [cToken] at hlen
 have hsz:=bs_size l
 refine Ah (Av ?_);refine Bw (i:=4) 20001 1 U U ?_;refine Aa (Ah (Bh (Cp 8 U U U Tryz.underlying227 ty9 U) U ?_));refine Ak ?_;refine Aa (Ah (Av ?_));refine Aa (Af (Ah (Av ?_)));refine Aa (AW.block (C4 (fun (i:Nat) (F:Nat) (O:List (List UInt8))=>(F≤i∧i≤l.length∧c∉(l.take i).drop F∧O.length≤i)∧splitL c l=O++splitL c (l.drop F)) (fun (i:Nat) (F:Nat) (O:List (List UInt8))=>⟨_,[(6,(true,.a (.one (.t (.v (.int .i64 F)))))),(7,(true,.a (.one (.t (.v (.int .i64 i)))))),(5,(true,.a (.one (.rf 8)))),(0,_),(1,_),(4,_)],[(8,.row 1 (O.map cStr))]⟩) (fun (i:Nat) (F:Nat) (O:List (List UInt8))=>l.length-i) (0) (0) ([]) ⟨⟨by omega,by omega,by simp,by simp⟩,(by simp)⟩ Ai ?_))
 rintro i F O ⟨hk,he⟩
 refine Af (Ah (Ac ?_));refine Ac ?_;refine Ab (R_len_s U (.no U) U (.tm U) Tryz.underlying9) U ?_;refine Ab (Bz U (.no U) U (.tm U) (.tm U)) U ?_;refine Aa (Aq (.tm U) (fun h12=>?_) (fun h12=>?_))
 · try simp at h12
   obtain⟨b,hb⟩:∃ ξ,l[i]?=some ξ:=⟨_,List.getElem?_eq_getElem (by omega)⟩
   refine As (Af (AW.block (Ah (Ac ?_))));refine Ac ?_;refine Ab (R_strIndex U (.no U) U (.tm U) (.tm U) Tryz.underlying9 (fun _=>⟨by omega,(by rw [bs_get];exact hb)⟩)) U ?_;refine Ac ?_;refine Ab (B7 U (.no U) U (.tm U) (.tm U)) U ?_;refine Aa (Aq (.tm U) (fun h19=>?_) (fun h19=>?_))
   · try simp at h19
     refine Af (A4 (σ':=⟨_,[(0,_),(1,_),(4,_),(5,_),(6,_),(7,_)],[(8,_)]⟩) Ai ?_);refine Ae (Ac ?_);refine Ac ?_;refine Ac ?_;refine Ac ?_;refine Ab (R_strSlice (n:=F) (m:=i) U (.no U) U (.tm U) (.yes (.tm U) (fun _=>by first|omega|(simp<;>omega))) (.yes (.tm U) (fun _=>by first|omega|(simp<;>omega))) Tryz.underlying9 (fun _=>⟨by omega,by first|omega|(simp;omega)⟩)) U ?_;refine Bp (Cc (xs:=[.tmp 24]) 25 U U U (.cons (.tm U) U U .nil) Tryz.underlying227 in9 U U U U) U ?_;refine Bk (Bt U U U (.tm U) U (.tm U) (by exact .rf U) (by rfl) Tryz.underlying227 in9 U (by (simp [chunk];omega)) (by (unfold maxLen;simp [chunk];omega))) U ?_;refine Bq (σ':=⟨_,[(0,_),(1,_),(4,_),(5,_),(6,_),(7,_),(26,_)],[(8,_),(25,_)]⟩) Ai ?_;refine Ak ?_;refine Aa (Ae (Ac ?_));refine Ab (Be U (.no U) U (.tm U) (.const U) (fun _=>by omega)) U ?_;refine Ak ?_;refine Aa (Ae (Ac ?_))
     refine Ab (Be U (.no U) U (.tm U) (.const U) (fun _=>by omega)) U ?_;refine Ak ?_;refine Aa ?_
     repeat (with_reducible refine Az ?_)
     refine Round3.next (i+1) (i+1) (O++[(l.take i).drop F]) ⟨⟨by omega,by omega,(by simp),(by rw [List.length_append,List.length_singleton];omega)⟩,(cut_step hb hk (UInt8.toNat_inj.1 (by omega)) he)⟩ (by omega) (An rfl ⟨rfl,rfl,rfl,rfl,rfl,rfl,Y⟩ ⟨(by refine congrArg (fun r=>some (R.row 1 r)) ?_;simp [chunk,cStr,bs_extract];done),Y⟩)
   · try simp at h19
     refine As (A4 (σ':=⟨_,[(0,_),(1,_),(4,_),(5,_),(6,_),(7,_)],[(8,_)]⟩) Ai ?_);refine Ae (Ac ?_);refine Ab (Be U (.no U) U (.tm U) (.const U) (fun _=>by omega)) U ?_;refine Ak ?_;refine Aa ?_
     repeat (with_reducible refine Az ?_)
     refine Round3.next (i+1) (F) (O) ⟨⟨by omega,by omega,cut_keep hb hk (fun e=>h19 (by rw [e])),by omega⟩,he⟩ (by omega) (An rfl ⟨rfl,rfl,rfl,rfl,rfl,rfl,Y⟩ ⟨(by refine congrArg (fun r=>some (R.row 1 r)) ?_;simp [chunk,cStr,bs_extract];done),Y⟩)
 · try simp at h12
   refine Bf (Ah (Ac ?_));refine Ac ?_;refine Ac ?_;refine Ab (R_strSlice (n:=F) U (.no U) U (.tm U) (.yes (.tm U) (fun _=>by first|omega|(simp<;>omega))) .no Tryz.underlying9 (fun _=>⟨by omega,by first|omega|(simp;omega)⟩)) U ?_;refine Bp (Cc (xs:=[.tmp 32]) 33 U U U (.cons (.tm U) U U .nil) Tryz.underlying227 in9 U U U U) U ?_;refine Bk (Bt U U U (.tm U) U (.tm U) (by exact .rf U) (by rfl) Tryz.underlying227 in9 U (by (simp [chunk];omega)) (by (unfold maxLen;simp [chunk];omega))) U ?_;refine Bq (σ':=⟨_,[(0,_),(1,_),(4,_),(5,_),(6,_),(7,_),(12,_),(34,_)],[(8,_),(33,_)]⟩) Ai ?_;refine Ak ?_;refine Aa (A3 (Res.one U (.tmp U .nil) U ?_))
   (have hi:i=l.length:=(by omega);subst hi;rw [he,splitL_no (by rw [List.take_of_length_le (Nat.le_refl _)] at hk;exact hk.2.2.1)];refine congrArg (fun r=>[V0.one (T.sl 1 r)]) ?_;simp [chunk,cStr,bs_extract,hsz];done)
end Go.Proofs.YtbecibmlbiebeaaGreat
set_option maxHeartbeats 1000000
set_option maxRecDepth 100000
namespace Go.Q
open Go.D
end Go.Q
namespace Go.Proofs.YtbecibmlbiebeaaGreat
open Go.RowKit Go.Q Go.D
end Go.Proofs.YtbecibmlbiebeaaGreat
set_option maxHeartbeats 1000000
set_option maxRecDepth 100000
namespace Go.Q
open Go.D
def tokS (t:TToken):List UInt8:=
 if t.Kind=1 then [33] else if t.Kind=2 then [40,41] else if t.Kind=3 then letS t.Letter else if t.Kind=4 then [46] else if t.Kind=5 then [124] else if t.Kind=6 then [42]
 else [123]++numS t.Low++[44]++numS t.High++[125]
theorem depth_ar:∀ {l:List TToken} {d:Int},depthGo d l=true→∀ t∈l,0≤arity t
 | [],_,_=>fun t ht=>by cases ht
 | x::r,d,h=>by
  rw [depthGo] at h
  split at h
  · cases h
  · rename_i hc
    intro t ht
    rcases List.mem_cons.1 ht with rfl|ht
    · omega
    · exact depth_ar h t ht
theorem valid_toks {e:TExpr} (h:isValidExpr e=true):e.Tokens.length≤24∧∀ t∈e.Tokens,0≤arity t:=by
 unfold isValidExpr isExpr at h
 simp only [Bool.and_eq_true,decide_eq_true_eq] at h
 exact⟨h.1,depth_ar h.2⟩
theorem tok_rep {t:TToken} (h:0≤arity t) (h1:t.Kind≠1) (h2:t.Kind≠2) (h3:t.Kind≠3) (h4:t.Kind≠4) (h5:t.Kind≠5) (h6:t.Kind≠6):(0≤t.Low∧t.Low≤3)∧0≤t.High∧t.High≤3:=by
 unfold arity at h
 rw [if_neg (by omega),if_neg h3,if_neg (by omega),if_neg h6] at h
 split at h
 · split at h
   · rename_i hc
     simp only [inB,Bool.and_eq_true,decide_eq_true_eq] at hc
     omega
   · omega
 · omega
theorem tok_let {t:TToken} (h:0≤arity t) (h3:t.Kind=3):0≤t.Letter∧t.Letter≤8:=by
 unfold arity at h
 rw [if_neg (by omega),if_pos h3] at h
 split at h
 · rename_i hc
   simp only [inB,Bool.and_eq_true,decide_eq_true_eq] at hc
   omega
 · omega
end Go.Q
set_option maxHeartbeats 1000000
set_option maxRecDepth 100000
namespace Go.Q
open Go.D
end Go.Q
set_option maxHeartbeats 1000000
set_option maxRecDepth 100000
namespace Go.Proofs.YtbecibmlbiebeaaGreat
open Go.RowKit Go.Q Go.D
end Go.Proofs.YtbecibmlbiebeaaGreat
set_option maxHeartbeats 1000000
set_option maxRecDepth 100000
namespace Go.Q
open Go.D
def letP (s:List UInt8):Int×Bool:=match (List.range 9).find? (fun k=>decide (letS (k:Nat)=s)) with
 | some k=>((k:Int),true)
 | none=>(0,false)
theorem letP_at {s:List UInt8} {k:Nat} (hk:k<9) (h:letS (k:Nat)=s) (hn:∀ j,j<k→letS (j:Nat)≠s):letP s=((k:Int),true):=by
 have:(List.range 9).find? (fun k=>decide (letS (k:Nat)=s))=some k:=by
  rw [List.find?_range_eq_some]
  exact⟨decide_eq_true h,List.mem_range.2 hk,fun j hj=>by simpa using hn j hj⟩
 unfold letP
 rw [this]
theorem letP_no {s:List UInt8} (hn:∀ j,j<9→letS (j:Nat)≠s):letP s=(0,false):=by
 have:(List.range 9).find? (fun k=>decide (letS (k:Nat)=s))=none:=by
  rw [List.find?_eq_none]
  intro x hx
  simpa using hn x (List.mem_range.1 hx)
 unfold letP
 rw [this]
end Go.Q
set_option maxHeartbeats 1000000
set_option maxRecDepth 100000
namespace Go.Q
open Go.D
def tk0 (k:Int):TToken:=⟨k,0,0,0⟩
def brS (s:List UInt8):TToken:=if s.length=5∧s[0]?=some 123∧s[2]?=some 44∧s[4]?=some 125 then ⟨7,0,((s[1]?.getD 0).toNat:Int)-48,((s[3]?.getD 0).toNat:Int)-48⟩ else tk0 0
def rdT (rest:List UInt8→TToken) (s:List UInt8):TToken:=
 if s=[33] then tk0 1 else if s=[40,41] then tk0 2 else if s=[46] then tk0 4 else if s=[124] then tk0 5 else if s=[42] then tk0 6
 else if (letP s).2=true then ⟨3,(letP s).1,0,0⟩ else rest s
def exS (s:List UInt8):TExpr:=⟨(splitL 32 s).map (rdT brS)⟩
def parseX (s:List UInt8):TExpr×Bool:=if isValidExpr (exS s)=true then (exS s,true) else (⟨[]⟩,false)
theorem parseX_spec {s:List UInt8} {k:Nat} (hk:(splitL 32 s).length≤k∨25≤k):parseX s=if isValidExpr ⟨((splitL 32 s).take k).map (rdT brS)⟩=true then (⟨((splitL 32 s).take k).map (rdT brS)⟩,true) else (⟨[]⟩,false):=by
 by_cases h:(splitL 32 s).length≤k
 · rw [List.take_of_length_le h];rfl
 · have h1:isValidExpr (exS s)=false:=Bool.eq_false_iff.2 fun hh=>by
    have:=(valid_toks hh).1
    unfold exS at this;simp at this;omega
   have h2:isValidExpr ⟨((splitL 32 s).take k).map (rdT brS)⟩=false:=Bool.eq_false_iff.2 fun hh=>by
    have:=(valid_toks hh).1
    simp at this;omega
   unfold parseX
   rw [h1,h2];rfl
end Go.Q
set_option maxHeartbeats 1000000
set_option maxRecDepth 100000
namespace Go.Q
open Go.D
end Go.Q
namespace Go.Proofs.YtbecibmlbiebeaaGreat
open Go.RowKit Go.Q Go.D
theorem specParseLetter (s:List UInt8):FnT Tryz.prog 245 [.one (.v (.string (bs s)))] (.tup [.one (.v (.int .i64 (letP s).1)),.one (.v (.bool (letP s).2))]):=by
 refine Ba Tryz.func245 U (by kernel_rfl) Tryz.ntmps245 U fun hlen w0=>?_
 try simp [cToken] at hlen
 refine Ah (Av ?_);refine Av ?_;refine Aa (Af (Ah (Av ?_)));refine Aa (AW.block (Bs (fun (k:Nat)=>(k≤9∧∀ j:Nat,j<k→letS (j:Nat)≠s)∧True) (fun (k:Nat)=>⟨_,[(4,(true,.a (.one (.t (.v (.int .i64 (k:Nat))))))),(0,_)],[]⟩) (fun (k:Nat)=>9-k) (0) ⟨⟨by omega,fun j hj=>by omega⟩,Y⟩ (An U ⟨U,U,Y⟩ trivial) ?_))
 rintro k ⟨hk,he⟩
 refine Af (Ah (Ac ?_));refine Ab (Bz U (.no U) U (.tm U) (.const U)) U ?_;refine Aa (Aq (.tm U) (fun h6=>?_) (fun h6=>?_))
 · try simp at h6
   refine As (Af (AW.block (Ah (Ac ?_))));refine Ab (A6 (FnT.fr (specFormatLetter (k:Int) (by omega) (by omega))) U (.no U) U (.cons (.tm U) U .nil)) U ?_;refine Ac ?_;refine Ab (R_eqstr U (.no U) U (.tm U) (.tm U)) U ?_;refine Aa (Aq (.tm U) (fun h12=>?_) (fun h12=>?_))
   · try simp at h12
     refine Af (A4 (σ':=⟨_,[(0,_),(4,_)],[]⟩) (An U ⟨U,U,Y⟩ trivial) ?_);refine Ae (Ac ?_);refine Ak ?_;refine Av ?_;refine Aa (A3 (Cv U (.tmp U (.tmp U .nil)) U ?_ (by simp)))
     rw [letP_at (k:=k) (by omega) (bs_inj h12) hk.2];rfl
   · try simp at h12
     refine As (A4 (σ':=⟨_,[(0,_),(4,_)],[]⟩) (An U ⟨U,U,Y⟩ trivial) ?_);refine Ae (Ac ?_);refine Ab (Be U (.no U) U (.tm U) (.const U) (fun _=>by omega)) U ?_;refine Ak ?_;refine Aa ?_
     repeat (with_reducible refine Az ?_)
     refine Round1.next (k+1) ⟨⟨by omega,fun j hj=>(by by_cases e:j=k;(subst e;exact fun e2=>h12 (by rw [e2]));exact hk.2 j (by omega))⟩,Y⟩ (by omega) (An rfl ⟨rfl,rfl,Y⟩ trivial)
 · try simp at h6
   refine Bf (Ah (Av ?_));refine Av ?_;refine Aa (A3 (Cv U (.tmp U (.tmp U .nil)) U ?_ (by simp)))
   rw [letP_no fun j hj=>hk.2 j (by omega)];rfl
end Go.Proofs.YtbecibmlbiebeaaGreat
set_option maxHeartbeats 1000000
set_option maxRecDepth 100000
namespace Go.Q
open Go.D
end Go.Q
namespace Go.Proofs.YtbecibmlbiebeaaGreat
open Go.RowKit Go.Q Go.D
theorem specl8Token (t:TToken) (h:0≤arity t):FnT Tryz.prog 244 [.agg (cToken t)] (.a (.one (.v (.string (bs (tokS t)))))):=by
 refine Ba Tryz.func244 U (by kernel_rfl) Tryz.ntmps244 U fun hlen w0=>?_
 try simp [cToken] at hlen
 skip
 have e1:(⟨#[123]⟩:ByteArray).size=1:=rfl
 have e2:(⟨#[44]⟩:ByteArray).size=1:=rfl
 have e3:(⟨#[125]⟩:ByteArray).size=1:=rfl
 refine Ah (Ab (Bm U U U (.tm U) (ts:=_) (by rfl)) U ?_);refine Av ?_;refine Aa (Af (Ah (Ab (Ao U (.no U) U (.tm U) fl88_0) U ?_)));refine Ab (Ap U (.no U) U (.tm U) ty3 U U) U ?_;refine Aa (AW.block (Ah (Ab (B7 U (.no U) U (.tm U) (.const U)) U ?_)));refine Ak ?_;refine Aa (Aq (.tm U) (fun h5=>?_) (fun h5=>?_))
 · try simp at h5
   refine Ah (Av ?_);refine Aa (A3 (Bn U U ?_))
   (unfold tokS;rw [if_pos h5];rfl)
 · try simp at h5
   refine Ah (Ab (B7 U (.no U) U (.tm U) (.const U)) U ?_);refine Ak ?_;refine Aa (Aq (.tm U) (fun h7=>?_) (fun h7=>?_))
   · try simp at h7
     refine Ah (Av ?_);refine Aa (A3 (Bn U U ?_))
     (unfold tokS;rw [if_neg h5,if_pos h7];rfl)
   · try simp at h7
     refine Ah (Ab (B7 U (.no U) U (.tm U) (.const U)) U ?_);refine Ak ?_;refine Aa (Aq (.tm U) (fun h9=>?_) (fun h9=>?_))
     · try simp at h9
       refine Af (A4 (σ':=⟨_,[(0,_),(1,_),(2,_),(4,_)],[]⟩) (An U ⟨U,U,U,U,Y⟩ trivial) ?_);refine Ae (Ab (Ao U (.no U) U (.tm U) fl88_1) U ?_);refine Ab (Ap U (.no U) U (.tm U) ty3 U U) U ?_;refine Ab (A6 (FnT.fr (specFormatLetter t.Letter (tok_let h h9).1 (tok_let h h9).2)) U (.no U) U (.cons (.tm U) U .nil)) U ?_;refine Ak ?_;refine Aa (A3 (Bn U U ?_))
       (unfold tokS;rw [if_neg h5,if_neg h7,if_pos h9])
     · try simp at h9
       refine Af (A4 (σ':=⟨_,[(0,_),(1,_),(2,_),(4,_)],[]⟩) (An U ⟨U,U,U,U,Y⟩ trivial) ?_);refine Ae (Ab (B7 U (.no U) U (.tm U) (.const U)) U ?_);refine Ak ?_;refine Aa (Aq (.tm U) (fun h14=>?_) (fun h14=>?_))
       · try simp at h14
         refine Ah (Av ?_);refine Aa (A3 (Bn U U ?_))
         (unfold tokS;rw [if_neg h5,if_neg h7,if_neg h9,if_pos h14];rfl)
       · try simp at h14
         refine Ah (Ab (B7 U (.no U) U (.tm U) (.const U)) U ?_);refine Ak ?_;refine Aa (Aq (.tm U) (fun h16=>?_) (fun h16=>?_))
         · try simp at h16
           refine Ah (Av ?_);refine Aa (A3 (Bn U U ?_))
           (unfold tokS;rw [if_neg h5,if_neg h7,if_neg h9,if_neg h14,if_pos h16];rfl)
         · try simp at h16
           refine Ah (Ab (B7 U (.no U) U (.tm U) (.const U)) U ?_);refine Ak ?_;refine Aa (Aq (.tm U) (fun h18=>?_) (fun h18=>?_))
           · try simp at h18
             refine Af (A4 (σ':=⟨_,[(0,_),(1,_),(2,_),(4,_)],[]⟩) (An U ⟨U,U,U,U,Y⟩ trivial) ?_);refine Ae (Av ?_);refine Aa (A3 (Bn U U ?_))
             (unfold tokS;rw [if_neg h5,if_neg h7,if_neg h9,if_neg h14,if_neg h16,if_pos h18];rfl)
           · try simp at h18
             have hr:=tok_rep h h5 h7 h9 h14 h16 h18
             have s1:=numS_len (n:=t.Low) (by omega)
             have s2:=numS_len (n:=t.High) (by omega)
             refine As (Af (A4 (σ':=⟨_,[(0,_),(1,_),(2,_),(4,_)],[]⟩) (An U ⟨U,U,U,U,Y⟩ trivial) ?_));refine B9 11 (nthB [[],[0],[0,1],[0,1,2],[0,1,2,3],[],[5],[0,1,2,5,6],[0,1,2,3,4,5,6,7],[0,1,2,3,4,5,6,7,8],[0,1,2,3,4,5,6,7,8,9]]) (by kernel_rfl) (by kernel_rfl) (by kernel_rfl) ?_;refine Ad U U U (Aj U fun σ' hs=>(by exact Ao U (.no U) (Ag hs U) (.tm (hs.slots _ _ U)) fl88_2)) ?_;refine Ad U U U (Aj U fun σ' hs=>(by exact Ap U (.no U) (Ag hs U) (.tm (hs.slots _ _ U)) ty3 U U)) ?_;refine Ad U U U (Aj U fun σ' hs=>A6 (FnT.fr (specFormatInt t.Low (by omega) (by omega))) U (.no U) (Ag hs U) (.cons (.tm (hs.slots _ _ U)) (readA_sup hs U) .nil)) ?_;refine Ad U U U (Aj U fun σ' hs=>R_cat U (.no U) (Ag hs U) (.const U) (.tm (hs.slots _ _ U)) (fun _=>by simp only [ByteArray.size_append,bs_size];omega)) ?_
             refine Ad U U U (Aj U fun σ' hs=>R_cat U (.no U) (Ag hs U) (.tm (hs.slots _ _ U)) (.const U) (fun _=>by simp only [ByteArray.size_append,bs_size];omega)) ?_;refine Ad U U U (Aj U fun σ' hs=>(by exact Ao U (.no U) (Ag hs U) (.tm (hs.slots _ _ U)) fl88_3)) ?_;refine Ad U U U (Aj U fun σ' hs=>(by exact Ap U (.no U) (Ag hs U) (.tm (hs.slots _ _ U)) ty3 U U)) ?_;refine Ad U U U (Aj U fun σ' hs=>A6 (FnT.fr (specFormatInt t.High (by omega) (by omega))) U (.no U) (Ag hs U) (.cons (.tm (hs.slots _ _ U)) (readA_sup hs U) .nil)) ?_;refine Ad U U U (Aj U fun σ' hs=>R_cat U (.no U) (Ag hs U) (.tm (hs.slots _ _ U)) (.tm (hs.slots _ _ U)) (fun _=>by simp only [ByteArray.size_append,bs_size];omega)) ?_;refine Ad U U U (Aj U fun σ' hs=>R_cat U (.no U) (Ag hs U) (.tm (hs.slots _ _ U)) (.const U) (fun _=>by simp only [ByteArray.size_append,bs_size];omega)) ?_
             refine Ad U U U (Aj U fun σ' hs=>C1 U (.no U) (Ag hs U) (.tm (hs.slots _ _ U))) ?_;refine Bx U U ?_;refine Aa (A3 (Bn U U ?_))
             (unfold tokS;rw [if_neg h5,if_neg h7,if_neg h9,if_neg h14,if_neg h16,if_neg h18,show (⟨#[123]⟩:ByteArray)=bs [123] from rfl,show (⟨#[44]⟩:ByteArray)=bs [44] from rfl,show (⟨#[125]⟩:ByteArray)=bs [125] from rfl];simp only [bs_append])
end Go.Proofs.YtbecibmlbiebeaaGreat
