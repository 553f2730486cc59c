import Derived.Test.YtdhojcaoljhbiaaGreatAbsHxc
import Derived.Test.YtdhojcaoljhbiaaGreatOpenBxc
import Derived.Shelf.Sort.Plain
import Derived.Shelf.Slices.In.SortNone
import Derived.Shelf.Abstract
import Derived.Ground.NamesProg
set_option linter.unusedVariables false
set_option linter.unusedSimpArgs false
set_option maxRecDepth 100000
set_option maxHeartbeats 1000000
open List renaming replicate->Z9,getElem?_eq_getElem->ZC,nodup_cons->ZH,length_map->ZI,all_eq_true->ZJ,map_cons->ZL,mem_cons->ZO,mem_replicate->ZQ,size_toArray->ZR,length_take->ZS,getElem?_eq_none->ZT,getElem?_eq_some_iff->ZU,flatten_cons->ZV,mem_map->ZZ,getElem?_map->Aaa
open Go.Value renaming int->ZA,oneCell'->ZP
open Go.Proofs.Tryz renaming prog->ZB,underlying43->ZX,underlying24->Aac,func181->Aae,ntmps181->Aaf,func54->Aag,ntmps54->Aah,func58->Aai,ntmps58->Aaj,func138->Aak,ntmps138->Aal,func146->Aam,ntmps146->Aan,func91->Aao,ntmps91->Aap,func85->Aaq,ntmps85->Aar
open Array renaming getElem?_eq_some_iff->ZD,getElem?_modify->ZY,getElem?_append_left->Aab
open Nat renaming zero_add->ZE,blt->ZG,sub_zero->ZN,zero_le->ZW
open Go.Sort renaming ahead->ZF
namespace Go.Q
open Go.RowKit
section
variable {P:Program} {ops:Array Oper} {o:Oper} {σ:St} {q:Bool}
theorem Rws.takeN {w:World} {b k:Nat}:∀ {rows:List (List T)} {off:Nat} {G:List Nat},Rws true w b k off rows G→G.Nodup→∀ m,∃ G',Rws true w b k off (rows.take m) G'∧G'.Sublist G
 | [],off,G,h,_,m=>⟨G,by simpa using h,List.Sublist.refl _⟩
 | row::rows,off,G,h,hn,0=>⟨[],by simp [Rws],by simp⟩
 | row::rows,off,G,h,hn,m+1=>by
  simp only [Rws] at h
  obtain⟨G1,G2,h1,h2,h3,rfl⟩:=h
  obtain⟨G',g1,g2⟩:=Rws.takeN h3 (List.nodup_append.1 hn).2.1 m
  refine⟨G1++G',?_,List.Sublist.append (List.Sublist.refl _) g2⟩
  rw [List.take_succ_cons]
  simp only [Rws]
  exact⟨G1,G',h1,h2,g1,rfl⟩
theorem Ug {id k m:Nat} {t e:TypeId} {x:Operand} {hi:Option Operand} {ag:Bool} {rows:List (List T)} (ho:o.op=.slice t x none hi none) (hg:o.guard=none) (hd:o.dst.all (fun d=>ZG d σ.n)=true) (hx:Get σ true x (.one (.rf id)))
 (hs:look σ.res id=some (.row k rows)) (hh:Bnd σ true hi rows.length m) (hu:P.underlying t=some (.slice e)) (hk:tyB P e ag k=true) (hb:m≤rows.length):Op1 P ops o σ ((σ.chg id (.row k (rows.take m))).put o.dst (true,.a (.one (.rf id)))):=
 .eff hg fun w0 a w ⟨I,hr⟩=>by
  obtain⟨h1,a0,N,M,h2⟩:VE I w (.rf id) (a.eval x):=hx.va hr rfl
  have hC:C true w (.sl k rows) (I.hd id) (I.F id):=hr.res id _ hs
  have own:=hr.own id _ hs
  rw [←h1,h2] at hC
  obtain⟨e1,e2,e3⟩:=hC.hdr
  have hrun:(Instr.sliceAt t (.slice a0 N M) none (hi.map a.eval) none).run P w=.ok (.slice (if M=0 then a0 else a0.map (·.add (0*k))) (m-0) (M-0)) w:=by
   have b1:m≤M:=by omega
   rcases hh.val hr rfl with ⟨h6,rfl⟩|h6<;>rw [h6]<;>simp [Instr.sliceAt,Instr.slice,run_underlying hu,Instr.sliceBounds,Instr.sliceBound,asIntOf,E6 hk,b1,e1,e2]
  have hadr:(if M=0 then a0 else a0.map (·.add (0*k)))=a0:=by
   split
   · rfl
   cases a0 with
   | none=>rfl
   | some ga=>obtain⟨g,off,sp⟩:=ga;simp [Addr.add]
  rw [hadr,ZN,ZN] at hrun
  rcases hC.blk with ⟨h3,h4,h5⟩|⟨g,G,cur,e',rfl,h4,h5,h6,h7⟩
  · subst h5
    have hm0:m=0:=by simpa using hb
    have hN0:N=0:=by simpa using e1.symm
    have hR:=hr.chg hs (Chg.refl _ _) (G:=[]) (u:=.slice a0 m M) (r:=.row k (([]:List (List T)).take m)) ⟨List.nodup_nil,by simp⟩ (by
     show C true _ _ _ _
     simp only [Ip.set,if_true]
     unfold C
     exact⟨_,_,_,rfl,by simp;omega,by omega,e3,.inl ⟨hm0,rfl,fun _=>h3⟩⟩)
    exact⟨.slice a0 m M,w,by simp [execOp,ho,h2,hrun],_,hR.put hd ⟨by simp [Ip.set],a0,m,M,rfl⟩⟩
  rw [h4] at own
  have hnd:=ZH.1 own.1
  obtain⟨G',g1,g2⟩:=h7.takeN hnd.2 m
  have hR:=hr.chg hs (Chg.refl _ _) (G:=g::G') (u:=.slice (some ⟨g,0,none⟩) m M) (r:=.row k (rows.take m)) ⟨ZH.2 ⟨fun hm=>hnd.1 (g2.subset hm),hnd.2.sublist g2⟩,fun b hb=>by
   have hin:b∈g::G:=by
    rcases ZO.1 hb with rfl|hb
    · simp
    simp [g2.subset hb]
   obtain⟨o1,o2⟩:=own.2 b hin
   exact⟨o1,(hr.lt id b (by rw [h4];exact hin)).1,o2,.inl (by rw [h4];exact hin)⟩⟩ (by
   show C true _ _ _ _
   simp only [Ip.set,if_true]
   unfold C
   exact⟨_,_,_,rfl,by simp;omega,by omega,e3,.inr ⟨g,0,G',rfl,rfl,(ZD.1 h5).1,fun _=>⟨rfl,cur,e',h5,h6⟩,g1⟩⟩)
  exact⟨.slice (some ⟨g,0,none⟩) m M,w,by simp [execOp,ho,h2,hrun],_,hR.put hd ⟨by simp [Ip.set],some ⟨g,0,none⟩,m,M,rfl⟩⟩
theorem Nd (zs:List Value) (n:Nat):(Builtin.zeroCells zs.toArray n).toList=(Z9 n zs).flatten:=by
 unfold Builtin.zeroCells
 rw [←LF zs (.inr trivial) n]
 simp
theorem XG {id k j bytes:Nat} {t e:TypeId} {x:Operand} {z:Value} {zs:List Value} {rows:List (List T)} (ho:o.op=.call { callee:=.builtin .clear,args:=#[x],argTypes:=#[t] }) (hg:o.guard=none) (hd:o.dst=none) (hx:Get σ true x (.one (.tl id k j)))
 (hs:look σ.res id=some (.row k rows)) (hu:P.underlying t=some (.slice e)) (hi:(P.info? e).map (fun i=>(i.zero,i.size,i.bytes))=some (some z,k,bytes)) (hz:z.cells=zs.toArray) (hk:(Nat.beq zs.length k&&zs.all ZP)=true) :
 Op1 P ops o σ (σ.upd id (.row k (rows.take j++Z9 (rows.length-j) (zs.map .v)))):=
 .eff hg fun w0 a w ⟨I,hr⟩=>by
  simp only [Bool.and_eq_true] at hk
  have hzk:=Nat.eq_of_beq_eq_true hk.1
  obtain⟨a0,a',N,M,h1,h2,h3,h4,h5⟩:VE I w (.tl id k j) (a.eval x):=hx.va hr rfl
  have hC:C true w (.sl k rows) (I.hd id) (I.F id):=hr.res id _ hs
  have hC0:=hC
  have own:=hr.own id _ hs
  rw [h1] at hC
  obtain⟨e1,e2,e3⟩:=hC.hdr
  obtain⟨i,hi1,hi2,hi3,hi4⟩:=info_parts hi
  subst hi3
  by_cases hj:j=N
  · have hrun:(Builtin.clear_ #[t] o.type #[a.eval x]).run P w=.ok (.tuple #[]) w:=by
     rw [h2,show N-j=0 by omega]
     cases a'<;>simp [Builtin.clear_,run_underlying hu]
    have er:rows.take j++Z9 (rows.length-j) (zs.map T.v)=rows:=by
     rw [show rows.length-j=0 by omega,List.take_of_length_le (by omega)];simp
    rw [er]
    have hR:=hr.upd (G:=I.F id) (r:=.row i.size rows) hs (Chg.refl _ _) ⟨own.1,fun b hb=>⟨(own.2 b hb).1,(hr.lt id b hb).1,(own.2 b hb).2,.inl hb⟩⟩ (by show C true _ _ _ _;simpa [Ip.set] using hC0)
    exact⟨.tuple #[],w,by simp [execOp,ho,resolve,invoke,builtin,hrun],_,by rw [hd];exact hR⟩
  have hjN:j<N:=by omega
  obtain⟨g',rfl,rfl⟩:=h5 (by omega)
  rcases hC.blk with ⟨q1,_⟩|⟨g,G,cur,e',q1,q2,q3,q4,q5⟩
  · omega
  cases q1
  have hvals:∀ v∈(Z9 (N-j) zs).flatten,v.oneCell'=true:=fun v hv=>by
   rw [List.mem_flatten] at hv
   obtain⟨l,hl,hv⟩:=hv
   rw [(ZQ.1 hl).2] at hv
   exact ZJ.1 hk.2 v hv
  have hlen:((Z9 (N-j) zs).flatten).length=(N-j)*i.size:=by simp [hzk]
  have hjk:j*i.size+(N-j)*i.size=N*i.size:=by rw [←Nat.add_mul];congr 1;omega
  have hNM:N*i.size≤M*i.size:=Nat.mul_le_mul_right _ e2
  have hst:=run_storeCells_at P g' (j*i.size) e' ((Z9 (N-j) zs).flatten) 0 cur w q3 (by rw [hlen,q4];omega) hvals
  simp only [Nat.add_zero] at hst
  have hzv:(zeroValue e).run P w=.ok z w:=by simp [zeroValue,typeInfo,hi1,hi2]
  have hrun:(Builtin.clear_ #[t] o.type #[a.eval x]).run P w=.ok (.tuple #[]) (w.setRow g' (cur.toList.take (j*i.size)++(Z9 (N-j) zs).flatten++cur.toList.drop (j*i.size+((Z9 (N-j) zs).flatten).length)).toArray):=by
   rw [h2]
   have hnz:∃ n',N-j=n'+1:=⟨N-j-1,by omega⟩
   obtain⟨n',hn'⟩:=hnz
   have hzc:(Builtin.zeroCells z.cells (N-j)).toList=(Z9 (N-j) zs).flatten:=by rw [hz];exact Nd zs _
   rw [←hzc,hn'] at hst ⊢
   simp [Builtin.clear_,run_underlying hu,hzv,hst]
  generalize harr:(cur.toList.take (j*i.size)++(Z9 (N-j) zs).flatten++cur.toList.drop (j*i.size+((Z9 (N-j) zs).flatten).length)).toArray=arr at hrun
  have hgn:(w.setRow g' arr).heap[g']?=some (.cells arr e' (0,0)):=setRow_heap w g' cur _ e' _ q3
  have hsz:arr.size=M*i.size:=by
   rw [←harr,←q4]
   simp only [ZR,List.length_append,ZS,List.length_drop,Array.length_toList,hlen]
   omega
  have hch:Chg w (w.setRow g' arr) (I.F id):=⟨rfl,rfl,rfl,by simp [World.setRow],fun b _ hb=>setRow_other w g' b _ (fun e=>hb (by rw [q2,e];simp))⟩
  rw [q2] at own
  have hnd:=ZH.1 own.1
  obtain⟨G',g1,g2⟩:=q5.takeN hnd.2 j
  obtain⟨s1,xs,s2,s3,s4⟩:=g1.flat
  simp only [ZE] at s4
  have hxl:xs.length=j*i.size:=by rw [s3,ZS];congr 1;omega
  have hxs:cur.toList.take (j*i.size)=xs:=by
   apply List.ext_getElem?;intro p
   by_cases hp:p<xs.length
   · have:=s4 p _ (ZC hp)
     simp only [World.cell?,q3] at this
     rw [List.getElem?_take,if_pos (by omega),ZC hp]
     simpa using this
   rw [ZT (by simp;omega),ZT (by omega)]
  have hgne:∀ b∈G',b≠g':=fun b hb e=>hnd.1 (e▸g2.subset hb)
  have hR:=hr.upd (G:=g'::G') (r:=.row i.size (rows.take j++Z9 (rows.length-j) (zs.map .v))) hs hch ⟨ZH.2 ⟨fun hm=>hnd.1 (g2.subset hm),hnd.2.sublist g2⟩,fun b hb=>by
   have hin:b∈g'::G:=by
    rcases ZO.1 hb with rfl|hb
    · simp
    simp [g2.subset hb]
   obtain⟨o1,o2⟩:=own.2 b hin
   refine⟨o1,Nat.lt_of_lt_of_le (hr.lt id b (by rw [q2];exact hin)).1 hch.size,?_,.inl (by rw [q2];exact hin)⟩
   by_cases eb:b=g'
   · subst eb;exact⟨.inl _,_,hgn⟩
   · obtain⟨cc,ee,o3⟩:=o2
     exact⟨cc,ee,(setRow_other w g' b _ eb).trans o3⟩⟩ (by
   show C true _ _ _ _
   simp only [Ip.set,if_true]
   rw [h1]
   unfold C
   refine⟨_,_,_,rfl,by simp;omega,e2,e3,.inr ⟨g',0,G',rfl,rfl,(ZD.1 hgn).1,fun _=>⟨rfl,arr,e',hgn,hsz⟩,Rws.of (xs:=xs++(Z9 (N-j) zs).flatten) (fun row hm=>?_) ?_ fun p u hp=>?_⟩⟩
   · rcases List.mem_append.1 hm with hm|hm
     · exact s1 row hm
     rw [(ZQ.1 hm).2,ZI];exact hzk
   · rw [List.flatten_append]
     have s2':Cs true (w.setRow g' arr) (rows.take j).flatten xs G':=s2.congr fun b hb=>setRow_other w g' b _ (hgne b hb)
     have s3':Cs true (w.setRow g' arr) (Z9 (rows.length-j) (zs.map T.v)).flatten ((Z9 (N-j) zs).flatten) []:=by
      rw [E9,e1]
      exact Nc (ZJ.2 hvals)
     simpa using s2'.append s3'
   simp only [World.cell?,hgn,ZE]
   rw [←harr,hxs]
   have hlt:=(ZU.1 hp).1
   simp only [Option.isSome_none,Bool.false_eq_true,if_false,List.getElem?_toArray]
   rw [List.getElem?_append_left hlt];exact hp)
  exact⟨.tuple #[],w.setRow g' arr,by simp [execOp,ho,resolve,invoke,builtin,hrun],_,by rw [hd];exact hR⟩
theorem Oz {id k i p:Nat} {t:TypeId} {x:Operand} {rows:List (List T)} {row:List T} {ag:Bool} {n:Nat} (ho:o.op=.load t x) (hg:Grd ops o σ q) (hd:o.dst.all (fun d=>ZG d σ.n)=true) (hx:Get σ q x (.one (.pr id k i p))) (hs:look σ.res id=some (.row k rows)) (hi:q=true→rows[i]?=some row) (ht:tyB P t ag n=true)
 (hn:Nat.ble (p+n) row.length=true) (h1:(ag||Nat.beq n 1)=true):Op1 P ops o σ (σ.put o.dst (q,.a (mkA ag (((row.drop p).take n).map (toE id))))):=by
 cases q with
 | true=>exact Ca ho hg hd hx hs (hi rfl) ht hn h1
 | false=>exact .val hg hd fun I w0 a w hr hq=>by cases hq
theorem Cw {f:FuncId} {l:List Operand} {tys:Array TypeId} {ins:List V0} {out:V} (ho:o.op=.call { callee:=.value (.func f),args:=l.toArray,argTypes:=tys }) (hg:Grd ops o σ q) (hd:o.dst.all (fun d=>ZG d σ.n)=true)
 (ha:L0 σ q l ins) (h:q=true→FrT P f ins out):Op1 P ops o σ (σ.put o.dst (q,inS out)):=by
 cases q with
 | true=>exact Bc (h rfl) ho hg hd ha
 | false=>
  rintro w0 a w ⟨I,hr⟩ K Q hK
  rw [hg.wanted hr]
  exact hK _ _ ⟨I,hr.put hd rfl⟩
theorem Ig {α:Type} {f:α→List T} (h:∀ x,(f x).all T.isV=true):∀ l:List α,(l.map f).flatten.all T.isV=true
 | []=>rfl
 | x::l=>by rw [ZL,ZV,List.all_append,h x,Ig h l];rfl
theorem Li {α:Type} {f:α→List T} (h:∀ x,(f x).all T.isV=true) (l:List α) (n m:Nat):(((l.map f).take m).drop n).flatten.all T.isV=true:=by
 rw [←List.map_take,←List.map_drop];exact Ig h _
theorem C3 {id:Nat} {t e:TypeId} {x:Operand} {lo hi:Option Operand} {k n m:Nat} {ag:Bool} {rows:List (List T)} (ho:o.op=.slice t x lo hi none) (hg:Grd ops o σ q) (hd:o.dst.all (fun d=>ZG d σ.n)=true) (hx:Get σ q x (.one (.rf id))) (hs:look σ.res id=some (.row k rows))
 (hl:Bnd σ q lo 0 n) (hh:Bnd σ q hi rows.length m) (hu:P.underlying t=some (.slice e)) (hk:tyB P e ag k=true) (hb:q=true→n≤m∧m≤rows.length):Op1 P ops o σ (σ.put o.dst (q,.a (.one (.vw id (.sl k ((rows.take m).drop n)))))):=
 .val hg hd fun I w0 a w hr hq=>by
  have hv:VE I w (.rf id) (a.eval x):=hx.va hr hq
  have hC:C true w (.sl k rows) (I.hd id) (I.F id):=hr.res id _ hs
  obtain⟨v',F',g1,g2,g3⟩:=Tw hu hk (C.read hC) (hl.val hr hq) (hh.val hr hq) (hb hq).2 (hb hq).1
  rw [←hv.1] at g1
  exact⟨v',by simp [execOp,ho,g1],F',g2,g3⟩
theorem Sb {w:World} {b k':Nat}:∀ {n off:Nat} {G:List Nat},Rws true w b 1 off (Z9 n [.v (.slice none 0 0)]) G→Rws true w b 1 off (Z9 n [.sl k' []]) G
 | 0,_,_,h=>h
 | n+1,off,G,h=>by
  rw [List.replicate_succ] at h ⊢
  simp only [Rws] at h ⊢
  obtain⟨G1,G2,h1,h2,h3,rfl⟩:=h
  refine⟨G1,G2,rfl,?_,Sb h3,rfl⟩
  simp only [Ms] at h2 ⊢
  obtain⟨c,G3,G4,h4,h5,h6,rfl⟩:=h2
  refine⟨c,G3,G4,h4,?_,h6,rfl⟩
  simp only [C] at h5
  obtain⟨rfl,rfl,_⟩:=h5
  unfold C
  exact⟨none,0,0,rfl,rfl,Nat.le_refl _,ZW _,.inl ⟨rfl,rfl,fun _=>rfl⟩⟩
theorem YP {w:World} {n k':Nat} {v:Value} {F:List Nat} (h:C true w (.sl 1 (Z9 n [.v (.slice none 0 0)])) v F):C true w (.sl 1 (Z9 n [.sl k' []])) v F:=by
 simp only [C] at h ⊢
 obtain⟨a,len,cap,h1,h2,h3,h4,h5⟩:=h
 refine⟨a,len,cap,h1,by simpa using h2,h3,h4,?_⟩
 rcases h5 with h5|⟨b,off,G,h6,h7,h8,h9,h10⟩
 · exact .inl h5
 exact .inr ⟨b,off,G,h6,h7,h8,h9,Sb h10⟩
theorem AU.rerow {I:Ip} {w0:BB} {w:World} {a:Act} (h:AU I w0 σ a w) {id:Nat} {r0 r:R} (h0:look σ.res id=some r0) (hv:RR I w id r0→RR I w id r):AU I w0 ⟨σ.n,σ.slots,FA σ.res id r⟩ a w:=by
 have key:∀ i r',look (FA σ.res id r) i=some r'→(i=id∧r'=r)∨look σ.res i=some r':=fun i r' hi=>by
  rcases HA _ _ _ _ _ hi with ⟨h1,h2,_⟩|⟨_,h2⟩
  · exact .inl ⟨h1,h2⟩
  exact .inr h2
 refine⟨h.ext,h.defers,h.size,h.slots,fun i r' hi=>?_,h.old,h.lt,fun i r' hi=>?_,h.apart⟩
 · rcases key i r' hi with ⟨rfl,rfl⟩|hi
   · exact hv (h.res _ _ h0)
   exact h.res i r' hi
 rcases key i r' hi with ⟨rfl,rfl⟩|hi
 · exact h.own _ _ h0
 exact h.own i r' hi
theorem Le.nilRow {n0:Nat} {sl:List (Nat×(Bool×S))} {rs:List (Nat×R)} {id m:Nat} (k':Nat) (hs:look rs id=some (.row 1 (Z9 m [.v (.slice none 0 0)]))):Le ⟨n0,sl,rs⟩ ⟨n0,sl,FA rs id (.row 1 (Z9 m [.sl k' []]))⟩:=fun w0 a w ⟨I,hr⟩=>
 ⟨I,hr.rerow (r:=.row 1 (Z9 m [.sl k' []])) hs fun h=>YP h⟩
end
open Go.D
theorem OM (l:List DL) (f:FuncId) (caps:List T) (p:DL→Bool) (hp:∀ e,FrT ZB f ([.agg (AP e)]++caps.map .one) (.a (.one (.v (.bool (p e)))))):FnT ZB 181 [.one (.sl 4 (l.map AP)),.one (.fn (.func f) [] caps)] (.a (.one (.v (.int .i64 (GQ p l 0))))):=by
 refine A8 Aae U (by kernel_rfl) Aaf U fun hlen w0=>?_
 try simp [AS,BH,AP] at hlen
 refine Af (An ?_);refine Aa (Ae (Af (Ab ?_)));refine Bi (.t) ZX ?_;refine Ac (Bh U (.no U) U (.const U)) U ?_;refine Aa (AW.block (De (β:=Nat) (fun x=>x≤(l).length∧∀ j y,j<x→(l)[j]?=some y→(fun e=>!p e) y=true) (fun x=>⟨_,[(8,(true,.a (.one (.t (.v (.int .i64 (x:Nat))))))),(0,_),(1,_),(7,_)],[]⟩) (fun x=>(l).length-x) (0) ⟨ZW _,fun j y hj=>absurd hj (Nat.not_lt_zero j)⟩ (Au U ⟨U,U,U,U,Y⟩ trivial) ?_));intro k hk;refine Af (AWl.lt ?_);refine Aa (Ae (Ai (.tm U) (fun hlt=>?_) (fun hlt=>?_)))
 · try simp at hlt
   obtain⟨x,hx⟩:∃ ξ,(l)[k]?=some ξ:=⟨_,ZC (by exact hlt)⟩
   refine Am (Ae (AW.block (Af (Ab ?_))));refine Ah ?_;refine Aa (Af (Ab ?_));refine Ab ?_;refine Ab ?_;refine Ac ((Ak U (.no U) U (.tm U) (.tm U) ZX Cq (fun _=>⟨by omega,(by exact Ao (by assumption))⟩))) U ?_;refine Aj Cq ?_;refine Ac (Q5 U (.no U) U (.tm U) (.cons (.tm U) U .nil) (hp _)) U ?_;refine Aa (Ai (.tm U) (fun h16=>?_) (fun h16=>?_))
   · try simp at h16
     refine Ae (As (Ay [0,1,5,7,8] []) ?_);refine Ad (Ab ?_);refine Ah ?_;refine Aa (Aq (Bl U U ?_))
     rw [Jo (k:=k) hk.2 hx h16];simp
   try simp at h16
   refine Am (As (Ay [0,1,5,7,8] []) ?_);refine Ad (A9 ?_);refine Ab ?_;refine Aa ?_;refine EX.next (k+1) ⟨by omega,DN hk.2 hx (by simp [h16])⟩ (by omega) (Au rfl ⟨rfl,rfl,rfl,rfl,Y⟩ trivial)
 try simp at hlt
 refine Bf (Af (An ?_));refine Aa (Aq (Bl U U ?_))
 rw [It hk.2 (by omega)]
def Wh (l:List Int):Bool:=(l.all fun n=>inB n 0 9)&&decide (l.length=6)
theorem CR (n a b:Int):FnT ZB 54 [.one (.v (.int .i64 n)),.one (.v (.int .i64 a)),.one (.v (.int .i64 b))] (.a (.one (.v (.bool (inB n a b))))):=by
 refine A8 Aag U (by kernel_rfl) Aah U fun hlen w0=>?_
 try simp [AS,BH,AP] at hlen
 refine Af (An ?_);refine Aa (Af (Ab ?_));refine Ab ?_;refine Ac (O0 U (.no U) U (.tm U) (.tm U)) U ?_;refine Ab ?_;refine Cm ?_;refine Cm ?_;refine Ac (MN U (by exact .yes1 U U U U) U (.tmp U (by exact id)) (.tmp U (by exact id))) U ?_;refine Cn ?_;refine Ah ?_;refine Aa (Aq (Bl U U ?_))
 rfl
theorem DR (n a b:Int):FnT ZB 58 [.one (.v (.int .i64 n)),.one (.v (.int .i64 a)),.one (.v (.int .i64 b))] (.a (.one (.v (.bool (inB n a b))))):=by
 refine A8 Aai U (by kernel_rfl) Aaj U fun hlen w0=>?_
 try simp [AS,BH,AP] at hlen
 refine Af (An ?_);refine Aa (Af (Ab ?_));refine Ab ?_;refine Ac (O0 U (.no U) U (.tm U) (.tm U)) U ?_;refine Ab ?_;refine Cm ?_;refine Cm ?_;refine Ac (MN U (by exact .yes1 U U U U) U (.tmp U (by exact id)) (.tmp U (by exact id))) U ?_;refine Cn ?_;refine Ah ?_;refine Aa (Aq (Bl U U ?_))
 rfl
theorem Qg (n:Int):FnT ZB 138 [.one (.v (.int .i64 n))] (.a (.one (.v (.bool (inB n 0 8))))):=by
 refine A8 Aak U (by kernel_rfl) Aal U fun hlen w0=>?_
 try simp [AS,BH,AP] at hlen
 refine Af (An ?_);refine Aa (Af (Ab ?_));refine By (CR _ _ _) ?_;refine Ah ?_;refine Aa (Aq (Bl U U ?_))
 rfl
theorem KS (n:Int):FnT ZB 146 [.one (.v (.int .i64 n))] (.a (.one (.v (.bool (inB n 0 8))))):=by
 refine A8 Aam U (by kernel_rfl) Aan U fun hlen w0=>?_
 try simp [AS,BH,AP] at hlen
 refine Af (An ?_);refine Aa (Af (Ab ?_));refine By (DR _ _ _) ?_;refine Ah ?_;refine Aa (Aq (Bl U U ?_))
 rfl
open Go.Sort Go.Proofs
section
variable {P:Program}
def Zr (P:Program) (f:FuncId) (k:Nat) (rows rows':List (List T)):Prop:=
 Ek P f∧∀ w v F,Good w F→C true w (.sl k rows) v F→F.Nodup→(∀ b∈F,DJ w b)→Calls P f (List.toArray [v]) w fun e w'=>e=.returned (.tuple #[])∧Chg w w' F∧∃ F',C true w' (.sl k rows') v F'∧F'.Nodup∧∀ b∈F',b∈F∧DJ w' b
theorem U9 {w:World} {blk:Nat} {f:Array Value→Array Value} {c:Array Value} {e:TypeId} {fr:Nat×Nat} (hb:w.heap[blk]?=some (.cells c e fr)):(mapBlock w blk f).heap[blk]?=some (.cells (f c) e fr):=by
 unfold mapBlock
 show (w.heap.modify blk (onCells f))[blk]?=_
 rw [ZY,if_pos rfl,hb]
 rfl
theorem MJ {w:World} {blk b:Nat} {f:Array Value→Array Value} (h:b≠blk):(mapBlock w blk f).heap[b]?=w.heap[b]?:=by
 unfold mapBlock
 show (w.heap.modify blk (onCells f))[b]?=_
 rw [ZY,if_neg (fun e=>h e.symm)]
theorem Zr.ints {f:FuncId} {c:Int→List T} (hcallee:Ek P f) (hc:∀ x,c x=[.v (.int .i64 x)]) (S:List Int→List Int) (hS:∀ l,(S l).length=l.length)
 (hnone:∀ p cap w,Calls P f #[.slice p 0 cap] w fun e w'=>e=.returned (.tuple #[])∧w'=w)
 (hsome:∀ (blk cap:Nat) (zs:List Int) (w:World),Holds (ZA .i64) w blk 0 zs.toArray→blk<w.heap.size→zs.length<4611686018427387904→Calls P f #[.slice (some ⟨blk,0,none⟩) zs.length cap] w fun e w'=>e=.returned (.tuple #[])∧∃ n os,w'=grow (putRow (ZA .i64) (Sort.ahead w n) blk 0 (S zs).toArray) os)
 (l:List Int) (hl:l.length<4611686018427387904):Zr P f 1 (l.map c) ((S l).map c):=⟨hcallee,fun w v F _ hC hnd hth=>by
 have hcm:∀ m:List Int,(m.map c).flatten=(m.map (ZA .i64)).map T.v:=fun m=>by
  induction m with
  | nil=>rfl
  | cons x m ih=>rw [ZL,ZV,ih,hc];rfl
 have hrow:∀ m:List Int,∀ r∈m.map c,r.length=1:=fun m r hr=>by
  obtain⟨x,_,rfl⟩:=ZZ.1 hr
  rw [hc];rfl
 have hCc:=hC
 simp only [C] at hCc
 obtain⟨a0,n0,m0,rfl,_⟩:=hCc
 obtain⟨e1,e2,e3⟩:=hC.hdr
 rw [ZI] at e1
 rcases hC.blk with ⟨q1,q2,q3⟩|⟨g,G,cur,e',rfl,rfl,q3,q4,q5⟩
 · have hl0:l=[]:=by simpa using q3
   subst hl0
   have hS0:S []=[]:=List.eq_nil_of_length_eq_zero (by rw [hS];rfl)
   subst e1;refine (hnone a0 m0 w).mono fun e w' ⟨h1,h2⟩=>?_;subst h2
   rw [hS0]
   exact⟨h1,Chg.refl _ _,F,hC,hnd,fun b hb=>⟨hb,hth b hb⟩⟩
 obtain⟨s1,xs,s2,s3,s4⟩:=q5.flat
 rw [hcm] at s2
 simp only [ZE] at s4
 have hval:∀ m:List Int,(m.map (ZA .i64)).all ZP=true:=fun m=>by
  rw [ZJ]
  intro v hv
  obtain⟨x,_,rfl⟩:=ZZ.1 hv
  rfl
 have hG:G=[]∧xs=l.map (ZA .i64):=by
  have key:∀ (vs:List Value) {cs:List Value} {G:List Nat},Cs true w (vs.map T.v) cs G→G=[]∧cs=vs:=by
   intro vs
   induction vs with
   | nil=>intro cs G h;simp only [List.map_nil,Cs] at h;exact⟨h.2,h.1⟩
   | cons v vs ih=>
    intro cs G h
    simp only [ZL,Cs] at h
    obtain⟨c1,cr,G1,G2,rfl,h2,h3,rfl⟩:=h
    simp only [C] at h2
    obtain⟨rfl,rfl,_⟩:=h2
    obtain⟨rfl,rfl⟩:=ih h3
    exact⟨rfl,rfl⟩
  exact key _ s2
 obtain⟨rfl,rfl⟩:=hG
 have hglt:g<w.heap.size:=(ZD.1 q3).1
 have hH:Holds (ZA .i64) w g 0 l.toArray:=fun j hj=>by
  rw [ZR] at hj
  rw [ZE]
  refine⟨?_,by simp [World.frozen?,q3]⟩
  rw [s4 j _ (show (l.map (ZA .i64))[j]?=some (.int .i64 l[j]) by rw [Aaa,ZC hj];rfl)]
  simp [hj]
 have hcall:=hsome g m0 l w hH hglt hl
 rw [e1] at hcall
 refine hcall.mono fun e w' hR=>?_
 obtain⟨rfl,n,os,rfl⟩:=hR
 have hsl:=hS l
 generalize hd':(S l).toArray=d'
 have hd's:d'.size=l.length:=by rw [←hd'];simpa using hsl
 have hw1:(grow (putRow (ZA .i64) (Sort.ahead w n) g 0 d') os).heap[g]?=some (.cells (putCells (ZA .i64) 0 d' cur) e' (0,0)):=by
  unfold grow putRow
  show ((mapBlock (ZF w n) g _).heap++os)[g]?=_
  have hm:=U9 (w:=ZF w n) (f:=putCells (ZA .i64) 0 d') q3
  rw [Aab (ZD.1 hm).1]
  exact hm
 have hw2:∀ b,b<w.heap.size→b≠g→(grow (putRow (ZA .i64) (Sort.ahead w n) g 0 d') os).heap[b]?=w.heap[b]?:=fun b hb hne=>by
  unfold grow putRow
  show ((mapBlock (ZF w n) g _).heap++os)[b]?=_
  have hm:=MJ (w:=ZF w n) (f:=putCells (ZA .i64) 0 d') hne
  have hb':b<(mapBlock (ZF w n) g (putCells (ZA .i64) 0 d')).heap.size:=Ij hm hb
  rw [Aab hb']
  exact hm
 have hsz:(putCells (ZA .i64) 0 d' cur).size=m0*1:=by unfold putCells;simp [q4]
 have hch:Chg w (grow (putRow (ZA .i64) (Sort.ahead w n) g 0 d') os) [g]:=⟨rfl,rfl,rfl,by rw [Go.Sort.size_grow,Go.Sort.size_putRow];exact Nat.le_add_right _ _,fun b hb hn=>hw2 b hb (by simpa using hn)⟩
 refine⟨rfl,hch,[g],?_,by simp,fun b hb=>?_⟩
 · unfold C
   refine⟨_,_,_,rfl,by rw [ZI,hsl,e1],e2,e3,.inr ⟨g,0,[],rfl,rfl,(ZD.1 hw1).1,fun _=>⟨rfl,_,e',hw1,hsz⟩,Rws.of (xs:=(S l).map (ZA .i64)) (hrow _) ?_ fun j u hj=>?_⟩⟩
   · rw [hcm];exact Nc (hval _)
   have hjl:j<l.length:=by have:=(ZU.1 hj).1;rw [ZI,hsl] at this;exact this
   have hjc:j<cur.size:=by rw [q4];omega
   rw [Aaa,ZC (by rw [hsl];exact hjl)] at hj
   cases hj
   simp only [World.cell?,hw1,ZE]
   unfold putCells
   rw [Array.getElem?_mapIdx,Array.getElem?_eq_getElem hjc]
   simp [hd's,hjl,←hd',hsl]
 simp only [List.mem_singleton] at hb
 subst hb
 exact⟨by simp,.inl _,_,hw1⟩⟩
end
def HP (t:BD):Bool:=decide (t.Letter=0)&&decide (t.Low=0)&&decide (t.High=0)
def BY (t:BD):Int:=
 if t.Kind=1∨t.Kind=2 then (if HP t then 0 else -1)
 else if t.Kind=3 then (if inB t.Letter 0 8&&decide (t.Low=0)&&decide (t.High=0) then 0 else -1)
 else if t.Kind=4∨t.Kind=5 then (if HP t then 2 else -1)
 else if t.Kind=6 then (if HP t then 1 else -1)
 else if t.Kind=7 then (if decide (t.Letter=0)&&inB t.High 1 3&&inB t.Low 0 t.High then 1 else -1)
 else -1
def Mh (t:BD):Bool:=decide (0≤BY t)
def EP:Int→List BD→Bool
 | d,[]=>decide (d=1)
 | d,t::r=>if BY t<0∨d<BY t then false else EP (d-BY t+1) r
def K6 (l:List BD):Bool:=EP 0 l
theorem Qr {l:List BD} {k:Nat} {t:BD} {d:Int} (h:l[k]?=some t):EP d (l.drop k)=if BY t<0∨d<BY t then false else EP (d-BY t+1) (l.drop (k+1)):=by
 rw [MX h,EP]
theorem Wf (t:BD):-1≤BY t∧BY t≤2:=by
 unfold BY
 repeat' split
 all_goals omega
theorem Ml (t:BD):FnT ZB 91 [.agg (AS t)] (.a (.one (.v (.int .i64 (BY t))))):=by
 refine A8 Aao U (by kernel_rfl) Aap U fun hlen w0=>?_
 try simp [AS,BH,AP] at hlen
 refine Af (Ac (Bg U U U (.tm U) (ts:=_) (by rfl)) U ?_);refine An ?_;refine Aa (Ae (Af (A7 LO ?_)));refine Aj ty3 ?_;refine Aa (AW.block (Ae (Af (Bw ?_))));refine Ah ?_;refine Aa (Ai (.tm U) (fun h5=>?_) (fun h5=>?_))
 · try simp at h5
   refine Am (Ai (.tm U) (fun h5=>?_) (fun h5=>?_))
   · try simp at h5
     refine Ae (Af (A7 Hw ?_));refine Aj ty3 ?_;refine AWl.nc ?_;refine Ab ?_;refine C5 Iq ?_;refine C4 ty3 ?_;refine Ac (GX U (by exact .not1 U U U U) U (.tmp U (by exact id)) (.const U)) U ?_;refine Co ?_;refine Ab ?_;refine C5 GO ?_;refine C4 ty3 ?_;refine Ac (GX U (by exact .not1 U U U U) U (.tmp U (by exact id)) (.const U)) U ?_;refine Co ?_;refine Aa (Ai (.tm U) (fun h20=>?_) (fun h20=>?_))
     · try simp at h20
       refine Ae (As (Ay [0,1,2,4,5] []) ?_);refine Ad (An ?_);refine Aa (Aq (Bl U U ?_))
       unfold BY HP;grind
     try simp at h20
     refine Am (Ae (As (Ay [0,1,2,4,5] []) ?_));refine Ad (An ?_);refine Aa (Aq (Bl U U ?_))
     unfold BY HP;grind
   exfalso;(try simp at h5);first|contradiction|omega|simp_all|grind
 try simp at h5
 refine Ad (Bw ?_);refine Ah ?_;refine Aa (Ai (.tm U) (fun h5=>?_) (fun h5=>?_))
 · try simp at h5
   refine Ae (Af (A7 Hw ?_));refine Aj ty3 ?_;refine AWl.nc ?_;refine Ab ?_;refine C5 Iq ?_;refine C4 ty3 ?_;refine Ac (GX U (by exact .not1 U U U U) U (.tmp U (by exact id)) (.const U)) U ?_;refine Co ?_;refine Ab ?_;refine C5 GO ?_;refine C4 ty3 ?_;refine Ac (GX U (by exact .not1 U U U U) U (.tmp U (by exact id)) (.const U)) U ?_;refine Co ?_;refine Aa (Ai (.tm U) (fun h20=>?_) (fun h20=>?_))
   · try simp at h20
     refine Ae (As (Ay [0,1,2,4,5] []) ?_);refine Ad (An ?_);refine Aa (Aq (Bl U U ?_))
     unfold BY HP;grind
   try simp at h20
   refine Am (Ae (As (Ay [0,1,2,4,5] []) ?_));refine Ad (An ?_);refine Aa (Aq (Bl U U ?_))
   unfold BY HP;grind
 try simp at h5
 refine Af (Bw ?_);refine Ah ?_;refine Aa (Ai (.tm U) (fun h21=>?_) (fun h21=>?_))
 · try simp at h21
   refine Ae (Af (A7 Hw ?_));refine Aj ty3 ?_;refine By (KS _) ?_;refine Cy ?_;refine Ab ?_;refine C5 Iq ?_;refine C4 ty3 ?_;refine Ac (GX U (by exact .not1 U U U U) U (.tmp U (by exact id)) (.const U)) U ?_;refine Co ?_;refine Ab ?_;refine C5 GO ?_;refine C4 ty3 ?_;refine Ac (GX U (by exact .not1 U U U U) U (.tmp U (by exact id)) (.const U)) U ?_;refine Co ?_;refine Aa (Ai (.tm U) (fun h36=>?_) (fun h36=>?_))
   · try simp at h36
     refine Ae (As (Ay [0,1,2,4,5] []) ?_);refine Ad (An ?_);refine Aa (Aq (Bl U U ?_))
     unfold BY HP;grind
   try simp at h36
   refine Am (Ae (As (Ay [0,1,2,4,5] []) ?_));refine Ad (An ?_);refine Aa (Aq (Bl U U ?_))
   unfold BY HP;grind
 try simp at h21
 refine Ae (Af (Bw ?_));refine Ah ?_;refine Aa (Ai (.tm U) (fun h37=>?_) (fun h37=>?_))
 · try simp at h37
   refine Am (Ai (.tm U) (fun h37=>?_) (fun h37=>?_))
   · try simp at h37
     refine Ae (Ae (As (Ay [0,1,2,4,5,37] []) ?_));refine Ad (A7 Hw ?_);refine Aj ty3 ?_;refine AWl.nc ?_;refine Ab ?_;refine C5 Iq ?_;refine C4 ty3 ?_;refine Ac (GX U (by exact .not1 U U U U) U (.tmp U (by exact id)) (.const U)) U ?_;refine Co ?_;refine Ab ?_;refine C5 GO ?_;refine C4 ty3 ?_;refine Ac (GX U (by exact .not1 U U U U) U (.tmp U (by exact id)) (.const U)) U ?_;refine Co ?_;refine Aa (Ai (.tm U) (fun h52=>?_) (fun h52=>?_))
     · try simp at h52
       refine Ae (As (Ay [0,1,2,4,5,37] []) ?_);refine Ad (An ?_);refine Aa (Aq (Bl U U ?_))
       unfold BY HP;grind
     try simp at h52
     refine Am (Ae (As (Ay [0,1,2,4,5,37] []) ?_));refine Ad (An ?_);refine Aa (Aq (Bl U U ?_))
     unfold BY HP;grind
   exfalso;(try simp at h37);first|contradiction|omega|simp_all|grind
 try simp at h37
 refine As (Ay [0,1,2,4,5,37] []) ?_;refine Ad (Bw ?_);refine Ah ?_;refine Aa (Ai (.tm U) (fun h37=>?_) (fun h37=>?_))
 · try simp at h37
   refine Ae (Af (A7 Hw ?_));refine Aj ty3 ?_;refine AWl.nc ?_;refine Ab ?_;refine C5 Iq ?_;refine C4 ty3 ?_;refine Ac (GX U (by exact .not1 U U U U) U (.tmp U (by exact id)) (.const U)) U ?_;refine Co ?_;refine Ab ?_;refine C5 GO ?_;refine C4 ty3 ?_;refine Ac (GX U (by exact .not1 U U U U) U (.tmp U (by exact id)) (.const U)) U ?_;refine Co ?_;refine Aa (Ai (.tm U) (fun h52=>?_) (fun h52=>?_))
   · try simp at h52
     refine Ae (As (Ay [0,1,2,4,5,37] []) ?_);refine Ad (An ?_);refine Aa (Aq (Bl U U ?_))
     unfold BY HP;grind
   try simp at h52
   refine Am (Ae (As (Ay [0,1,2,4,5,37] []) ?_));refine Ad (An ?_);refine Aa (Aq (Bl U U ?_))
   unfold BY HP;grind
 try simp at h37
 refine Af (Bw ?_);refine Ah ?_;refine Aa (Ai (.tm U) (fun h53=>?_) (fun h53=>?_))
 · try simp at h53
   refine Ae (Af (A7 Hw ?_));refine Aj ty3 ?_;refine AWl.nc ?_;refine Ab ?_;refine C5 Iq ?_;refine C4 ty3 ?_;refine Ac (GX U (by exact .not1 U U U U) U (.tmp U (by exact id)) (.const U)) U ?_;refine Co ?_;refine Ab ?_;refine C5 GO ?_;refine C4 ty3 ?_;refine Ac (GX U (by exact .not1 U U U U) U (.tmp U (by exact id)) (.const U)) U ?_;refine Co ?_;refine Aa (Ai (.tm U) (fun h67=>?_) (fun h67=>?_))
   · try simp at h67
     refine Ae (As (Ay [0,1,2,4,5,37] []) ?_);refine Ad (An ?_);refine Aa (Aq (Bl U U ?_))
     unfold BY HP;grind
   try simp at h67
   refine Am (Ae (As (Ay [0,1,2,4,5,37] []) ?_));refine Ad (An ?_);refine Aa (Aq (Bl U U ?_))
   unfold BY HP;grind
 try simp at h53
 refine Af (Bw ?_);refine Ah ?_;refine Aa (Ai (.tm U) (fun h68=>?_) (fun h68=>?_))
 · try simp at h68
   refine Ae (Af (A7 Hw ?_));refine Aj ty3 ?_;refine AWl.nc ?_;refine Ab ?_;refine C5 GO ?_;refine C4 ty3 ?_;refine Ac (Bc (FnT.fr (DR _ _ _)) U (by exact .not1 U U U U) U (.cons (.tmp U (by exact id)) U (.cons (.const U) U (.cons (.const U) U .nil)))) U ?_;refine Ac (Du U (by exact .not1 U U U U) U (.tmp U (by exact id))) U ?_;refine Co ?_;refine Ab ?_;refine C5 Iq ?_;refine C4 ty3 ?_;refine C5 GO ?_;refine C4 ty3 ?_;refine Ac (Bc (FnT.fr (DR _ _ _)) U (by exact .not1 U U U U) U (.cons (.tmp U (by exact id)) U (.cons (.const U) U (.cons (.tmp U (by exact id)) U .nil)))) U ?_;refine Ac (Du U (by exact .not1 U U U U) U (.tmp U (by exact id))) U ?_;refine Co ?_;refine Aa (Ai (.tm U) (fun h86=>?_) (fun h86=>?_))
   · try simp at h86
     refine Ae (As (Ay [0,1,2,4,5,37] []) ?_);refine Ad (An ?_);refine Aa (Aq (Bl U U ?_))
     unfold BY HP;grind
   try simp at h86
   refine Am (Ae (As (Ay [0,1,2,4,5,37] []) ?_));refine Ad (An ?_);refine Aa (Aq (Bl U U ?_))
   unfold BY HP;grind
 try simp at h68
 refine Am (Af (An ?_));refine Aa (Aq (Bl U U ?_))
 unfold BY HP;grind
theorem S3 (e:EW) (hz:e.Tokens.length≤1048576):FnT ZB 85 [.agg (BH e)] (.a (.one (.v (.bool (K6 e.Tokens))))):=by
 refine A8 Aaq U (by kernel_rfl) Aar U fun hlen w0=>?_
 try simp [AS,BH,AP] at hlen
 refine Af (Ac (Bg U U U (.tm U) (ts:=_) (by rfl)) U ?_);refine An ?_;refine Aa (Af (An ?_));refine Aa (Ae (Af (An ?_)));refine Aa (AW.block (Cp (fun (k:Nat) (d:Int)=>(k≤e.Tokens.length∧0≤d∧d≤k)∧K6 e.Tokens=EP d (e.Tokens.drop k)) (fun (k:Nat) (d:Int)=>⟨_,[(4,(true,.a (.one (.t (.v (.int .i64 (k:Nat))))))),(3,(true,.a (.one (.t (.v (.int .i64 d)))))),(1,_)],[]⟩) (fun (k:Nat) (d:Int)=>e.Tokens.length-k) (0) (0) ⟨by simp,U⟩ (Au U ⟨U,U,U,Y⟩ trivial) ?_))
 rintro k d ⟨hk,he⟩
 refine Ae (Af (Ab ?_));refine A7 Dx ?_;refine Aj HR ?_;refine Bi (.t) Aac ?_;refine AWl.lt ?_;refine Aa (Ai (.tm U) (fun hlt=>?_) (fun hlt=>?_))
 · try simp at hlt
   obtain⟨t,hx⟩:∃ t,e.Tokens[k]?=some t:=⟨_,ZC (by omega)⟩
   rw [Qr hx] at he
   have ha:=Wf t
   refine Am (Ae (AW.block (Af (A7 Dx ?_))));refine Aj HR ?_;refine Ab ?_;refine Ac ((Ak U (.no U) U (.tm U) (.tm U) Aac C6 (fun _=>⟨by omega,(by exact Ao (by assumption))⟩))) U ?_;refine Aj C6 ?_;refine By (Ml _) ?_;refine Ah ?_;refine Aa (Ae (Ae (As (Ay [1,3,4,5] []) ?_)));refine Ad (Ab ?_);refine D7 ?_;refine Ab ?_;refine AWl.mw ?_;refine AWl.mw ?_;refine Ac (MO U (by exact .not1 U U U U) U (.tmp U (by exact id)) (.tmp U (by exact id))) U ?_;refine Co ?_;refine Aa (Ai (.tm U) (fun h25=>?_) (fun h25=>?_))
   · try simp at h25
     refine Ae (As (Ay [1,3,4,5] []) ?_);refine Ad (An ?_);refine Aa (Aq (Bl U U ?_))
     rw [he,if_pos (by omega)]
   try simp at h25
   refine Am (As (Ay [1,3,4,5] []) ?_);refine Ad (Ab ?_);refine Ab ?_;refine Ac (D8 U (.no U) U (.tm U) (.tm U) (fun _=>by omega)) U ?_;refine A9 ?_;refine Ah ?_;refine Aa (Ad (Ab ?_));refine A9 ?_;refine Ah ?_;refine Aa ?_
   repeat (with_reducible refine Av ?_)
   refine BV.next (k+1) (d-BY t+1) ⟨by omega,by rw [he,if_neg (by omega)]⟩ (by omega) (Au rfl ⟨rfl,rfl,rfl,Y⟩ trivial)
 try simp at hlt
 refine Bf (Af (Ab ?_));refine Bw ?_;refine Ah ?_;refine Aa (Aq (Bl U U ?_))
 rw [he,List.drop_eq_nil_of_le (show e.Tokens.length≤k by omega)];rfl
end Go.Q
