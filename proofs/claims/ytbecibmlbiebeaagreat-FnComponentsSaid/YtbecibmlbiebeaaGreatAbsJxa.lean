import Derived.Test.YtbecibmlbiebeaaGreatAbsHxa
import Derived.Test.YtbecibmlbiebeaaGreatOpenBxa
import Derived.Shelf.Sort.Plain
import Derived.Shelf.Slices.In.SortNone
import Derived.Shelf.Abstract
import Derived.Ground.NamesProg
import Derived.Test.YtbecibmlbiebeaaGreatAbs12xa
set_option linter.unusedVariables false
set_option linter.unusedSimpArgs false
set_option maxRecDepth 100000
namespace Go.Q
open Go.RowKit
section
variable {P:Program} {ops:Array Oper} {o:Oper} {σ:St} {q:Bool}
theorem Rws.takeN {w:World} {b k:Nat}:∀ {rows:List (List T)} {off:Nat} {G:List Nat},Rws true w b k off rows G→G.Nodup→∀ m,∃ G',Rws true w b k off (rows.take m) G'∧G'.Sublist G
 | [],off,G,h,_,m=>⟨G,by simpa using h,List.Sublist.refl _⟩
 | row::rows,off,G,h,hn,0=>⟨[],by simp [Rws],by simp⟩
 | row::rows,off,G,h,hn,m+1=>by
  simp only [Rws] at h
  obtain⟨G1,G2,h1,h2,h3,rfl⟩:=h
  obtain⟨G',g1,g2⟩:=Rws.takeN h3 (List.nodup_append.1 hn).2.1 m
  refine⟨G1++G',?_,List.Sublist.append (List.Sublist.refl _) g2⟩
  rw [List.take_succ_cons]
  simp only [Rws]
  exact⟨G1,G',h1,h2,g1,rfl⟩
theorem R_cut {id k m:Nat} {t e:TypeId} {x:Operand} {hi:Option Operand} {ag:Bool} {rows:List (List T)} (ho:o.op=.slice t x none hi none) (hg:o.guard=none) (hd:o.dst.all (fun d=>Nat.blt d σ.n)=true) (hx:Get σ true x (.one (.rf id)))
 (hs:look σ.res id=some (.row k rows)) (hh:Bnd σ true hi rows.length m) (hu:P.underlying t=some (.slice e)) (hk:tyB P e ag k=true) (hb:m≤rows.length):Op1 P ops o σ ((σ.chg id (.row k (rows.take m))).put o.dst (true,.a (.one (.rf id)))):=
 .eff hg fun w0 a w ⟨I,hr⟩=>by
  obtain⟨h1,a0,N,M,h2⟩:VE I w (.rf id) (a.eval x):=hx.va hr rfl
  have hC:C true w (.sl k rows) (I.hd id) (I.F id):=hr.res id _ hs
  have own:=hr.own id _ hs
  rw [←h1,h2] at hC
  obtain⟨e1,e2,e3⟩:=hC.hdr
  have hrun:(Instr.sliceAt t (.slice a0 N M) none (hi.map a.eval) none).run P w=.ok (.slice (if M=0 then a0 else a0.map (·.add (0*k))) (m-0) (M-0)) w:=by
   have b1:m≤M:=by omega
   rcases hh.val hr rfl with ⟨h6,rfl⟩|h6<;>rw [h6]<;>simp [Instr.sliceAt,Instr.slice,run_underlying hu,Instr.sliceBounds,Instr.sliceBound,asIntOf,tyB_size hk,b1,e1,e2]
  have hadr:(if M=0 then a0 else a0.map (·.add (0*k)))=a0:=by
   split
   · rfl
   · cases a0 with
     | none=>rfl
     | some ga=>obtain⟨g,off,sp⟩:=ga;simp [Addr.add]
  rw [hadr,Nat.sub_zero,Nat.sub_zero] at hrun
  rcases hC.blk with ⟨h3,h4,h5⟩|⟨g,G,cur,e',rfl,h4,h5,h6,h7⟩
  · subst h5
    have hm0:m=0:=by simpa using hb
    have hN0:N=0:=by simpa using e1.symm
    have hR:=hr.chg hs (Chg.refl _ _) (G:=[]) (u:=.slice a0 m M) (r:=.row k (([]:List (List T)).take m)) ⟨List.nodup_nil,by simp⟩ (by
     show C true _ _ _ _
     simp only [Ip.set,if_true]
     unfold C
     exact⟨_,_,_,rfl,by simp;omega,by omega,e3,.inl ⟨hm0,rfl,fun _=>h3⟩⟩)
    exact⟨.slice a0 m M,w,by simp [execOp,ho,h2,hrun],_,hR.put hd ⟨by simp [Ip.set],a0,m,M,rfl⟩⟩
  · rw [h4] at own
    have hnd:=List.nodup_cons.1 own.1
    obtain⟨G',g1,g2⟩:=h7.takeN hnd.2 m
    have hR:=hr.chg hs (Chg.refl _ _) (G:=g::G') (u:=.slice (some ⟨g,0,none⟩) m M) (r:=.row k (rows.take m)) ⟨List.nodup_cons.2 ⟨fun hm=>hnd.1 (g2.subset hm),hnd.2.sublist g2⟩,fun b hb=>by
     have hin:b∈g::G:=by
      rcases List.mem_cons.1 hb with rfl|hb
      · simp
      · simp [g2.subset hb]
     obtain⟨o1,o2⟩:=own.2 b hin
     exact⟨o1,(hr.lt id b (by rw [h4];exact hin)).1,o2,.inl (by rw [h4];exact hin)⟩⟩ (by
     show C true _ _ _ _
     simp only [Ip.set,if_true]
     unfold C
     exact⟨_,_,_,rfl,by simp;omega,by omega,e3,.inr ⟨g,0,G',rfl,rfl,(Array.getElem?_eq_some_iff.1 h5).1,fun _=>⟨rfl,cur,e',h5,h6⟩,g1⟩⟩)
    exact⟨.slice (some ⟨g,0,none⟩) m M,w,by simp [execOp,ho,h2,hrun],_,hR.put hd ⟨by simp [Ip.set],some ⟨g,0,none⟩,m,M,rfl⟩⟩
theorem zeroCells_flat (zs:List Value) (n:Nat):(Builtin.zeroCells zs.toArray n).toList=(List.replicate n zs).flatten:=by
 unfold Builtin.zeroCells
 rw [←made_flat zs (.inr trivial) n]
 simp
theorem R_clear {id k j bytes:Nat} {t e:TypeId} {x:Operand} {z:Value} {zs:List Value} {rows:List (List T)} (ho:o.op=.call { callee:=.builtin .clear,args:=#[x],argTypes:=#[t] }) (hg:o.guard=none) (hd:o.dst=none) (hx:Get σ true x (.one (.tl id k j)))
 (hs:look σ.res id=some (.row k rows)) (hu:P.underlying t=some (.slice e)) (hi:(P.info? e).map (fun i=>(i.zero,i.size,i.bytes))=some (some z,k,bytes)) (hz:z.cells=zs.toArray) (hk:(Nat.beq zs.length k&&zs.all Value.oneCell')=true) :
 Op1 P ops o σ (σ.upd id (.row k (rows.take j++List.replicate (rows.length-j) (zs.map .v)))):=
 .eff hg fun w0 a w ⟨I,hr⟩=>by
  simp only [Bool.and_eq_true] at hk
  have hzk:=Nat.eq_of_beq_eq_true hk.1
  obtain⟨a0,a',N,M,h1,h2,h3,h4,h5⟩:VE I w (.tl id k j) (a.eval x):=hx.va hr rfl
  have hC:C true w (.sl k rows) (I.hd id) (I.F id):=hr.res id _ hs
  have hC0:=hC
  have own:=hr.own id _ hs
  rw [h1] at hC
  obtain⟨e1,e2,e3⟩:=hC.hdr
  obtain⟨i,hi1,hi2,hi3,hi4⟩:=info_parts hi
  subst hi3
  by_cases hj:j=N
  · have hrun:(Builtin.clear_ #[t] o.type #[a.eval x]).run P w=.ok (.tuple #[]) w:=by
     rw [h2,show N-j=0 by omega]
     cases a'<;>simp [Builtin.clear_,run_underlying hu]
    have er:rows.take j++List.replicate (rows.length-j) (zs.map T.v)=rows:=by
     rw [show rows.length-j=0 by omega,List.take_of_length_le (by omega)];simp
    rw [er]
    have hR:=hr.upd (G:=I.F id) (r:=.row i.size rows) hs (Chg.refl _ _) ⟨own.1,fun b hb=>⟨(own.2 b hb).1,(hr.lt id b hb).1,(own.2 b hb).2,.inl hb⟩⟩ (by show C true _ _ _ _;simpa [Ip.set] using hC0)
    exact⟨.tuple #[],w,by simp [execOp,ho,resolve,invoke,builtin,hrun],_,by rw [hd];exact hR⟩
  · have hjN:j<N:=by omega
    obtain⟨g',rfl,rfl⟩:=h5 (by omega)
    rcases hC.blk with ⟨q1,_⟩|⟨g,G,cur,e',q1,q2,q3,q4,q5⟩
    · omega
    cases q1
    have hvals:∀ v∈(List.replicate (N-j) zs).flatten,v.oneCell'=true:=fun v hv=>by
     rw [List.mem_flatten] at hv
     obtain⟨l,hl,hv⟩:=hv
     rw [(List.mem_replicate.1 hl).2] at hv
     exact List.all_eq_true.1 hk.2 v hv
    have hlen:((List.replicate (N-j) zs).flatten).length=(N-j)*i.size:=by simp [hzk]
    have hjk:j*i.size+(N-j)*i.size=N*i.size:=by rw [←Nat.add_mul];congr 1;omega
    have hNM:N*i.size≤M*i.size:=Nat.mul_le_mul_right _ e2
    have hst:=run_storeCells_at P g' (j*i.size) e' ((List.replicate (N-j) zs).flatten) 0 cur w q3 (by rw [hlen,q4];omega) hvals
    simp only [Nat.add_zero] at hst
    have hzv:(zeroValue e).run P w=.ok z w:=by simp [zeroValue,typeInfo,hi1,hi2]
    have hrun:(Builtin.clear_ #[t] o.type #[a.eval x]).run P w=.ok (.tuple #[]) (w.setRow g' (cur.toList.take (j*i.size)++(List.replicate (N-j) zs).flatten++cur.toList.drop (j*i.size+((List.replicate (N-j) zs).flatten).length)).toArray):=by
     rw [h2]
     have hnz:∃ n',N-j=n'+1:=⟨N-j-1,by omega⟩
     obtain⟨n',hn'⟩:=hnz
     have hzc:(Builtin.zeroCells z.cells (N-j)).toList=(List.replicate (N-j) zs).flatten:=by rw [hz];exact zeroCells_flat zs _
     rw [←hzc,hn'] at hst ⊢
     simp [Builtin.clear_,run_underlying hu,hzv,hst]
    generalize harr:(cur.toList.take (j*i.size)++(List.replicate (N-j) zs).flatten++cur.toList.drop (j*i.size+((List.replicate (N-j) zs).flatten).length)).toArray=arr at hrun
    have hgn:(w.setRow g' arr).heap[g']?=some (.cells arr e' (0,0)):=setRow_heap w g' cur _ e' _ q3
    have hsz:arr.size=M*i.size:=by
     rw [←harr,←q4]
     simp only [List.size_toArray,List.length_append,List.length_take,List.length_drop,Array.length_toList,hlen]
     omega
    have hch:Chg w (w.setRow g' arr) (I.F id):=⟨rfl,rfl,rfl,by simp [World.setRow],fun b _ hb=>setRow_other w g' b _ (fun e=>hb (by rw [q2,e];simp))⟩
    rw [q2] at own
    have hnd:=List.nodup_cons.1 own.1
    obtain⟨G',g1,g2⟩:=q5.takeN hnd.2 j
    obtain⟨s1,xs,s2,s3,s4⟩:=g1.flat
    simp only [Nat.zero_add] at s4
    have hxl:xs.length=j*i.size:=by rw [s3,List.length_take];congr 1;omega
    have hxs:cur.toList.take (j*i.size)=xs:=by
     apply List.ext_getElem?;intro p
     by_cases hp:p<xs.length
     · have:=s4 p _ (List.getElem?_eq_getElem hp)
       simp only [World.cell?,q3] at this
       rw [List.getElem?_take,if_pos (by omega),List.getElem?_eq_getElem hp]
       simpa using this
     · rw [List.getElem?_eq_none (by simp;omega),List.getElem?_eq_none (by omega)]
    have hgne:∀ b∈G',b≠g':=fun b hb e=>hnd.1 (e▸g2.subset hb)
    have hR:=hr.upd (G:=g'::G') (r:=.row i.size (rows.take j++List.replicate (rows.length-j) (zs.map .v))) hs hch ⟨List.nodup_cons.2 ⟨fun hm=>hnd.1 (g2.subset hm),hnd.2.sublist g2⟩,fun b hb=>by
     have hin:b∈g'::G:=by
      rcases List.mem_cons.1 hb with rfl|hb
      · simp
      · simp [g2.subset hb]
     obtain⟨o1,o2⟩:=own.2 b hin
     refine⟨o1,Nat.lt_of_lt_of_le (hr.lt id b (by rw [q2];exact hin)).1 hch.size,?_,.inl (by rw [q2];exact hin)⟩
     by_cases eb:b=g'
     · subst eb;exact⟨.inl _,_,hgn⟩
     · obtain⟨cc,ee,o3⟩:=o2
       exact⟨cc,ee,(setRow_other w g' b _ eb).trans o3⟩⟩ (by
     show C true _ _ _ _
     simp only [Ip.set,if_true]
     rw [h1]
     unfold C
     refine⟨_,_,_,rfl,by simp;omega,e2,e3,.inr ⟨g',0,G',rfl,rfl,(Array.getElem?_eq_some_iff.1 hgn).1,fun _=>⟨rfl,arr,e',hgn,hsz⟩,Rws.of (xs:=xs++(List.replicate (N-j) zs).flatten) (fun row hm=>?_) ?_ fun p u hp=>?_⟩⟩
     · rcases List.mem_append.1 hm with hm|hm
       · exact s1 row hm
       · rw [(List.mem_replicate.1 hm).2,List.length_map];exact hzk
     · rw [List.flatten_append]
       have s2':Cs true (w.setRow g' arr) (rows.take j).flatten xs G':=s2.congr fun b hb=>setRow_other w g' b _ (hgne b hb)
       have s3':Cs true (w.setRow g' arr) (List.replicate (rows.length-j) (zs.map T.v)).flatten ((List.replicate (N-j) zs).flatten) []:=by
        rw [flatten_replicate_map,e1]
        exact Cs_vals (List.all_eq_true.2 hvals)
       simpa using s2'.append s3'
     · simp only [World.cell?,hgn,Nat.zero_add]
       rw [←harr,hxs]
       have hlt:=(List.getElem?_eq_some_iff.1 hp).1
       simp only [Option.isSome_none,Bool.false_eq_true,if_false,List.getElem?_toArray]
       rw [List.getElem?_append_left hlt];exact hp)
    exact⟨.tuple #[],w.setRow g' arr,by simp [execOp,ho,resolve,invoke,builtin,hrun],_,by rw [hd];exact hR⟩
theorem C7 {f:FuncId} {l:List Operand} {tys:Array TypeId} {ins:List V0} {out:V} (ho:o.op=.call { callee:=.value (.func f),args:=l.toArray,argTypes:=tys }) (hg:Grd ops o σ q) (hd:o.dst.all (fun d=>Nat.blt d σ.n)=true)
 (ha:Args σ q l ins) (h:q=true→FrT P f ins out):Op1 P ops o σ (σ.put o.dst (q,inS out)):=by
 cases q with
 | true=>exact A6 (h rfl) ho hg hd ha
 | false=>
  rintro w0 a w ⟨I,hr⟩ K Q hK
  rw [hg.wanted hr]
  exact hK _ _ ⟨I,hr.put hd rfl⟩
theorem isV_map {α:Type} {f:α→List T} (h:∀ x,(f x).all T.isV=true):∀ l:List α,(l.map f).flatten.all T.isV=true
 | []=>rfl
 | x::l=>by rw [List.map_cons,List.flatten_cons,List.all_append,h x,isV_map h l];rfl
theorem isV_part {α:Type} {f:α→List T} (h:∀ x,(f x).all T.isV=true) (l:List α) (n m:Nat):(((l.map f).take m).drop n).flatten.all T.isV=true:=by
 rw [←List.map_take,←List.map_drop];exact isV_map h _
theorem Cx {id:Nat} {t e:TypeId} {x:Operand} {lo hi:Option Operand} {k n m:Nat} {ag:Bool} {rows:List (List T)} (ho:o.op=.slice t x lo hi none) (hg:Grd ops o σ q) (hd:o.dst.all (fun d=>Nat.blt d σ.n)=true) (hx:Get σ q x (.one (.rf id))) (hs:look σ.res id=some (.row k rows))
 (hl:Bnd σ q lo 0 n) (hh:Bnd σ q hi rows.length m) (hu:P.underlying t=some (.slice e)) (hk:tyB P e ag k=true) (hb:q=true→n≤m∧m≤rows.length):Op1 P ops o σ (σ.put o.dst (q,.a (.one (.vw id (.sl k ((rows.take m).drop n)))))):=
 .val hg hd fun I w0 a w hr hq=>by
  have hv:VE I w (.rf id) (a.eval x):=hx.va hr hq
  have hC:C true w (.sl k rows) (I.hd id) (I.F id):=hr.res id _ hs
  obtain⟨v',F',g1,g2,g3⟩:=slice_C hu hk (C.read hC) (hl.val hr hq) (hh.val hr hq) (hb hq).2 (hb hq).1
  rw [←hv.1] at g1
  exact⟨v',by simp [execOp,ho,g1],F',g2,g3⟩
theorem Rws_nils {w:World} {b k':Nat}:∀ {n off:Nat} {G:List Nat},Rws true w b 1 off (List.replicate n [.v (.slice none 0 0)]) G→Rws true w b 1 off (List.replicate n [.sl k' []]) G
 | 0,_,_,h=>h
 | n+1,off,G,h=>by
  rw [List.replicate_succ] at h ⊢
  simp only [Rws] at h ⊢
  obtain⟨G1,G2,h1,h2,h3,rfl⟩:=h
  refine⟨G1,G2,rfl,?_,Rws_nils h3,rfl⟩
  simp only [Ms] at h2 ⊢
  obtain⟨c,G3,G4,h4,h5,h6,rfl⟩:=h2
  refine⟨c,G3,G4,h4,?_,h6,rfl⟩
  simp only [C] at h5
  obtain⟨rfl,rfl,_⟩:=h5
  unfold C
  exact⟨none,0,0,rfl,rfl,Nat.le_refl _,Nat.zero_le _,.inl ⟨rfl,rfl,fun _=>rfl⟩⟩
theorem C_nils {w:World} {n k':Nat} {v:Value} {F:List Nat} (h:C true w (.sl 1 (List.replicate n [.v (.slice none 0 0)])) v F):C true w (.sl 1 (List.replicate n [.sl k' []])) v F:=by
 simp only [C] at h ⊢
 obtain⟨a,len,cap,h1,h2,h3,h4,h5⟩:=h
 refine⟨a,len,cap,h1,by simpa using h2,h3,h4,?_⟩
 rcases h5 with h5|⟨b,off,G,h6,h7,h8,h9,h10⟩
 · exact .inl h5
 · exact .inr ⟨b,off,G,h6,h7,h8,h9,Rws_nils h10⟩
theorem RelI.rerow {I:Ip} {w0:Base} {w:World} {a:Act} (h:RelI I w0 σ a w) {id:Nat} {r0 r:R} (h0:look σ.res id=some r0) (hv:RR I w id r0→RR I w id r):RelI I w0 ⟨σ.n,σ.slots,setR σ.res id r⟩ a w:=by
 have key:∀ i r',look (setR σ.res id r) i=some r'→(i=id∧r'=r)∨look σ.res i=some r':=fun i r' hi=>by
  rcases look_setR _ _ _ _ _ hi with ⟨h1,h2,_⟩|⟨_,h2⟩
  · exact .inl ⟨h1,h2⟩
  · exact .inr h2
 refine⟨h.ext,h.defers,h.size,h.slots,fun i r' hi=>?_,h.old,h.lt,fun i r' hi=>?_,h.apart⟩
 · rcases key i r' hi with ⟨rfl,rfl⟩|hi
   · exact hv (h.res _ _ h0)
   · exact h.res i r' hi
 · rcases key i r' hi with ⟨rfl,rfl⟩|hi
   · exact h.own _ _ h0
   · exact h.own i r' hi
theorem Le.nilRow {n0:Nat} {sl:List (Nat×(Bool×S))} {rs:List (Nat×R)} {id m:Nat} (k':Nat) (hs:look rs id=some (.row 1 (List.replicate m [.v (.slice none 0 0)]))):Le ⟨n0,sl,rs⟩ ⟨n0,sl,setR rs id (.row 1 (List.replicate m [.sl k' []]))⟩:=fun w0 a w ⟨I,hr⟩=>
 ⟨I,hr.rerow (r:=.row 1 (List.replicate m [.sl k' []])) hs fun h=>C_nils h⟩
end
end Go.Q
namespace Go.Q
theorem findI_mem {α:Type} [DecidableEq α] (v:α):∀ (l:List α) (m:Nat),decide (0≤findI (fun x=>decide (v=x)) l m)=decide (v∈l)
 | [],m=>by simp [findI]
 | x::l,m=>by
  rw [findI]
  by_cases h:v=x
  · subst h;simp
  · rw [if_neg (by simpa using h),findI_mem v l (m+1)];simp [h]
theorem findI_any {α:Type} (p:α→Bool):∀ (l:List α) (m:Nat),decide (0≤findI p l m)=l.any p
 | [],m=>by simp [findI]
 | x::l,m=>by
  rw [findI,List.any_cons]
  by_cases h:p x=true
  · rw [if_pos h,h];simp
  · rw [if_neg h,findI_any p l (m+1)];simp [h]
end Go.Q
namespace Go.Proofs.YtbecibmlbiebeaaGreat
open Go.RowKit Go.Q Go.D
theorem slicesIndexInt (l:List Int) (v:Int):FnT Tryz.prog 181 [.one (.sl 1 (l.map cInt)),.one (.v (.int .i64 v))] (.a (.one (.v (.int .i64 (findI (fun x=>decide (v=x)) l 0))))):=by
 refine Ba Tryz.func181 U (by kernel_rfl) Tryz.ntmps181 U fun hlen w0=>?_
 try simp at hlen
 refine Ah (Av ?_);refine Aa (Af (Ah (Ac ?_)));refine Ab (Bd U (.no U) U (.tm U) (by exact .t) Tryz.underlying40) U ?_;refine Ab (Ar U (.no U) U (.const U)) U ?_;refine Aa (AW.block (Cr (β:=Nat) (fun x=>x≤(l).length∧∀ j y,j<x→(l)[j]?=some y→(fun x=>!decide (v=x)) y=true) (fun x=>⟨_,[(8,(true,.a (.one (.t (.v (.int .i64 (x:Nat))))))),(0,_),(1,_),(7,_)],[]⟩) (fun x=>(l).length-x) (0) ⟨Nat.zero_le _,fun j y hj=>absurd hj (Nat.not_lt_zero j)⟩ (An U ⟨U,U,U,U,Y⟩ trivial) ?_));intro k hk;refine Ah (Ab (Bz U (.no U) U (.tm U) (.tm U)) U ?_);refine Aa (Af (Aq (.tm U) (fun hlt=>?_) (fun hlt=>?_)))
 · try simp at hlt
   obtain⟨x,hx⟩:∃ ξ,(l)[k]?=some ξ:=⟨_,List.getElem?_eq_getElem (by exact hlt)⟩
   refine As (Af (AW.block (Ah (Ac ?_))));refine Ak ?_;refine Aa (Ah (Ac ?_));refine Ac ?_;refine Ac ?_;refine Ab ((Aw U (.no U) U (.tm U) (.tm U) Tryz.underlying40 ty3 (fun _=>⟨by omega,(by exact Ax (by assumption))⟩))) U ?_;refine Ab (Ap U (.no U) U (.tm U) ty3 U U) U ?_;refine Ab (B7 U (.no U) U (.tm U) (.tm U)) U ?_;refine Aa (Aq (.tm U) (fun h16=>?_) (fun h16=>?_))
   · try simp at h16
     refine Af (A4 (σ':=⟨_,[(0,_),(1,_),(5,_),(7,_),(8,_)],[]⟩) (An U ⟨U,U,U,U,U,Y⟩ trivial) ?_);refine Ae (Ac ?_);refine Ak ?_;refine Aa (A3 (Bn U U ?_))
     rw [findI_at (k:=k) hk.2 hx (by simp [h16])];simp
   · try simp at h16
     refine As (A4 (σ':=⟨_,[(0,_),(1,_),(5,_),(7,_),(8,_)],[]⟩) (An U ⟨U,U,U,U,U,Y⟩ trivial) ?_);refine Ae (Ab (Be U (.no U) U (.tm U) (.const U) (fun _=>by omega)) U ?_);refine Ac ?_;refine Aa ?_;refine Round.next (k+1) ⟨by omega,each_succ hk.2 hx (by simp [h16])⟩ (by omega) (An rfl ⟨rfl,rfl,rfl,rfl,Y⟩ trivial)
 · try simp at hlt
   refine Bf (Ah (Av ?_));refine Aa (A3 (Bn U U ?_))
   rw [findI_none hk.2 (by omega)]
theorem slicesContainsInt (l:List Int) (v:Int):FnT Tryz.prog 111 [.one (.sl 1 (l.map cInt)),.one (.v (.int .i64 v))] (.a (.one (.v (.bool (decide (v∈l)))))):=by
 refine Ba Tryz.func111 U (by kernel_rfl) Tryz.ntmps111 U fun hlen w0=>?_
 try simp at hlen
 refine Ah (Av ?_);refine Aa (Ah (Ac ?_));refine Ac ?_;refine Ab (A6 (FnT.fr (slicesIndexInt _ _)) U (.no U) U (.cons (.tm U) U (.cons (.tm U) U .nil))) U ?_;refine Ab (R_ge U (.no U) U (.tm U) (.const U)) U ?_;refine Ak ?_;refine Aa (A3 (Bn U U ?_))
 rw [findI_mem]
end Go.Proofs.YtbecibmlbiebeaaGreat
namespace Go.Q
open Go.D
end Go.Q
namespace Go.Proofs.YtbecibmlbiebeaaGreat
open Go.RowKit Go.Q Go.D
theorem implwithin (n a b:Int):FnT Tryz.prog 73 [.one (.v (.int .i64 n)),.one (.v (.int .i64 a)),.one (.v (.int .i64 b))] (.a (.one (.v (.bool (inB n a b))))):=by
 refine Ba Tryz.func73 U (by kernel_rfl) Tryz.ntmps73 U fun hlen w0=>?_
 try simp at hlen
 refine Ah (Av ?_);refine Aa (Ah (Ac ?_));refine Ac ?_;refine Ab (R_ge U (.no U) U (.tm U) (.tm U)) U ?_;refine Ac ?_;refine Ab (Ar U (by exact .yes1 U U U U) U (.tmp U (by exact fun _=>rfl))) U ?_;refine Ab (Ar U (by exact .yes1 U U U U) U (.tmp U (by exact fun _=>rfl))) U ?_;refine Ab (R_le U (by exact .yes1 U U U U) U (.tmp U (by exact id)) (.tmp U (by exact id))) U ?_;refine Ab (Cf U (.no U) U (.tm U) (.tmp U (by exact id))) U ?_;refine Ak ?_;refine Aa (A3 (Bn U U ?_))
 rfl
theorem specl1In (n a b:Int):FnT Tryz.prog 77 [.one (.v (.int .i64 n)),.one (.v (.int .i64 a)),.one (.v (.int .i64 b))] (.a (.one (.v (.bool (inB n a b))))):=by
 refine Ba Tryz.func77 U (by kernel_rfl) Tryz.ntmps77 U fun hlen w0=>?_
 try simp at hlen
 refine Ah (Av ?_);refine Aa (Ah (Ac ?_));refine Ac ?_;refine Ab (R_ge U (.no U) U (.tm U) (.tm U)) U ?_;refine Ac ?_;refine Ab (Ar U (by exact .yes1 U U U U) U (.tmp U (by exact fun _=>rfl))) U ?_;refine Ab (Ar U (by exact .yes1 U U U U) U (.tmp U (by exact fun _=>rfl))) U ?_;refine Ab (R_le U (by exact .yes1 U U U U) U (.tmp U (by exact id)) (.tmp U (by exact id))) U ?_;refine Ab (Cf U (.no U) U (.tm U) (.tmp U (by exact id))) U ?_;refine Ak ?_;refine Aa (A3 (Bn U U ?_))
 rfl
theorem implisLetter (n:Int):FnT Tryz.prog 190 [.one (.v (.int .i64 n))] (.a (.one (.v (.bool (inB n 0 8))))):=by
 refine Ba Tryz.func190 U (by kernel_rfl) Tryz.ntmps190 U fun hlen w0=>?_
 try simp at hlen
 refine Ah (Av ?_);refine Aa (Ah (Ac ?_));refine Ab (A6 (FnT.fr (implwithin _ _ _)) U (.no U) U (.cons (.tm U) U (.cons (.const U) U (.cons (.const U) U .nil)))) U ?_;refine Ak ?_;refine Aa (A3 (Bn U U ?_))
 rfl
theorem specl2Letter (n:Int):FnT Tryz.prog 198 [.one (.v (.int .i64 n))] (.a (.one (.v (.bool (inB n 0 8))))):=by
 refine Ba Tryz.func198 U (by kernel_rfl) Tryz.ntmps198 U fun hlen w0=>?_
 try simp at hlen
 refine Ah (Av ?_);refine Aa (Ah (Ac ?_));refine Ab (A6 (FnT.fr (specl1In _ _ _)) U (.no U) U (.cons (.tm U) U (.cons (.const U) U (.cons (.const U) U .nil)))) U ?_;refine Ak ?_;refine Aa (A3 (Bn U U ?_))
 rfl
end Go.Proofs.YtbecibmlbiebeaaGreat
namespace Go.Proofs.YtbecibmlbiebeaaGreat
open Go.RowKit Go.Q Go.D
end Go.Proofs.YtbecibmlbiebeaaGreat
namespace Go.Q
open Go.RowKit Go.Sort Go.Proofs
section
variable {P:Program}
def FnS1 (P:Program) (f:FuncId) (k:Nat) (rows rows':List (List T)):Prop:=
 Callee P f∧∀ w v F,Good w F→C true w (.sl k rows) v F→F.Nodup→(∀ b∈F,Thaw w b)→Calls P f (List.toArray [v]) w fun e w'=>e=.returned (.tuple #[])∧Chg w w' F∧∃ F',C true w' (.sl k rows') v F'∧F'.Nodup∧∀ b∈F',b∈F∧Thaw w' b
theorem R_sort1 {ops:Array Oper} {o:Oper} {σ:St} {f:FuncId} {xo:Operand} {tys:Array TypeId} {id k:Nat} {rows rows':List (List T)} (ho:o.op=.call { callee:=.value (.func f),args:=[xo].toArray,argTypes:=tys }) (hg:o.guard=none) (hd:o.dst.all (fun d=>Nat.blt d σ.n)=true)
 (hx:Get σ true xo (.one (.rf id))) (hs:look σ.res id=some (.row k rows)) (h:FnS1 P f k rows rows'):Op1 P ops o σ ((σ.upd id (.row k rows')).put o.dst (true,.tup [])):=by
 rintro w0 a w ⟨I,hr⟩ K Q hK
 simp only [Region.wanted,hg,if_true]
 obtain⟨h1,a0,N,M,h2⟩:VE I w (.rf id) (a.eval xo):=hx.va hr rfl
 have hC:C true w (.sl k rows) (I.hd id) (I.F id):=hr.res id _ hs
 have own:=hr.own id _ hs
 unfold Oper.wp
 rw [run_enter h.1 ho]
 have hcall:=h.2 w _ _ (hr.goodF fun b hb=>(own.2 b hb).1) hC own.1 fun b hb=>(own.2 b hb).2
 rw [←h1] at hcall
 refine hcall.mono fun e w' hR=>?_
 obtain⟨rfl,h4,F',h5,h6,h7⟩:=hR
 refine hK _ _ ⟨_,(hr.upd (G:=F') (r:=.row k rows') hs h4 ⟨h6,fun b hb=>⟨(own.2 b (h7 b hb).1).1,C.lt h5 b hb,(h7 b hb).2,.inl (h7 b hb).1⟩⟩ (by show C true _ _ _ _;simp only [Ip.set,if_true];rw [←h1];exact h5)).put (by exact hd) ⟨[],rfl,rfl⟩⟩
theorem heap_mapB {w:World} {blk:Nat} {f:Array Value→Array Value} {c:Array Value} {e:TypeId} {fr:Nat×Nat} (hb:w.heap[blk]?=some (.cells c e fr)):(mapBlock w blk f).heap[blk]?=some (.cells (f c) e fr):=by
 unfold mapBlock
 show (w.heap.modify blk (onCells f))[blk]?=_
 rw [Array.getElem?_modify,if_pos rfl,hb]
 rfl
theorem heap_mapB_other {w:World} {blk b:Nat} {f:Array Value→Array Value} (h:b≠blk):(mapBlock w blk f).heap[b]?=w.heap[b]?:=by
 unfold mapBlock
 show (w.heap.modify blk (onCells f))[b]?=_
 rw [Array.getElem?_modify,if_neg (fun e=>h e.symm)]
theorem FnS1.ints {f:FuncId} {c:Int→List T} (hcallee:Callee P f) (hc:∀ x,c x=[.v (.int .i64 x)]) (S:List Int→List Int) (hS:∀ l,(S l).length=l.length)
 (hnone:∀ p cap w,Calls P f #[.slice p 0 cap] w fun e w'=>e=.returned (.tuple #[])∧w'=w)
 (hsome:∀ (blk cap:Nat) (zs:List Int) (w:World),Holds (Value.int .i64) w blk 0 zs.toArray→blk<w.heap.size→zs.length<4611686018427387904→Calls P f #[.slice (some ⟨blk,0,none⟩) zs.length cap] w fun e w'=>e=.returned (.tuple #[])∧∃ n os,w'=grow (putRow (Value.int .i64) (Sort.ahead w n) blk 0 (S zs).toArray) os)
 (l:List Int) (hl:l.length<4611686018427387904):FnS1 P f 1 (l.map c) ((S l).map c):=⟨hcallee,fun w v F _ hC hnd hth=>by
 have hcm:∀ m:List Int,(m.map c).flatten=(m.map (Value.int .i64)).map T.v:=fun m=>by
  induction m with
  | nil=>rfl
  | cons x m ih=>rw [List.map_cons,List.flatten_cons,ih,hc];rfl
 have hrow:∀ m:List Int,∀ r∈m.map c,r.length=1:=fun m r hr=>by
  obtain⟨x,_,rfl⟩:=List.mem_map.1 hr
  rw [hc];rfl
 have hCc:=hC
 simp only [C] at hCc
 obtain⟨a0,n0,m0,rfl,_⟩:=hCc
 obtain⟨e1,e2,e3⟩:=hC.hdr
 rw [List.length_map] at e1
 rcases hC.blk with ⟨q1,q2,q3⟩|⟨g,G,cur,e',rfl,rfl,q3,q4,q5⟩
 · have hl0:l=[]:=by simpa using q3
   subst hl0
   have hS0:S []=[]:=List.eq_nil_of_length_eq_zero (by rw [hS];rfl)
   subst e1;refine (hnone a0 m0 w).mono fun e w' ⟨h1,h2⟩=>?_;subst h2
   rw [hS0]
   exact⟨h1,Chg.refl _ _,F,hC,hnd,fun b hb=>⟨hb,hth b hb⟩⟩
 · obtain⟨s1,xs,s2,s3,s4⟩:=q5.flat
   rw [hcm] at s2
   simp only [Nat.zero_add] at s4
   have hval:∀ m:List Int,(m.map (Value.int .i64)).all Value.oneCell'=true:=fun m=>by
    rw [List.all_eq_true]
    intro v hv
    obtain⟨x,_,rfl⟩:=List.mem_map.1 hv
    rfl
   have hG:G=[]∧xs=l.map (Value.int .i64):=by
    have key:∀ (vs:List Value) {cs:List Value} {G:List Nat},Cs true w (vs.map T.v) cs G→G=[]∧cs=vs:=by
     intro vs
     induction vs with
     | nil=>intro cs G h;simp only [List.map_nil,Cs] at h;exact⟨h.2,h.1⟩
     | cons v vs ih=>
      intro cs G h
      simp only [List.map_cons,Cs] at h
      obtain⟨c1,cr,G1,G2,rfl,h2,h3,rfl⟩:=h
      simp only [C] at h2
      obtain⟨rfl,rfl,_⟩:=h2
      obtain⟨rfl,rfl⟩:=ih h3
      exact⟨rfl,rfl⟩
    exact key _ s2
   obtain⟨rfl,rfl⟩:=hG
   have hglt:g<w.heap.size:=(Array.getElem?_eq_some_iff.1 q3).1
   have hH:Holds (Value.int .i64) w g 0 l.toArray:=fun j hj=>by
    rw [List.size_toArray] at hj
    rw [Nat.zero_add]
    refine⟨?_,by simp [World.frozen?,q3]⟩
    rw [s4 j _ (show (l.map (Value.int .i64))[j]?=some (.int .i64 l[j]) by rw [List.getElem?_map,List.getElem?_eq_getElem hj];rfl)]
    simp [hj]
   have hcall:=hsome g m0 l w hH hglt hl
   rw [e1] at hcall
   refine hcall.mono fun e w' hR=>?_
   obtain⟨rfl,n,os,rfl⟩:=hR
   have hsl:=hS l
   generalize hd':(S l).toArray=d'
   have hd's:d'.size=l.length:=by rw [←hd'];simpa using hsl
   have hw1:(grow (putRow (Value.int .i64) (Sort.ahead w n) g 0 d') os).heap[g]?=some (.cells (putCells (Value.int .i64) 0 d' cur) e' (0,0)):=by
    unfold grow putRow
    show ((mapBlock (Go.Sort.ahead w n) g _).heap++os)[g]?=_
    have hm:=heap_mapB (w:=Go.Sort.ahead w n) (f:=putCells (Value.int .i64) 0 d') q3
    rw [Array.getElem?_append_left (Array.getElem?_eq_some_iff.1 hm).1]
    exact hm
   have hw2:∀ b,b<w.heap.size→b≠g→(grow (putRow (Value.int .i64) (Sort.ahead w n) g 0 d') os).heap[b]?=w.heap[b]?:=fun b hb hne=>by
    unfold grow putRow
    show ((mapBlock (Go.Sort.ahead w n) g _).heap++os)[b]?=_
    have hm:=heap_mapB_other (w:=Go.Sort.ahead w n) (f:=putCells (Value.int .i64) 0 d') hne
    have hb':b<(mapBlock (Go.Sort.ahead w n) g (putCells (Value.int .i64) 0 d')).heap.size:=heap_lt hm hb
    rw [Array.getElem?_append_left hb']
    exact hm
   have hsz:(putCells (Value.int .i64) 0 d' cur).size=m0*1:=by unfold putCells;simp [q4]
   have hch:Chg w (grow (putRow (Value.int .i64) (Sort.ahead w n) g 0 d') os) [g]:=⟨rfl,rfl,rfl,by rw [Go.Sort.size_grow,Go.Sort.size_putRow];exact Nat.le_add_right _ _,fun b hb hn=>hw2 b hb (by simpa using hn)⟩
   refine⟨rfl,hch,[g],?_,by simp,fun b hb=>?_⟩
   · unfold C
     refine⟨_,_,_,rfl,by rw [List.length_map,hsl,e1],e2,e3,.inr ⟨g,0,[],rfl,rfl,(Array.getElem?_eq_some_iff.1 hw1).1,fun _=>⟨rfl,_,e',hw1,hsz⟩,Rws.of (xs:=(S l).map (Value.int .i64)) (hrow _) ?_ fun j u hj=>?_⟩⟩
     · rw [hcm];exact Cs_vals (hval _)
     · have hjl:j<l.length:=by have:=(List.getElem?_eq_some_iff.1 hj).1;rw [List.length_map,hsl] at this;exact this
       have hjc:j<cur.size:=by rw [q4];omega
       rw [List.getElem?_map,List.getElem?_eq_getElem (by rw [hsl];exact hjl)] at hj
       cases hj
       simp only [World.cell?,hw1,Nat.zero_add]
       unfold putCells
       rw [Array.getElem?_mapIdx,Array.getElem?_eq_getElem hjc]
       simp [hd's,hjl,←hd',hsl]
   · simp only [List.mem_singleton] at hb
     subst hb
     exact⟨by simp,.inl _,_,hw1⟩⟩
end
end Go.Q
namespace Go.Q
open Go.RowKit
section
variable {P:Program}
theorem stL_res0 (L:Nat→Bool):∀ (outs:List Out) (i:Nat) (σ:St),(∀ y∈outs,y.2.2=[])→(stL L i outs σ).res=σ.res
 | [],_,_,_=>rfl
 | y::r,i,σ,h=>by
  rw [stL,stL_res0 L r (i+1) _ fun z hz=>h z (by simp [hz])]
  cases L i with
  | false=>rfl
  | true=>simp only [cond_true];rw [h y (by simp)];rfl
theorem stL_look {L:Nat→Bool} {outs:List Out} {σ:St} (hno:∀ y∈outs,look σ.slots y.1=none) (hun:∀ (i j:Nat) (y z:Out),outs[i]?=some y→outs[j]?=some z→y.1=z.1→i=j) (t:Nat) (x:Bool×S) :
 look (stL L 0 outs σ).slots t=some x↔(∃ j y,outs[j]?=some y∧L j=true∧y.1=t∧y.2.1=x)∨look σ.slots t=some x:=by
 by_cases hex:∃ j y,outs[j]?=some y∧L j=true∧y.1=t
 · obtain⟨j,y,hy,hj,rfl⟩:=hex
   have e:=stL_slot (L:=L) outs 0 σ j y hy (by rw [Nat.zero_add];exact hj) rfl rfl fun k z hk e=>hun k j z y hk hy e
   rw [e,hno y (List.mem_of_getElem? hy)]
   constructor
   · intro h;exact .inl ⟨j,y,hy,hj,rfl,Option.some.inj h⟩
   · rintro (⟨k,z,hz,_,h1,h2⟩|h)
     · have:=hun k j z y hz hy h1
       subst this
       rw [hy] at hz;cases hz;rw [h2]
     · cases h
 · rw [stL_slot_base outs 0 σ fun j z hz hj e=>hex ⟨j,z,hz,by rw [Nat.zero_add] at hj;exact hj,e⟩]
   constructor
   · exact .inr
   · rintro (⟨j,z,hz,hj,h1,_⟩|h)
     · exact absurd ⟨j,z,hz,hj,h1⟩ hex
     · exact h
theorem stL_sup {L M:Nat→Bool} {outs:List Out} {σ σ':St} (hs:Sup σ σ') (hno:∀ y∈outs,look σ.slots y.1=none) (hno':∀ y∈outs,look σ'.slots y.1=none) (hun:∀ (i j:Nat) (y z:Out),outs[i]?=some y→outs[j]?=some z→y.1=z.1→i=j) (hnr:∀ y∈outs,y.2.2=[])
 (hLM:∀ j,L j=true→M j=true):Sup (stL L 0 outs σ) (stL M 0 outs σ'):=by
 refine⟨by rw [stL_n,stL_n];exact hs.n,fun t x h=>?_,fun t x h=>?_⟩
 · rw [stL_look hno hun] at h
   rw [stL_look hno' hun]
   rcases h with ⟨j,y,h1,h2,h3,h4⟩|h
   · exact .inl ⟨j,y,h1,hLM j h2,h3,h4⟩
   · exact .inr (hs.slots _ _ h)
 · rw [stL_res0 _ _ _ _ hnr] at h ⊢
   exact hs.res _ _ h
def disN:List Nat→Bool
 | []=>true
 | x::l=>l.all (fun y=>!(Nat.beq x y))&&disN l
theorem disN_inj:∀ {outs:List Out},disN (outs.map (·.1))=true→∀ (i j:Nat) (y z:Out),outs[i]?=some y→outs[j]?=some z→y.1=z.1→i=j
 | [],_,i,j,y,z,h,_,_=>by simp at h
 | u::r,h,i,j,y,z,h1,h2,e=>by
  simp only [List.map_cons,disN,Bool.and_eq_true,List.all_map,List.all_eq_true] at h
  have key:∀ v∈r,u.1≠v.1:=fun v hv e=>by have:=h.1 v hv;simp [e] at this
  match i,j,h1,h2 with
  | 0,0,_,_=>rfl
  | 0,j+1,h1,h2=>simp at h1 h2;subst h1;exact absurd e (key z (List.mem_of_getElem? h2))
  | i+1,0,h1,h2=>simp at h1 h2;subst h2;exact absurd e.symm (key y (List.mem_of_getElem? h1))
  | i+1,j+1,h1,h2=>rw [disN_inj h.2 i j y z (by simpa using h1) (by simpa using h2) e]
theorem Sup.sub0 {σ σ':St} (hn:σ'.n=σ.n) (hs:SubS0 σ σ'.slots) (hr:SubR0 σ σ'.res):Sup σ' σ:=⟨hn.symm,fun i x h=>look_SubS0 hs i x h,fun i x h=>look_SubR0 hr i x h⟩
theorem A8 {σ σ':St} (hn:σ'.n=σ.n:=by exact rfl) (hs:SubS0 σ σ'.slots:=by (repeat refine⟨rfl,?_⟩);exact trivial) (hr:SubR0 σ σ'.res:=by (repeat refine⟨rfl,?_⟩);exact trivial):Sup σ' σ:=Sup.sub0 hn hs hr
def StepsF (P:Program) (ops:Array Oper) (B:Nat→List Nat) (outs:List Out) (X:Nat→Bool) (σ σ2:St):Nat→List Oper→List Out→Prop
 | i,o::l,y::r=>Loc P ops o (stL (memN (B i)) 0 outs (bif X i then σ2 else σ)) y∧StepsF P ops B outs X σ σ2 (i+1) l r
 | _,_,_=>True
theorem StepsF.at {ops:Array Oper} {B:Nat→List Nat} {outs:List Out} {X:Nat→Bool} {σ σ2:St}:∀ (l:List Oper) (r:List Out) (k:Nat),StepsF P ops B outs X σ σ2 k l r→∀ i o y,l[i]?=some o→r[i]?=some y→Loc P ops o (stL (memN (B (k+i))) 0 outs (bif X (k+i) then σ2 else σ)) y
 | [],r,k,h,i,o,y,hl,hr=>by simp at hl
 | o'::l,[],k,h,i,o,y,hl,hr=>by simp at hr
 | o'::l,y'::r,k,h,0,o,y,hl,hr=>by simp at hl hr;subst hl;subst hr;exact h.1
 | o'::l,y'::r,k,h,i+1,o,y,hl,hr=>by
  have:=StepsF.at l r (k+1) h.2 i o y (by simpa using hl) (by simpa using hr)
  rwa [show k+1+i=k+(i+1) by omega] at this
end
end Go.Q
namespace Go.Q
open Go.RowKit
section
variable {P:Program} {ops:Array Oper} {o:Oper} {σ:St} {q:Bool}
theorem R_append0 {t e:TypeId} {x y:Operand} {A2:A} {id k:Nat} {rows rows2:List (List T)} {z:Value} {bytes:Nat} (ho:o.op=.call { callee:=.builtin .append,args:=#[x,y],argTypes:=#[t,t] }) (hg:o.guard=none) (hd:o.dst.all (fun d=>Nat.blt d σ.n)=true)
 (hx:∀ I w0 a w,RelI I w0 σ a w→VE I w (.rf id) (a.eval x)) (hs:look σ.res id=some (.row k rows)) (hy:Get σ true y A2) (hq:Sq σ A2 k rows2) (hv:rows2.flatten.all T.isV=true) (ht:P.underlying t=some (.slice e)) (hi:(P.info? e).map (fun i=>(i.zero,i.size,i.bytes))=some (some z,k,bytes)) (hzs:z.cells.size=k)
 (hb:(rows.length+rows2.length)*bytes≤140737488355328) (hm:rows.length+rows2.length≤maxLen) :
 Op1 P ops o σ ((σ.chg id (.row k (rows++rows2))).put o.dst (true,.a (.one (.rf id)))):=
 .eff hg fun w0 a w ⟨I,hr⟩=>by
  have hv1:VE I w (.rf id) (a.eval x):=hx I w0 a w hr
  have hC:C true w (.sl k rows) (I.hd id) (I.F id):=hr.res id _ hs
  obtain⟨F2,hC2⟩:=hq.val hr (hy.va hr rfl)
  obtain⟨v',w',hrun,h⟩:=run_append_T (ty:=o.type) w ht hi hzs hC hC2 hb hm
  refine⟨v',w',by simp [execOp,ho,resolve,invoke,builtin,hv1.1,hrun],?_⟩
  rcases h with ⟨rfl,rfl,rfl⟩|⟨g,cap,cur,e',G,rfl,h1,h2,h3,h4,h5,h6,h7,xs,news,h8,h9,h10,h11,h12⟩
  · have:=hr.chg hs (Chg.refl _ _) (G:=I.F id) (u:=I.hd id) (r:=.row k (rows++[])) ⟨(hr.own id _ hs).1,fun b hb=>⟨((hr.own id _ hs).2 b hb).1,(hr.lt id b hb).1,((hr.own id _ hs).2 b hb).2,.inl hb⟩⟩ (by show C true _ _ _ _;simpa [Ip.set] using hC)
    exact⟨_,this.put hd ⟨by simp [Ip.set],hv1.1▸hv1.2⟩⟩
  · obtain⟨h13,_⟩:=Cs_flat (o':=true) (w':=w) hv h9
    have:=hr.append hs h1 h2 h3 h4 h5 h6 h7 h8 h13 h10 h11 h12 (by simp) List.nodup_nil
    exact⟨_,this.put hd ⟨by simp [Ip.set],_,_,_,rfl⟩⟩
theorem R_append_hd {t e:TypeId} {x y:Operand} {A2:A} {id hid k:Nat} {c0:Value} {rows rows2:List (List T)} {z:Value} {bytes:Nat} (ho:o.op=.call { callee:=.builtin .append,args:=#[x,y],argTypes:=#[t,t] }) (hg:o.guard=none) (hd:o.dst.all (fun d=>Nat.blt d σ.n)=true)
 (hx:Get σ true x (.one (.t (.v c0)))) (hh:look σ.res hid=some (.hdr (some id) c0)) (hs:look σ.res id=some (.row k rows)) (hy:Get σ true y A2) (hq:Sq σ A2 k rows2) (hv:rows2.flatten.all T.isV=true) (ht:P.underlying t=some (.slice e)) (hi:(P.info? e).map (fun i=>(i.zero,i.size,i.bytes))=some (some z,k,bytes)) (hzs:z.cells.size=k)
 (hb:(rows.length+rows2.length)*bytes≤140737488355328) (hm:rows.length+rows2.length≤maxLen) :
 Op1 P ops o σ ((σ.chg id (.row k (rows++rows2))).put o.dst (true,.a (.one (.rf id)))):=
 R_append0 ho hg hd (fun I w0 a w hr=>by
  obtain⟨G,k1,_⟩:VE I w (.t (.v c0)) (a.eval x):=hx.va hr rfl
  simp only [C] at k1
  have k2:I.hd id=c0:=(hr.res _ _ hh).2 id rfl
  have hC:C true w (.sl k rows) (I.hd id) (I.F id):=hr.res id _ hs
  simp only [C] at hC
  obtain⟨a1,l1,c1,e1,_⟩:=hC
  exact⟨by rw [k1.1,k2],a1,l1,c1,by rw [k1.1,←k2,e1]⟩) hs hy hq hv ht hi hzs hb hm
structure DrawG (P:Program) (N:Nat) (B:Nat→List Nat) (l:List Oper) (n:Nat) (sl:List (Nat×(Bool×S))) (rs:List (Nat×R)) (Fin:List Out→Prop) (acc:List Out) (k:Nat) (rest:List Oper):Prop where
 pf:acc.length=k→rest=l.drop k→∃ more:List Out,(acc.reverse++more).length=N∧
  Steps P l.toArray B (acc.reverse++more) ⟨n,sl,rs⟩ k rest more∧Fin (acc.reverse++more)
variable {N:Nat} {B:Nat→List Nat} {l:List Oper} {n:Nat} {sl:List (Nat×(Bool×S))} {rs:List (Nat×R)} {Fin:List Out→Prop} {acc:List Out} {k:Nat} {rest:List Oper}
theorem Bg {y:Out} (hN:Nat.blt k N=true) (hlt:((B k).all fun j=>Nat.blt j k)=true) (hl:Loc P l.toArray o (stR (memN (B k)) k acc ⟨n,sl,rs⟩) y) (h:DrawG P N B l n sl rs Fin (y::acc) (k+1) rest):DrawG P N B l n sl rs Fin acc k (o::rest):=⟨fun ha hr=>by
 have hd:rest=l.drop (k+1):=by
  have:=congrArg (List.drop 1) hr
  simpa using this
 obtain⟨more,h1,h3,h4⟩:=h.pf (by simp [ha]) hd
 have e:(y::acc).reverse++more=acc.reverse++(y::more):=by simp
 rw [e] at h1 h3 h4
 refine⟨y::more,h1,⟨?_,h3⟩,h4⟩
 have:stL (memN (B k)) 0 (acc.reverse++(y::more)) ⟨n,sl,rs⟩=stR (memN (B k)) k acc ⟨n,sl,rs⟩:=by
  rw [stL_append,←ha,stR_eq,stL_false]
  intro j hj
  rw [List.length_reverse,Nat.zero_add,ha] at hj
  cases hm:memN (B acc.length) j with
  | false=>rfl
  | true=>
   have h1:=List.all_eq_true.1 hlt j (by rw [←ha];exact memN_iff.1 hm)
   have h2:j<k:=Nat.le_of_ble_eq_true h1
   omega
 rw [this]
 exact hl⟩
theorem DrawG.fin (hk:Nat.beq k N=true) (h:Fin acc.reverse):DrawG P N B l n sl rs Fin acc k rest:=⟨fun ha hr=>by
 have hk':=Nat.eq_of_beq_eq_true hk
 refine⟨[],by simp [ha,hk'],by unfold Steps;split<;>first|trivial|(rename_i h;cases h),by rw [List.append_nil];exact h⟩⟩
def FinA (P:Program) (w0:Base) (Q:Exit→St→Prop) (N:Nat) (B:Nat→List Nat) (l:List Oper) (σ:St) (o:Oper) (nid d:Nat) (r:R) (x:Bool×S) (outs:List Out):Prop:=
 (outs.all (fun y=>y.2.2.isEmpty)=true∧outs.map (fun y=>y.2.1.2.pur nid)=outs.map (fun y=>y.2.1.2)∧outs.all (fun y=>(look σ.slots y.1).isNone&&!(Nat.beq y.1 d))=true∧disN (outs.map (·.1))=true)∧
 (∀ σ',Sup (stL (memN (B N)) 0 outs σ) σ'→Op1 P l.toArray o σ' ((σ'.chg nid r).put o.dst x))∧
 AWl P w0 l.toArray Q (l.drop (N+1)) (stL (fun _=>true) 0 outs ((σ.chg nid r).put (some d) x))
theorem chg_slot {σ:St} {id:Nat} {r:R} (t:Nat):look (σ.chg id r).slots t=(look σ.slots t).map fun x=>(x.1,x.2.pur id):=look_map (fun x:Bool×S=>(x.1,x.2.pur id)) _ _
theorem AW.drawA {w0:Base} {Q:Exit→St→Prop} {id:Nat} (N:Nat) (B:Nat→List Nat) (nid d:Nat) (r:R) (x:Bool×S) (σ2:St) (hm:P.follows .mixedOrders=true) (hB:planC l.toArray (N+1)=true) (hO:ordB l B (N+1)=true)
 (h2:Sup σ2 σ) (h2':Sup σ2 ((σ.chg nid r).put (some d) x)) (ho:l[N]?=some o) (hod:o.dst=some d) (h:DrawG P N B l σ2.n σ2.slots σ2.res (FinA P w0 Q N B l σ o nid d r x) [] 0 l):AW P w0 (.region id l.toArray true) Q σ:=by
 obtain⟨outs,hl,hsteps,⟨hnr0,hpv0,hno0,hun0⟩,hst,hfin⟩:=h.pf rfl rfl
 simp only [List.reverse_nil,List.nil_append] at hl hsteps hnr0 hpv0 hno0 hun0 hst hfin
 have hnr:∀ y∈outs,y.2.2=[]:=fun y hy=>List.isEmpty_iff.1 (List.all_eq_true.1 hnr0 y hy)
 have hpv:∀ y∈outs,y.2.1.2.pur nid=y.2.1.2:=fun y hy=>List.map_inj_left.1 hpv0 y hy
 have hun:=fun i j y z=>disN_inj hun0 i j y z
 have hno1:∀ y∈outs,look σ.slots y.1=none∧y.1≠d:=fun y hy=>by
  have:=List.all_eq_true.1 hno0 y hy
  simp only [Bool.and_eq_true,Option.isNone_iff_eq_none,Bool.not_eq_true'] at this
  exact⟨this.1,beq_ne this.2⟩
 have hno:∀ y∈outs,look σ.slots y.1=none:=fun y hy=>(hno1 y hy).1
 generalize hσe:(σ.chg nid r).put (some d) x=σe at h2' hfin
 have hslot:∀ t,look σe.slots t=if d=t then some x else (look σ.slots t).map fun x=>(x.1,x.2.pur nid):=fun t=>by
  rw [←hσe]
  show look ((d,x)::(σ.chg nid r).slots) t=_
  rw [look_cons,chg_slot]
 have hres:σe.res=(σ.chg nid r).res:=by rw [←hσe];rfl
 have hne:σe.n=σ.n:=by rw [←hσe];rfl
 have hnoe:∀ y∈outs,look σe.slots y.1=none:=fun y hy=>by rw [hslot,if_neg (fun e=>(hno1 y hy).2 e.symm),hno y hy];rfl
 have hno2:∀ y∈outs,look σ2.slots y.1=none:=fun y hy=>by
  cases h:look σ2.slots y.1 with
  | none=>rfl
  | some x=>have:=h2.slots _ _ h;rw [hno y hy] at this;cases this
 intro a w hr;refine wp_region_any hm ?_
 have hlN:N+1≤l.length:=by
  simp only [planC,Bool.and_eq_true,decide_eq_true_eq] at hB
  simpa using hB.1.1.1
 have inB:∀ (listed:Array Bool),HeadInv .any l.toArray (N+1) listed→∀ i o,i<N+1→l[i]?=some o→(∀ j∈deps o,listed.getD j false=true)→∀ j∈B i,listed.getD j false=true:=by
  intro listed inv i o hi ho hd
  have hOi:=List.all_eq_true.1 hO i (List.mem_range.2 hi)
  rw [ho] at hOi
  have hOi':=List.all_eq_true.1 hOi
  have key:∀ d j,N+1-j≤d→j∈B i→listed.getD j false=true:=by
   intro d
   induction d with
   | zero=>
    intro j hj hm
    have:=hOi' j hm
    simp only [Bool.or_eq_true,List.contains_iff_mem,List.any_eq_true,Bool.and_eq_true,decide_eq_true_eq] at this
    rcases this with h|⟨m,hmB,⟨h1,h2⟩,h3⟩
    · exact hd j h
    · omega
   | succ d ih=>
    intro j hj hm
    have:=hOi' j hm
    simp only [Bool.or_eq_true,List.contains_iff_mem,List.any_eq_true,Bool.and_eq_true,decide_eq_true_eq] at this
    rcases this with h|⟨m,hmB,⟨h1,h2⟩,h3⟩
    · exact hd j h
    · have hml:=ih m (by omega) hmB
      cases hom:l[m]? with
      | none=>rw [hom] at h3;cases h3
      | some om=>
       rw [hom] at h3
       simp only [List.contains_iff_mem] at h3
       obtain⟨e,he,hb,rfl⟩:=mem_deps.1 h3
       exact inv.closed m om (by simpa using hom) hml e he hb
  exact fun j hm=>key (N+1-j) j (Nat.le_refl _) hm
 have H:=wpAny_inv (P:=P) (N:=N+1) (Q:=lift w0 Q) (J:=fun listed a w=>Rel w0 (stL (fun j=>listed.getD j false) 0 outs (bif listed.getD N false then σe else σ)) a w) hB (fun i o1 hi ho1 listed a w inv hd hu hJ=>?_) (fun listed a w hall hJ=>?_)
  (unl (N+1) (Array.replicate l.toArray.size false)) (Array.replicate l.toArray.size false) a { w with drawn:=w.drawn+1 } rfl
  ⟨by simp,fun j oj _ hl=>(by rw [getD_replicate_false] at hl;cases hl),fun t _ ht=>getD_in (by simpa using ht) (getD_replicate_false _ _)⟩ ?_
 · have hu:unl (N+1) (Array.replicate l.toArray.size false)=N+1:=by
    unfold unl
    rw [List.countP_eq_length.2 (fun j _=>by rw [getD_replicate_false];rfl),List.length_range]
   rw [hu,show N+1+(l.toArray.size-(N+1))=l.toArray.size by simp;omega] at H
   exact H
 · -- one step
   have ho':l[i]?=some o1:=by simpa using ho1
   have hBL:=inB listed inv i o1 hi ho' hd
   have hget:∀ j,(listed.setIfInBounds i true).getD j false=if j=i then true else listed.getD j false:=by
    intro j
    by_cases e:j=i
    · subst e
      have:j<listed.size:=by rw [inv.size];simp;omega
      simp [this]
    · rw [if_neg e];exact getD_set_ne false (fun h=>e h.symm)
   intro K Q' hK
   by_cases hiN:i=N
   · subst hiN
     have eo:o1=o:=by rw [ho] at ho';exact (Option.some.inj ho').symm
     subst eo
     have hst':=hst (stL (fun j=>listed.getD j false) 0 outs σ) (stL_sup ⟨rfl,fun _ _ h=>h,fun _ _ h=>h⟩ hno hno hun hnr fun j hj=>hBL j (memN_iff.1 hj))
     rw [hu] at hJ
     refine hst' w0 a w hJ K Q' fun a' w' hr'=>hK a' w' ?_
     rw [hget,if_pos rfl]
     rw [hod] at hr'
     refine Rel.of_look hr' (by rw [stL_n];show σe.n=(stL _ 0 outs σ).n;rw [stL_n];exact hne) (fun t y' hx=>?_) (fun t y' hx=>?_)
     · simp only [cond_true] at hx
       rw [stL_look hnoe hun] at hx
       show look ((d,x)::(St.chg (stL _ 0 outs σ) nid r).slots) t=some y'
       rw [look_cons,chg_slot]
       rcases hx with ⟨j,y,h1,h2,h3,h4⟩|hx
       · have hj:j≠i:=by have:=(List.getElem?_eq_some_iff.1 h1).1;omega
         rw [hget,if_neg hj] at h2
         have hym:=List.mem_of_getElem? h1
         rw [if_neg (fun e=>(hno1 y hym).2 (h3.trans e.symm)),(stL_look hno hun t y').2 (.inl ⟨j,y,h1,h2,h3,h4⟩)]
         have:=hpv y hym
         rw [h4] at this
         simp only [Option.map_some,this]
       · rw [hslot] at hx
         by_cases e:d=t
         · rw [if_pos e] at hx ⊢;exact hx
         · rw [if_neg e] at hx ⊢
           cases hl:look σ.slots t with
           | none=>rw [hl] at hx;cases hx
           | some x0=>
            rw [hl] at hx
            rw [(stL_look hno hun t x0).2 (.inr hl)]
            exact hx
     · simp only [cond_true] at hx
       rw [stL_res0 _ _ _ _ hnr,hres] at hx
       show look (St.chg (stL _ 0 outs σ) nid r).res t=some y'
       have:(St.chg (stL (fun j=>listed.getD j false) 0 outs σ) nid r).res=(σ.chg nid r).res:=by
        simp only [St.chg,St.pur];rw [stL_res0 _ _ _ _ hnr]
       rw [this];exact hx
   · have hiN':i<N:=by omega
     obtain⟨y,hy⟩:∃ y,outs[i]?=some y:=⟨outs[i]'(by omega),List.getElem?_eq_getElem _⟩
     have hym:=List.mem_of_getElem? hy
     have hloc:Loc P l.toArray o1 (stL (memN (B i)) 0 outs σ2) y:=by
      have:=hsteps.at l outs 0 i o1 y ho' hy
      rwa [Nat.zero_add] at this
     have hcur:∀ y∈outs,look (bif listed.getD N false then σe else σ).slots y.1=none:=by
      cases listed.getD N false
      · exact hno
      · exact hnoe
     have hsb:Sup σ2 (bif listed.getD N false then σe else σ):=by
      cases listed.getD N false
      · exact h2
      · exact h2'
     have hsup:=stL_sup (L:=memN (B i)) (M:=fun j=>listed.getD j false) hsb hno2 hcur hun hnr fun j hj=>hBL j (memN_iff.1 hj)
     refine hloc _ hsup (fun z hz=>by rw [hnr y hym] at hz;cases hz) w0 a w hJ K Q' fun a' w' hr'=>hK a' w' ?_
     rw [hget,if_neg (fun h=>hiN h.symm)]
     refine Rel.of_look hr' (by rw [stL_n,stL_n]) (fun t x hx=>?_) (fun t x hx=>?_)
     · rw [stL_look hcur hun] at hx
       show look ((y.1,y.2.1)::_) t=some x
       rw [look_cons]
       rcases hx with ⟨j,z,h1,h2,h3,h4⟩|hx
       · by_cases e:j=i
         · subst e
           rw [hy] at h1;cases h1
           rw [if_pos h3,h4]
         · rw [hget,if_neg e] at h2
           rw [if_neg (fun e'=>e (hun j i z y h1 hy (h3.trans e'.symm)))]
           exact (stL_look hcur hun t x).2 (.inl ⟨j,z,h1,h2,h3,h4⟩)
       · rw [if_neg (fun e'=>by rw [←e',hcur y hym] at hx;cases hx)]
         exact (stL_look hcur hun t x).2 (.inr hx)
     · rw [stL_res0 _ _ _ _ hnr] at hx
       rw [hnr y hym]
       show look (stL _ 0 outs _).res t=some x
       rw [stL_res0 _ _ _ _ hnr]
       exact hx
 · -- behind them
   have hall':listed.getD N false=true:=hall N (by omega)
   rw [hall'] at hJ
   have H:=hfin a w (Rel.of_look hJ (by rw [stL_n,stL_n];rfl) (fun t x hx=>?_) (fun t x hx=>?_))
   · simpa using H
   · rw [stL_look hnoe hun] at hx
     simp only [cond_true]
     rw [stL_look hnoe hun]
     rcases hx with ⟨j,y,h1,_,h3⟩|hx
     · exact .inl ⟨j,y,h1,hall j (by have:=(List.getElem?_eq_some_iff.1 h1).1;omega),h3⟩
     · exact .inr hx
   · simp only [cond_true]
     rw [stL_res0 _ _ _ _ hnr] at hx ⊢
     exact hx
 · -- the start
   have e:stL (fun j=>(Array.replicate l.toArray.size false).getD j false) 0 outs σ=σ:=by
    have key:∀ (os:List Out) (i:Nat) (σ:St),stL (fun j=>(Array.replicate l.toArray.size false).getD j false) i os σ=σ:=by
     intro os
     induction os with
     | nil=>intro i σ;rfl
     | cons y os ih=>
      intro i σ
      rw [stL,getD_replicate_false]
      exact ih (i+1) σ
    exact key outs 0 _
   show Rel w0 (stL (fun j=>(Array.replicate l.toArray.size false).getD j false) 0 outs (bif (Array.replicate l.toArray.size false).getD N false then σe else σ)) a _
   rw [getD_replicate_false,cond_false,e]
   obtain⟨I,hI⟩:=hr
   exact⟨I,hI.later (Ext.refl w).drawn⟩
theorem stL_all:∀ (outs:List Out) (i:Nat) (σ:St),stL (fun _=>true) i outs σ=⟨σ.n,finSl outs.reverse σ.slots,finRs outs.reverse σ.res⟩:=fun outs i σ=>by
 have h:=fin_eq (n:=σ.n) (sl:=σ.slots) (rs:=σ.res) outs.reverse outs.reverse.length
 rw [stR_eq,List.reverse_reverse] at h
 have key:∀ (os:List Out) (i j:Nat) (σ:St),stL (fun _=>true) i os σ=stL (fun _=>true) j os σ:=by
  intro os
  induction os with
  | nil=>intro i j σ;rfl
  | cons y os ih=>intro i j σ;rw [stL,stL];exact ih _ _ _
 rw [key outs i 0 σ]
 exact h
theorem FinA.mk {w0:Base} {Q:Exit→St→Prop} {nid d:Nat} {r:R} {x:Bool×S} (h1:(acc.reverse.all (fun y=>y.2.2.isEmpty)&&(acc.reverse.all (fun y=>(look σ.slots y.1).isNone&&!(Nat.beq y.1 d))&&disN (acc.reverse.map (·.1))))=true) (h2:acc.reverse.map (fun y=>y.2.1.2.pur nid)=acc.reverse.map (fun y=>y.2.1.2))
 (h3:∀ σ',Sup (stR (memN (B N)) N acc σ) σ'→Op1 P l.toArray o σ' ((σ'.chg nid r).put o.dst x)) (hk:Nat.beq acc.length N=true)
 (h4:AWl P w0 l.toArray Q (l.drop (N+1)) ⟨σ.n,finSl acc ((d,x)::(σ.chg nid r).slots),finRs acc (σ.chg nid r).res⟩):FinA P w0 Q N B l σ o nid d r x acc.reverse:=by
 simp only [Bool.and_eq_true] at h1
 have hk':=Nat.eq_of_beq_eq_true hk
 refine⟨⟨h1.1,h2,by simpa only [Bool.and_eq_true] using h1.2.1,h1.2.2⟩,fun σ' hs=>h3 σ' ?_,?_⟩
 · rw [←hk',stR_eq,hk'];exact hs
 · rw [stL_all,List.reverse_reverse];exact h4
end
end Go.Q
