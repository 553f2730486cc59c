import Derived.Test.YtbecibmlbiebeaaGreatB56xa
set_option linter.unusedVariables false
set_option linter.unusedSimpArgs false
set_option maxHeartbeats 1000000
set_option maxRecDepth 100000
namespace Go.Q
open Go.D
theorem findI_neg (v:Int) (l:List Int):decide (findI (fun x=>decide (v=x)) l 0<0)=!decide (v∈l):=by
 rw [←findI_mem v l 0,Bool.eq_iff_iff]
 simp
theorem findI_out (v:Int) (l:List Int):findI (fun x=>decide (v=x)) l 0<0↔v∉l:=by
 have:=findI_neg v l
 rw [Bool.eq_iff_iff] at this
 simpa using this
theorem all_succ (p:Nat→Bool) (k:Nat):(List.range (k+1)).all p=((List.range k).all p&&p k):=by
 rw [List.range_succ,List.all_append];simp
theorem all_part {p:Nat→Bool} {k N:Nat} (h:k=N∨(List.range k).all p=false) (hk:k≤N):(List.range k).all p=(List.range N).all p:=by
 rcases h with h|h
 · rw [h]
 · rw [h]
   symm
   rw [Bool.eq_false_iff] at h ⊢
   intro h2;refine h (List.all_eq_true.2 fun i hi=>List.all_eq_true.1 h2 i (List.mem_range.2 ?_))
   have:=List.mem_range.1 hi
   omega
section
variable (g:TGraph) (a:TAutomaton)
def cC (p:Nat):Int:=((numOf (relN (nextsV g a)) p:Nat):Int)
def cR (i k:Nat):Bool:=(wK (nxL (nextsV g a)) (NP g a) i).testBit k
def cP (out:List Int) (c:Nat):Bool:=freeB (NP g a) (cC g a) (cR g a) out c
def cellB (out:List Int) (c:Int) (i k:Nat):Bool:=!(decide (cC g a k=c)&&(!decide (cC g a i=c)&&(cR g a i k&&!decide (cC g a i∈out))))
end
theorem and_part {d:Bool} {p:Nat→Bool} {i N:Nat} (h:i=N∨(d&&(List.range i).all p)=false) (hi:i≤N):(d&&(List.range i).all p)=(d&&(List.range N).all p):=by
 cases d with
 | false=>rfl
 | true=>rw [Bool.true_and,Bool.true_and];exact all_part (by simpa using h) hi
theorem OI_len {N n:Nat} {C:Nat→Int} {r:Nat→Nat→Bool} {out:List Int} (h:OI N n C r out):out.length≤n:=by
 have:=nodup_le (l:=out) (r:=(List.range n).map fun (c:Nat)=>(c:Int)) h.nd fun x hx=>by
  have:=h.rg x hx
  exact List.mem_map.2 ⟨x.toNat,List.mem_range.2 (by omega),by omega⟩
 simpa using this
theorem cnt_le (g:TGraph) (a:TAutomaton):cntOf g a≤NP g a:=by
 unfold cntOf
 split
 · exact cntRep_le _
 · omega
theorem cR_eq (g:TGraph) (a:TAutomaton) {i:Nat} (hi:i<NP g a) (k:Nat):cR g a i k=(wK (nxN g a) (NP g a) i).testBit k:=by
 unfold cR;rw [wK_nexts g a hi,nextsV_len];rfl
theorem cP_eq (g:TGraph) (a:TAutomaton) (out:List Int) (c:Nat):cP g a out c=(!decide ((c:Int)∈out)&&(List.range (NP g a)).all fun i=>(List.range (NP g a)).all fun k=>cellB g a out c i k):=rfl
theorem ord_F {g:TGraph} {a:TAutomaton} (ha:validA a=true) (hg:validG g=true) (hgc:goodC g a=true):OrdF (NP g a) (cntOf g a) (cC g a) (cR g a) (fun i k=>(k:Int)∈nxL (nextsV g a) i):=by
 have h:=ordF (next:=nextsV g a) (nexts_ok ha hg)
 have e:(nextsV g a).length=NP g a:=nextsV_len g a
 rw [e] at h
 unfold cntOf;rw [if_pos hgc];exact h
theorem ord_on {g:TGraph} {a:TAutomaton} (ha:validA a=true) (hg:validG g=true) (hgc:goodC g a=true) {out:List Int} (h:OI (NP g a) (cntOf g a) (cC g a) (cR g a) out) {c:Nat} (hc:c<cntOf g a) (hp:cP g a out c=true) (hno:∀ d,d<c→cP g a out d=false):OI (NP g a) (cntOf g a) (cC g a) (cR g a) (out++[(c:Int)])∧(out++[(c:Int)]).length≤cntOf g a∧ordG (cP g a) (cntOf g a) (cntOf g a-out.length) out=ordG (cP g a) (cntOf g a) (cntOf g a-(out++[(c:Int)]).length) (out++[(c:Int)]):=by
 have hf:=freeB_iff.1 hp
 have h2:=h.add hf (by omega)
 have hl:(out++[(c:Int)]).length≤cntOf g a:=OI_len h2
 refine⟨h2,hl,ordG_on (by rw [List.length_append,List.length_singleton] at hl;omega) hc hp hno⟩
theorem ord_ex {g:TGraph} {a:TAutomaton} (ha:validA a=true) (hg:validG g=true) (hgc:goodC g a=true) {out:List Int} (h:OI (NP g a) (cntOf g a) (cC g a) (cR g a) out) (hl:out.length<cntOf g a) (hno:∀ d,d<cntOf g a→cP g a out d=false):False:=by
 obtain⟨c,hc,hf⟩:=free_ex (ord_F ha hg hgc) h hl
 have:=freeB_iff.2 hf
 have h2:=hno c hc
 unfold cP at h2
 rw [this] at h2;cases h2
theorem ord_I0 (g:TGraph) (a:TAutomaton):OI (NP g a) (cntOf g a) (cC g a) (cR g a) []:=⟨List.nodup_nil,fun c hc=>(by cases hc),fun c hc=>(by cases hc)⟩
theorem ord_ent {g:TGraph} {a:TAutomaton} (ha:validA a=true) (hg:validG g=true) (hgc:goodC g a=true) {out:List Int} (h:OI (NP g a) (cntOf g a) (cC g a) (cR g a) out) (c:Nat):cP g a out c=(!decide ((c:Int)∈out)&&!entB (nextsV g a) (cC g a) out c):=by
 have h1:=free_iff (c:=(c:Int)) (ord_F ha hg hgc) h
 have h2:=entB_iff (next:=nextsV g a) (nexts_ok ha hg) (C:=cC g a) (out:=out) (c:=(c:Int))
 rw [show (nextsV g a).length=NP g a from nextsV_len g a] at h2
 rw [Bool.eq_iff_iff,h2,←h1]
 exact freeB_iff
def entH (next:List (List Int)) (C:Nat→Int) (out:List Int) (c:Int) (i:Nat):Bool:=!decide (C i=c)&&(!decide (C i∈out)&&(nxL next i).any fun k=>decide (C k.toNat=c))
theorem comps_map {g:TGraph} {a:TAutomaton} (hgc:goodC g a=true):compsOf g a=(List.range (nextsV g a).length).map (cC g a):=by
 unfold compsOf;rw [if_pos hgc,nextsV_len];rfl
end Go.Q
namespace Go.Proofs.YtbecibmlbiebeaaGreat
open Go.RowKit Go.Q Go.D
theorem specl11Find (l:List Int) (v:Int):FnT Tryz.prog 104 [.one (.sl 1 (l.map cInt)),.one (.v (.int .i64 v))] (.a (.one (.v (.int .i64 (findI (fun x=>decide (v=x)) l 0))))):=by
 refine Ba Tryz.func104 U (by kernel_rfl) Tryz.ntmps104 U fun hlen w0=>?_
 try simp [cPair,cToken,cExpr,cEdge,cGraph,cStep,cWalk,cChange,cBatch,cHistory,cPositions,cAutomaton,cProductStep,cPathAtom,cConjunction,cView,cDelta,cRegistered,cRegistry] at hlen
 refine Ah (Av ?_);refine Aa (Af (Ah (Av ?_)));refine Aa (AW.block (Cr (β:=Nat) (fun x=>x≤(l).length∧∀ j y,j<x→(l)[j]?=some y→(fun x=>!decide (v=x)) y=true) (fun x=>⟨_,[(5,(true,.a (.one (.t (.v (.int .i64 (x:Nat))))))),(0,_),(1,_)],[]⟩) (fun x=>(l).length-x) (0) ⟨Nat.zero_le _,fun j y hj=>absurd hj (Nat.not_lt_zero j)⟩ (An U ⟨U,U,U,Y⟩ trivial) ?_));intro k hk;refine Af (Ah (Ac ?_));refine Ac ?_;refine Ab (Bd U (.no U) U (.tm U) (by exact .t) Tryz.underlying40) U ?_;refine Ab (Bz U (.no U) U (.tm U) (.tm U)) U ?_;refine Aa (Aq (.tm U) (fun hlt=>?_) (fun hlt=>?_))
 · try simp at hlt
   obtain⟨x,hx⟩:∃ ξ,(l)[k]?=some ξ:=⟨_,List.getElem?_eq_getElem (by exact hlt)⟩
   refine As (Af (AW.block (Ah (Ac ?_))));refine Ac ?_;refine Ab ((Aw U (.no U) U (.tm U) (.tm U) Tryz.underlying40 ty3 (fun _=>⟨by omega,(by exact Ax (by assumption))⟩))) U ?_;refine Ab (Ap U (.no U) U (.tm U) ty3 U U) U ?_;refine Ac ?_;refine Ab (B7 U (.no U) U (.tm U) (.tm U)) U ?_;refine Aa (Aq (.tm U) (fun h17=>?_) (fun h17=>?_))
   · try simp at h17
     refine Af (A4 (σ':=⟨_,[(0,_),(1,_),(5,_)],[]⟩) (An U ⟨U,U,U,Y⟩ trivial) ?_);refine Ae (Ac ?_);refine Ak ?_;refine Aa (A3 (Bn U U ?_))
     rw [findI_at (k:=k) hk.2 hx (by have h:=h17;first|(simp;omega)|(simp at h ⊢;omega))];simp
   · try simp at h17
     refine As (A4 (σ':=⟨_,[(0,_),(1,_),(5,_)],[]⟩) (An U ⟨U,U,U,Y⟩ trivial) ?_);refine Ae (Ac ?_);refine Ab (Be U (.no U) U (.tm U) (.const U) (fun _=>by omega)) U ?_;refine Ak ?_;refine Aa ?_;refine Round.next (k+1) ⟨by omega,each_succ hk.2 hx (by (have h:=h17;first|(simp;omega)|(simp at h ⊢;omega)))⟩ (by omega) (An rfl ⟨rfl,rfl,rfl,Y⟩ trivial)
 · try simp at hlt
   refine Bf (Ah (Av ?_));refine Aa (A3 (Bn U U ?_))
   rw [findI_none hk.2 (by omega)]
theorem specComponentOrder (g:TGraph) (a:TAutomaton):FnT Tryz.prog 47 [.agg (cGraph g),.agg (cAutomaton a)] (.a (.one (.sl 1 ((ordOf g a).map cInt)))):=by
 refine Ba Tryz.func47 U (by kernel_rfl) Tryz.ntmps47 U fun hlen w0=>?_
 try simp [cPair,cToken,cExpr,cEdge,cGraph,cStep,cWalk,cChange,cBatch,cHistory,cPositions,cAutomaton,cProductStep,cPathAtom,cConjunction,cView,cDelta,cRegistered,cRegistry] at hlen
 skip
 refine Ah (Ab (Bm U U U (.tm U) (ts:=_) (by rfl)) U ?_);refine Ab (Bm U U U (.tm U) (ts:=_) (by rfl)) U ?_;refine Av ?_;refine Bw (i:=4) 20001 1 U U ?_;refine Aa (Ah (Bh (Cp 13 U U U Tryz.underlying40 ty3 U) U ?_));refine Ak ?_;refine Aa (Af (Ah (Ab (Ap U (.no U) U (.tm U) Bu U U) U ?_)));refine Ab (Ap U (.no U) U (.tm U) Br U U) U ?_;refine Ab (A6 (FnT.fr (specl14Good g a 0 0)) U (.no U) U (.cons (.tm U) U (.cons (.tm U) U (.cons (.const U) U (.cons (.const U) U .nil))))) U ?_;refine Ab (Cq U (.no U) U (.tm U)) U ?_;refine Aa (Aq (.tm U) (fun h17=>?_) (fun h17=>?_))
 · skip
   rw [good_c] at h17
   refine Ah (Ac ?_);refine Ak ?_;refine Aa (A3 (Res.one U (.tmp U .nil) U ?_))
   unfold ordOf;rw [if_neg (by simpa using h17)];rfl
 · skip
   rw [good_c] at h17
   have hgc:goodC g a=true:=by simpa using h17
   obtain⟨hg,ha⟩:=good_c2 hgc
   have hN:1≤NP g a∧NP g a≤60:=prod_le ha hg
   have hcn:=cnt_le g a
   obtain⟨n,hn⟩:∃ n,n=cntOf g a:=⟨_,rfl⟩
   have hcomp:=specComps g a ha hg
   refine As (Ah (Ab (Ap U (.no U) U (.tm U) Bu U U) U ?_));refine Ab (Ap U (.no U) U (.tm U) Br U U) U ?_;refine Ab (A6 (FnT.fr (specl24Reach g a ha hg)) U (.no U) U (.cons (.tm U) U (.cons (.tm U) U .nil))) U ?_;refine Ak ?_;refine Aa (Af (A4 (σ':=⟨_,[(0,_),(1,_),(2,_),(3,_),(4,_),(5,_),(6,_)],[(20001,_),(13,_)]⟩) Ai ?_));refine Ae (Ac ?_);refine Ab (A6 (FnT.fr (hcomp)) U (.no U) U (.cons (.tm U) U .nil)) U ?_;refine Ak ?_;refine Aa (Ah (Ab (Ap U (.no U) U (.tm U) Bu U U) U ?_));refine Ab (Ap U (.no U) U (.tm U) Br U U) U ?_;refine Ab (A6 (FnT.fr (specComponentCount g a)) U (.no U) U (.cons (.tm U) U (.cons (.tm U) U .nil))) U ?_;refine Ak ?_
   refine Aa (Af (AW.block (Bs (fun (out:List Int)=>(OI (NP g a) (cntOf g a) (cC g a) (cR g a) out∧out.length≤cntOf g a)∧ordG (cP g a) (cntOf g a) (cntOf g a-out.length) out=ordOf g a) (fun (out:List Int)=>⟨_,[(5,(true,.a (.one (.rf 13)))),(4,_),(6,_),(7,_),(8,_)],[(13,.row 1 (out.map cInt))]⟩) (fun (out:List Int)=>cntOf g a-out.length) ([]) ⟨⟨ord_I0 g a,by simp⟩,(by unfold ordOf;rw [if_pos hgc];rfl)⟩ Ai ?_)))
   rintro out ⟨hk,he⟩
   refine Af (Ah (Ac ?_));refine Ab (Bd U (.no U) U (.tm U) (by exact .rf U) Tryz.underlying40) U ?_;refine Ac ?_;refine Ab (Bz U (.no U) U (.tm U) (.tm U)) U ?_;refine Aa (Aq (.tm U) (fun h30=>?_) (fun h30=>?_))
   · try simp only [bit_at,bit_zero,shr_zero] at h30
     try simp only [Int.toNat_natCast] at h30
     try simp at h30
     have hol:out.length<cntOf g a:=by omega
     refine As (AW.block (Ah (Av ?_)));refine Aa (AW.block ?_);refine Bs (fun (c:Nat)=>(c≤cntOf g a∧∀ d,d<c→cP g a out d=false)∧True) (fun (c:Nat)=>⟨_,[(9,(true,.a (.one (.t (.v (.int .i64 (c:Nat))))))),(5,(true,.a (.one (.rf 13)))),(4,_),(6,_),(7,_),(8,_)],[(13,.row 1 (out.map cInt))]⟩) (fun (c:Nat)=>cntOf g a-c) (0) ⟨⟨Nat.zero_le _,fun d hd=>by omega⟩,Y⟩ Ai ?_
     rintro c ⟨hk1,he1⟩
     refine Af (Ah (Ac ?_));refine Ac ?_;refine Ab (Bz U (.no U) U (.tm U) (.tm U)) U ?_;refine Aa (Aq (.tm U) (fun h33=>?_) (fun h33=>?_))
     · try simp only [bit_at,bit_zero,shr_zero] at h33
       try simp only [Int.toNat_natCast] at h33
       try simp at h33
       refine As (Af (AW.block (Ah (Ac ?_))));refine Ac ?_;refine Ab (A6 (FnT.fr (specl11Find out (c:Int))) U (.no U) U (.cons (.tm U) U (.cons (.tm U) U .nil))) U ?_;refine Ab (Bz U (.no U) U (.tm U) (.const U)) U ?_;refine Ak ?_;refine Aa (Af (Af (A4 (σ':=⟨_,[(4,_),(5,_),(6,_),(7,_),(8,_),(9,_),(10,_)],[(13,_)]⟩) Ai ?_)));refine Ae (Av ?_);refine Aa (AW.block (Cj (fun (i:Nat) (fr:Bool)=>(i≤NP g a)∧fr=(!decide ((c:Int)∈out)&&(List.range i).all fun i=>(List.range (NP g a)).all fun k=>cellB g a out c i k)) (fun (i:Nat) (fr:Bool)=>⟨_,[(11,(true,.a (.one (.t (.v (.int .i64 (i:Nat))))))),(10,(true,.a (.one (.t (.v (.bool fr)))))),(5,(true,.a (.one (.rf 13)))),(4,_),(6,_),(7,_),(8,_),(9,_)],[(13,.row 1 (out.map cInt))]⟩) (fun (i:Nat) (fr:Bool)=>NP g a-i) (0) (decide (findI (fun x=>decide ((c:Int)=x)) out 0<0)) ⟨Nat.zero_le _,(by rw [findI_neg];simp)⟩ Ai ?_))
       rintro i fr ⟨hk2,he2⟩
       refine Af (Ah (Ac ?_));refine Ac ?_;refine Ab (Bd U (.no U) U (.tm U) (by exact .t) Tryz.underlying40) U ?_;refine Ab (Bz U (.no U) U (.tm U) (.tm U)) U ?_;refine Ac ?_;refine Ab (Ar U (by exact .yes1 U U U U) U (.tmp U (by exact fun _=>rfl))) U ?_;refine Ab (Cf U (.no U) U (.tm U) (.tmp U (by exact id))) U ?_;refine Aa (Aq (.tm U) (fun h46=>?_) (fun h46=>?_))
       · try simp only [bit_at,bit_zero,shr_zero] at h46
         try simp only [Int.toNat_natCast] at h46
         try simp at h46
         have hiN:i<NP g a:=by (have h:=h46;first|omega|(simp at h;omega))
         have hfr:fr=true:=by (have h:=h46;first|exact h.2|(simp at h;exact h.2))
         have hgi:((List.range (NP g a)).map (cC g a))[i]?=some (cC g a i):=range_get _ hiN
         have hgw:((List.range (NP g a)).map fun p=>((wK (nxN g a) (NP g a) p:Nat):Int))[i]?=some ((wK (nxN g a) (NP g a) i:Nat):Int):=range_get _ hiN
         refine As (Af (AW.block (Af (A4 (σ':=⟨_,[(4,_),(5,_),(6,_),(7,_),(8,_),(9,_),(10,_),(11,_)],[(13,_)]⟩) Ai ?_))));refine Ae (Av ?_);refine Aa (AW.block (Cj (fun (k:Nat) (fr2:Bool)=>(k≤NP g a)∧fr2=(List.range k).all fun k=>cellB g a out c i k) (fun (k:Nat) (fr2:Bool)=>⟨_,[(12,(true,.a (.one (.t (.v (.int .i64 (k:Nat))))))),(10,(true,.a (.one (.t (.v (.bool fr2)))))),(5,(true,.a (.one (.rf 13)))),(4,_),(6,_),(7,_),(8,_),(9,_),(11,_)],[(13,.row 1 (out.map cInt))]⟩) (fun (k:Nat) (fr2:Bool)=>NP g a-k) (0) (fr) ⟨Nat.zero_le _,(by rw [hfr];rfl)⟩ Ai ?_))
         rintro k fr2 ⟨hk3,he3⟩
         refine Af (Ah (Ac ?_));refine Ac ?_;refine Ab (Bd U (.no U) U (.tm U) (by exact .t) Tryz.underlying40) U ?_;refine Ab (Bz U (.no U) U (.tm U) (.tm U)) U ?_;refine Ac ?_;refine Ab (Ar U (by exact .yes1 U U U U) U (.tmp U (by exact fun _=>rfl))) U ?_;refine Ab (Cf U (.no U) U (.tm U) (.tmp U (by exact id))) U ?_;refine Aa (Aq (.tm U) (fun h55=>?_) (fun h55=>?_))
         · try simp only [bit_at,bit_zero,shr_zero] at h55
           try simp only [Int.toNat_natCast] at h55
           try simp at h55
           have hkN:k<NP g a:=by (have h:=h55;first|omega|(simp at h;omega))
           have hgk:((List.range (NP g a)).map (cC g a))[k]?=some (cC g a k):=range_get _ hkN
           refine As (Af (AW.block (Af (A4 (σ':=⟨_,[(4,_),(5,_),(6,_),(7,_),(8,_),(9,_),(10,_),(11,_),(12,_)],[(13,_)]⟩) Ai ?_))));refine Ae (Ac ?_);refine Ac ?_;refine Ab (Aw U (.no U) U (.tm U) (.tm U) Tryz.underlying40 ty3 (fun _=>⟨by omega,(by exact Ax hgk)⟩)) U ?_;refine Ab (Ap U (.no U) U (.tm U) ty3 U U) U ?_;refine Ac ?_;refine Ab (B7 U (.no U) U (.tm U) (.tm U)) U ?_;refine Ac ?_;refine Ab (Ar U (by exact .yes1 U U U U) U (.tmp U (by exact fun _=>rfl))) U ?_;refine Ab (Ar U (by exact .yes1 U U U U) U (.tmp U (by exact fun _=>rfl))) U ?_;refine Ab (by exact Aw U (by exact .yes1 U U U U) U (.tmp U (by exact id)) (.tmp U (by exact id)) Tryz.underlying40 ty3 (fun hq=>by (try simp at hq);exact⟨by omega,(by exact Ax hgi)⟩)) U ?_;refine Ab (Ap U (by exact .yes1 U U U U) U (.tmp U (by exact id)) ty3 U U) U ?_
           refine Ab (Ar U (by exact .yes1 U U U U) U (.tmp U (by exact fun _=>rfl))) U ?_;refine Ab (Da U (by exact .yes1 U U U U) U (.tmp U (by exact id)) (.tmp U (by exact id))) U ?_;refine Ab (Cf U (.no U) U (.tm U) (.tmp U (by exact id))) U ?_;refine Ac ?_;refine Ab (Ar U (by exact .yes1 U U U U) U (.tmp U (by exact fun _=>rfl))) U ?_;refine Ab (Ar U (by exact .yes1 U U U U) U (.tmp U (by exact fun _=>rfl))) U ?_;refine Ab (by exact Aw U (by exact .yes1 U U U U) U (.tmp U (by exact id)) (.tmp U (by exact id)) Tryz.underlying40 ty3 (fun hq=>by (try simp at hq);exact⟨by omega,(by exact Ax hgw)⟩)) U ?_;refine Ab (Ap U (by exact .yes1 U U U U) U (.tmp U (by exact id)) ty3 U U) U ?_;refine Ab (Ar U (by exact .yes1 U U U U) U (.tmp U (by exact fun _=>rfl))) U ?_
           refine Ab (R_shr U (by exact .yes1 U U U U) U (.tmp U (by exact id)) (.tmp U (by exact id)) (fun hq=>by first|omega|(simp at hq;omega))) U ?_;refine Ab (R_and1 U (by exact .yes1 U U U U) U (.tmp U (by exact id)) (.const U) (fun _=>by first|exact Int.natCast_nonneg _|omega)) U ?_;refine Ab (B7 U (by exact .yes1 U U U U) U (.tmp U (by exact id)) (.const U)) U ?_;refine Ab (Cf U (.no U) U (.tm U) (.tmp U (by exact id))) U ?_;refine Ac ?_;refine Ab (Ar U (by exact .yes1 U U U U) U (.tmp U (by exact fun _=>rfl))) U ?_;refine Ab (Ar U (by exact .yes1 U U U U) U (.tmp U (by exact fun _=>rfl))) U ?_;refine Ab (Ar U (by exact .yes1 U U U U) U (.tmp U (by exact fun _=>rfl))) U ?_;refine Ab (by exact Aw U (by exact .yes1 U U U U) U (.tmp U (by exact id)) (.tmp U (by exact id)) Tryz.underlying40 ty3 (fun hq=>by (try simp at hq);exact⟨by omega,(by exact Ax hgi)⟩)) U ?_
           refine Ab (Ap U (by exact .yes1 U U U U) U (.tmp U (by exact id)) ty3 U U) U ?_;refine Ab (A6 (FnT.fr (specl11Find out (cC g a i))) U (by exact .yes1 U U U U) U (.cons (.tmp U (by exact id)) U (.cons (.tmp U (by exact id)) U .nil))) U ?_;refine Ab (Bz U (by exact .yes1 U U U U) U (.tmp U (by exact id)) (.const U)) U ?_;refine Ab (Cf U (.no U) U (.tm U) (.tmp U (by exact id))) U ?_;refine Aa (Aq (.tm U) (fun h90=>?_) (fun h90=>?_))
           · try simp only [bit_at,bit_zero,shr_zero] at h90
             try simp only [Int.toNat_natCast] at h90
             try simp at h90
             have hcell:cellB g a out c i k=false:=by (have h:=h90;unfold cellB;rw [cR_eq g a hiN];(try simp only [bit_at] at h);(try simp at h);simp;exact⟨h.1.1.1,h.1.1.2,h.1.2,(findI_out _ _).1 h.2⟩)
             refine A4 (σ':=⟨_,[(4,_),(5,_),(6,_),(7,_),(8,_),(9,_),(10,_),(11,_),(12,_)],[(13,_)]⟩) Ai ?_;refine Ae (Av ?_);refine Aa (Ae (Ac ?_));refine Ab (Be U (.no U) U (.tm U) (.const U) (fun _=>by omega)) U ?_;refine Ak ?_;refine Aa ?_
             repeat (with_reducible refine Az ?_)
             refine Round2.next (k+1) (false) ⟨by omega,(by rw [all_succ,hcell];simp)⟩ (by omega) (An rfl ⟨rfl,rfl,rfl,rfl,rfl,rfl,rfl,rfl,rfl,Y⟩ ⟨(by rfl),Y⟩)
           · try simp only [bit_at,bit_zero,shr_zero] at h90
             try simp only [Int.toNat_natCast] at h90
             try simp at h90
             have hcell:cellB g a out c i k=true:=by (have h:=h90;unfold cellB;rw [cR_eq g a hiN];(try simp only [bit_at] at h);(try simp at h);simp;refine Classical.byContradiction fun hn=>?_;simp only [not_or,Bool.not_eq_false,Classical.not_not] at hn;have h2:=h hn.1 hn.2.1 hn.2.2.1;have h3:=(findI_out (cC g a i) out).2 hn.2.2.2;omega)
             refine As (A4 (σ':=⟨_,[(4,_),(5,_),(6,_),(7,_),(8,_),(9,_),(10,_),(11,_),(12,_)],[(13,_)]⟩) Ai ?_);refine Ae (Ac ?_);refine Ab (Be U (.no U) U (.tm U) (.const U) (fun _=>by omega)) U ?_;refine Ak ?_;refine Aa ?_
             repeat (with_reducible refine Az ?_)
             refine Round2.next (k+1) (fr2) ⟨by omega,(by rw [all_succ,hcell,he3];simp)⟩ (by omega) (An rfl ⟨rfl,rfl,rfl,rfl,rfl,rfl,rfl,rfl,rfl,Y⟩ ⟨(by rfl),Y⟩)
         · try simp only [bit_at,bit_zero,shr_zero] at h55
           try simp only [Int.toNat_natCast] at h55
           try simp at h55
           have hend:k=NP g a∨((List.range k).all fun k=>cellB g a out c i k)=false:=by (have h:=h55;rw [←he3];by_cases h2:k<NP g a;(exact .inr (by simpa [h2] using h));exact .inl (by omega))
           refine Bf (A4 (σ':=⟨_,[(4,_),(5,_),(6,_),(7,_),(8,_),(9,_),(10,_),(11,_),(12,_)],[(13,_)]⟩) Ai ?_);refine Ae (Ac ?_);refine Ab (Be U (.no U) U (.tm U) (.const U) (fun _=>by omega)) U ?_;refine Ak ?_;refine Aa ?_
           repeat (with_reducible refine Az ?_)
           refine Round2.next (i+1) (fr2) ⟨by omega,(by rw [all_succ,←Bool.and_assoc,←he2,hfr,Bool.true_and,he3];exact all_part hend hk3)⟩ (by omega) (An rfl ⟨rfl,rfl,rfl,rfl,rfl,rfl,rfl,rfl,Y⟩ ⟨(by rfl),Y⟩)
       · try simp only [bit_at,bit_zero,shr_zero] at h46
         try simp only [Int.toNat_natCast] at h46
         try simp at h46
         have hfin:fr=cP g a out c:=by (have h:=h46;rw [cP_eq,he2];refine and_part ?_ hk2;rw [←he2];by_cases h2:i<NP g a;(exact .inr (by simpa [h2] using h));exact .inl (by omega))
         refine Bf (Af (A4 (σ':=⟨_,[(4,_),(5,_),(6,_),(7,_),(8,_),(9,_),(10,_),(11,_)],[(13,_)]⟩) Ai ?_));refine Ae (Ac ?_);refine Aa (Aq (.tm U) (fun h91=>?_) (fun h91=>?_))
         · try simp only [bit_at,bit_zero,shr_zero] at h91
           try simp only [Int.toNat_natCast] at h91
           try simp at h91
           have hon:=ord_on ha hg hgc hk.1 (show c<cntOf g a by omega) (by rw [←hfin];exact h91) hk1.2
           refine Ah (Ac ?_);refine Ac ?_;refine Bp (Cc (xs:=[.tmp 93]) 94 U U U (.cons (.tm U) U U .nil) Tryz.underlying40 in3 U U U U) U ?_;refine Bk (Bt U U U (.tm U) U (.tm U) (by exact .rf U) (by rfl) Tryz.underlying40 in3 U (by (simp [chunk];omega)) (by (unfold maxLen;simp [chunk];omega))) U ?_;refine Bq (σ':=⟨_,[(4,_),(5,_),(6,_),(7,_),(8,_),(9,_),(10,_),(11,_),(91,_),(95,_)],[(13,_),(94,_)]⟩) Ai ?_;refine Ak ?_;refine Aa (Bf ?_)
           repeat (with_reducible refine Az ?_)
           repeat (with_reducible first|refine Az ?_|refine ThenQ.ex ?_|refine BlockQ.here ?_|refine BlockQ.past (by decide) ?_|refine Round1.ex ?_|refine Round2.ex ?_|refine Round3.ex ?_|refine Round4.ex ?_|refine Round5.ex ?_)
           refine Round1.next (out++[(c:Int)]) ⟨⟨hon.1,hon.2.1⟩,hon.2.2▸he⟩ (by rw [List.length_append,List.length_singleton];omega) (An rfl ⟨rfl,rfl,rfl,rfl,rfl,Y⟩ ⟨(by (refine congrArg (fun r=>some (R.row _ r)) ?_;simp [chunk,List.map_set,cInt,cBool,cIntS,cPair,cToken,cExpr,cEdge,cGraph,cStep,cWalk,cChange,cBatch,cHistory,cPositions,cAutomaton,cProductStep,cPathAtom,cConjunction,cView,cDelta,cRegistered,cRegistry])),Y⟩)
         · try simp only [bit_at,bit_zero,shr_zero] at h91
           try simp only [Int.toNat_natCast] at h91
           try simp at h91
           have hcf:cP g a out c=false:=by rw [←hfin];exact h91
           refine As (Ae (Ac ?_));refine Ab (Be U (.no U) U (.tm U) (.const U) (fun _=>by omega)) U ?_;refine Ak ?_;refine Aa ?_
           repeat (with_reducible refine Az ?_)
           refine Round1.next (c+1) ⟨⟨by omega,fun d hd=>by rcases Nat.lt_or_eq_of_le (Nat.le_of_lt_succ hd) with h|h;exact hk1.2 d h;rw [h];exact hcf⟩,Y⟩ (by omega) (An rfl ⟨rfl,rfl,rfl,rfl,rfl,rfl,Y⟩ ⟨(by rfl),Y⟩)
     · exact absurd h33 (by exact fun hcc=>ord_ex ha hg hgc hk.1 hol (fun d hd=>hk1.2 d (by simp at hcc;omega)))
   · try simp only [bit_at,bit_zero,shr_zero] at h30
     try simp only [Int.toNat_natCast] at h30
     try simp at h30
     refine Bf (Ah (Ac ?_));refine Ak ?_;refine Aa (A3 (Res.one U (.tmp U .nil) U ?_))
     rw [←he,show cntOf g a-out.length=0 by omega];rfl
theorem implentered1 (comps:List Int) (c k:Int) (hk:0≤k∧k<comps.length):FnT Tryz.prog 182 [.one (.v (.int .i64 k)),.one (.ad [.sl 1 (comps.map cInt)]),.one (.ad [.v (.int .i64 c)])] (.a (.one (.v (.bool (decide (atI comps k=c)))))):=by
 refine Ba Tryz.func182 U (by kernel_rfl) Tryz.ntmps182 U fun hlen w0=>?_
 try simp [cPair,cToken,cExpr,cEdge,cGraph,cStep,cWalk,cChange,cBatch,cHistory,cPositions,cAutomaton,cProductStep,cPathAtom,cConjunction,cView,cDelta,cRegistered,cRegistry] at hlen
 have hg:=atI_get (out:=comps) (k:=k) (by omega)
 refine Ah (Av ?_);refine Aa (Af (B9 7 (nthB [[],[],[0,1],[0,1,2],[],[0,1,2,3,4],[0,1,2,3,4,5]]) (by kernel_rfl) (by kernel_rfl) (by kernel_rfl) ?_));refine Ad U U U (Aj U fun σ' hs=>(by exact Ap U (.no U) (Ag hs U) (.tm (hs.slots _ _ U)) By U U)) ?_;refine Ad U U U (Aj U fun σ' hs=>Ar U (.no U) (Ag hs U) (.tm (hs.slots _ _ U))) ?_;refine Ad U U U (Aj U fun σ' hs=>(by exact Aw U (.no U) (Ag hs U) (.tm (hs.slots _ _ U)) (.tm (hs.slots _ _ U)) Tryz.underlying40 ty3 (fun _=>⟨by omega,(Ax hg)⟩))) ?_;refine Ad U U U (Aj U fun σ' hs=>(by exact Ap U (.no U) (Ag hs U) (.tm (hs.slots _ _ U)) ty3 U U)) ?_;refine Ad U U U (Aj U fun σ' hs=>(by exact Ap U (.no U) (Ag hs U) (.tm (hs.slots _ _ U)) ty3 U U)) ?_;refine Ad U U U (Aj U fun σ' hs=>B7 U (.no U) (Ag hs U) (.tm (hs.slots _ _ U)) (.tm (hs.slots _ _ U))) ?_;refine Ad U U U (Aj U fun σ' hs=>C1 U (.no U) (Ag hs U) (.tm (hs.slots _ _ U))) ?_
 refine Bx U U ?_;refine Aa (A3 (Bn U U ?_))
 rfl
theorem implentered (next:List (List Int)) (hN:next.length≤65536) (hn:∀ p,p<next.length→∀ k∈nxL next p,0≤k∧k<next.length) (C:Nat→Int) (out:List Int) (c:Int):FnT Tryz.prog 112 [.one (.sl 1 (next.map cIntS)),.one (.sl 1 (((List.range next.length).map C).map cInt)),.one (.sl 1 (out.map cInt)),.one (.v (.int .i64 c))] (.a (.one (.v (.bool (entB next C out c))))):=by
 obtain⟨comps,hco⟩:∃ comps,comps=(List.range next.length).map C:=⟨_,rfl⟩
 have hcl:comps.length=next.length:=by rw [hco];simp
 have hcat:∀ p,p<next.length→atI comps (p:Int)=C p:=fun p hp=>by unfold atI;rw [Int.toNat_natCast,hco,range_get C hp];rfl
 rw [←hco]
 refine Ba Tryz.func112 U (by kernel_rfl) Tryz.ntmps112 U fun hlen w0=>?_
 try simp [cPair,cToken,cExpr,cEdge,cGraph,cStep,cWalk,cChange,cBatch,cHistory,cPositions,cAutomaton,cProductStep,cPathAtom,cConjunction,cView,cDelta,cRegistered,cRegistry] at hlen
 skip
 refine Ah (Ab (Bm U U U (.tm U) (ts:=_) (by exact cells_t1 _)) U ?_);refine Ab (Bm U U U (.tm U) (ts:=_) (by exact cells_t1 _)) U ?_;refine Av ?_;refine Aa (Af (Ah (Ac ?_)));refine Ab (Bd U (.no U) U (.tm U) (by exact .t) Tryz.underlying34) U ?_;refine Ab (Ar U (.no U) U (.const U)) U ?_;refine Aa (AW.block (Bs (fun (i:Nat)=>(i≤next.length∧∀ j,j<i→entH next C out c j=false)∧True) (fun (i:Nat)=>⟨_,[(13,(true,.a (.one (.t (.v (.int .i64 (i:Nat))))))),(2,_),(5,_),(7,_),(11,_),(12,_)],[]⟩) (fun (i:Nat)=>next.length-i) (0) ⟨⟨Nat.zero_le _,fun j hj=>by omega⟩,Y⟩ (An U ⟨U,U,U,U,U,U,Y⟩ trivial) ?_))
 rintro i ⟨hk,he⟩
 refine Ah (Ab (Bz U (.no U) U (.tm U) (.tm U)) U ?_);refine Aa (Af (Aq (.tm U) (fun h14=>?_) (fun h14=>?_)))
 · try simp at h14
   have hiN:i<next.length:=by omega
   obtain⟨l,hl⟩:∃ ξ,next[i]?=some ξ:=⟨_,List.getElem?_eq_getElem hiN⟩
   have hnl:nxL next i=l:=nxL_at hl
   have hci:comps[i]?=some (C i):=by rw [hco];exact range_get C hiN
   have hcz:∀ e∈l,atI comps e=C e.toNat:=fun e he=>(by have hb:=hn i hiN e (by rw [hnl];exact he);have:=hcat e.toNat (by omega);rwa [Int.toNat_of_nonneg hb.1] at this)
   refine As (Af (AW.block (Ah (Ac ?_))));refine Ab (Aw U (.no U) U (.tm U) (.tm U) Tryz.underlying34 By (fun _=>⟨by omega,(by exact Ax hl)⟩)) U ?_;refine Ab (Ap U (.no U) U (.tm U) By U U) U ?_;refine Ak ?_;refine Ak ?_;refine Aa (Af (Af (B9 14 (nthB [[],[],[0,1],[0,1,2],[],[0,1,2,3,4],[0,1,2,3,4,5],[0,1,2,3,4,5,6],[0,1,2,3,4,5,6],[0,1,2,3,4,5,6],[0,1,2,3,4,5,6,8,9],[0,1,2,3,4,5,6,8,9,10],[0,1,2,3,4,5,6,7,8,9,10,11],[0,1,2,3,4,5,6,7,8,9,10,11,12]]) (by kernel_rfl) (by kernel_rfl) (by kernel_rfl) ?_)));refine Ad U U U (Aj U fun σ' hs=>(by exact Ap U (.no U) (Ag hs U) (.tm (hs.slots _ _ U)) By U U)) ?_;refine Ad U U U (Aj U fun σ' hs=>Ar U (.no U) (Ag hs U) (.tm (hs.slots _ _ U))) ?_;refine Ad U U U (Aj U fun σ' hs=>(by exact Aw U (.no U) (Ag hs U) (.tm (hs.slots _ _ U)) (.tm (hs.slots _ _ U)) Tryz.underlying40 ty3 (fun _=>⟨by omega,(by exact Ax hci)⟩))) ?_
   refine Ad U U U (Aj U fun σ' hs=>(by exact Ap U (.no U) (Ag hs U) (.tm (hs.slots _ _ U)) ty3 U U)) ?_;refine Ad U U U (Aj U fun σ' hs=>(by exact Ap U (.no U) (Ag hs U) (.tm (hs.slots _ _ U)) ty3 U U)) ?_;refine Ad U U U (Aj U fun σ' hs=>B7 U (.no U) (Ag hs U) (.tm (hs.slots _ _ U)) (.tm (hs.slots _ _ U))) ?_;refine Ad U U U (Aj U fun σ' hs=>Ar U (.no U) (Ag hs U) (.tm (hs.slots _ _ U))) ?_;refine Ad U U U (Aj U fun σ' hs=>Ar U (by exact .not1 U U (hs.slots _ _ U) (by rw [hs.n];rfl)) (Ag hs U) (.tmp (hs.slots _ _ U) (by exact fun _=>rfl))) ?_;refine Ad U U U (Aj U fun σ' hs=>(by exact Ap U (by exact .not1 U U (hs.slots _ _ U) (by rw [hs.n];rfl)) (Ag hs U) (.tmp (hs.slots _ _ U) (by exact fun _=>rfl)) By U U)) ?_;refine Ad U U U (Aj U fun σ' hs=>Ar U (by exact .not1 U U (hs.slots _ _ U) (by rw [hs.n];rfl)) (Ag hs U) (.tmp (hs.slots _ _ U) (by exact fun _=>rfl))) ?_
   refine Ad U U U (Aj U fun σ' hs=>(by exact Aw U (by exact .not1 U U (hs.slots _ _ U) (by rw [hs.n];rfl)) (Ag hs U) (.tmp (hs.slots _ _ U) (by exact id)) (.tmp (hs.slots _ _ U) (by exact id)) Tryz.underlying40 ty3 (fun hq=>by (try simp at hq);exact⟨by omega,(by exact Ax hci)⟩))) ?_;refine Ad U U U (Aj U fun σ' hs=>(by exact Ap U (by exact .not1 U U (hs.slots _ _ U) (by rw [hs.n];rfl)) (Ag hs U) (.tmp (hs.slots _ _ U) (by exact id)) ty3 U U)) ?_;refine Ad U U U (Aj U fun σ' hs=>A6 (FnT.fr (slicesContainsInt out (C i))) U (by exact .not1 U U (hs.slots _ _ U) (by rw [hs.n];rfl)) (Ag hs U) (.cons (.tmp (hs.slots _ _ U) (by exact id)) (readA_sup hs U) (.cons (.tmp (hs.slots _ _ U) (by exact id)) (readA_sup hs U) .nil))) ?_;refine Ad U U U (Aj U fun σ' hs=>R_or U (.no U) (Ag hs U) (.tm (hs.slots _ _ U)) (.tmp (hs.slots _ _ U) (by exact id))) ?_;refine Bx U U ?_
   refine Aa (Aq (.tm U) (fun h31=>?_) (fun h31=>?_))
   · try simp at h31
     have hhit:entH next C out c i=false:=by (have h:=h31;unfold entH;by_cases h1:C i=c;(simp [h1]);(have h2:C i∈out:=by simpa [h1] using h);simp [h2])
     refine Bf (A4 (σ':=⟨_,[(2,_),(5,_),(7,_),(9,_),(10,_),(11,_),(12,_),(13,_)],[]⟩) (An U ⟨U,U,U,U,U,U,U,U,Y⟩ trivial) ?_);refine Ae (Ab (Be U (.no U) U (.tm U) (.const U) (fun _=>by omega)) U ?_);refine Ac ?_;refine Aa ?_
     repeat (with_reducible refine Az ?_)
     refine Round1.next (i+1) ⟨⟨by omega,fun j hj=>by rcases Nat.lt_or_eq_of_le (Nat.le_of_lt_succ hj) with h|h;exact hk.2 j h;subst h;exact hhit⟩,Y⟩ (by omega) (An rfl ⟨rfl,rfl,rfl,rfl,rfl,rfl,Y⟩ trivial)
   · try simp at h31
     refine As (Af (A4 (σ':=⟨_,[(2,_),(5,_),(7,_),(9,_),(10,_),(11,_),(12,_),(13,_)],[]⟩) (An U ⟨U,U,U,U,U,U,U,U,Y⟩ trivial) ?_));refine Ae (Ac ?_);refine Ab (R_makeFunc U (.no U) U (.cons (.tm U) (.cons (.tm U) .nil))) U ?_;refine Ab (A6 (FnT.fr (ContainsFuncIntG l 182 [.ad [.sl 1 (comps.map cInt)],.ad [.v (.int .i64 c)]] (fun k=>decide (atI comps k=c)) (fun e he=>(implentered1 comps c e (by rw [hcl];exact hn i hiN e (by rw [hnl];exact he))).fr))) U (.no U) U (.cons (.tm U) U (.cons (.tm U) U .nil))) U ?_;refine Aa (Aq (.tm U) (fun h34=>?_) (fun h34=>?_))
     · try simp at h34
       have hany:(l.any fun k=>decide (C k.toNat=c))=true:=by (obtain⟨e,he,h2⟩:=h34;exact List.any_eq_true.2 ⟨e,he,decide_eq_true (by rw [←hcz e he];exact h2)⟩)
       have hhit:entH next C out c i=true:=by (have h:=h31;unfold entH;rw [hnl,hany];simp;simpa using h)
       refine Ah (Av ?_);refine Aa (A3 (Bn U U ?_))
       congr 1;symm;exact anyR_at (p:=entH next C out c) hiN hhit
     · try simp at h34
       have hany:(l.any fun k=>decide (C k.toNat=c))=false:=List.any_eq_false.2 fun e he=>(by have h2:=h34 e he;rw [hcz e he] at h2;simpa using h2)
       have hhit:entH next C out c i=false:=by (unfold entH;rw [hnl,hany];simp)
       refine As (Ae (Ab (Be U (.no U) U (.tm U) (.const U) (fun _=>by omega)) U ?_));refine Ac ?_;refine Aa ?_
       repeat (with_reducible refine Az ?_)
       refine Round1.next (i+1) ⟨⟨by omega,fun j hj=>by rcases Nat.lt_or_eq_of_le (Nat.le_of_lt_succ hj) with h|h;exact hk.2 j h;subst h;exact hhit⟩,Y⟩ (by omega) (An rfl ⟨rfl,rfl,rfl,rfl,rfl,rfl,Y⟩ trivial)
 · try simp at h14
   refine Bf (Ah (Av ?_));refine Aa (A3 (Bn U U ?_))
   congr 1;symm;exact anyR_none (p:=entH next C out c) fun j hj=>hk.2 j (by omega)
theorem implProductComponents_nil (g:TGraph) (a:TAutomaton) (hb:goodC g a=false):FnT Tryz.prog 43 [.agg (cGraph g),.agg (cAutomaton a)] (.a (.one (.v (.slice none 0 0)))):=by
 refine Ba Tryz.func43 U (by kernel_rfl) Tryz.ntmps43 U fun hlen w0=>?_
 try simp [cPair,cToken,cExpr,cEdge,cGraph,cStep,cWalk,cChange,cBatch,cHistory,cPositions,cAutomaton,cProductStep,cPathAtom,cConjunction,cView,cDelta,cRegistered,cRegistry] at hlen
 refine Ah (Ab (Bm U U U (.tm U) (ts:=_) (by rfl)) U ?_);refine Ab (Bm U U U (.tm U) (ts:=_) (by rfl)) U ?_;refine Av ?_;refine Aa (Af (Ah (Ab (Ap U (.no U) U (.tm U) Bu U U) U ?_)));refine Ab (Ap U (.no U) U (.tm U) Br U U) U ?_;refine Ab (A6 (FnT.fr (implbothOk_nil g a)) U (.no U) U (.cons (.tm U) U (.cons (.tm U) U (.cons (.const U) U .nil)))) U ?_;refine Ab (Cq U (.no U) U (.tm U)) U ?_;refine Aa (Aq (.tm U) (fun h8=>?_) (fun h8=>?_))
 · try simp at h8
   refine Ah (Av ?_);refine Aa (A3 (Bn U U ?_))
   rfl
 · exact absurd h8 (by simp [hb])
theorem implComponentOrder_bad (g:TGraph) (a:TAutomaton) (hb:goodC g a=false):FnT Tryz.prog 46 [.agg (cGraph g),.agg (cAutomaton a)] (.a (.one (.sl 1 (([]:List Int).map cInt)))):=by
 refine Ba Tryz.func46 U (by kernel_rfl) Tryz.ntmps46 U fun hlen w0=>?_
 try simp [cPair,cToken,cExpr,cEdge,cGraph,cStep,cWalk,cChange,cBatch,cHistory,cPositions,cAutomaton,cProductStep,cPathAtom,cConjunction,cView,cDelta,cRegistered,cRegistry] at hlen
 skip
 refine Ah (Ab (Bm U U U (.tm U) (ts:=_) (by rfl)) U ?_);refine Ab (Bm U U U (.tm U) (ts:=_) (by rfl)) U ?_;refine Av ?_;refine Bw (i:=4) 20001 1 U U ?_;refine Aa (Ah (Ab (Ap U (.no U) U (.tm U) Bu U U) U ?_));refine Ab (Ap U (.no U) U (.tm U) Br U U) U ?_;refine Ab (A6 (FnT.fr (implProductComponents_nil g a hb)) U (.no U) U (.cons (.tm U) U (.cons (.tm U) U .nil))) U ?_;refine Ak ?_;refine Aa (Af (Ah (Ac ?_)));refine Ab (R_eqsl_nil U (.no U) U (.tm U) (.const U) Tryz.underlying40) U ?_;refine Aa (Aq (.tm U) (fun h13=>?_) (fun h13=>?_))
 · try simp at h13
   refine Ah (Av ?_);refine Bw (i:=4) 20002 1 U U ?_;refine Aa (A3 (Res.one U (.tmp U .nil) U ?_))
   rfl
 · exact absurd h13 (by simp)
theorem implComponentOrder_ok (g:TGraph) (a:TAutomaton) (ha:validA a=true) (hg:validG g=true) (hgc:goodC g a=true):FnT Tryz.prog 46 [.agg (cGraph g),.agg (cAutomaton a)] (.a (.one (.sl 1 ((ordOf g a).map cInt)))):=by
 have hpc:=implProductComponents g a
 rw [comps_map hgc] at hpc
 obtain⟨comps,hco⟩:∃ comps,comps=(List.range (nextsV g a).length).map (cC g a):=⟨_,rfl⟩
 have hnl:(nextsV g a).length=NP g a:=nextsV_len g a
 have hcl:comps.length=NP g a:=by rw [hco];simp [hnl]
 have hN:1≤NP g a∧NP g a≤60:=prod_le ha hg
 have hcn:=cnt_le g a
 have hmax:maxL comps=(cntOf g a:Int)-1:=by
  have h:=comps_top ha hg
  rw [comps_map hgc,←hco] at h
  rw [←h]
  exact (foldl_max_start comps (-1) 0 (fun z hz=>by rw [hco] at hz;obtain⟨p,_,rfl⟩:=List.mem_map.1 hz;unfold cC;omega) (fun e=>by rw [e] at hcl;simp at hcl;omega) (by omega)).2
 rw [←hco] at hpc
 have hmx:=slicesMaxInt comps (by omega) (by omega)
 rw [hmax] at hmx
 have hent:=fun out c=>implentered (nextsV g a) (by omega) (nexts_ok ha hg) (cC g a) out c
 rw [←hco] at hent
 refine Ba Tryz.func46 U (by kernel_rfl) Tryz.ntmps46 U fun hlen w0=>?_
 try simp [cPair,cToken,cExpr,cEdge,cGraph,cStep,cWalk,cChange,cBatch,cHistory,cPositions,cAutomaton,cProductStep,cPathAtom,cConjunction,cView,cDelta,cRegistered,cRegistry] at hlen
 skip
 refine Ah (Ab (Bm U U U (.tm U) (ts:=_) (by rfl)) U ?_);refine Ab (Bm U U U (.tm U) (ts:=_) (by rfl)) U ?_;refine Av ?_;refine Bw (i:=4) 20001 1 U U ?_;refine Aa (Ah (Ab (Ap U (.no U) U (.tm U) Bu U U) U ?_));refine Ab (Ap U (.no U) U (.tm U) Br U U) U ?_;refine Ab (A6 (FnT.fr (hpc)) U (.no U) U (.cons (.tm U) U (.cons (.tm U) U .nil))) U ?_;refine Ak ?_;refine Aa (Af (Ah (Ac ?_)));refine Ab (by exact R_eqsl_t U (.no U) U (.tm U) (.const U) Tryz.underlying40 (by simp;omega)) U ?_;refine Aa (Aq (.tm U) (fun h13=>?_) (fun h13=>?_))
 · exact absurd h13 (by simp)
 · try simp at h13
   refine As (Ah (Ab (Ap U (.no U) U (.tm U) Bu U U) U ?_));refine Ab (Ap U (.no U) U (.tm U) Br U U) U ?_;refine Ab (A6 (FnT.fr (implnextVertices g a ha hg)) U (.no U) U (.cons (.tm U) U (.cons (.tm U) U .nil))) U ?_;refine Ak ?_;refine Aa (Af (A4 (σ':=⟨_,[(0,_),(1,_),(2,_),(3,_),(4,_),(5,_),(6,_)],[(20001,_)]⟩) Ai ?_));refine Ae (Bh (Cp 17 U U U Tryz.underlying40 ty3 U) U ?_);refine Ak ?_;refine Aa (Af (AW.block (Bs (fun (out:List Int)=>(OI (NP g a) (cntOf g a) (cC g a) (cR g a) out∧out.length≤cntOf g a)∧ordG (cP g a) (cntOf g a) (cntOf g a-out.length) out=ordOf g a) (fun (out:List Int)=>⟨_,[(7,(true,.a (.one (.rf 17)))),(4,_),(5,_),(6,_)],[(17,.row 1 (out.map cInt))]⟩) (fun (out:List Int)=>cntOf g a-out.length) ([]) ⟨⟨ord_I0 g a,by simp⟩,(by unfold ordOf;rw [if_pos hgc];rfl)⟩ Ai ?_)))
   rintro out ⟨hk,he⟩
   refine Af (Ah (Ac ?_));refine Ab (Bd U (.no U) U (.tm U) (by exact .rf U) Tryz.underlying40) U ?_;refine Ac ?_;refine Ab (A6 (FnT.fr (hmx)) U (.no U) U (.cons (.tm U) U .nil)) U ?_;refine Ab (Be U (.no U) U (.tm U) (.const U) (fun _=>by omega)) U ?_;refine Ab (Bz U (.no U) U (.tm U) (.tm U)) U ?_;refine Aa (Aq (.tm U) (fun h23=>?_) (fun h23=>?_))
   · try simp at h23
     have hol:out.length<cntOf g a:=by omega
     refine As (AW.block (Af (A4 (σ':=⟨_,[(4,_),(5,_),(6,_),(7,_)],[(17,_)]⟩) Ai ?_)));refine Ae (Av ?_);refine Aa (AW.block ?_);refine Bs (fun (c:Nat)=>(c≤cntOf g a∧∀ d,d<c→cP g a out d=false)∧True) (fun (c:Nat)=>⟨_,[(8,(true,.a (.one (.t (.v (.int .i64 (c:Nat))))))),(7,(true,.a (.one (.rf 17)))),(4,_),(5,_),(6,_)],[(17,.row 1 (out.map cInt))]⟩) (fun (c:Nat)=>cntOf g a-c) (0) ⟨⟨Nat.zero_le _,fun d hd=>by omega⟩,Y⟩ Ai ?_
     rintro c ⟨hk1,he1⟩
     refine Af (Ah (Ac ?_));refine Ac ?_;refine Ab (A6 (FnT.fr (hmx)) U (.no U) U (.cons (.tm U) U .nil)) U ?_;refine Ab (R_le U (.no U) U (.tm U) (.tm U)) U ?_;refine Aa (Aq (.tm U) (fun h27=>?_) (fun h27=>?_))
     · try simp at h27
       refine As (Af (AW.block (Ah (Ac ?_))));refine Ac ?_;refine Ab (A6 (FnT.fr (slicesContainsInt out (c:Int))) U (.no U) U (.cons (.tm U) U (.cons (.tm U) U .nil))) U ?_;refine Ab (Cq U (.no U) U (.tm U)) U ?_;refine Ac ?_;refine Ab (Ar U (by exact .yes1 U U U U) U (.tmp U (by exact fun _=>rfl))) U ?_;refine Ab (Ar U (by exact .yes1 U U U U) U (.tmp U (by exact fun _=>rfl))) U ?_;refine Ab (Ar U (by exact .yes1 U U U U) U (.tmp U (by exact fun _=>rfl))) U ?_;refine Ab (Ar U (by exact .yes1 U U U U) U (.tmp U (by exact fun _=>rfl))) U ?_;refine Ab (A6 (FnT.fr (hent out (c:Int))) U (by exact .yes1 U U U U) U (.cons (.tmp U (by exact id)) U (.cons (.tmp U (by exact id)) U (.cons (.tmp U (by exact id)) U (.cons (.tmp U (by exact id)) U .nil))))) U ?_;refine Ab (Cq U (by exact .yes1 U U U U) U (.tmp U (by exact id))) U ?_;refine Ab (Cf U (.no U) U (.tm U) (.tmp U (by exact id))) U ?_
       refine Aa (Aq (.tm U) (fun h41=>?_) (fun h41=>?_))
       · try simp at h41
         have hcp:cP g a out c=true:=by (have h:=h41;rw [ord_ent ha hg hgc hk.1];simp;simpa using h)
         have hon:=ord_on ha hg hgc hk.1 (show c<cntOf g a by omega) hcp hk1.2
         refine Af (A4 (σ':=⟨_,[(4,_),(5,_),(6,_),(7,_),(8,_)],[(17,_)]⟩) Ai ?_);refine Ae (Ac ?_);refine Ac ?_;refine Bp (Cc (xs:=[.tmp 43]) 44 U U U (.cons (.tm U) U U .nil) Tryz.underlying40 in3 U U U U) U ?_;refine Bk (Bt U U U (.tm U) U (.tm U) (by exact .rf U) (by rfl) Tryz.underlying40 in3 U (by (simp [chunk];omega)) (by (unfold maxLen;simp [chunk];omega))) U ?_;refine Bq (σ':=⟨_,[(4,_),(5,_),(6,_),(7,_),(8,_),(45,_)],[(17,_),(44,_)]⟩) Ai ?_;refine Ak ?_;refine Aa (Bf ?_)
         repeat (with_reducible refine Az ?_)
         repeat (with_reducible first|refine Az ?_|refine ThenQ.ex ?_|refine BlockQ.here ?_|refine BlockQ.past (by decide) ?_|refine Round1.ex ?_|refine Round2.ex ?_|refine Round3.ex ?_|refine Round4.ex ?_|refine Round5.ex ?_)
         refine Round1.next (out++[(c:Int)]) ⟨⟨hon.1,hon.2.1⟩,hon.2.2▸he⟩ (by rw [List.length_append,List.length_singleton];omega) (An rfl ⟨rfl,rfl,rfl,rfl,Y⟩ ⟨(by (refine congrArg (fun r=>some (R.row _ r)) ?_;simp [chunk,List.map_set,cInt,cBool,cIntS,cPair,cToken,cExpr,cEdge,cGraph,cStep,cWalk,cChange,cBatch,cHistory,cPositions,cAutomaton,cProductStep,cPathAtom,cConjunction,cView,cDelta,cRegistered,cRegistry])),Y⟩)
       · try simp at h41
         have hcf:cP g a out c=false:=by (have h:=h41;rw [ord_ent ha hg hgc hk.1];simp;simpa using h)
         refine As (A4 (σ':=⟨_,[(4,_),(5,_),(6,_),(7,_),(8,_)],[(17,_)]⟩) Ai ?_);refine Ae (Ac ?_);refine Ab (Be U (.no U) U (.tm U) (.const U) (fun _=>by omega)) U ?_;refine Ak ?_;refine Aa ?_
         repeat (with_reducible refine Az ?_)
         refine Round1.next (c+1) ⟨⟨by omega,fun d hd=>by rcases Nat.lt_or_eq_of_le (Nat.le_of_lt_succ hd) with h|h;exact hk1.2 d h;rw [h];exact hcf⟩,Y⟩ (by omega) (An rfl ⟨rfl,rfl,rfl,rfl,rfl,Y⟩ ⟨(by rfl),Y⟩)
     · exact absurd h27 (by exact fun hcc=>ord_ex ha hg hgc hk.1 hol (fun d hd=>hk1.2 d (by simp at hcc;omega)))
   · try simp at h23
     refine Bf (Af (A4 (σ':=⟨_,[(4,_),(5,_),(6,_),(7,_)],[(17,_)]⟩) Ai ?_));refine Ae (Ac ?_);refine Ak ?_;refine Aa (A3 (Res.one U (.tmp U .nil) U ?_))
     rw [←he,show cntOf g a-out.length=0 by omega];rfl
theorem implComponentOrder (g:TGraph) (a:TAutomaton):FnT Tryz.prog 46 [.agg (cGraph g),.agg (cAutomaton a)] (.a (.one (.sl 1 ((ordOf g a).map cInt)))):=by
 cases hb:goodC g a with
 | false=>have e:ordOf g a=[]:=(by unfold ordOf;rw [hb];rfl);rw [e];exact implComponentOrder_bad g a hb
 | true=>exact implComponentOrder_ok g a (good_c2 hb).2 (good_c2 hb).1 hb
end Go.Proofs.YtbecibmlbiebeaaGreat
