import Derived.Test.YtdhojcaoljhbiaaGreatDoorB136xk
import Derived.Test.YtdhojcaoljhbiaaGreatDoorB26xk
import Derived.Test.YtdhojcaoljhbiaaGreatDoorB80xk
import Derived.Test.YtdhojcaoljhbiaaGreatDoorB106xk
import Derived.Test.YtdhojcaoljhbiaaGreatDoorPvxk
set_option linter.unusedVariables false
set_option linter.unusedSimpArgs false
set_option maxHeartbeats 1000000
set_option maxRecDepth 100000
namespace Go.Q
open Go.D
def bindP (b:List Int) (x:TPathAtom):TPair:=⟨atI b x.From,atI b x.To⟩
def bindOk (g:TGraph) (b:List Int) (x:TPathAtom):Bool:=decide (bindP b x∈(evalE g x.Expr).1)
def relsV (g:TGraph) (q:TConjunction):List (List TPair):=q.Atoms.map fun x=>(evalE g x.Expr).1
def okBind (g:TGraph) (q:TConjunction) (b:List Int):Bool:=validG g&&validConj q&&decide ((b.length:Int)=q.VariableCount)
def holdsB (g:TGraph) (q:TConjunction) (b:List Int):Bool:=okBind g q b&&q.Atoms.all (bindOk g b)
theorem okBind_parts {g:TGraph} {q:TConjunction} {b:List Int} (h:okBind g q b=true):validG g=true∧validConj q=true∧(b.length:Int)=q.VariableCount:=by
 unfold okBind at h
 simp only [Bool.and_eq_true,decide_eq_true_eq] at h
 exact⟨h.1.1,h.1.2,h.2⟩
theorem conj_atoms {q:TConjunction} (h:validConj q=true):q.Atoms.length≤4∧(1≤q.VariableCount∧q.VariableCount≤4)∧∀ x∈q.Atoms,((0≤x.From∧x.From<q.VariableCount)∧0≤x.To∧x.To<q.VariableCount)∧isValidExpr x.Expr=true:=by
 unfold validConj inB at h
 simp only [Bool.and_eq_true,decide_eq_true_eq] at h
 refine⟨by omega,by omega,fun x hx=>?_⟩
 have h1:=List.all_eq_true.1 h.1.2 x hx
 refine⟨atomOk_r h1,?_⟩
 unfold atomOk at h1
 simp only [Bool.and_eq_true] at h1
 exact h1.2
end Go.Q
set_option maxHeartbeats 1000000
set_option maxRecDepth 100000
namespace Go.Q
open Go.D
def extN (n:Nat):Nat→List (List Int)
 | 0=>[[]]
 | d+1=>(List.range n).flatMap fun v=>(extN n d).map fun s=>((v:Nat):Int)::s
def wordsN (n:Nat):Nat→List (List Int)
 | 0=>[[]]
 | d+1=>(wordsN n d).flatMap fun b=>(List.range n).map fun v=>b++[((v:Nat):Int)]
theorem extN_snoc (n:Nat):∀ d,extN n (d+1)=(extN n d).flatMap fun b=>(List.range n).map fun v=>b++[((v:Nat):Int)]
 | 0=>by simp [extN,List.map_eq_flatMap]
 | d+1=>by
  have h:extN n (d+2)=(List.range n).flatMap fun v=>((extN n d).flatMap fun b=>(List.range n).map fun v=>b++[((v:Nat):Int)]).map fun s=>((v:Nat):Int)::s:=by
   rw [←extN_snoc n d];rfl
  show extN n (d+2)=((List.range n).flatMap fun v=>(extN n d).map fun s=>((v:Nat):Int)::s).flatMap _
  rw [h,List.flatMap_assoc]
  congr 1;funext v
  rw [List.map_flatMap,List.flatMap_map]
  congr 1;funext b
  rw [List.map_map];rfl
theorem wordsN_eq (n:Nat):∀ d,wordsN n d=extN n d
 | 0=>rfl
 | d+1=>by rw [wordsN,wordsN_eq n d,extN_snoc]
theorem extN_len {n:Nat}:∀ {d:Nat} {b:List Int},b∈extN n d→b.length=d
 | 0,b,h=>by simp [extN] at h;simp [h]
 | d+1,b,h=>by
  simp only [extN,List.mem_flatMap,List.mem_map] at h
  obtain⟨v,_,s,hs,rfl⟩:=h
  simp [extN_len hs]
theorem wordsN_count (n:Nat):∀ d,(wordsN n d).length=n^d
 | 0=>rfl
 | d+1=>by
  rw [wordsN,List.length_flatMap]
  have:((wordsN n d).map fun b=>((List.range n).map fun v=>b++[((v:Nat):Int)]).length)=(wordsN n d).map fun _=>n:=by simp
  rw [this,List.map_const',List.sum_replicate_nat,wordsN_count n d,Nat.pow_succ]
def walkV (n:Nat) (ok:List Int→Bool):Nat→List Int→List (List Int)
 | 0,row=>if ok row then [row] else []
 | d+1,row=>if ok row then (List.range n).flatMap fun v=>walkV n ok d (row++[((v:Nat):Int)]) else []
def chkW (ok:List Int→Bool) (k:Nat) (b:List Int):Bool:=(List.range (b.length+1)).all fun j=>decide (j<k)||ok (b.take j)
theorem chkW_iff {ok:List Int→Bool} {k:Nat} {b:List Int}:chkW ok k b=true↔∀ j,k≤j→j≤b.length→ok (b.take j)=true:=by
 unfold chkW
 rw [List.all_eq_true]
 constructor
 · intro h j h1 h2
   have:=h j (by simp;omega)
   simpa [show ¬ j<k by omega] using this
 intro h j hj
 simp at hj
 by_cases hk:j<k
 · simp [hk]
 simp [hk,h j (by omega) (by omega)]
theorem chkW_step {ok:List Int→Bool} {row s:List Int} {v:Int}:chkW ok row.length (row++v::s)=(ok row&&chkW ok (row.length+1) (row++v::s)):=by
 rw [Bool.eq_iff_iff,Bool.and_eq_true,chkW_iff,chkW_iff]
 constructor
 · intro h
   refine⟨?_,fun j h1 h2=>h j (by omega) h2⟩
   have:=h row.length (Nat.le_refl _) (by simp)
   rwa [List.take_left'] at this
   rfl
 rintro⟨h1,h2⟩ j h3 h4
 by_cases e:j=row.length
 · subst e;rw [List.take_left'];exact h1;rfl
 exact h2 j (by omega) h4
theorem walkV_eq (n:Nat) (ok:List Int→Bool):∀ (d:Nat) (row:List Int),walkV n ok d row=((extN n d).map fun s=>row++s).filter (chkW ok row.length)
 | 0,row=>by
  have:chkW ok row.length row=ok row:=by
   rw [Bool.eq_iff_iff,chkW_iff]
   constructor
   · intro h
     have:=h row.length (Nat.le_refl _) (Nat.le_refl _)
     rwa [List.take_length] at this
   intro h j h1 h2
   have:j=row.length:=by omega
   subst this
   rw [List.take_length];exact h
  simp only [walkV,extN,List.map_cons,List.map_nil,List.append_nil,List.filter_cons,List.filter_nil,this]
 | d+1,row=>by
  rw [walkV,extN,List.map_flatMap,List.filter_flatMap]
  by_cases h:ok row=true
  · rw [if_pos h]
    congr 1;funext v
    rw [walkV_eq n ok d,List.map_map]
    have e1:((extN n d).map fun s=>row++[((v:Nat):Int)]++s)=(extN n d).map ((fun s=>row++s)∘fun s=>((v:Nat):Int)::s):=by
     apply List.map_congr_left;intro s _
     simp
    rw [e1]
    apply List.filter_congr;intro b hb
    obtain⟨s,_,rfl⟩:=List.mem_map.1 hb
    show chkW ok (row++[_]).length (row++_::s)=chkW ok row.length (row++_::s)
    rw [chkW_step,h,Bool.true_and,List.length_append];rfl
  rw [if_neg h]
  symm
  rw [List.flatMap_eq_nil_iff]
  intro v _
  rw [List.filter_eq_nil_iff]
  intro b hb
  rw [List.map_map] at hb
  obtain⟨s,_,rfl⟩:=List.mem_map.1 hb
  show ¬ chkW ok row.length (row++_::s)=true
  rw [chkW_step]
  simp [h]
def okRow (g:TGraph) (q:TConjunction) (row:List Int):Bool:=q.Atoms.all fun x=>!decide (max x.From x.To=(row.length:Int)-1)||bindOk g row x
def evalC (g:TGraph) (q:TConjunction):List (List Int):=if validG g&&validConj q then (wordsN g.Values.length q.VariableCount.toNat).filter fun b=>q.Atoms.all (bindOk g b) else []
theorem atI_take {b:List Int} {k:Int} {j:Nat} (h0:0≤k) (h:k<j):atI (b.take j) k=atI b k:=by
 unfold atI
 rw [List.getElem?_take_of_lt (by omega)]
theorem walkV_evalC (g:TGraph) (q:TConjunction) (hq:validConj q=true):walkV g.Values.length (okRow g q) q.VariableCount.toNat []=(wordsN g.Values.length q.VariableCount.toNat).filter fun b=>q.Atoms.all (bindOk g b):=by
 have hc:=conj_atoms hq
 rw [walkV_eq,wordsN_eq]
 have e1:((extN g.Values.length q.VariableCount.toNat).map fun s=>([]:List Int)++s)=extN g.Values.length q.VariableCount.toNat:=by simp
 rw [e1]
 apply List.filter_congr;intro b hb
 have hl:=extN_len hb
 rw [Bool.eq_iff_iff,chkW_iff,List.all_eq_true]
 have key:∀ x∈q.Atoms,∀ j:Nat,max x.From x.To<j→bindOk g (b.take j) x=bindOk g b x:=fun x hx j hj=>by
  have:=(hc.2.2 x hx).1
  unfold bindOk bindP
  rw [atI_take (by omega) (by omega),atI_take (by omega) (by omega)]
 constructor
 · intro h x hx
   have hr:=(hc.2.2 x hx).1
   have h1:=h ((max x.From x.To).toNat+1) (by simp) (by omega)
   unfold okRow at h1
   have h2:=List.all_eq_true.1 h1 x hx
   rw [key x hx _ (by omega)] at h2
   have h3:max x.From x.To=((b.take ((max x.From x.To).toNat+1)).length:Int)-1:=by
    rw [List.length_take,Nat.min_eq_left (by omega)]
    omega
   rw [decide_eq_true h3] at h2
   simpa using h2
 intro h j _ hj
 unfold okRow
 rw [List.all_eq_true]
 intro x hx
 by_cases he:max x.From x.To=((b.take j).length:Int)-1
 · rw [key x hx _ (by rw [he,List.length_take];omega),h x hx];simp
 simp only [decide_eq_false he,Bool.not_false,Bool.true_or]
end Go.Q
set_option maxHeartbeats 1000000
set_option maxRecDepth 100000
namespace Go.Proofs.YtdhojcaoljhbiaaGreatDoor
open Go.RowKit Go.Q Go.D
theorem specHoldsBinding (g:TGraph) (q:TConjunction) (b:List Int) (hz:q.Atoms.length≤1048576):FnT Tryz.prog 15 [.agg (cGraph g),.agg (cConjunction q),.one (.sl 1 (b.map cInt))] (.a (.one (.v (.bool (holdsB g q b))))):=by
 refine Ay Tryz.func15 U (by kernel_rfl) Tryz.ntmps15 U fun hlen w0=>?_
 try simp [cPair,cToken,cEdge,cGraph,cPathAtom,cConjunction] at hlen
 skip
 refine Ae (Ag (B9 U U U (.tm U) (ts:=_) (by rfl)) U ?_);refine Ag (B9 U U U (.tm U) (ts:=_) (by rfl)) U ?_;refine Ak ?_;refine Aa (Ac (Ae (Aq Bz ?_)));refine Bl (specIsValidGraph g) ?_;refine C1 ?_;refine Ab ?_;refine Ag (Bw U (by exact .not1 U U U U) U (.tmp U (by exact fun _=>rfl)) Cc U U) U ?_;refine Ag (A3 (FnT.fr (specIsValidConjunction q)) U (by exact .not1 U U U U) U (.cons (.tmp U (by exact id)) U .nil)) U ?_;refine Ag (Cy U (by exact .not1 U U U U) U (.tmp U (by exact id))) U ?_;refine Cf ?_;refine Ab ?_;refine Dj ?_;refine Ag (C4 U (by exact .not1 U U U U) U (.tmp U (by exact id)) (by exact .t) Tryz.underlying34) U ?_;refine C9 C7 ?_;refine C8 ty3 ?_;refine Ag (R_ne U (by exact .not1 U U U U) U (.tmp U (by exact id)) (.tmp U (by exact id))) U ?_;refine Cf ?_;refine Aa (Ai (.tm U) (fun h22=>?_) (fun h22=>?_))
 · try simp at h22
   have hno:okBind g q b=false:=by (unfold okBind;cases hq1:validG g<;>cases hq2:validConj q<;>simp_all)
   refine Ac (Am (As [0,1,2,3,4,6] []) ?_);refine Ad (Ak ?_);refine Aa (Al (Bb U U ?_))
   (unfold holdsB;rw [hno];rfl)
 try simp at h22
 have hok:okBind g q b=true:=by (unfold okBind;cases hq1:validG g<;>cases hq2:validConj q<;>simp_all)
 obtain⟨hg,hv,hbl⟩:=okBind_parts hok
 have hvt:=conj_atoms hv
 refine Aj (Ac (Ac (Am (As [0,1,2,3,4,6] []) ?_)));refine Ad (Ak ?_);refine Aa (AW.block (Bj (fun (k:Nat)=>(k≤q.Atoms.length∧∀ j y,j<k→q.Atoms[j]?=some y→bindOk g b y=true)∧True) (fun (k:Nat)=>⟨_,[(7,(true,.a (.one (.t (.v (.int .i64 (k:Nat))))))),(2,_),(3,_),(4,_)],[]⟩) (fun (k:Nat)=>q.Atoms.length-k) (0) ⟨⟨Nat.zero_le _,fun j y hj=>absurd hj (Nat.not_lt_zero j)⟩,Y⟩ (Ar U ⟨U,U,U,U,Y⟩ trivial) ?_))
 rintro k ⟨hk,he⟩
 refine Ac (Ae (Ab ?_));refine A7 Cl ?_;refine Aq Dl ?_;refine Bc (.t) Tryz.underlying38 ?_;refine AWl.lt ?_;refine Aa (Ai (.tm U) (fun h27=>?_) (fun h27=>?_))
 · try simp at h27
   obtain⟨x,hx⟩:∃ ξ,q.Atoms[k]?=some ξ:=⟨_,List.getElem?_eq_getElem (by omega)⟩
   have hxm:=List.mem_of_getElem? hx
   have hxr:=hvt.2.2 x hxm
   have hf:=atI_get (out:=b) (k:=x.From) (by omega)
   have ht:=atI_get (out:=b) (k:=x.To) (by omega)
   refine Aj (Ac (AW.block (Ac (Bq 30 (nthB [[],[],[1],[],[1,2,3],[1,2,3,4],[1,2,3,4,5],[1,2,3,4,5,6],[0,1,2,3,4,5,6,7],[],[],[10],[],[10,11,12],[10,11,12,13],[10,11,12,13,14],[9,10,11,12,13,14,15],[9,10,11,12,13,14,15,16],[],[],[19],[],[19,20,21],[19,20,21,22],[19,20,21,22,23],[18,19,20,21,22,23,24],[18,19,20,21,22,23,24,25],[9,10,11,12,13,14,15,16,17,18,19,20,21,22,23,24,25,26],[0,1,2,3,4,5,6,7,8,9,10,11,12,13,14,15,16,17,18,19,20,21,22,23,24,25,26,27],[0,1,2,3,4,5,6,7,8,9,10,11,12,13,14,15,16,17,18,19,20,21,22,23,24,25,26,27,28]]) (by kernel_rfl) (by kernel_rfl) (by kernel_rfl) ?_))));refine A5 Bz ?_;refine Cb Cl ?_;refine A5 Dl ?_;refine Ap ?_;refine DrawC.s (fun _ hs=>(by exact An U (.no U) (Af hs U) (hs.tm U) (hs.tm U) Tryz.underlying38 ty95 (fun _=>⟨by omega,(by exact Ao hx)⟩))) ?_;refine Cb fl95_2 ?_;refine Cb Cr ?_;refine A5 Dq ?_
   refine DrawC.s (fun _ hs=>A3 (FnT.fr (specl16Eval g hg x.Expr hxr.2)) U (.no U) (Af hs U) (.cons (hs.tm U) (readA_sup hs U) (.cons (hs.tm U) (readA_sup hs U) .nil))) ?_;refine Ap ?_;refine Cb Cl ?_;refine A5 Dl ?_;refine Ap ?_;refine DrawC.s (fun _ hs=>(by exact An U (.no U) (Af hs U) (hs.tm U) (hs.tm U) Tryz.underlying38 ty95 (fun _=>⟨by omega,(by exact Ao hx)⟩))) ?_;refine Cb fl95_0 ?_;refine A5 ty3 ?_;refine DrawC.s (fun _ hs=>(by exact An U (.no U) (Af hs U) (hs.tm U) (hs.tm U) Tryz.underlying34 ty3 (fun _=>⟨by omega,(by exact Ao hf)⟩))) ?_;refine A5 ty3 ?_;refine Ap ?_;refine Cb Cl ?_;refine A5 Dl ?_;refine Ap ?_;refine DrawC.s (fun _ hs=>(by exact An U (.no U) (Af hs U) (hs.tm U) (hs.tm U) Tryz.underlying38 ty95 (fun _=>⟨by omega,(by exact Ao hx)⟩))) ?_;refine Cb fl95_1 ?_;refine A5 ty3 ?_
   refine DrawC.s (fun _ hs=>(by exact An U (.no U) (Af hs U) (hs.tm U) (hs.tm U) Tryz.underlying34 ty3 (fun _=>⟨by omega,(by exact Ao ht)⟩))) ?_;refine A5 ty3 ?_;refine DrawC.s (fun _ hs=>Bd (ps:=[(0,.tmp 47),(1,.tmp 56)]) U U (Af hs U) Du U U st97 (.cons (hs.tm U) U U fp97_0 (.cons (hs.tm U) U U fp97_1 .nil)) U) ?_;refine DrawC.s (fun _ hs=>A3 (FnT.fr (specl15Has (evalE g x.Expr).1 (bindP b x))) U (.no U) (Af hs U) (.cons (hs.tm U) (readA_sup hs U) (.cons (hs.tm U) (readA_sup hs U) .nil))) ?_;refine DrawC.s (fun _ hs=>Cy U (.no U) (Af hs U) (hs.tm U)) ?_;refine Bi U U ?_;refine Aa (Ai (.tm U) (fun h59=>?_) (fun h59=>?_))
   · try simp at h59
     have hnb:bindOk g b x=false:=by (unfold bindOk;simpa using h59)
     refine Ac (Am (As [2,3,4,7] []) ?_);refine Ad (Ak ?_);refine Aa (Al (Bb U U ?_))
     (unfold holdsB;rw [hok,Bool.true_and,List.all_eq_false.2 ⟨x,hxm,by rw [hnb];simp⟩])
   try simp at h59
   have hyes:bindOk g b x=true:=by (unfold bindOk;simpa using h59)
   refine Aj (Am (As [2,3,4,7] []) ?_);refine Ad (Ab ?_);refine A8 ?_;refine Ah ?_;refine Aa ?_
   repeat (with_reducible refine Au ?_)
   refine Round1.next (k+1) ⟨⟨by omega,fun j y hj hy=>(by by_cases e:j=k;(subst e;rw [hx] at hy;cases hy;exact hyes);exact hk.2 j y (by omega) hy)⟩,Y⟩ (by omega) (Ar rfl ⟨rfl,rfl,rfl,rfl,Y⟩ trivial)
 try simp at h27
 refine Ba (Ae (Ak ?_));refine Aa (Al (Bb U U ?_))
 (unfold holdsB;rw [hok,Bool.true_and,List.all_eq_true.2 fun y hy=>by obtain⟨j,hj⟩:=List.getElem?_of_mem hy;exact hk.2 j y (by have:=(List.getElem?_eq_some_iff.1 hj).1;omega) hj])
theorem implrelations (g:TGraph) (q:TConjunction) (hz:q.Atoms.length≤1048576):FnT Tryz.prog 52 [.agg (cGraph g),.agg (cConjunction q)] (.a (.one (.sl 1 ((relsV g q).map cPairS)))):=by
 refine Ay Tryz.func52 U (by kernel_rfl) Tryz.ntmps52 U fun hlen w0=>?_
 try simp [cPair,cToken,cEdge,cGraph,cPathAtom,cConjunction] at hlen
 skip
 refine Ae (Ag (B9 U U U (.tm U) (ts:=_) (by rfl)) U ?_);refine Ag (B9 U U U (.tm U) (ts:=_) (by rfl)) U ?_;refine Ak ?_;refine By (i:=4) 20001 1 U U ?_;refine Aa (Ae (A6 (Ce 10 U U U Tryz.underlying83 ty89 U) U ?_));refine Ah ?_;refine Aa (Ac (Ae (A7 Cl ?_)));refine Aq Dl ?_;refine Bc (.t) Tryz.underlying38 ?_;refine Ag (Az U (.no U) U (.const U)) U ?_;refine Aa (AW.block (Bj (fun (k:Nat)=>(k≤q.Atoms.length)∧True) (fun (k:Nat)=>⟨_,[(14,(true,.a (.one (.t (.v (.int .i64 (k:Nat))))))),(5,(true,.a (.one (.rf 10)))),(2,_),(4,_),(12,_),(13,_)],[(10,.row 1 (((q.Atoms.take k).map fun x=>(evalE g x.Expr).1).map cPairS))]⟩) (fun (k:Nat)=>q.Atoms.length-k) (0) ⟨Nat.zero_le _,Y⟩ Bm ?_))
 rintro k ⟨hk,he⟩
 refine Ae (AWl.lt ?_);refine Aa (Ac (Ai (.tm U) (fun h15=>?_) (fun h15=>?_)))
 · try simp at h15
   obtain⟨x,hx⟩:∃ ξ,q.Atoms[k]?=some ξ:=⟨_,List.getElem?_eq_getElem (by omega)⟩
   refine Aj (Ac (AW.block (Ae (Ag (An U (.no U) U (.tm U) (.tm U) Tryz.underlying38 ty95 (fun _=>⟨by omega,(Ao hx)⟩)) U ?_))));refine Aq ty95 ?_;refine A6 (Bo 7 U U U in95 U U U) U ?_;refine A4 ty95 ?_;refine Aa (Ae (Aq Bz ?_));refine B6 fl95_2 ?_;refine Bp Ci ?_;refine B8 (Cd 2200 (implEvaluateExpr g x.Expr) U U U (.cons (.tm U) U (.cons (.tm U) U .nil)) U U) U ?_;refine Ag (Db U (.no U) U U fun _=>rfl) U ?_;refine Ag (Bn U (.no U) U U (fun _=>rfl) U) U ?_;refine Ag (Bn U (.no U) U U (fun _=>rfl) U) U ?_;refine Ah ?_;refine Ah ?_;refine Aa (Am (As [2,4,5,7,8,12,13,14] [10,7,2200]) ?_);refine Ad (Ab ?_);refine Ab ?_;refine Bh (Ch (xs:=[.tmp 26]) 27 U U U (.cons (.tm U) U U .nil) Tryz.underlying83 in89 U U U U) U ?_;refine Ct (Cx U U U (.tm U) U (.tm U) U U Tryz.underlying83 in89 U (by (simp [chunk];omega)) (by (unfold maxLen;simp [chunk];omega))) U ?_
   refine Bt (As [2,4,5,7,8,12,13,14,28] [10,7]) ?_;refine Ah ?_;refine Aa (Ad (A8 ?_));refine Ab ?_;refine Aa ?_
   repeat (with_reducible refine Au ?_)
   refine Round1.next (k+1) ⟨by omega,Y⟩ (by omega) (Ar rfl ⟨rfl,rfl,rfl,rfl,rfl,rfl,Y⟩ ⟨(by refine congrArg (fun r=>some (R.row 1 r)) ?_;rw [take_at hx];simp [cPairS,chunk];done),Y⟩)
 try simp at h15
 refine Ba (Ae (Ab ?_));refine Ah ?_;refine Aa (Al (Res.one U (.tmp U .nil) U ?_))
 unfold relsV;rw [List.take_of_length_le (l:=q.Atoms) (by omega)];rfl
theorem implbinds (g:TGraph) (q:TConjunction) (b:List Int) (hv:validConj q=true) (hbl:(b.length:Int)=q.VariableCount):FnT Tryz.prog 51 [.agg (cConjunction q),.one (.sl 1 ((relsV g q).map cPairS)),.one (.sl 1 (b.map cInt))] (.a (.one (.v (.bool (q.Atoms.all (bindOk g b)))))):=by
 refine Ay Tryz.func51 U (by kernel_rfl) Tryz.ntmps51 U fun hlen w0=>?_
 try simp [cPair,cToken,cEdge,cGraph,cPathAtom,cConjunction] at hlen
 have hvt:=conj_atoms hv
 refine Ae (Ag (B9 U U U (.tm U) (ts:=_) (by rfl)) U ?_);refine Ak ?_;refine Aa (Ac (Ae (A7 Cl ?_)));refine Aq Dl ?_;refine Bc (.t) Tryz.underlying38 ?_;refine Ag (Az U (.no U) U (.const U)) U ?_;refine Aa (AW.block (Bj (fun (k:Nat)=>(k≤q.Atoms.length∧∀ j y,j<k→q.Atoms[j]?=some y→bindOk g b y=true)∧True) (fun (k:Nat)=>⟨_,[(12,(true,.a (.one (.t (.v (.int .i64 (k:Nat))))))),(1,_),(2,_),(10,_),(11,_)],[]⟩) (fun (k:Nat)=>q.Atoms.length-k) (0) ⟨⟨Nat.zero_le _,fun j y hj=>absurd hj (Nat.not_lt_zero j)⟩,Y⟩ (Ar U ⟨U,U,U,U,U,Y⟩ trivial) ?_))
 rintro k ⟨hk,he⟩
 refine Ae (AWl.lt ?_);refine Aa (Ac (Ai (.tm U) (fun h13=>?_) (fun h13=>?_)))
 · try simp at h13
   obtain⟨x,hx⟩:∃ ξ,q.Atoms[k]?=some ξ:=⟨_,List.getElem?_eq_getElem (by omega)⟩
   have hxm:=List.mem_of_getElem? hx
   have hxr:=hvt.2.2 x hxm
   have hf:=atI_get (out:=b) (k:=x.From) (by omega)
   have ht:=atI_get (out:=b) (k:=x.To) (by omega)
   have hrl:(relsV g q)[k]?=some (evalE g x.Expr).1:=by (unfold relsV;rw [List.getElem?_map,hx];rfl)
   refine Aj (Ac (AW.block (Ae (Ab ?_))));refine Ag (An U (.no U) U (.tm U) (.tm U) Tryz.underlying38 ty95 (fun _=>⟨by omega,(by exact Ao hx)⟩)) U ?_;refine Aq ty95 ?_;refine A6 (Bo 8 U U U in95 U U U) U ?_;refine Ah ?_;refine A4 ty95 ?_;refine Aa (Ac (Bq 17 (nthB [[],[],[0,1],[0,1,2],[],[],[5],[4,5,6],[4,5,6,7],[],[],[10],[9,10,11],[9,10,11,12],[4,5,6,7,8,9,10,11,12,13],[0,1,2,3,4,5,6,7,8,9,10,11,12,13,14],[0,1,2,3,4,5,6,7,8,9,10,11,12,13,14,15]]) (by kernel_rfl) (by kernel_rfl) (by kernel_rfl) ?_));refine Ap ?_;refine Ap ?_;refine DrawC.s (fun _ hs=>(by exact An U (.no U) (Af hs U) (hs.tm U) (hs.tm U) Tryz.underlying83 ty89 (fun _=>⟨by omega,(by exact Ao hrl)⟩))) ?_;refine A5 ty89 ?_;refine Ap ?_;refine DrawC.s (fun _ hs=>(by exact Av U (.no U) (Af hs U) (hs.tm U) fl95_0)) ?_;refine DrawC.s (fun _ hs=>(by exact Ax U (.no U) (Af hs U) (hs.tm U) (hs.res _ _ U) ty3 U U)) ?_
   refine DrawC.s (fun _ hs=>(by exact An U (.no U) (Af hs U) (hs.tm U) (hs.tm U) Tryz.underlying34 ty3 (fun _=>⟨by omega,(by exact Ao hf)⟩))) ?_;refine A5 ty3 ?_;refine Ap ?_;refine DrawC.s (fun _ hs=>(by exact Av U (.no U) (Af hs U) (hs.tm U) fl95_1)) ?_;refine DrawC.s (fun _ hs=>(by exact Ax U (.no U) (Af hs U) (hs.tm U) (hs.res _ _ U) ty3 U U)) ?_;refine DrawC.s (fun _ hs=>(by exact An U (.no U) (Af hs U) (hs.tm U) (hs.tm U) Tryz.underlying34 ty3 (fun _=>⟨by omega,(by exact Ao ht)⟩))) ?_;refine A5 ty3 ?_;refine DrawC.s (fun _ hs=>Bd (ps:=[(0,.tmp 25),(1,.tmp 30)]) U U (Af hs U) Du U U st97 (.cons (hs.tm U) U U fp97_0 (.cons (hs.tm U) U U fp97_1 .nil)) U) ?_;refine DrawC.s (fun _ hs=>A3 (FnT.fr (slicesContainsPair (evalE g x.Expr).1 (bindP b x))) U (.no U) (Af hs U) (.cons (hs.tm U) (readA_sup hs U) (.cons (hs.tm U) (readA_sup hs U) .nil))) ?_
   refine DrawC.s (fun _ hs=>Cy U (.no U) (Af hs U) (hs.tm U)) ?_;refine Bi U U ?_;refine Aa (Ai (.tm U) (fun h33=>?_) (fun h33=>?_))
   · try simp at h33
     have hnb:bindOk g b x=false:=by (unfold bindOk;simpa using h33)
     refine Ac (Am (As [1,2,7,8,10,11,12] [8]) ?_);refine Ad (Ak ?_);refine Aa (Al (Bb U U ?_))
     (rw [List.all_eq_false.2 ⟨x,hxm,by rw [hnb];simp⟩])
   try simp at h33
   have hyes:bindOk g b x=true:=by (unfold bindOk;simpa using h33)
   refine Aj (Am (As [1,2,7,8,10,11,12] [8]) ?_);refine Ad (A8 ?_);refine Ab ?_;refine Aa ?_
   repeat (with_reducible refine Au ?_)
   refine Round1.next (k+1) ⟨⟨by omega,fun j y hj hy=>(by by_cases e:j=k;(subst e;rw [hx] at hy;cases hy;exact hyes);exact hk.2 j y (by omega) hy)⟩,Y⟩ (by omega) (Ar rfl ⟨rfl,rfl,rfl,rfl,rfl,Y⟩ trivial)
 try simp at h13
 refine Ba (Ae (Ak ?_));refine Aa (Al (Bb U U ?_))
 (rw [List.all_eq_true.2 fun y hy=>by obtain⟨j,hj⟩:=List.getElem?_of_mem hy;exact hk.2 j y (by have:=(List.getElem?_eq_some_iff.1 hj).1;omega) hj])
theorem implHoldsBinding (g:TGraph) (q:TConjunction) (b:List Int) (hz:q.Atoms.length≤1048576):FnT Tryz.prog 13 [.agg (cGraph g),.agg (cConjunction q),.one (.sl 1 (b.map cInt))] (.a (.one (.v (.bool (holdsB g q b))))):=by
 refine Ay Tryz.func13 U (by kernel_rfl) Tryz.ntmps13 U fun hlen w0=>?_
 try simp [cPair,cToken,cEdge,cGraph,cPathAtom,cConjunction] at hlen
 skip
 refine Ae (Ag (B9 U U U (.tm U) (ts:=_) (by rfl)) U ?_);refine Ag (B9 U U U (.tm U) (ts:=_) (by rfl)) U ?_;refine Ak ?_;refine Aa (Ac (Bq 22 (nthB [[],[0],[0,1],[0,1,2],[0,1,2,3],[0,1,2,3,4],[0,1,2,3,4,5],[0,1,2,3,4,5,6],[0,1,2,3,4,5,6,7],[0,1,2,3,4,5,6],[0,1,2,3,4,5,6,9],[0,1,2,3,4,5,6,7,8,9,10],[0,1,2,3,4,5,6,7,8,9,10,11],[0,1,2,3,4,5,6,7,8,9,10,11,12],[0,1,2,3,4,5,6,7,8,9,10,11,12,13],[0,1,2,3,4,5,6,7,8,9,10,11,12,13],[0,1,2,3,4,5,6,7,8,9,10,11,12,13],[0,1,2,3,4,5,6,7,8,9,10,11,12,13,15,16],[0,1,2,3,4,5,6,7,8,9,10,11,12,13],[0,1,2,3,4,5,6,7,8,9,10,11,12,13,14,15,16,17,18],[0,1,2,3,4,5,6,7,8,9,10,11,12,13,14,15,16,17,18,19],[0,1,2,3,4,5,6,7,8,9,10,11,12,13,14,15,16,17,18,19,20]]) (by kernel_rfl) (by kernel_rfl) (by kernel_rfl) ?_));refine A5 Bz ?_;refine DrawC.s (fun _ hs=>A3 (FnT.fr (implIsValidGraph g)) U (.no U) (Af hs U) (.cons (hs.tm U) (readA_sup hs U) .nil)) ?_;refine Ap ?_
 refine DrawC.s (fun _ hs=>(by exact Bw U (by exact hs.y1) (Af hs U) (hs.tm U) Cc U U)) ?_;refine DrawC.s (fun _ hs=>A3 (FnT.fr (implIsValidConjunction q)) U (by exact hs.y1) (Af hs U) (.cons (hs.ti U) (readA_sup hs U) .nil)) ?_;refine DrawC.s (fun _ hs=>R_and U (.no U) (Af hs U) (hs.tm U) (hs.ti U)) ?_;refine Ap ?_;refine DrawC.s (fun _ hs=>Az U (by exact hs.y1) (Af hs U) (hs.tm U)) ?_;refine DrawC.s (fun _ hs=>(by exact C4 U (by exact hs.y1) (Af hs U) (hs.ti U) (by exact .t) Tryz.underlying34)) ?_;refine DrawC.s (fun _ hs=>(by exact Cq U (by exact hs.y1) (Af hs U) (hs.tm U) C7)) ?_;refine DrawC.s (fun _ hs=>(by exact Bw U (by exact hs.y1) (Af hs U) (hs.ti U) ty3 U U)) ?_;refine DrawC.s (fun _ hs=>R_eq U (by exact hs.y1) (Af hs U) (hs.ti U) (hs.ti U)) ?_;refine DrawC.s (fun _ hs=>R_and U (.no U) (Af hs U) (hs.tm U) (hs.ti U)) ?_;refine Ap ?_
 refine DrawC.s (fun _ hs=>(by exact Bw U (by exact hs.y1) (Af hs U) (hs.tm U) Cc U U)) ?_;refine DrawC.s (fun _ hs=>(by exact Bw U (by exact hs.y1) (Af hs U) (hs.tm U) Bz U U)) ?_;refine DrawC.s (fun _ hs=>(by exact Bw U (by exact hs.y1) (Af hs U) (hs.tm U) Cc U U)) ?_;refine DrawC.s (fun _ hs=>A3 (FnT.fr (implrelations g q hz)) U (by exact hs.y1) (Af hs U) (.cons (hs.ti U) (readA_sup hs U) (.cons (hs.ti U) (readA_sup hs U) .nil))) ?_;refine DrawC.s (fun _ hs=>Az U (by exact hs.y1) (Af hs U) (hs.tm U)) ?_;refine DrawC.s (fun _ hs=>Dw U (by exact hs.y1) (Af hs U) (.cons (hs.ti U) (readA_sup hs U) (.cons (hs.ti U) (readA_sup hs U) (.cons (hs.ti U) (readA_sup hs U) .nil))) fun hq=>FnT.fr (implbinds g q b (by simp at hq;exact hq.1.2) (by simp at hq;omega))) ?_;refine DrawC.s (fun _ hs=>R_and U (.no U) (Af hs U) (hs.tm U) (hs.ti U)) ?_
 refine DrawC.s (fun _ hs=>C0 U (.no U) (Af hs U) (hs.tm U)) ?_;refine Bi U U ?_;refine Aa (Al (Res.one U (.tmp U .nil) U ?_))
 unfold holdsB okBind;rfl
end Go.Proofs.YtdhojcaoljhbiaaGreatDoor
set_option maxHeartbeats 1000000
set_option maxRecDepth 100000
namespace Go.Q
open Go.RowKit Go.D
theorem rows_at (l:List (List Int)) (m:List Nat) (hm:∀ i∈m,i<l.length):(m.map fun i=>[(l.map fun r=>T.sl 1 (r.map cInt)).getD i (.v undef)])=(m.map fun i=>l.getD i []).map cIntS:=by
 rw [List.map_map]
 refine List.map_congr_left fun i hi=>?_
 have hil:=hm i hi
 rw [List.getD_eq_getElem?_getD,List.getElem?_map,List.getElem?_eq_getElem hil]
 show _=cIntS (l.getD i [])
 rw [List.getD_eq_getElem?_getD,List.getElem?_eq_getElem hil]
 rfl
theorem range_at (l:List (List Int)):((List.range l.length).map fun i=>l.getD i [])=l:=by
 apply List.ext_getElem?;intro i
 by_cases hi:i<l.length
 · rw [List.getElem?_map,List.getElem?_range hi,Option.map_some,List.getD_eq_getElem?_getD,List.getElem?_eq_getElem hi];rfl
 rw [List.getElem?_eq_none (by simp;omega),List.getElem?_eq_none (by omega)]
def oneMore (n:Nat) (b:List Int):List (List Int):=(List.range n).map fun v=>b++[((v:Nat):Int)]
def moreL (n:Nat) (l:List (List Int)):List (List Int):=l.flatMap (oneMore n)
theorem oneMore_len (n:Nat) (b:List Int):(oneMore n b).length=n:=by simp [oneMore]
theorem moreL_len (n:Nat):∀ l:List (List Int),(moreL n l).length=l.length*n
 | []=>by simp [moreL]
 | x::l=>by
  have ih:=moreL_len n l
  unfold moreL at *
  rw [List.flatMap_cons,List.length_append,ih,oneMore_len,List.length_cons,Nat.succ_mul];omega
theorem words_few {n m:Nat} (hn:n≤5) (hm:m≤4):(wordsN n m).length≤625:=by
 rw [wordsN_count]
 have h1:n^m≤5^m:=Nat.pow_le_pow_left hn m
 have h2:5^m≤5^4:=Nat.pow_le_pow_right (by omega) hm
 omega
end Go.Q
namespace Go.Proofs.YtdhojcaoljhbiaaGreatDoor
open Go.RowKit Go.Q Go.D
theorem IndexFuncRows (l:List Nat) (hd:Nat→Value) (K:List (Nat×Obj)) (f:FuncId) (caps:List T) (p:Nat→Bool) (hp:∀ x∈l,FrTk Tryz.prog f K ([.one (.v (hd x))]++caps.map .one) (.a (.one (.v (.bool (p x)))))) (hz:l.length≤1099511627776):FrTk Tryz.prog 97 K [.one (.sl 1 (l.map (cH hd))),.one (.fn (.func f) [] caps)] (.a (.one (.v (.int .i64 (findI p l 0))))):=by
 refine FrTk.ofC ?_;refine FnCk.walk Tryz.func97 rfl (by kernel_rfl) Tryz.ntmps97 rfl (by rfl) fun w0=>?_
 refine Am (As [0,1] [999999]) ?_
 try simp [cPair,cToken,cEdge,cGraph,cPathAtom,cConjunction] at hlen
 have hlen:True:=trivial
 refine Ae (Ak ?_);refine Aa (Ac (Ae (Ab ?_)));refine Bc (.t) Tryz.underlying44 ?_;refine Ag (Az U (.no U) U (.const U)) U ?_;refine Aa (AW.block (Bj (fun (k:Nat)=>(k≤l.length∧∀ j y,j<k→l[j]?=some y→(!p y)=true)∧True) (fun (k:Nat)=>⟨_,[(8,(true,.a (.one (.t (.v (.int .i64 (k:Nat))))))),(0,_),(1,_),(7,_)],[(999999,.kept K)]⟩) (fun (k:Nat)=>l.length-k) (0) ⟨⟨Nat.zero_le _,fun j y hj=>absurd hj (Nat.not_lt_zero j)⟩,Y⟩ Bm ?_))
 rintro k ⟨hk,he⟩
 refine Ae (AWl.lt ?_);refine Aa (Ac (Ai (.tm U) (fun h9=>?_) (fun h9=>?_)))
 · try simp at h9
   obtain⟨x,hx⟩:∃ ξ,l[k]?=some ξ:=⟨_,List.getElem?_eq_getElem (by omega)⟩
   refine Aj (Ac (AW.block (Ae (Ab ?_))));refine Ah ?_;refine Aa (Ae (Ab ?_));refine Ab ?_;refine Ab ?_;refine Ag (An U (.no U) U (.tm U) (.tm U) Tryz.underlying44 Ca (fun _=>⟨by omega,(Ao hx)⟩)) U ?_;refine Aq Ca ?_;refine Ag (R_callvk U (.no U) U (.tm U) (.cons (.tm U) U .nil) U (hp x (List.mem_of_getElem? hx))) U ?_;refine Aa (Ai (.tm U) (fun h16=>?_) (fun h16=>?_))
   · try simp at h16
     refine Ac (Am (As [0,1,5,7,8] [999999]) ?_);refine Ad (Ab ?_);refine Ah ?_;refine Aa (Al (Res.one U (.tmp U .nil) U ?_))
     rw [findI_at (k:=k) hk.2 hx h16];simp;rfl
   try simp at h16
   refine Aj (Am (As [0,1,5,7,8] [999999]) ?_);refine Ad (A8 ?_);refine Ab ?_;refine Aa ?_
   repeat (with_reducible refine Au ?_)
   refine Round1.next (k+1) ⟨⟨by omega,each_succ hk.2 hx (by simp [h16])⟩,Y⟩ (by omega) (Ar rfl ⟨rfl,rfl,rfl,rfl,Y⟩ ⟨(by rfl),Y⟩)
 try simp at h9
 refine Ba (Ae (Ak ?_));refine Aa (Al (Res.one U (.tmp U .nil) U ?_))
 rw [findI_none hk.2 (by omega)];rfl
theorem DeleteFuncRows (l:List Nat) (hd:Nat→Value) (K:List (Nat×Obj)) (f:FuncId) (caps:List T) (p:Nat→Bool) (hp:∀ x∈l,FrTk Tryz.prog f K ([.one (.v (hd x))]++caps.map .one) (.a (.one (.v (.bool (p x)))))) (hz:l.length≤1099511627776):FnCk Tryz.prog 54 K ((true,.one (.sl 1 (l.map (cH hd))))::rdAll [.one (.fn (.func f) [] caps)]) (.a (.one (.sl 1 ((l.filter fun x=>!p x).map (cH hd))))):=by
 refine FnCk.walk Tryz.func54 rfl (by kernel_rfl) Tryz.ntmps54 rfl (by rfl) fun w0=>?_
 refine Am (As [0,1] [1000,999999]) ?_
 try simp [cPair,cToken,cEdge,cGraph,cPathAtom,cConjunction] at hlen
 have hlen:True:=trivial
 have hfi:=findI_spec p l 0
 have hfl:=findI_lt (p:=p) (l:=l) (m:=0)
 refine Ae (Ak ?_);refine By (i:=4) 20001 1 U U ?_;refine Aa (Ae (Ab ?_));refine Ab ?_;refine Ag (R_callk (IndexFuncRows l hd K f caps p hp hz) U U (.no U) U (.cons (.tm U) U (.cons (.tm U) U .nil))) U ?_;refine Ah ?_;refine Aa (Ac (Ae (Ab ?_)));refine Br ?_;refine Aa (Ai (.tm U) (fun h12=>?_) (fun h12=>?_))
 · skip
   simp only [decide_eq_true_eq,decide_eq_false_iff_not] at h12
   have hno:∀ x∈l,p x=false:=by (rcases hfi with h|⟨k,x,h1,h2,h3,h4⟩;exact h.2;omega)
   refine Ae (Ab ?_);refine Ah ?_;refine Aa (Al (Res.one U (.tmp U .nil) U ?_))
   rw [filter_none hno];rfl
 skip
 simp only [decide_eq_true_eq,decide_eq_false_iff_not] at h12
 obtain⟨i0,x0,h1,h2,h3,h4⟩:=hfi.resolve_left fun h=>h12 h.1
 rw [Nat.zero_add] at h3
 rw [h3]
 have hi0:=(List.getElem?_eq_some_iff.1 h1).1
 have hs0:l.take i0=(l.take (i0+1)).filter fun x=>!p x:=by (rw [filter_take h1,filter_none h4,h2];simp)
 refine Aj (Ac (Ae (Ab ?_)));refine A8 ?_;refine Ah ?_;refine Aa (AW.block ?_);refine AW.loop3 (fun (j:Nat) (i:Nat) (Rr:List Nat)=>((i+1≤j∧j≤l.length∧Rr.length=l.length))∧Rr.drop j=l.drop j∧Rr.take i=(l.take j).filter fun x=>!p x) (fun (j:Nat) (i:Nat) (Rr:List Nat)=>⟨_,[(6,(true,.a (.one (.t (.v (.int .i64 (j:Nat))))))),(5,(true,.a (.one (.t (.v (.int .i64 (i:Nat))))))),(0,_),(1,_),(4,_)],[(1000,.row 1 (Rr.map (cH hd))),(999999,.kept K)]⟩) (fun (j:Nat) (i:Nat) (Rr:List Nat)=>l.length-j) (i0+1) (i0) (l) ⟨⟨Nat.le_refl _,by omega,U⟩,U,hs0⟩ Bm ?_
 rintro j i Rr ⟨hk,he⟩
 refine Ac (Ae (Ab ?_));refine Ab ?_;refine Bc (.rf U) Tryz.underlying44 ?_;refine AWl.lt ?_;refine Aa (Ai (.tm U) (fun h19=>?_) (fun h19=>?_))
 · try simp at h19
   obtain⟨x,hx⟩:∃ ξ,l[j]?=some ξ:=⟨_,List.getElem?_eq_getElem (by omega)⟩
   have hxR:Rr[j]?=some x:=by (rw [drop_get he.1 (by omega)];exact hx)
   obtain⟨r1,hr1⟩:∃ ξ,Rr[i]?=some ξ:=⟨_,List.getElem?_eq_getElem (by omega)⟩
   refine Aj (Ac (AW.block (Ae (Ab ?_))));refine Ab ?_;refine Ag (Be U (.no U) U (.tm U) U (.tm U) Tryz.underlying44 Ca (fun _=>⟨by omega,(Ao hxR)⟩)) U ?_;refine Ag (Bx U (.no U) U (.tm U) U (Ao hxR) Ca U U) U ?_;refine Ah ?_;refine Aa (Ac (Am (As [0,1,4,5,6,7] [1000,999999]) ?_));refine Ad (Ab ?_);refine Ab ?_;refine Ag (R_callvk U (.no U) U (.tm U) (.cons (.tm U) U .nil) U (hp x (List.mem_of_getElem? hx))) U ?_;refine C1 ?_;refine Aa (Ai (.tm U) (fun h29=>?_) (fun h29=>?_))
   · try simp at h29
     refine Ae (Ab ?_);refine Ab ?_;refine Ab ?_;refine Ag (Be U (.no U) U (.tm U) U (.tm U) Tryz.underlying44 Ca (fun _=>⟨by omega,Ao hr1⟩)) U ?_;refine C3 (Dc U U U (.tm U) U (.tm U) U (Ao hr1) Ca U U U U) ?_;refine Aa (Am (As [0,1,4,5,6,7] [1000,999999]) ?_);refine Ad (Ab ?_);refine A8 ?_;refine Ah ?_;refine Aa (Ad (Ab ?_));refine A8 ?_;refine Ah ?_;refine Aa ?_
     repeat (with_reducible refine Au ?_)
     refine Round3.next (j+1) (i+1) (Rr.set i x) ⟨⟨by omega,by omega,by simp;omega⟩,by rw [set_drop (by omega)];exact drop_more he.1 (by omega),by rw [set_take (by omega),he.2,filter_take hx,h29];rfl⟩ (by omega) (Ar rfl ⟨rfl,rfl,rfl,rfl,rfl,Y⟩ ⟨(by refine congrArg (fun r=>some (R.row _ r)) ?_;first|(rw [List.map_set];rfl)|rfl|(simp;done)),(by rfl),Y⟩)
   try simp at h29
   refine Aj (Ad (Ab ?_));refine A8 ?_;refine Ah ?_;refine Aa ?_
   repeat (with_reducible refine Au ?_)
   refine Round3.next (j+1) (i) (Rr) ⟨⟨by omega,by omega,hk.2.2⟩,drop_more he.1 (by omega),by rw [he.2,filter_take hx,h29];simp⟩ (by omega) (Ar rfl ⟨rfl,rfl,rfl,rfl,rfl,Y⟩ ⟨(by refine congrArg (fun r=>some (R.row _ r)) ?_;first|(rw [List.map_set];rfl)|rfl|(simp;done)),(by rfl),Y⟩)
 try simp at h19
 refine Ba (Ae (Ab ?_));refine Ab ?_;refine Ag ((by exact R_slice_rf (m:=i) U (.no U) U (.tm U) U (.yes (.tm U) (fun _=>by first|rfl|omega|(simp<;>omega))) Tryz.underlying44 Ca (fun _=>by simp;omega))) U ?_;refine C3 (R_clear U U U (.tm U) U Tryz.underlying44 in34 U U) ?_;refine Aa (Ac (Am (As [0,1,4,5,6] [1000,999999]) ?_));refine Ad (Ab ?_);refine Ab ?_;refine Bu (R_cut (m:=i) U U U (.tm U) U (.yes (.tm U) (fun _=>by first|rfl|omega|(simp<;>omega))) Tryz.underlying44 Ca (by simp;omega)) U ?_;refine Bt (As [0,1,4,5,6,41] [1000,999999]) ?_;refine Ah ?_;refine Aa (Al (Res.one U (.tmp U .nil) U ?_));refine congrArg (fun r=>[V0.one (T.sl 1 r)]) ?_;exact cut_rows (by rw [he.2,List.take_of_length_le (by omega)]) (by omega)
theorem deleteRows (rows:List (List Int)) (f:FuncId) (caps:List T) (p:List Int→Bool) (hp:∀ r∈rows,FrT Tryz.prog f ([.one (.sl 1 (r.map cInt))]++caps.map .one) (.a (.one (.v (.bool (p r)))))) (hz:rows.length≤1099511627776):FnC Tryz.prog 54 [(true,.one (.sl 1 (rows.map cIntS))),(false,.one (.fn (.func f) [] caps))] (.a (.one (.sl 1 ((rows.filter fun r=>!p r).map cIntS)))):=by
 have hcl:Go.Q.Callee Tryz.prog 54:=⟨_,rfl,by kernel_rfl,rfl⟩
 let q:Nat→Bool:=fun i=>!p (rows.getD i [])
 have hsub:((List.range rows.length).filter q).Sublist (List.range rows.length):=List.filter_sublist
 have hlt:∀ i∈(List.range rows.length).filter q,i<rows.length:=fun i hi=>List.mem_range.1 (hsub.subset hi)
 have h:=FnC.lift (ts:=rows.map fun r=>T.sl 1 (r.map cInt)) (L:=(List.range rows.length).filter q) (rest:=[.one (.fn (.func f) [] caps)]) hcl (hsub.nodup List.nodup_range) (by simpa using hlt)
  fun hd K hK=>by
   rw [List.length_map]
   exact DeleteFuncRows (List.range rows.length) hd K f caps (fun i=>p (rows.getD i [])) (fun x hx=>by
    have hxl:=List.mem_range.1 hx
    have hg:rows[x]?=some (rows.getD x []):=by rw [List.getD_eq_getElem?_getD,List.getElem?_eq_getElem hxl];rfl
    exact FrTk.of1 (hp _ (List.mem_of_getElem? hg)) (hK x _ (by rw [List.getElem?_map,hg];rfl))) (by simpa using hz)
 have e1:((rows.map fun r=>T.sl 1 (r.map cInt)).map fun t=>[t])=rows.map cIntS:=by rw [List.map_map];rfl
 rw [e1,rows_at rows _ hlt] at h
 have e2:(((List.range rows.length).filter q).map fun i=>rows.getD i [])=rows.filter fun r=>!p r:=by
  conv=>rhs;rw [←range_at rows,List.filter_map]
  rfl
 rw [e2] at h
 exact h
theorem implevaluate1 (g:TGraph) (q:TConjunction) (b:List Int) (hv:validConj q=true) (hbl:(b.length:Int)=q.VariableCount):FnT Tryz.prog 55 [.one (.sl 1 (b.map cInt)),.one (.ad (cConjunction q)),.one (.ad [.sl 1 ((relsV g q).map cPairS)])] (.a (.one (.v (.bool (!q.Atoms.all (bindOk g b)))))):=by
 refine Ay Tryz.func55 U (by kernel_rfl) Tryz.ntmps55 U fun hlen w0=>?_
 try simp [cPair,cToken,cEdge,cGraph,cPathAtom,cConjunction] at hlen
 refine Ae (Ak ?_);refine Aa (Ae (Aq Cc ?_));refine Aq ty83 ?_;refine Ab ?_;refine Bl (implbinds g q b hv hbl) ?_;refine C1 ?_;refine Ah ?_;refine Aa (Al (Res.one U (.tmp U .nil) U ?_))
 rfl
theorem implEvaluateConjunction (g:TGraph) (q:TConjunction) (hz:q.Atoms.length≤1048576):FnT Tryz.prog 14 [.agg (cGraph g),.agg (cConjunction q)] (.a (.one (.sl 1 ((evalC g q).map cIntS)))):=by
 refine Ay Tryz.func14 U (by kernel_rfl) Tryz.ntmps14 U fun hlen w0=>?_
 try simp [cPair,cToken,cEdge,cGraph,cPathAtom,cConjunction] at hlen
 refine Ae (Ag (B9 U U U (.tm U) (ts:=_) (by rfl)) U ?_);refine Ag (B9 U U U (.tm U) (ts:=_) (by rfl)) U ?_;refine Ak ?_;refine By (i:=4) 20001 1 U U ?_;refine Aa (Ac (Ae (Aq Bz ?_)));refine Bl (implIsValidGraph g) ?_;refine C1 ?_;refine Ab ?_;refine Ag (Bw U (by exact .not1 U U U U) U (.tmp U (by exact fun _=>rfl)) Cc U U) U ?_;refine Ag (A3 (FnT.fr (implIsValidConjunction q)) U (by exact .not1 U U U U) U (.cons (.tmp U (by exact id)) U .nil)) U ?_;refine Ag (Cy U (by exact .not1 U U U U) U (.tmp U (by exact id))) U ?_;refine Cf ?_;refine Aa (Ai (.tm U) (fun h19=>?_) (fun h19=>?_))
 · try simp at h19
   have hno:evalC g q=[]:=by (unfold evalC;rw [if_neg (by intro h;simp only [Bool.and_eq_true] at h;simp [h.1,h.2] at h19)])
   refine Ac (Am (As [0,1,2,3,4] [20001]) ?_);refine Ad (Ak ?_);refine By (i:=4) 20002 1 U U ?_;refine Aa (Al (Res.one U (.tmp U .nil) U ?_))
   rw [hno];rfl
 try simp at h19
 have hg:validG g=true:=by (first|exact h19.1|(simp at h19;exact h19.1))
 have hv:validConj q=true:=by (first|exact h19.2|(simp at h19;exact h19.2))
 have hG:=validG_len hg
 have hvt:=conj_atoms hv
 have hVn:q.VariableCount.toNat≤4:=(by omega)
 refine Aj (Ac (Am (As [0,1,2,3,4] [20001]) ?_));refine Ad (Aq Bz ?_);refine Aq Cc ?_;refine Bl (implrelations g q hz) ?_;refine A6 (Bo 5 U U U in83 U U U) U ?_;refine AWl.nilB (b:=5) 20003 1 0 U U U ?_;refine A4 ty83 ?_;refine Aa (Ae (A6 (Ce 23 U U U Tryz.underlying34 ty3 U) U ?_));refine Bh (Ch (xs:=[.tmp 23]) 24 U U U (.cons (.tm U) U U .nil) Tryz.underlying44 in34 U U U U) U ?_;refine Ah ?_;refine Aa (Ac (Ae (Ak ?_)));refine Aa (AW.block (Bj (fun (v:Nat)=>(v≤q.VariableCount.toNat)∧True) (fun (v:Nat)=>⟨_,[(7,(true,.a (.one (.t (.v (.int .i64 (v:Nat))))))),(6,(true,.a (.one (.rf 24)))),(2,_),(3,_),(4,_),(5,_)],[(5,.box [.t (.sl 1 ((relsV g q).map cPairS))]),(24,.row 1 ((wordsN g.Values.length v).map cIntS))]⟩) (fun (v:Nat)=>q.VariableCount.toNat-v) (0) ⟨Nat.zero_le _,Y⟩ Bm ?_))
 rintro v ⟨hk,he⟩
 refine Ac (Ae (Ab ?_));refine A7 C7 ?_;refine Aq ty3 ?_;refine AWl.lt ?_;refine Aa (Ai (.tm U) (fun h28=>?_) (fun h28=>?_))
 · try simp at h28
   have hwl:=words_few (n:=g.Values.length) (m:=v) (by omega) (by omega)
   refine Aj (Ac (AW.block (Ae (A6 (Ce 31 U U U Tryz.underlying44 Ca U) U ?_))));refine Ah ?_;refine Aa (Ac (Ae (Ab ?_)));refine Bc (.rf U) Tryz.underlying44 ?_;refine Ag (Az U (.no U) U (.const U)) U ?_;refine Aa (AW.block (Bj (fun (k:Nat)=>(k≤(wordsN g.Values.length v).length)∧True) (fun (k:Nat)=>⟨_,[(34,(true,.a (.one (.t (.v (.int .i64 (k:Nat))))))),(8,(true,.a (.one (.rf 31)))),(2,_),(3,_),(4,_),(5,_),(6,_),(7,_),(32,_),(33,_)],[(5,.box [.t (.sl 1 ((relsV g q).map cPairS))]),(24,.row 1 ((wordsN g.Values.length v).map cIntS)),(31,.row 1 ((moreL g.Values.length ((wordsN g.Values.length v).take k)).map cIntS))]⟩) (fun (k:Nat)=>(wordsN g.Values.length v).length-k) (0) ⟨Nat.zero_le _,Y⟩ (Ar U ⟨U,U,U,U,U,U,U,U,U,U,Y⟩ ⟨U,U,(by refine congrArg (fun r=>some (R.row 1 r)) ?_;first|rfl|(simp [oneMore];done)),Y⟩) ?_))
   rintro k ⟨hk1,he1⟩
   refine Ae (AWl.lt ?_);refine Aa (Ac (Ai (.tm U) (fun h35=>?_) (fun h35=>?_)))
   · try simp at h35
     obtain⟨b,hb⟩:∃ ξ,(wordsN g.Values.length v)[k]?=some ξ:=⟨_,List.getElem?_eq_getElem (by omega)⟩
     have hbl:b.length=v:=(by have h:=List.mem_of_getElem? hb;rw [wordsN_eq] at h;exact extN_len h)
     have hml:(moreL g.Values.length ((wordsN g.Values.length v).take k)).length≤3125:=(by rw [moreL_len,List.length_take];exact Nat.le_trans (Nat.mul_le_mul (show min k _≤625 by omega) (show g.Values.length≤5 by omega)) (by omega))
     refine Aj (Ac (AW.block (Ae (Ag (Be U (.no U) U (.tm U) U (.tm U) Tryz.underlying44 Ca (fun _=>⟨by omega,(Ao hb)⟩)) U ?_))));refine Ag (Bx U (.no U) U (.tm U) U (Ao hb) Ca U U) U ?_;refine Ah ?_;refine Aa (Ae (A7 Cv ?_));refine Aq Ca ?_;refine Bc (.t) Tryz.underlying34 ?_;refine Ag (Az U (.no U) U (.const U)) U ?_
     refine Aa (AW.block (Bj (fun (x:Nat)=>(x≤g.Values.length)∧True) (fun (x:Nat)=>⟨_,[(41,(true,.a (.one (.t (.v (.int .i64 (x:Nat))))))),(8,(true,.a (.one (.rf 31)))),(2,_),(3,_),(4,_),(5,_),(6,_),(7,_),(10,_),(32,_),(33,_),(34,_),(40,_)],[(5,.box [.t (.sl 1 ((relsV g q).map cPairS))]),(24,.row 1 ((wordsN g.Values.length v).map cIntS)),(31,.row 1 ((moreL g.Values.length ((wordsN g.Values.length v).take k)++oneMore x b).map cIntS))]⟩) (fun (x:Nat)=>g.Values.length-x) (0) ⟨Nat.zero_le _,Y⟩ (Ar U ⟨U,U,U,U,U,U,U,U,U,U,U,U,U,Y⟩ ⟨U,U,(by refine congrArg (fun r=>some (R.row 1 r)) ?_;first|rfl|(simp [oneMore];done)),Y⟩) ?_))
     rintro x ⟨hk2,he2⟩
     refine Ae (AWl.lt ?_);refine Aa (Ac (Ai (.tm U) (fun h42=>?_) (fun h42=>?_)))
     · try simp at h42
       have hol:=oneMore_len x b
       refine Aj (Ac (AW.block (Ae (Ab ?_))));refine Ah ?_;refine Aa (Ad (Ab ?_));refine Ab ?_;refine B8 (Cd 4600 (implcopyInts _ (by omega)) U U U (.cons (.tm U) U .nil) U U) U ?_;refine Ab ?_;refine Bh (Ch (xs:=[.tmp 47]) 48 U U U (.cons (.tm U) U U .nil) Tryz.underlying34 in3 U U U U) U ?_;refine Ct (Cx U U U (.tm U) U (.tm U) U U Tryz.underlying34 in3 U (by (simp [chunk];omega)) (by (unfold maxLen;simp [chunk];omega))) U ?_;refine Bt (As [2,3,4,5,6,7,8,10,11,32,33,34,40,41,42,44,49] [5,24,31,4600]) ?_;refine Bh (Ch (xs:=[.tmp 49]) 50 U U U (.cons (.tm U) U U .nil) Tryz.underlying44 in34 U U U U) U ?_;refine Ct (Cx U U U (.tm U) U (.tm U) U U Tryz.underlying44 in34 U (by (simp [chunk];omega)) (by (unfold maxLen;simp [chunk];omega))) U ?_;refine Bt (As [2,3,4,5,6,7,8,10,11,32,33,34,40,41,42,51] [5,24,31]) ?_;refine Ah ?_;refine Aa (Ad (A8 ?_));refine Ab ?_;refine Aa ?_
       repeat (with_reducible refine Au ?_)
       refine Round1.next (x+1) ⟨by omega,Y⟩ (by omega) (Ar rfl ⟨rfl,rfl,rfl,rfl,rfl,rfl,rfl,rfl,rfl,rfl,rfl,rfl,rfl,Y⟩ ⟨(by rfl),(by refine congrArg (fun r=>some (R.row 1 r)) ?_;first|rfl|(rw [List.take_of_length_le (by first|omega|(simp at h35;omega))];rfl)),(by refine congrArg (fun r=>some (R.row 1 r)) ?_;first|(simp [oneMore,List.range_succ,chunk,cIntS,cInt];done)|(rw [take_at hb,show x=g.Values.length by omega];simp [moreL];done)),Y⟩)
     try simp at h42
     refine Ba (Ad (A8 ?_));refine Ab ?_;refine Aa ?_
     repeat (with_reducible refine Au ?_)
     refine Round1.next (k+1) ⟨by omega,Y⟩ (by omega) (Ar rfl ⟨rfl,rfl,rfl,rfl,rfl,rfl,rfl,rfl,rfl,rfl,Y⟩ ⟨(by rfl),(by refine congrArg (fun r=>some (R.row 1 r)) ?_;first|rfl|(rw [List.take_of_length_le (by first|omega|(simp at h35;omega))];rfl)),(by refine congrArg (fun r=>some (R.row 1 r)) ?_;first|(simp [oneMore,List.range_succ,chunk,cIntS,cInt];done)|(rw [take_at hb,show x=g.Values.length by omega];simp [moreL];done)),Y⟩)
   try simp at h35
   refine Ba (Ad (Ab ?_));refine Ah ?_;refine Aa (Am (Le.sw 24 31 _) ?_);refine Ad (Ab ?_);refine A8 ?_;refine Ah ?_;refine Aa ?_
   repeat (with_reducible refine Au ?_)
   refine Round1.next (v+1) ⟨by omega,Y⟩ (by omega) (Ar rfl ⟨rfl,rfl,rfl,rfl,rfl,rfl,Y⟩ ⟨(by rfl),(by refine congrArg (fun r=>some (R.row 1 r)) ?_;first|rfl|(rw [List.take_of_length_le (by omega)];rfl)),Y⟩)
 try simp at h28
 refine Ba (Ac (Am (Le.frz 5 5 (xs:=[.sl 1 ((relsV g q).map cPairS)]) U U U) ?_));refine Ad (Ab ?_);refine Ag (R_makeFunc U (.no U) U (.cons (.tm U) (.cons (.tm U) .nil))) U ?_;apply Cu
 case ho=>
  apply Da (xo:=.tmp 55) 5700 (deleteRows (wordsN g.Values.length v) 55 [.ad (cConjunction q),.ad [.sl 1 ((relsV g q).map cPairS)]] (fun b=>!q.Atoms.all (bindOk g b)) (fun r hr=>(implevaluate1 g q r hv (by rw [wordsN_eq] at hr;have:=extN_len hr;omega)).fr) (Nat.le_trans (words_few (by omega) (by omega)) (by omega))) rfl rfl rfl (.tm rfl)
  case ha=>rfl
  case hargs=>exact (ArgC.own (ArgRd.one (.tm rfl) .nil))
  all_goals rfl
 case hd=>rfl
 refine Ah ?_;refine Aa (Al (Res.one U (.tmp U .nil) U ?_))
 unfold evalC;rw [if_pos (by rw [hg,hv];rfl),show q.VariableCount.toNat=v by omega];simp;rfl
end Go.Proofs.YtdhojcaoljhbiaaGreatDoor
