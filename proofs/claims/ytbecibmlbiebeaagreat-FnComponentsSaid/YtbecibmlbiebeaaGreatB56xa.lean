import Derived.Test.YtbecibmlbiebeaaGreatB37xa
import Derived.Test.YtbecibmlbiebeaaGreatAbsOxa
import Derived.Test.YtbecibmlbiebeaaGreatB19xa
import Derived.Test.YtbecibmlbiebeaaGreatB21xa
import Derived.Test.YtbecibmlbiebeaaGreatAbsHxa
import Derived.Test.YtbecibmlbiebeaaGreatAbs12xa
import Derived.Test.YtbecibmlbiebeaaGreatB05xa
import Derived.Test.YtbecibmlbiebeaaGreatB24xa
set_option linter.unusedVariables false
set_option linter.unusedSimpArgs false
set_option maxRecDepth 100000
set_option maxHeartbeats 1000000
set_option maxRecDepth 100000
namespace Go.Q
open Go.D
theorem C_nil {w:World} {v:Value} {F:List Nat} {k:Nat} (h:C false w (.v (.slice none 0 0)) v F):C false w (.sl k []) v F:=by
 simp only [C] at h
 obtain⟨rfl,rfl,_⟩:=h
 unfold C
 exact⟨none,0,0,rfl,rfl,Nat.le_refl _,Nat.zero_le _,.inl ⟨rfl,rfl,by simp⟩⟩
theorem maxAt (l:List Int) {k:Nat} {x:Int} (h:l[k]?=some x) (m:Int):(l.take (k+1)).foldl max m=max ((l.take k).foldl max m) x:=by
 rw [take_at h,List.foldl_append];rfl
theorem comps_top {g:TGraph} {a:TAutomaton} (ha:validA a=true) (hg:validG g=true):(compsOf g a).foldl max (-1)=(cntOf g a:Int)-1:=by
 have hgc:goodC g a=true:=by unfold goodC;rw [ha,hg];rfl
 unfold compsOf cntOf
 rw [if_pos hgc,if_pos hgc]
 exact numOf_top (relN_trans (nexts_ok ha hg)) _
theorem comps_rng {g:TGraph} {a:TAutomaton} (ha:validA a=true) (hg:validG g=true):∀ x∈compsOf g a,0≤x∧x≤60:=by
 have hgc:goodC g a=true:=by unfold goodC;rw [ha,hg];rfl
 have hN:1≤NP g a∧NP g a≤60:=prod_le ha hg
 intro x hx
 unfold compsOf at hx
 rw [if_pos hgc] at hx
 obtain⟨p,hp,rfl⟩:=List.mem_map.1 hx
 have hp:=List.mem_range.1 hp
 have h1:=numOf_lt (relN_trans (nexts_ok ha hg)) p
 have h2:=cntRep_le (rel:=relN (nextsV g a)) (p+1)
 omega
theorem comps_len {g:TGraph} {a:TAutomaton} (ha:validA a=true) (hg:validG g=true):(compsOf g a).length=NP g a:=by
 have hgc:goodC g a=true:=by unfold goodC;rw [ha,hg];rfl
 unfold compsOf;rw [if_pos hgc];simp
theorem comps_bad {g:TGraph} {a:TAutomaton} (h:goodC g a=false):compsOf g a=[]∧cntOf g a=0:=by
 unfold compsOf cntOf
 rw [h];exact⟨rfl,rfl⟩
theorem good_c2 {g:TGraph} {a:TAutomaton} (h:goodC g a=true):validG g=true∧validA a=true:=by unfold goodC at h;simpa using h
theorem fold_succ (l:List Int):∀ m:Int,(l.foldl (fun (n x:Int)=>max n (x+1)) (m+1))=l.foldl max m+1:=by
 induction l with
 | nil=>intro m;rfl
 | cons x l ih=>
  intro m
  rw [List.foldl_cons,List.foldl_cons,show max (m+1) (x+1)=max m x+1 by omega,ih]
theorem succAt (l:List Int) {k:Nat} {x:Int} (h:l[k]?=some x) (m:Int):(l.take (k+1)).foldl (fun (n x:Int)=>max n (x+1)) m=max ((l.take k).foldl (fun (n x:Int)=>max n (x+1)) m) (x+1):=by
 rw [take_at h,List.foldl_append];rfl
end Go.Q
namespace Go.Proofs.YtbecibmlbiebeaaGreat
open Go.RowKit Go.Q Go.D
theorem implbothOk_nil (g:TGraph) (a:TAutomaton):FnT Tryz.prog 72 [.agg (cGraph g),.agg (cAutomaton a),.one (.v (.slice none 0 0))] (.a (.one (.v (.bool (goodC g a))))):=by
 have h:=implbothOk g a []
 rw [both_c] at h
 refine⟨h.1,fun w vs F hG hv=>h.2 w vs F hG ?_⟩
 obtain⟨v1,r1,G1,G2,e1,h1,⟨v2,r2,G3,G4,e2,h2,⟨v3,r3,G5,G6,e3,h3,h4,e4⟩,e5⟩,e6⟩:=hv
 exact⟨v1,r1,G1,G2,e1,h1,⟨v2,r2,G3,G4,e2,h2,⟨v3,r3,G5,G6,e3,C_nil h3,h4,e4⟩,e5⟩,e6⟩
theorem slicesMaxInt (l:List Int) (hl:1≤l.length) (hz:l.length≤1073741824):FnT Tryz.prog 110 [.one (.sl 1 (l.map cInt))] (.a (.one (.v (.int .i64 (maxL l))))):=by
 refine Ba Tryz.func110 U (by kernel_rfl) Tryz.ntmps110 U fun hlen w0=>?_
 try simp [cEdge,cGraph,cAutomaton] at hlen
 obtain⟨x0,hx0⟩:∃ ξ,l[0]?=some ξ:=⟨_,List.getElem?_eq_getElem (by omega)⟩
 have h00:l[(0:Int).toNat]?=some x0:=hx0
 refine Ah (Av ?_);refine Aa (Af (Ah (Ac ?_)));refine Ab (Bd U (.no U) U (.tm U) (by exact .t) Tryz.underlying40) U ?_;refine Ab (Bz U (.no U) U (.tm U) (.const U)) U ?_;refine Aa (Aq (.tm U) (fun h7=>?_) (fun h7=>?_))
 · exact absurd h7 (by simp;omega)
 · try simp at h7
   refine As (Ah (Ac ?_));refine Ab (Aw U (.no U) U (.tm U) (.const U) Tryz.underlying40 ty3 (fun _=>⟨by omega,(by exact Ax h00)⟩)) U ?_;refine Ab (Ap U (.no U) U (.tm U) ty3 U U) U ?_;refine Ak ?_;refine Aa (Af (Af (A4 (σ':=⟨_,[(0,_),(2,_),(3,_)],[]⟩) (An U ⟨U,U,U,Y⟩ trivial) ?_)));refine Ae (Av ?_);refine Aa (AW.block (Cj (fun (k:Nat) (m:Int)=>(1≤k∧k≤l.length)∧m=(l.take k).foldl max x0) (fun (k:Nat) (m:Int)=>⟨_,[(4,(true,.a (.one (.t (.v (.int .i64 (k:Nat))))))),(3,(true,.a (.one (.t (.v (.int .i64 m)))))),(0,_),(2,_)],[]⟩) (fun (k:Nat) (m:Int)=>l.length-k) (1) (x0) ⟨⟨Nat.le_refl _,hl⟩,by rw [take_at (i:=0) hx0];simp⟩ (An U ⟨U,U,U,U,Y⟩ trivial) ?_))
   rintro k m ⟨hk,he⟩
   refine Af (Ah (Ac ?_));refine Ac ?_;refine Ab (Bd U (.no U) U (.tm U) (by exact .t) Tryz.underlying40) U ?_;refine Ab (Bz U (.no U) U (.tm U) (.tm U)) U ?_;refine Aa (Aq (.tm U) (fun h15=>?_) (fun h15=>?_))
   · try simp at h15
     obtain⟨x,hx⟩:∃ ξ,l[k]?=some ξ:=⟨_,List.getElem?_eq_getElem (by omega)⟩
     refine As (Af (AW.block (Ae (Ac ?_))));refine Ac ?_;refine Ac ?_;refine Ab (Aw U (.no U) U (.tm U) (.tm U) Tryz.underlying40 ty3 (fun _=>⟨by omega,(by exact Ax hx)⟩)) U ?_;refine Ab (Ap U (.no U) U (.tm U) ty3 U U) U ?_;refine Ab (R_max U (.no U) U (.tm U) (.tm U)) U ?_;refine Ak ?_;refine Aa (A4 (σ':=⟨_,[(0,_),(2,_),(3,_),(4,_)],[]⟩) (An U ⟨U,U,U,U,Y⟩ trivial) ?_);refine Ae (Ac ?_);refine Ab (Be U (.no U) U (.tm U) (.const U) (fun _=>by omega)) U ?_;refine Ak ?_;refine Aa ?_
     repeat (with_reducible refine Az ?_)
     refine Round2.next (k+1) (max m x) ⟨⟨by omega,by omega⟩,by rw [maxAt l hx,he]⟩ (by omega) (An rfl ⟨rfl,rfl,rfl,rfl,Y⟩ trivial)
   · try simp at h15
     refine Bf (Ah (Ac ?_));refine Ak ?_;refine Aa (A3 (Bn U U ?_))
     rw [he,List.take_of_length_le (by omega)];unfold maxL;rw [hx0];rfl
theorem implProductComponents (g:TGraph) (a:TAutomaton):FnT Tryz.prog 43 [.agg (cGraph g),.agg (cAutomaton a)] (.a (.one (.sl 1 ((compsOf g a).map cInt)))):=by
 refine Ba Tryz.func43 U (by kernel_rfl) Tryz.ntmps43 U fun hlen w0=>?_
 try simp [cEdge,cGraph,cAutomaton] at hlen
 skip
 refine Ah (Ab (Bm U U U (.tm U) (ts:=_) (by rfl)) U ?_);refine Ab (Bm U U U (.tm U) (ts:=_) (by rfl)) U ?_;refine Av ?_;refine Bw (i:=4) 20001 1 U U ?_;refine Aa (Af (Ah (Ab (Ap U (.no U) U (.tm U) Bu U U) U ?_)));refine Ab (Ap U (.no U) U (.tm U) Br U U) U ?_;refine Ab (A6 (FnT.fr (implbothOk_nil g a)) U (.no U) U (.cons (.tm U) U (.cons (.tm U) U (.cons (.const U) U .nil)))) U ?_;refine Ab (Cq U (.no U) U (.tm U)) U ?_;refine Aa (Aq (.tm U) (fun h8=>?_) (fun h8=>?_))
 · try simp at h8
   refine Ah (Av ?_);refine Bw (i:=4) 20002 1 U U ?_;refine Aa (A3 (Res.one U (.tmp U .nil) U ?_))
   rw [(comps_bad (by simpa using h8)).1];rfl
 · try simp at h8
   have hgc:goodC g a=true:=by simpa using h8
   obtain⟨hg,ha⟩:=good_c2 hgc
   have hN:=prod_le ha hg
   have hcs:=implcomponents (nextsV g a) (by rw [nextsV_len];omega) (nexts_ok ha hg) (fun p hp=>by rw [nextsV_len] at hp;rw [nextsV_at hp];have:=nxN_len a hg p;omega)
   refine As (Ah (Ab (Ap U (.no U) U (.tm U) Bu U U) U ?_));refine Ab (Ap U (.no U) U (.tm U) Br U U) U ?_;refine Ab (A6 (FnT.fr (implnextVertices g a ha hg)) U (.no U) U (.cons (.tm U) U (.cons (.tm U) U .nil))) U ?_;refine B8 (Cl 1200 (hcs) U U U (.cons (.tm U) U .nil) U U) U ?_;refine Ak ?_;refine Aa (A3 (Res.one U (.tmp U .nil) U ?_))
   unfold compsOf;rw [if_pos hgc,show NP g a=(nextsV g a).length from (nextsV_len g a).symm];rfl
theorem specComponentCount (g:TGraph) (a:TAutomaton):FnT Tryz.prog 113 [.agg (cGraph g),.agg (cAutomaton a)] (.a (.one (.v (.int .i64 (cntOf g a))))):=by
 refine Ba Tryz.func113 U (by kernel_rfl) Tryz.ntmps113 U fun hlen w0=>?_
 try simp [cEdge,cGraph,cAutomaton] at hlen
 have hgood:(goodC g a=false∧compsOf g a=[]∧cntOf g a=0)∨((∀ x∈compsOf g a,0≤x∧x≤60)∧(compsOf g a).length≤60∧(compsOf g a).foldl max (-1)=(cntOf g a:Int)-1):=by (cases hc:goodC g a with|false=>exact .inl ⟨rfl,comps_bad hc⟩|true=>(obtain⟨hg,ha⟩:=good_c2 hc;exact .inr ⟨comps_rng ha hg,by rw [comps_len ha hg];exact (prod_le ha hg).2,comps_top ha hg⟩))
 have hrg:∀ x∈compsOf g a,0≤x∧x≤60:=by (rcases hgood with ⟨_,h,_⟩|h;(rw [h];simp);exact h.1)
 have hln:(compsOf g a).length≤60:=by (rcases hgood with ⟨_,h,_⟩|h;(rw [h];simp);exact h.2.1)
 have hfin:(compsOf g a).foldl (fun (n x:Int)=>max n (x+1)) 0=((cntOf g a:Nat):Int):=by (have h1:=fold_succ (compsOf g a) (-1);rw [show (-1:Int)+1=0 by omega] at h1;rw [h1];rcases hgood with ⟨_,h2,h3⟩|h;(rw [h2,h3];rfl);(rw [h.2.2];omega))
 refine Ah (Ab (Bm U U U (.tm U) (ts:=_) (by rfl)) U ?_);refine Ab (Bm U U U (.tm U) (ts:=_) (by rfl)) U ?_;refine Av ?_;refine Aa (Ah (Av ?_));refine Aa (Ah (Ab (Ap U (.no U) U (.tm U) Bu U U) U ?_));refine Ab (Ap U (.no U) U (.tm U) Br U U) U ?_;refine Ab (A6 (FnT.fr (specProductComponents g a)) U (.no U) U (.cons (.tm U) U (.cons (.tm U) U .nil))) U ?_;refine Ak ?_;refine Aa (Af (Ah (Av ?_)));refine Aa (AW.block (Cj (fun (k:Nat) (n:Int)=>(k≤(compsOf g a).length)∧n=((compsOf g a).take k).foldl (fun (n x:Int)=>max n (x+1)) 0) (fun (k:Nat) (n:Int)=>⟨_,[(7,(true,.a (.one (.t (.v (.int .i64 (k:Nat))))))),(5,(true,.a (.one (.t (.v (.int .i64 n)))))),(4,_),(6,_)],[]⟩) (fun (k:Nat) (n:Int)=>(compsOf g a).length-k) (0) (0) ⟨Nat.zero_le _,U⟩ (An U ⟨U,U,U,U,Y⟩ trivial) ?_))
 rintro k n ⟨hk,he⟩
 refine Af (Ah (Ac ?_));refine Ac ?_;refine Ab (Bd U (.no U) U (.tm U) (by exact .t) Tryz.underlying40) U ?_;refine Ab (Bz U (.no U) U (.tm U) (.tm U)) U ?_;refine Aa (Aq (.tm U) (fun h14=>?_) (fun h14=>?_))
 · try simp at h14
   obtain⟨x,hx⟩:∃ ξ,(compsOf g a)[k]?=some ξ:=⟨_,List.getElem?_eq_getElem (by omega)⟩
   have hxr:=hrg x (List.mem_of_getElem? hx)
   refine As (Af (AW.block (Ae (Ac ?_))));refine Ac ?_;refine Ac ?_;refine Ab (Aw U (.no U) U (.tm U) (.tm U) Tryz.underlying40 ty3 (fun _=>⟨by omega,(Ax hx)⟩)) U ?_;refine Ab (Ap U (.no U) U (.tm U) ty3 U U) U ?_;refine Ab (Be U (.no U) U (.tm U) (.const U) (fun _=>by omega)) U ?_;refine Ab (R_max U (.no U) U (.tm U) (.tm U)) U ?_;refine Ak ?_;refine Aa (A4 (σ':=⟨_,[(4,_),(5,_),(6,_),(7,_)],[]⟩) (An U ⟨U,U,U,U,Y⟩ trivial) ?_);refine Ae (Ac ?_);refine Ab (Be U (.no U) U (.tm U) (.const U) (fun _=>by omega)) U ?_;refine Ak ?_;refine Aa ?_
   repeat (with_reducible refine Az ?_)
   refine Round2.next (k+1) (max n (x+1)) ⟨by omega,by rw [succAt _ hx,he]⟩ (by omega) (An rfl ⟨rfl,rfl,rfl,rfl,Y⟩ trivial)
 · try simp at h14
   refine Bf (Ah (Ac ?_));refine Ak ?_;refine Aa (A3 (Bn U U ?_))
   rw [he,List.take_of_length_le (by omega),hfin]
theorem implComponentCount (g:TGraph) (a:TAutomaton):FnT Tryz.prog 48 [.agg (cGraph g),.agg (cAutomaton a)] (.a (.one (.v (.int .i64 (cntOf g a))))):=by
 refine Ba Tryz.func48 U (by kernel_rfl) Tryz.ntmps48 U fun hlen w0=>?_
 try simp [cEdge,cGraph,cAutomaton] at hlen
 have hgood:(goodC g a=false∧compsOf g a=[]∧cntOf g a=0)∨((∀ x∈compsOf g a,0≤x∧x≤60)∧1≤(compsOf g a).length∧(compsOf g a).length≤60∧(compsOf g a).foldl max (-1)=(cntOf g a:Int)-1):=by (cases hc:goodC g a with|false=>exact .inl ⟨rfl,comps_bad hc⟩|true=>(obtain⟨hg,ha⟩:=good_c2 hc;exact .inr ⟨comps_rng ha hg,by rw [comps_len ha hg];exact (prod_le ha hg).1,by rw [comps_len ha hg];exact (prod_le ha hg).2,comps_top ha hg⟩))
 refine Ah (Ab (Bm U U U (.tm U) (ts:=_) (by rfl)) U ?_);refine Ab (Bm U U U (.tm U) (ts:=_) (by rfl)) U ?_;refine Av ?_;refine Aa (Ah (Ab (Ap U (.no U) U (.tm U) Bu U U) U ?_));refine Ab (Ap U (.no U) U (.tm U) Br U U) U ?_;refine Ab (A6 (FnT.fr (implProductComponents g a)) U (.no U) U (.cons (.tm U) U (.cons (.tm U) U .nil))) U ?_;refine Ak ?_;refine Aa (Af (Ah (Ac ?_)));refine Ab (Bd U (.no U) U (.tm U) (by exact .t) Tryz.underlying40) U ?_;refine Ab (B7 U (.no U) U (.tm U) (.const U)) U ?_;refine Aa (Aq (.tm U) (fun h11=>?_) (fun h11=>?_))
 · try simp at h11
   have hc0:cntOf g a=0:=by (rcases hgood with h|h;exact h.2.2;(have h':=h.2.1;rw [h11] at h';simp at h'))
   refine Af (A4 (σ':=⟨_,[(0,_),(1,_),(2,_),(3,_),(4,_),(5,_)],[]⟩) (An U ⟨U,U,U,U,U,U,Y⟩ trivial) ?_);refine Ae (Av ?_);refine Aa (A3 (Bn U U ?_))
   rw [hc0];rfl
 · try simp at h11
   have hG:(∀ x∈compsOf g a,0≤x∧x≤60)∧1≤(compsOf g a).length∧(compsOf g a).length≤60∧(compsOf g a).foldl max (-1)=(cntOf g a:Int)-1:=by (rcases hgood with h|h;(rw [h.2.1] at h11;exact absurd rfl h11);exact h)
   have hmx:maxL (compsOf g a)=(cntOf g a:Int)-1:=by (rw [←hG.2.2.2];exact (foldl_max_start _ (-1) 0 (fun z hz=>(hG.1 z hz).1) (fun e=>by rw [e] at hG;simp at hG) (by omega)).2)
   have hcb:(cntOf g a:Int)-1≤60:=by (rw [←hG.2.2.2];exact foldl_max_le _ _ _ (by omega) fun y hy=>(hG.1 y hy).2)
   refine As (Af (A4 (σ':=⟨_,[(0,_),(1,_),(2,_),(3,_),(4,_),(5,_)],[]⟩) (An U ⟨U,U,U,U,U,U,Y⟩ trivial) ?_));refine Ae (Ac ?_);refine Ab (A6 (FnT.fr (slicesMaxInt (compsOf g a) hG.2.1 (by omega))) U (.no U) U (.cons (.tm U) U .nil)) U ?_;refine Ab (Be U (.no U) U (.tm U) (.const U) (fun _=>by rw [hmx];omega)) U ?_;refine Ak ?_;refine Aa (A3 (Bn U U ?_))
   rw [hmx];congr 3;omega
theorem implIsCyclicComponent (g:TGraph) (a:TAutomaton) (c:Int):FnT Tryz.prog 50 [.agg (cGraph g),.agg (cAutomaton a),.one (.v (.int .i64 c))] (.a (.one (.v (.bool (cycOf g a c))))):=by
 refine Ba Tryz.func50 U (by kernel_rfl) Tryz.ntmps50 U fun hlen w0=>?_
 try simp [cEdge,cGraph,cAutomaton] at hlen
 skip
 refine Ah (Ab (Bm U U U (.tm U) (ts:=_) (by rfl)) U ?_);refine Ab (Bm U U U (.tm U) (ts:=_) (by rfl)) U ?_;refine Av ?_;refine Aa (Af (Ah (Ab (Ap U (.no U) U (.tm U) Bu U U) U ?_)));refine Ab (Ap U (.no U) U (.tm U) Br U U) U ?_;refine Ab (A6 (FnT.fr (implbothOk_nil g a)) U (.no U) U (.cons (.tm U) U (.cons (.tm U) U (.cons (.const U) U .nil)))) U ?_;refine Ab (Cq U (.no U) U (.tm U)) U ?_;refine Aa (Aq (.tm U) (fun h14=>?_) (fun h14=>?_))
 · try simp at h14
   refine Ah (Av ?_);refine Aa (A3 (Bn U U ?_))
   unfold cycOf;rw [show goodC g a=false by simpa using h14];rfl
 · try simp at h14
   have hgc:goodC g a=true:=by simpa using h14
   obtain⟨hg,ha⟩:=good_c2 hgc
   have hN:1≤NP g a∧NP g a≤60:=prod_le ha hg
   have hnl:(nextsV g a).length=NP g a:=nextsV_len g a
   have hnz:∀ p,p<(nextsV g a).length→(nxL (nextsV g a) p).length≤65536:=fun p hp=>by rw [nextsV_len] at hp;rw [nextsV_at hp];have:=nxN_len a hg p;omega
   refine As (Ah (Ab (Ap U (.no U) U (.tm U) Bu U U) U ?_));refine Ab (Ap U (.no U) U (.tm U) Br U U) U ?_;refine Ab (A6 (FnT.fr (implnextVertices g a ha hg)) U (.no U) U (.cons (.tm U) U (.cons (.tm U) U .nil))) U ?_;refine Ak ?_;refine Aa (Af (A4 (σ':=⟨_,[(0,_),(1,_),(2,_),(3,_),(4,_),(6,_),(7,_)],[]⟩) (An U ⟨U,U,U,U,U,U,U,Y⟩ trivial) ?_));refine Ae (Ac ?_);refine Ab (A6 (FnT.fr (implreachable (nextsV g a) (by omega) (nexts_ok ha hg) hnz)) U (.no U) U (.cons (.tm U) U .nil)) U ?_;refine Ak ?_;refine Aa (Af (Ah (Ac ?_)));refine Ab (A6 (FnT.fr (implcomponents (nextsV g a) (by omega) (nexts_ok ha hg) hnz)) U (.no U) U (.cons (.tm U) U .nil)) U ?_;refine Ab (Bd U (.no U) U (.tm U) (by exact .t) Tryz.underlying40) U ?_;refine Ab (Ar U (.no U) U (.const U)) U ?_
   refine Aa (AW.block (Bs (fun (i:Nat)=>(i≤NP g a∧∀ p,p<i→(decide (((numOf (relN (nextsV g a)) p:Nat):Int)=c)&&(wK (nxN g a) (NP g a) p).testBit p)=false)∧True) (fun (i:Nat)=>⟨_,[(23,(true,.a (.one (.t (.v (.int .i64 (i:Nat))))))),(2,_),(8,_),(21,_),(22,_)],[]⟩) (fun (i:Nat)=>NP g a-i) (0) ⟨⟨Nat.zero_le _,fun p hp=>by omega⟩,Y⟩ (An U ⟨U,U,U,U,U,Y⟩ trivial) ?_))
   rintro i ⟨hk,he⟩
   refine Ah (Ab (Bz U (.no U) U (.tm U) (.tm U)) U ?_);refine Aa (Af (Aq (.tm U) (fun h24=>?_) (fun h24=>?_)))
   · try simp at h24
     have hiN:i<NP g a:=by omega
     have hgi:((List.range (nextsV g a).length).map fun p=>((numOf (relN (nextsV g a)) p:Nat):Int))[i]?=some ((numOf (relN (nextsV g a)) i:Nat):Int):=range_get _ (by omega)
     obtain⟨ri,hri1,hri2⟩:=reachM_at (nexts_ok ha hg) (i:=i) (by omega)
     have hb1:=hri2 i (by omega)
     have hbb:rB (nextsV g a) i i=(wK (nxN g a) (NP g a) i).testBit i:=by (rw [rB_eq (nexts_ok ha hg) (by omega) (by omega),wK_nexts g a hiN])
     refine As (Af (AW.block (Ah (Ac ?_))));refine Ab (Aw U (.no U) U (.tm U) (.tm U) Tryz.underlying40 ty3 (fun _=>⟨by omega,(by exact Ax hgi)⟩)) U ?_;refine Ab (Ap U (.no U) U (.tm U) ty3 U U) U ?_;refine Ak ?_;refine Ak ?_;refine Aa (Ah (Ac ?_));refine Ac ?_;refine Ab (B7 U (.no U) U (.tm U) (.tm U)) U ?_;refine Ac ?_;refine Ab (Ar U (by exact .yes1 U U U U) U (.tmp U (by exact fun _=>rfl))) U ?_;refine Ab (Ar U (by exact .yes1 U U U U) U (.tmp U (by exact fun _=>rfl))) U ?_;refine Ab (by exact Aw U (by exact .yes1 U U U U) U (.tmp U (by exact id)) (.tmp U (by exact id)) Tryz.underlying131 Dc (fun hq=>by (try simp at hq);exact⟨by omega,(by exact Ax hri1)⟩)) U ?_;refine Ab (Ap U (by exact .yes1 U U U U) U (.tmp U (by exact id)) Dc U U) U ?_;refine Ab (Ar U (by exact .yes1 U U U U) U (.tmp U (by exact fun _=>rfl))) U ?_
     refine Ab (by exact Aw U (by exact .yes1 U U U U) U (.tmp U (by exact id)) (.tmp U (by exact id)) Tryz.underlying33 ty4 (fun hq=>by (try simp at hq);exact⟨by omega,(by exact Ax hb1)⟩)) U ?_;refine Ab (Ap U (by exact .yes1 U U U U) U (.tmp U (by exact id)) ty4 U U) U ?_;refine Ab (Cf U (.no U) U (.tm U) (.tmp U (by exact id))) U ?_;refine Aa (Aq (.tm U) (fun h39=>?_) (fun h39=>?_))
     · try simp at h39
       refine Af (A4 (σ':=⟨_,[(2,_),(8,_),(9,_),(10,_),(21,_),(22,_),(23,_)],[]⟩) (An U ⟨U,U,U,U,U,U,U,Y⟩ trivial) ?_);refine Ae (Av ?_);refine Aa (A3 (Bn U U ?_))
       unfold cycOf;rw [hgc,anyR_at hiN (by rw [←hbb];simpa using h39)];rfl
     · try simp at h39
       refine As (A4 (σ':=⟨_,[(2,_),(8,_),(9,_),(10,_),(21,_),(22,_),(23,_)],[]⟩) (An U ⟨U,U,U,U,U,U,U,Y⟩ trivial) ?_);refine Ae (Ab (Be U (.no U) U (.tm U) (.const U) (fun _=>by omega)) U ?_);refine Ac ?_;refine Aa ?_
       repeat (with_reducible refine Az ?_)
       refine Round1.next (i+1) ⟨⟨by omega,fun p hp=>by rcases Nat.lt_or_eq_of_le (Nat.le_of_lt_succ hp) with h|h;exact hk.2 p h;(subst h;rw [←hbb];simpa using h39)⟩,Y⟩ (by omega) (An rfl ⟨rfl,rfl,rfl,rfl,rfl,Y⟩ trivial)
   · try simp at h24
     refine Bf (Ah (Av ?_));refine Aa (A3 (Bn U U ?_))
     unfold cycOf;rw [anyR_none fun p hp=>hk.2 p (by omega)];simp
end Go.Proofs.YtbecibmlbiebeaaGreat
set_option maxHeartbeats 1000000
set_option maxRecDepth 100000
namespace Go.Q
open Go.D
section
variable {rel:Nat→Nat→Bool}
theorem cntRep_lt {i j:Nat} (h:isRep rel i=true) (hij:i<j):cntRep rel i<cntRep rel j:=by
 have h1:=cntRep_succ (rel:=rel) i
 rw [if_pos h] at h1
 have:=cntRep_mono (rel:=rel) (i:=i+1) (j:=j) (by omega)
 omega
theorem repOf_rel (i:Nat):repOf rel i=i∨rel i (repOf rel i)=true:=by
 rcases repOf_spec (rel:=rel) i with h|h
 · exact .inl h.2
 · exact .inr h.2.1
theorem numOf_inj (hs:∀ a b,rel a b=true→rel b a=true) (ht:∀ a b c,rel a b=true→rel b c=true→rel a c=true) {i k:Nat} (h:numOf rel i=numOf rel k):i=k∨rel i k=true:=by
 unfold numOf at h
 have h1:=repOf_rep ht i
 have h2:=repOf_rep ht k
 have e:repOf rel i=repOf rel k:=by
  rcases Nat.lt_trichotomy (repOf rel i) (repOf rel k) with h3|h3|h3
  · have:=cntRep_lt h1 h3;omega
  · exact h3
  · have:=cntRep_lt h2 h3;omega
 rcases repOf_rel (rel:=rel) i with h3|h3
 · rcases repOf_rel (rel:=rel) k with h4|h4
   · exact .inl (by omega)
   · exact .inr (by rw [h3] at e;rw [←e] at h4;exact hs _ _ h4)
 · rcases repOf_rel (rel:=rel) k with h4|h4
   · exact .inr (by rw [e,h4] at h3;exact h3)
   · exact .inr (by rw [e] at h3;exact ht _ _ _ h3 (hs _ _ h4))
theorem numOf_rel (hs:∀ a b,rel a b=true→rel b a=true) (ht:∀ a b c,rel a b=true→rel b c=true→rel a c=true) {i k:Nat} (h:rel i k=true):numOf rel i=numOf rel k:=by
 rcases Nat.lt_trichotomy i k with h1|rfl|h1
 · unfold numOf;rw [repOf_same hs ht (hs _ _ h) h1]
 · rfl
 · unfold numOf;rw [repOf_same hs ht h h1]
theorem numOf_surj (ht:∀ a b c,rel a b=true→rel b c=true→rel a c=true):∀ {N c:Nat},c<cntRep rel N→∃ i,i<N∧numOf rel i=c
 | 0,c,h=>by simp [cntRep] at h
 | N+1,c,h=>by
  rw [cntRep_succ] at h
  by_cases h1:c<cntRep rel N
  · obtain⟨i,hi,e⟩:=numOf_surj ht h1
    exact⟨i,by omega,e⟩
  · cases hr:isRep rel N with
    | true=>rw [hr,if_pos rfl] at h;exact⟨N,by omega,by rw [numOf_rep hr];omega⟩
    | false=>rw [hr] at h;simp only [Bool.false_eq_true,if_false] at h;omega
end
structure OrdF (N n:Nat) (C:Nat→Int) (r:Nat→Nat→Bool) (e:Nat→Nat→Prop):Prop where
 tr:∀ a b c,a<N→b<N→c<N→r a b=true→r b c=true→r a c=true
 ed:∀ a b,a<N→b<N→e a b→r a b=true
 pa:∀ a b,a<N→b<N→r a b=true→∀ Q:Nat→Prop,(∀ x y,x<N→y<N→e x y→Q y→Q x)→Q b→Q a
 co:∀ a b,a<N→b<N→(C a=C b↔a=b∨(r a b=true∧r b a=true))
 su:∀ c:Nat,c<n→∃ i,i<N∧C i=(c:Int)
 lt:∀ a,a<N→0≤C a∧C a<n
structure OI (N n:Nat) (C:Nat→Int) (r:Nat→Nat→Bool) (out:List Int):Prop where
 nd:out.Nodup
 rg:∀ c∈out,0≤c∧c<n
 cl:∀ c∈out,∀ i k,i<N→k<N→C k=c→r i k=true→C i∈out
def freeS (N:Nat) (C:Nat→Int) (r:Nat→Nat→Bool) (out:List Int) (c:Int):Prop:=c∉out∧∀ i k,i<N→k<N→C k=c→C i≠c→r i k=true→C i∈out
def freeI (N:Nat) (C:Nat→Int) (e:Nat→Nat→Prop) (out:List Int) (c:Int):Prop:=c∉out∧∀ i k,i<N→k<N→C i≠c→C i∉out→e i k→C k≠c
section
variable {N n:Nat} {C:Nat→Int} {r:Nat→Nat→Bool} {e:Nat→Nat→Prop} {out:List Int} {c:Int}
theorem free_iff (F:OrdF N n C r e) (h:OI N n C r out):freeS N C r out c↔freeI N C e out c:=by
 constructor
 · rintro⟨h1,h2⟩
   exact⟨h1,fun i k hi hk a1 a2 a3 a4=>a2 (h2 i k hi hk a4 a1 (F.ed i k hi hk a3))⟩
 · rintro⟨h1,h2⟩
   refine⟨h1,fun i k hi hk a1 a2 a3=>?_⟩
   have:=F.pa i k hi hk a3 (fun x=>C x=c∨C x∈out) (fun x y hx hy exy hq=>by
    by_cases g:C x=c
    · exact .inl g
    · by_cases g2:C x∈out
      · exact .inr g2
      · rcases hq with hq|hq
        · exact absurd hq (h2 x y hx hy g g2 exy)
        · exact .inr (h.cl _ hq x y hx hy rfl (F.ed x y hx hy exy))) (.inl a1)
   exact this.resolve_left a2
theorem OI.add (h:OI N n C r out) (hf:freeS N C r out c) (hc:0≤c∧c<n):OI N n C r (out++[c]):=by
 refine⟨?_,fun d hd=>?_,fun d hd i k hi hk a1 a2=>?_⟩
 · rw [List.nodup_append]
   refine⟨h.nd,by simp,fun a ha b hb=>?_⟩
   rw [List.mem_singleton] at hb
   subst hb;exact fun e=>hf.1 (by rw [←e];exact ha)
 · rcases List.mem_append.1 hd with hd|hd
   · exact h.rg d hd
   · rw [List.mem_singleton] at hd;subst hd;exact hc
 · rw [List.mem_append,List.mem_singleton]
   rcases List.mem_append.1 hd with hd|hd
   · exact .inl (h.cl d hd i k hi hk a1 a2)
   · rw [List.mem_singleton] at hd
     subst hd
     by_cases g:C i=d
     · exact .inr g
     · exact .inl (hf.2 i k hi hk a1 g a2)
theorem free_some (F:OrdF N n C r e):∀ (m i:Nat),i<N→C i∉out→(List.range N).countP (fun p=>decide (p=i)||r p i)≤m→∃ c:Nat,c<n∧freeS N C r out (c:Int)
 | m,i,hi,ho,hm=>by
  have hl:=F.lt i hi
  by_cases hf:freeS N C r out (C i)
  · exact⟨(C i).toNat,by omega,by rw [Int.toNat_of_nonneg hl.1];exact hf⟩
  · have hx:∃ j k,j<N∧k<N∧C k=C i∧C j≠C i∧r j k=true∧C j∉out:=Classical.byContradiction fun hno=>hf ⟨ho,fun j k hj hk a1 a2 a3=>Classical.byContradiction fun a4=>hno ⟨j,k,hj,hk,a1,a2,a3,a4⟩⟩
    obtain⟨j,k,hj,hk,a1,a2,a3,a4⟩:=hx
    have hji:r j i=true:=by
     rcases (F.co k i hk hi).1 a1 with rfl|h
     · exact a3
     · exact F.tr j k i hj hk hi a3 h.1
    have hlt:=countP_lt (p:=fun p=>decide (p=j)||r p j) (q:=fun p=>decide (p=i)||r p i) (a:=i) (l:=List.range N) (fun p hp hpj=>by
     have hp:=List.mem_range.1 hp
     simp only [Bool.or_eq_true,decide_eq_true_eq] at hpj ⊢
     rcases hpj with rfl|hpj
     · exact .inr hji
     · exact .inr (F.tr p j i hp hj hi hpj hji)) (List.mem_range.2 hi) (by
     simp only [Bool.or_eq_false_iff,decide_eq_false_iff_not]
     refine⟨fun e=>a2 (by rw [e]),?_⟩
     cases hr:r i j with
     | false=>rfl
     | true=>exact absurd ((F.co i j hi hj).2 (.inr ⟨hr,hji⟩)).symm a2) (by simp)
    match m with
    | 0=>omega
    | m+1=>exact free_some F m j hj a4 (by omega)
theorem free_ex (F:OrdF N n C r e) (h:OI N n C r out) (hl:out.length<n):∃ c:Nat,c<n∧freeS N C r out (c:Int):=by
 have:∃ c:Nat,c<n∧(c:Int)∉out:=Classical.byContradiction fun hno=>by
  have:=nodup_le (l:=(List.range n).map fun (c:Nat)=>(c:Int)) (r:=out) (by
   rw [List.nodup_iff_pairwise_ne,List.pairwise_map]
   exact List.Pairwise.imp (fun h e=>by omega) List.pairwise_lt_range) fun x hx=>by
   obtain⟨c,hc,rfl⟩:=List.mem_map.1 hx
   exact Classical.byContradiction fun hn=>hno ⟨c,List.mem_range.1 hc,hn⟩
  simp at this;omega
 obtain⟨c,hc,ho⟩:=this
 obtain⟨i,hi,he⟩:=F.su c hc
 exact free_some F _ i hi (by rw [he];exact ho) (Nat.le_refl _)
end
def ordG (p:List Int→Nat→Bool) (n:Nat):Nat→List Int→List Int
 | 0,out=>out
 | f+1,out=>match (List.range n).find? (p out) with
  | some c=>ordG p n f (out++[(c:Int)])
  | none=>out
theorem find_range {p:Nat→Bool} {n c:Nat} (hc:c<n) (h:p c=true) (hno:∀ d,d<c→p d=false):(List.range n).find? p=some c:=by
 rw [List.find?_eq_some_iff_append]
 refine⟨h,List.range c,(List.range (n-c)).tail.map (c+·),?_,fun d hd=>by rw [hno d (List.mem_range.1 hd)];rfl⟩
 obtain⟨m,rfl⟩:∃ m,n=c+1+m:=⟨n-(c+1),by omega⟩
 rw [show c+1+m-c=m+1 by omega,List.range_succ_eq_map,List.tail_cons,List.map_map,Nat.add_assoc,List.range_add,Nat.add_comm 1 m,List.range_succ_eq_map,List.map_cons,List.map_map]
 simp
theorem ordG_on {p:List Int→Nat→Bool} {n c:Nat} {out:List Int} (hl:out.length<n) (hc:c<n) (h:p out c=true) (hno:∀ d,d<c→p out d=false):ordG p n (n-out.length) out=ordG p n (n-(out++[(c:Int)]).length) (out++[(c:Int)]):=by
 obtain⟨f,hf⟩:∃ f,n-out.length=f+1:=⟨n-out.length-1,by omega⟩
 rw [hf,ordG,find_range hc h hno,List.length_append,List.length_singleton,show n-(out.length+1)=f by omega]
def freeB (N:Nat) (C:Nat→Int) (r:Nat→Nat→Bool) (out:List Int) (c:Int):Bool:=!decide (c∈out)&&(List.range N).all fun i=>(List.range N).all fun k=>!(decide (C k=c)&&(!decide (C i=c)&&(r i k&&!decide (C i∈out))))
def entB (next:List (List Int)) (C:Nat→Int) (out:List Int) (c:Int):Bool:=(List.range next.length).any fun i=>!decide (C i=c)&&(!decide (C i∈out)&&(nxL next i).any fun k=>decide (C k.toNat=c))
theorem freeB_iff {N:Nat} {C:Nat→Int} {r:Nat→Nat→Bool} {out:List Int} {c:Int}:freeB N C r out c=true↔freeS N C r out c:=by
 unfold freeB freeS
 simp only [Bool.and_eq_true,Bool.not_eq_true',decide_eq_false_iff_not,List.all_eq_true,List.mem_range,Bool.and_eq_false_iff,Bool.not_eq_false',decide_eq_true_eq]
 constructor
 · rintro⟨h1,h2⟩
   refine⟨h1,fun i k hi hk a1 a2 a3=>?_⟩
   rcases h2 i hi k hk with h|h|h|h
   · exact absurd a1 h
   · exact absurd h a2
   · rw [h] at a3;cases a3
   · exact h
 · rintro⟨h1,h2⟩
   refine⟨h1,fun i hi k hk=>?_⟩
   by_cases g1:C k=c
   · by_cases g2:C i=c
     · exact .inr (.inl g2)
     · cases g3:r i k with
       | false=>exact .inr (.inr (.inl rfl))
       | true=>exact .inr (.inr (.inr (h2 i k hi hk g1 g2 g3)))
   · exact .inl g1
theorem entB_iff {next:List (List Int)} (hn:∀ p,p<next.length→∀ k∈nxL next p,0≤k∧k<next.length) {C:Nat→Int} {out:List Int} {c:Int}:(!decide (c∈out)&&!entB next C out c)=true↔freeI next.length C (fun i k=>(k:Int)∈nxL next i) out c:=by
 unfold entB freeI
 simp only [Bool.and_eq_true,Bool.not_eq_true',decide_eq_false_iff_not,List.any_eq_false,List.mem_range,Bool.not_eq_true,Bool.and_eq_false_iff,Bool.not_eq_false',decide_eq_true_eq]
 constructor
 · rintro⟨h1,h2⟩
   exact⟨h1,fun i k hi hk a1 a2 a3 hc=>h2 i hi ⟨a1,a2,List.any_eq_true.2 ⟨_,a3,by simpa using hc⟩⟩⟩
 · rintro⟨h1,h2⟩
   refine⟨h1,fun i hi=>?_⟩
   rintro⟨g1,g2,g3⟩
   obtain⟨k,hk,hd⟩:=List.any_eq_true.1 g3
   have hb:=hn i hi k hk
   exact h2 i k.toNat hi (by omega) g1 g2 (by rwa [Int.toNat_of_nonneg hb.1]) (of_decide_eq_true hd)
end Go.Q
namespace Go.Q
open Go.D
theorem ordF {next:List (List Int)} (hn:∀ p,p<next.length→∀ k∈nxL next p,0≤k∧k<next.length):OrdF next.length (cntRep (relN next) next.length) (fun p=>((numOf (relN next) p:Nat):Int)) (fun i k=>(wK (nxL next) next.length i).testBit k) (fun i k=>(k:Int)∈nxL next i):=by
 have hn0:∀ p,∀ k∈nxL next p,0≤k∧k<next.length:=fun p k hk=>by
  by_cases hp:p<next.length
  · exact hn p hp k hk
  · unfold nxL at hk;rw [List.getElem?_eq_none (by omega)] at hk;cases hk
 have hs:=relN_symm next
 have ht:=relN_trans hn
 refine⟨fun a b c _ hb _ h1 h2=>wK_trans _ _ b a c hb h1 h2,fun a b _ _ h=>wK_more _ _ _ _ ((wB_test (fun k hk=>(hn0 a k hk).1) b).2 h),fun a b ha hb h Q hQ hq=>?_,fun a b _ _=>?_,fun c hc=>?_,fun a ha=>?_⟩
 · have h1:=wK_sound (fun p k hk=>(hn0 p k hk).1) _ _ _ h
   unfold R1 at h1
   have key:∀ q:Int,Rch (nxL next) (·∈nxL next a) q→Q q.toNat→Q a:=by
    intro q hr
    induction hr with
    | base hq0=>intro h;have:=hn0 _ _ hq0;exact hQ _ _ ha (by omega) (by rw [Int.toNat_of_nonneg this.1];exact hq0) h
    | @step q k hr hk ih=>
     intro h
     have h1:=hn0 _ _ hk
     have hqN:q.toNat<next.length:=by
      rcases Nat.lt_or_ge q.toNat next.length with h2|h2
      · exact h2
      · unfold nxL at hk;rw [List.getElem?_eq_none (by omega)] at hk;cases hk
     exact ih (hQ _ _ hqN (by omega) (by rw [Int.toNat_of_nonneg h1.1];exact hk) h)
   exact key _ h1 (by simpa using hq)
 · constructor
   · intro h
     rcases numOf_inj hs ht (by omega:numOf (relN next) a=numOf (relN next) b) with h|h
     · exact .inl h
     · unfold relN at h;rw [Bool.and_eq_true] at h;exact .inr h
   · rintro (rfl|h)
     · rfl
     · have:=numOf_rel hs ht (i:=a) (k:=b) (by unfold relN;rw [Bool.and_eq_true];exact h)
       first|omega|(simp only;omega)
 · obtain⟨i,hi,h⟩:=numOf_surj ht hc
   exact⟨i,hi,by first|omega|(simp only;omega)⟩
 · have h1:=numOf_lt ht a
   have h2:=cntRep_mono (rel:=relN next) (i:=a+1) (j:=next.length) (by omega)
   first|omega|(simp only;omega)
def ordOf (g:TGraph) (a:TAutomaton):List Int:=if goodC g a then ordG (fun out (c:Nat)=>freeB (NP g a) (fun p=>((numOf (relN (nextsV g a)) p:Nat):Int)) (fun i k=>(wK (nxL (nextsV g a)) (NP g a) i).testBit k) out c) (cntOf g a) (cntOf g a) [] else []
end Go.Q
set_option maxHeartbeats 1000000
set_option maxRecDepth 100000
namespace Go.Q
open Go.D
inductive CanR (nx:Nat→List Int) (G:Nat→Bool):Nat→Prop where
 | goal {i:Nat}:G i=true→CanR nx G i
 | step {i:Nat} {z:Int}:z∈nx i→CanR nx G z.toNat→CanR nx G i
theorem atI_set' {O:List Int} {k:Nat} {j v:Int} (hk:k<O.length):atI (O.set k v) j=if j.toNat=k then v else atI O j:=by
 unfold atI
 rw [List.getElem?_set]
 by_cases e:j.toNat=k
 · rw [e,if_pos rfl,if_pos hk,if_pos rfl];rfl
 · rw [if_neg (fun h=>e h.symm),if_neg e]
theorem atI_lo {O:List Int} {i:Nat} (hi:i<O.length) (h:∀ v∈O,-1≤v):-1≤atI O (i:Int):=h _ (List.mem_of_getElem? (atI_get (out:=O) (k:=(i:Int)) (by omega)))
def backOne (nx:Nat→List Int) (d:Int) (out:List Int) (i:Nat):List Int:=if atI out (i:Int)<0∧((nx i).any fun z=>decide (atI out z=d-1))=true then out.set i d else out
structure IsDist (nx:Nat→List Int) (G:Nat→Bool) (N:Nat) (O:List Int):Prop where
 len:O.length=N
 lo:∀ v∈O,-1≤v
 ex:∀ i,i<N→0<atI O (i:Int)→∃ z∈nx i,atI O z=atI O (i:Int)-1
 z0:∀ i,i<N→(atI O (i:Int)=0↔G i=true)
 cl:∀ i,i<N→∀ z∈nx i,0≤atI O z→0≤atI O (i:Int)∧atI O (i:Int)≤atI O z+1
structure DistI (nx:Nat→List Int) (G:Nat→Bool) (N:Nat) (d:Int) (O:List Int):Prop where
 len:O.length=N
 lo:∀ v∈O,-1≤v∧v<d
 ex:∀ i,i<N→0<atI O (i:Int)→∃ z∈nx i,atI O z=atI O (i:Int)-1
 z0:∀ i,i<N→(atI O (i:Int)=0↔G i=true)
 cl:∀ i,i<N→∀ z∈nx i,0≤atI O z→atI O z<d-1→0≤atI O (i:Int)∧atI O (i:Int)≤atI O z+1
section
variable {nx:Nat→List Int} {G:Nat→Bool} {N:Nat} {d:Int} {out:List Int}
structure DistM (nx:Nat→List Int) (N:Nat) (d:Int) (out o:List Int) (i:Nat):Prop where
 len:o.length=N
 lo:∀ v∈o,-1≤v∧v≤d
 old:∀ j,j<N→0≤atI out (j:Int)→atI o (j:Int)=atI out (j:Int)
 new:∀ j,j<N→atI out (j:Int)<0→atI o (j:Int)=atI out (j:Int)∨(atI o (j:Int)=d∧∃ z∈nx j,atI out z=d-1)
 dn:∀ j,j<i→j<N→∀ z∈nx j,0≤atI out z→0≤atI o (j:Int)
theorem DistM.start (h:DistI nx G N d out):DistM nx N d out out 0:=
 ⟨h.len,fun v hv=>by have:=h.lo v hv;omega,fun _ _ _=>rfl,fun _ _ _=>.inl rfl,fun j hj=>absurd hj (Nat.not_lt_zero j)⟩
theorem DistM.step (hd:1≤d) (hn:∀ p,p<N→∀ k∈nx p,0≤k∧k<N) (hI:DistI nx G N d out) {o:List Int} {i:Nat} (h:DistM nx N d out o i) (hi:i<N):DistM nx N d out (backOne nx d o i) (i+1):=by
 have hval:∀ z:Int,0≤z→z<N→(atI o z=d-1→atI out z=d-1)∧(atI out z=d-1→atI o z=d-1):=fun z h0 hz=>by
  have e:((z.toNat:Nat):Int)=z:=Int.toNat_of_nonneg h0
  have h1:=h.old z.toNat (by omega)
  have h2:=h.new z.toNat (by omega)
  rw [e] at h1 h2
  rcases Int.lt_or_le (atI out z) 0 with h3|h3
  · have:=h2 h3
    rcases this with h4|h4<;>omega
  · have:=h1 h3;omega
 have hdone:∀ z∈nx i,0≤atI out z→atI o (i:Int)<0→atI o z=d-1:=fun z hz h0 hneg=>by
  have hb:=hn i hi z hz
  have hlt:atI out z<d:=(hI.lo _ (List.mem_of_getElem? (atI_get (out:=out) (k:=z) (by rw [hI.len];omega)))).2
  rcases Int.lt_or_le (atI out z) (d-1) with h3|h3
  · have h4:=(hI.cl i hi z hz h0 h3).1
    have:=h.old i hi h4
    omega
  · exact (hval z hb.1 hb.2).2 (by omega)
 unfold backOne
 split
 · rename_i hc
   obtain⟨z,hz,hzd⟩:=List.any_eq_true.1 hc.2
   have hzd:=of_decide_eq_true hzd
   have hb:=hn i hi z hz
   have hil:i<o.length:=by rw [h.len];exact hi
   have hat:∀ j:Nat,atI (o.set i d) (j:Int)=if j=i then d else atI o (j:Int):=fun j=>by rw [atI_set' hil];simp
   refine⟨by rw [List.length_set];exact h.len,fun v hv=>?_,fun j hj hv=>?_,fun j hj hv=>?_,fun j hji hj y hy hv=>?_⟩
   · rcases List.mem_or_eq_of_mem_set hv with hv|rfl
     · exact h.lo v hv
     · omega
   · rw [hat]
     by_cases e:j=i
     · subst e;have:=h.old j hj hv;omega
     · rw [if_neg e];exact h.old j hj hv
   · rw [hat]
     by_cases e:j=i
     · subst e;rw [if_pos rfl];exact .inr ⟨rfl,z,hz,(hval z hb.1 hb.2).1 hzd⟩
     · rw [if_neg e];exact h.new j hj hv
   · rw [hat]
     by_cases e:j=i
     · rw [if_pos e];omega
     · rw [if_neg e];exact h.dn j (by omega) hj y hy hv
 · rename_i hc
   refine⟨h.len,h.lo,h.old,h.new,fun j hji hj y hy hv=>?_⟩
   by_cases e:j=i
   · subst e
     rcases Int.lt_or_le (atI o (j:Int)) 0 with h3|h3
     · exact absurd ⟨h3,List.any_eq_true.2 ⟨y,hy,decide_eq_true (hdone y hy hv h3)⟩⟩ hc
     · exact h3
   · exact h.dn j (by omega) hj y hy hv
theorem DistM.done (hd:1≤d) (hn:∀ p,p<N→∀ k∈nx p,0≤k∧k<N) (hI:DistI nx G N d out) {o:List Int} (h:DistM nx N d out o N):DistI nx G N (d+1) o:=by
 have hlo:∀ i,i<N→ -1≤atI out (i:Int)∧atI out (i:Int)<d:=fun i hi=>hI.lo _ (List.mem_of_getElem? (atI_get (out:=out) (k:=(i:Int)) (by rw [hI.len];omega)))
 have hnz:∀ i,i<N→∀ z∈nx i,z=((z.toNat:Nat):Int)∧z.toNat<N:=fun i hi z hz=>by have:=hn i hi z hz;omega
 refine⟨h.len,fun v hv=>by have:=h.lo v hv;omega,fun i hi hp=>?_,fun i hi=>?_,fun i hi z hz h0 h1=>?_⟩
 · rcases Int.lt_or_le (atI out (i:Int)) 0 with h3|h3
   · rcases h.new i hi h3 with h4|⟨h4,z,hz,h5⟩
     · omega
     · obtain⟨e,hzN⟩:=hnz i hi z hz
       refine⟨z,hz,?_⟩
       rw [e] at h5 ⊢
       rw [h.old _ hzN (by omega)];omega
   · have h4:=h.old i hi h3
     obtain⟨z,hz,h5⟩:=hI.ex i hi (by omega)
     obtain⟨e,hzN⟩:=hnz i hi z hz
     refine⟨z,hz,?_⟩
     rw [e] at h5 ⊢
     rw [h.old _ hzN (by omega)];omega
 · rw [←hI.z0 i hi]
   rcases Int.lt_or_le (atI out (i:Int)) 0 with h3|h3
   · rcases h.new i hi h3 with h4|⟨h4,_⟩<;>omega
   · rw [h.old i hi h3]
 · obtain⟨e,hzN⟩:=hnz i hi z hz
   have hz0:0≤atI out z∧atI o z=atI out z:=by
    rw [e] at h0 h1 ⊢
    rcases Int.lt_or_le (atI out ((z.toNat:Nat):Int)) 0 with h3|h3
    · rcases h.new _ hzN h3 with h4|⟨h4,_⟩<;>omega
    · exact⟨h3,h.old _ hzN h3⟩
   have hpos:=h.dn i hi hi z hz hz0.1
   refine⟨hpos,?_⟩
   rcases Int.lt_or_le (atI out z) (d-1) with h3|h3
   · have h4:=hI.cl i hi z hz hz0.1 h3
     rw [h.old i hi h4.1];omega
   · have:=h.lo _ (List.mem_of_getElem? (atI_get (out:=o) (k:=(i:Int)) (by rw [h.len];omega)))
     omega
theorem DistM.stay (hI:DistI nx G N d out) (h:DistM nx N d out out N):IsDist nx G N out:=by
 refine⟨hI.len,fun v hv=>(hI.lo v hv).1,hI.ex,hI.z0,fun i hi z hz h0=>?_⟩
 have hpos:=h.dn i hi hi z hz h0
 refine⟨hpos,?_⟩
 rcases Int.lt_or_le (atI out z) (d-1) with h3|h3
 · exact (hI.cl i hi z hz h0 h3).2
 · have:=(hI.lo _ (List.mem_of_getElem? (atI_get (out:=out) (k:=(i:Int)) (by rw [hI.len];omega)))).2
   omega
theorem IsDist.le (hn:∀ p,p<N→∀ k∈nx p,0≤k∧k<N) {A B:List Int} (hA:IsDist nx G N A) (hB:IsDist nx G N B):∀ (n i:Nat),i<N→atI A (i:Int)=n→0≤atI B (i:Int)∧atI B (i:Int)≤n
 | 0,i,hi,h=>by
  have:=(hB.z0 i hi).2 ((hA.z0 i hi).1 (by simpa using h))
  omega
 | n+1,i,hi,h=>by
  obtain⟨z,hz,h5⟩:=hA.ex i hi (by omega)
  have hb:=hn i hi z hz
  have e:((z.toNat:Nat):Int)=z:=Int.toNat_of_nonneg hb.1
  have ih:=IsDist.le hn hA hB n z.toNat (by omega) (by rw [e];omega)
  rw [e] at ih
  have:=hB.cl i hi z hz ih.1
  omega
theorem IsDist.uniq (hn:∀ p,p<N→∀ k∈nx p,0≤k∧k<N) {A B:List Int} (hA:IsDist nx G N A) (hB:IsDist nx G N B):A=B:=by
 refine List.ext_getElem? fun i=>?_
 by_cases hi:i<N
 · have h1:=atI_get (out:=A) (k:=(i:Int)) (by rw [hA.len];omega)
   have h2:=atI_get (out:=B) (k:=(i:Int)) (by rw [hB.len];omega)
   have l1:=atI_lo (O:=A) (i:=i) (by rw [hA.len];exact hi) hA.lo
   have l2:=atI_lo (O:=B) (i:=i) (by rw [hB.len];exact hi) hB.lo
   simp only [Int.toNat_natCast] at h1 h2
   rw [h1,h2]
   congr 1
   rcases Int.lt_or_le (atI A (i:Int)) 0 with h3|h3
   · rcases Int.lt_or_le (atI B (i:Int)) 0 with h4|h4
     · omega
     · have:=IsDist.le hn hB hA (atI B (i:Int)).toNat i hi (by omega);omega
   · have h4:=IsDist.le hn hA hB (atI A (i:Int)).toNat i hi (by omega)
     have h5:=IsDist.le hn hB hA (atI B (i:Int)).toNat i hi (by omega)
     omega
 · rw [List.getElem?_eq_none (by rw [hA.len];omega),List.getElem?_eq_none (by rw [hB.len];omega)]
theorem IsDist.can (hn:∀ p,p<N→∀ k∈nx p,0≤k∧k<N) {A:List Int} (hA:IsDist nx G N A) {i:Nat} (hi:i<N):0≤atI A (i:Int)↔CanR nx G i:=by
 constructor
 · intro h
   have key:∀ (n i:Nat),i<N→atI A (i:Int)=n→CanR nx G i:=by
    intro n
    induction n with
    | zero=>exact fun i hi h=>.goal ((hA.z0 i hi).1 (by simpa using h))
    | succ n ih=>
     intro i hi h
     obtain⟨z,hz,h5⟩:=hA.ex i hi (by omega)
     have hb:=hn i hi z hz
     exact .step hz (ih z.toNat (by omega) (by rw [Int.toNat_of_nonneg hb.1];omega))
   exact key (atI A (i:Int)).toNat i hi (by omega)
 · intro hc
   induction hc with
   | goal hg=>have:=(hA.z0 _ hi).2 hg;omega
   | @step i z hz _ ih=>
    have hb:=hn i hi z hz
    have:=ih (by omega)
    rw [Int.toNat_of_nonneg hb.1] at this
    exact (hA.cl i hi z hz this).1
end
open Classical in
noncomputable def distOf (nx:Nat→List Int) (G:Nat→Bool) (N:Nat):List Int:=if h:∃ O,IsDist nx G N O then h.choose else []
inductive OneAt {β:Type} (es:List β) (tst:β→List Int→Bool) (i:Nat) (d:Int) (O1:List Int) (c1:Bool):Nat→List Int→Bool→Prop where
 | still {j:Nat}:(∀ e∈es.take j,tst e O1=false)→OneAt es tst i d O1 c1 j O1 c1
 | set {j:Nat} {e:β}:e∈es→tst e O1=true→atI O1 (i:Int)<0→OneAt es tst i d O1 c1 j (O1.set i d) true
theorem OneAt.fin {β:Type} {es:List β} {tst:β→List Int→Bool} {i:Nat} {d:Int} {O1 O2:List Int} {c1 c2:Bool} {j:Nat} {nx:Nat→List Int} (hd:0≤d) (hi:i<O1.length) (hnx:((nx i).any fun z=>decide (atI O1 z=d-1))=es.any fun e=>tst e O1) (h:OneAt es tst i d O1 c1 j O2 c2) (hx:es.length≤j∨0≤atI O2 (i:Int)) :
 O2=backOne nx d O1 i∧(c2=false→O2=O1∧c1=false)∧(c2=true→c1=true∨negs O2<negs O1)∧negs O2≤negs O1:=by
 unfold backOne
 rw [hnx]
 cases h with
 | still h=>
  refine⟨?_,fun e=>⟨rfl,e⟩,fun e=>.inl e,Nat.le_refl _⟩
  rw [if_neg]
  rintro⟨h1,h2⟩
  rcases hx with hx|hx
  · obtain⟨e,he,h3⟩:=List.any_eq_true.1 h2
    rw [List.take_of_length_le hx] at h
    rw [h e he] at h3;cases h3
  · omega
 | set h1 h2 h3=>
  have h4:=negs_set hd (atI_get (out:=O1) (k:=(i:Int)) (by omega)) h3
  rw [Int.toNat_natCast] at h4
  refine⟨?_,fun e=>(by cases e),fun _=>.inr (by omega),by omega⟩
  rw [if_pos ⟨h3,List.any_eq_true.2 ⟨_,h1,h2⟩⟩]
theorem OneAt.on {β:Type} {es:List β} {tst:β→List Int→Bool} {i:Nat} {d:Int} {O1 O2:List Int} {c1 c2:Bool} {j:Nat} (hd:0≤d) (hi:i<O1.length) (h:OneAt es tst i d O1 c1 j O2 c2) (hneg:atI O2 (i:Int)<0):O2=O1∧c2=c1∧∀ e∈es.take j,tst e O1=false:=by
 cases h with
 | still h=>exact⟨rfl,rfl,h⟩
 | set h1 h2 h3=>
  rw [atI_set' hi,Int.toNat_natCast,if_pos rfl] at hneg
  omega
theorem OneAt.next {β:Type} {es:List β} {tst:β→List Int→Bool} {i:Nat} {d:Int} {O1 O2:List Int} {c1 c2:Bool} {j:Nat} {z:β} (hd:0≤d) (hi:i<O1.length) (h:OneAt es tst i d O1 c1 j O2 c2) (hneg:atI O2 (i:Int)<0) (hz:es[j]?=some z):(tst z O2=true→OneAt es tst i d O1 c1 (j+1) (O2.set i d) true)∧(tst z O2=false→OneAt es tst i d O1 c1 (j+1) O2 c2):=by
 obtain⟨rfl,rfl,h3⟩:=h.on hd hi hneg
 refine⟨fun ht=>.set (List.mem_of_getElem? hz) ht hneg,fun ht=>.still fun e he=>?_⟩
 rw [take_at hz] at he
 rcases List.mem_append.1 he with h4|h4
 · exact h3 e h4
 · rw [List.mem_singleton] at h4;subst h4;exact ht
end Go.Q
set_option maxHeartbeats 1000000
set_option maxRecDepth 100000
namespace Go.Q
open Go.D
inductive WC (E:Nat→List (Int×Int)) (G:Nat→Bool):Nat→Int→Prop where
 | goal {i:Nat}:G i=true→WC E G i 0
 | step {i:Nat} {z c d:Int}:(z,c)∈E i→WC E G z.toNat d→WC E G i (c+d)
theorem atI_setN {O:List Int} {k j:Nat} {v:Int} (hk:k<O.length):atI (O.set k v) (j:Int)=if j=k then v else atI O (j:Int):=by
 unfold atI
 simp only [Int.toNat_natCast]
 rw [List.getElem?_set]
 by_cases e:j=k
 · subst e;rw [if_pos rfl,if_pos hk,if_pos rfl];rfl
 · rw [if_neg (fun h=>e h.symm),if_neg e]
theorem negs_set_same {v:Int} (hv:0≤v):∀ {out:List Int} {k:Nat} {x:Int},out[k]?=some x→0≤x→negs (out.set k v)=negs out
 | [],_,_,h,_=>by simp at h
 | y::l,0,x,h,hx=>by
  simp at h
  subst h
  rw [List.set_cons_zero,negs_cons,negs_cons,if_neg (by omega),if_neg (by omega)]
 | y::l,k+1,x,h,hx=>by
  rw [List.set_cons_succ,negs_cons,negs_cons,negs_set_same hv (out:=l) (k:=k) (by simpa using h) hx]
def phi (B:Nat) (O:List Int):Nat:=(O.map fun v=>if v<0 then B else v.toNat).sum
theorem phi_set {B:Nat} {v:Int}:∀ {O:List Int} {k:Nat} {x:Int},O[k]?=some x→phi B (O.set k v)+(if x<0 then B else x.toNat)=phi B O+(if v<0 then B else v.toNat)
 | [],_,_,h=>by simp at h
 | y::l,0,x,h=>by
  simp at h
  subst h
  unfold phi
  simp;omega
 | y::l,k+1,x,h=>by
  have:=phi_set (B:=B) (v:=v) (O:=l) (k:=k) (by simpa using h)
  unfold phi at *
  simp only [List.set_cons_succ,List.map_cons,List.sum_cons]
  omega
structure CI (E:Nat→List (Int×Int)) (G:Nat→Bool) (N:Nat) (O:List Int):Prop where
 len:O.length=N
 lo:∀ v∈O,-1≤v
 hi:∀ v∈O,v+9*(negs O:Int)≤9*N
 snd:∀ i,i<N→0≤atI O (i:Int)→WC E G i (atI O (i:Int))
 gl:∀ i,i<N→G i=true→atI O (i:Int)=0
def fixd (O:List Int) (i:Nat) (e:Int×Int):Prop:=atI O e.1<0∨(0≤atI O (i:Int)∧atI O (i:Int)≤atI O e.1+e.2)
section
variable {E:Nat→List (Int×Int)} {G:Nat→Bool} {N:Nat} {O:List Int}
theorem CI.at (h:CI E G N O) {i:Nat} (hi:i<N):-1≤atI O (i:Int)∧atI O (i:Int)+9*(negs O:Int)≤9*N:=by
 have hm:=List.mem_of_getElem? (atI_get (out:=O) (k:=(i:Int)) (by rw [h.len];simpa using hi))
 exact⟨h.lo _ hm,h.hi _ hm⟩
theorem CI.step (h:CI E G N O) {i:Nat} {z c:Int} (hi:i<N) (he:(z,c)∈E i) (hz:0≤z∧z<N) (hc:0≤c∧c≤9) (hd:0≤atI O z) (hl:atI O (i:Int)<0∨atI O z+c<atI O (i:Int)) :
 CI E G N (O.set i (atI O z+c))∧phi (9*N+1) (O.set i (atI O z+c))<phi (9*N+1) O:=by
 obtain⟨zn,rfl⟩:=Int.eq_ofNat_of_zero_le hz.1
 have hzN:zn<N:=by omega
 have hil:i<O.length:=by rw [h.len];exact hi
 have hgi:O[i]?=some (atI O (i:Int)):=by have:=atI_get (out:=O) (k:=(i:Int)) (by simpa using hil);simpa using this
 have hzv:=h.at hzN
 have hiv:=h.at hi
 have hng:negs O=negs (O.set i (atI O (zn:Int)+c))+(if atI O (i:Int)<0 then 1 else 0):=by
  by_cases hn:atI O (i:Int)<0
  · rw [if_pos hn];exact (negs_set (by omega) hgi hn).symm
  · rw [if_neg hn,negs_set_same (by omega) hgi (by omega)];omega
 constructor
 · refine⟨by rw [List.length_set];exact h.len,fun v hv=>?_,fun v hv=>?_,fun j hj hjv=>?_,fun j hj hG=>?_⟩
   · rcases List.mem_or_eq_of_mem_set hv with hv|rfl
     · exact h.lo v hv
     · omega
   · rcases List.mem_or_eq_of_mem_set hv with hv|rfl
     · have:=h.hi v hv
       split at hng<;>omega
     · split at hng<;>omega
   · rw [atI_setN hil] at hjv ⊢
     by_cases e:j=i
     · subst e
       rw [if_pos rfl,Int.add_comm]
       exact .step he (by simpa using h.snd zn hzN hd)
     · rw [if_neg e] at hjv ⊢
       exact h.snd j hj hjv
   · rw [atI_setN hil]
     by_cases e:j=i
     · subst e
       have:=h.gl j hj hG
       omega
     · rw [if_neg e];exact h.gl j hj hG
 · have hp:=phi_set (B:=9*N+1) (v:=atI O (zn:Int)+c) hgi
   rw [if_neg (show ¬ atI O (zn:Int)+c<0 by omega)] at hp
   by_cases hn:atI O (i:Int)<0
   · rw [if_pos hn] at hp hng;omega
   · rw [if_neg hn] at hp hng;omega
theorem CI.least (h:CI E G N O) (hE:∀ i,i<N→∀ e∈E i,0≤e.1∧e.1<N) (hf:∀ i,i<N→∀ e∈E i,fixd O i e) {i:Nat} {d:Int} (hw:WC E G i d):i<N→0≤atI O (i:Int)∧atI O (i:Int)≤d:=by
 induction hw with
 | goal hg=>intro hi;rw [h.gl _ hi hg];omega
 | @step i z c d he _ ih=>
  intro hi
  have hz:=hE i hi _ he
  have h1:=ih (show z.toNat<N by have h5:(z,c).1<(N:Int):=hz.2;have h6:0≤(z,c).1:=hz.1;dsimp only at h5 h6;omega)
  have hzz:((z.toNat:Nat):Int)=z:=Int.toNat_of_nonneg hz.1
  rw [hzz] at h1
  rcases hf i hi _ he with h2|h2
  · simp only at h2;omega
  · simp only at h2;omega
theorem CI.same {O':List Int} (h:CI E G N O) (h':CI E G N O') (hE:∀ i,i<N→∀ e∈E i,0≤e.1∧e.1<N) (hf:∀ i,i<N→∀ e∈E i,fixd O i e) (hf':∀ i,i<N→∀ e∈E i,fixd O' i e) {i:Nat} (hi:i<N):atI O (i:Int)=atI O' (i:Int):=by
 have a1:=(h.at hi).1
 have a2:=(h'.at hi).1
 by_cases h1:0≤atI O (i:Int)
 · have b1:=h'.least hE hf' (h.snd i hi h1) hi
   have b2:=h.least hE hf (h'.snd i hi b1.1) hi
   omega
 · by_cases h2:0≤atI O' (i:Int)
   · have b2:=h.least hE hf (h'.snd i hi h2) hi
     omega
   · omega
end
def lessW (w v:Int×Int):Bool:=decide (v.1<0)||(decide (w.1<v.1)||(decide (w.1=v.1)&&decide (w.2<v.2)))
def sumS (W:List (Int×Int)):Nat:=(W.map fun w=>w.2.toNat).sum
def atW (W:List (Int×Int)) (k:Int):Int×Int:=W[k.toNat]?.getD (0,0)
theorem atW_fst (W:List (Int×Int)) (k:Int):(atW W k).1=atI (W.map (·.1)) k:=by
 unfold atW atI
 rw [List.getElem?_map]
 cases W[k.toNat]?<;>rfl
theorem atW_get {W:List (Int×Int)} {k:Int} (h:k.toNat<W.length):W[k.toNat]?=some (atW W k):=by
 unfold atW;rw [List.getElem?_eq_getElem h];rfl
theorem sumS_set {v:Int×Int}:∀ {W:List (Int×Int)} {k:Nat} {x:Int×Int},W[k]?=some x→sumS (W.set k v)+x.2.toNat=sumS W+v.2.toNat
 | [],_,_,h=>by simp at h
 | y::l,0,x,h=>by
  simp at h
  subst h
  unfold sumS
  simp;omega
 | y::l,k+1,x,h=>by
  have:=sumS_set (v:=v) (W:=l) (k:=k) (by simpa using h)
  unfold sumS at *
  simp only [List.set_cons_succ,List.map_cons,List.sum_cons]
  omega
theorem sumS_le {b:Nat}:∀ {W:List (Int×Int)},(∀ w∈W,w.2≤b)→sumS W≤W.length*b
 | [],_=>by simp [sumS]
 | y::l,h=>by
  have h1:=sumS_le (W:=l) fun v hv=>h v (by simp [hv])
  have h2:=h y (by simp)
  unfold sumS at *
  simp only [List.map_cons,List.sum_cons,List.length_cons,Nat.succ_mul]
  omega
structure CW (E:Nat→List (Int×Int)) (G:Nat→Bool) (N P0:Nat) (W:List (Int×Int)):Prop where
 ci:CI E G N (W.map (·.1))
 ps:phi (9*N+1) (W.map (·.1))≤P0
 st:∀ w∈W,0≤w.2∧w.2+phi (9*N+1) (W.map (·.1))≤P0
def msW (N P0:Nat) (W:List (Int×Int)):Nat:=phi (9*N+1) (W.map (·.1))*(N*P0+1)+sumS W
section
variable {E:Nat→List (Int×Int)} {G:Nat→Bool} {N P0:Nat} {W:List (Int×Int)}
theorem CW.len (h:CW E G N P0 W):W.length=N:=by have:=h.ci.len;simpa using this
theorem CW.step (h:CW E G N P0 W) {i:Nat} {z c:Int} (hi:i<N) (he:(z,c)∈E i) (hz:0≤z∧z<N) (hc:0≤c∧c≤9) (hd:0≤(atW W z).1) (hl:lessW ((atW W z).1+c,(atW W z).2+1) (atW W (i:Int))=true) :
 CW E G N P0 (W.set i ((atW W z).1+c,(atW W z).2+1))∧msW N P0 (W.set i ((atW W z).1+c,(atW W z).2+1))<msW N P0 W:=by
 have hil:i<W.length:=by rw [h.len];exact hi
 have hgi:W[i]?=some (atW W (i:Int)):=by have:=atW_get (W:=W) (k:=(i:Int)) (by simpa using hil);simpa using this
 have hgz:W[z.toNat]?=some (atW W z):=atW_get (by rw [h.len];omega)
 have hsz:=h.st _ (List.mem_of_getElem? hgz)
 have hsi:=h.st _ (List.mem_of_getElem? hgi)
 have hmap:(W.set i ((atW W z).1+c,(atW W z).2+1)).map (·.1)=(W.map (·.1)).set i ((atW W z).1+c):=by rw [List.map_set]
 have hz1:=atW_fst W z
 have hi1:=atW_fst W (i:Int)
 unfold lessW at hl
 simp only [Bool.or_eq_true,Bool.and_eq_true,decide_eq_true_eq] at hl
 by_cases hcost:(atW W (i:Int)).1<0∨(atW W z).1+c<(atW W (i:Int)).1
 · obtain⟨g1,g2⟩:=h.ci.step hi he hz hc (by rw [←hz1];exact hd) (by rw [←hz1,←hi1];exact hcost)
   rw [←hz1,←hmap] at g1 g2
   have hst:∀ w∈W.set i ((atW W z).1+c,(atW W z).2+1),0≤w.2∧w.2+phi (9*N+1) ((W.set i ((atW W z).1+c,(atW W z).2+1)).map (·.1))≤P0:=fun w hw=>by
    rcases List.mem_or_eq_of_mem_set hw with hw|rfl
    · have:=h.st w hw;omega
    · simp only;omega
   have hps:=h.ps
   refine⟨⟨g1,by omega,hst⟩,?_⟩
   have hs:=sumS_le (b:=P0) (W:=W.set i ((atW W z).1+c,(atW W z).2+1)) fun w hw=>by have:=hst w hw;omega
   rw [List.length_set,h.len] at hs
   unfold msW
   have:=Nat.mul_le_mul_right (N*P0+1) (Nat.succ_le_of_lt g2)
   rw [Nat.succ_mul] at this
   omega
 · have heq:(atW W z).1+c=(atW W (i:Int)).1∧(atW W z).2+1<(atW W (i:Int)).2:=by
    rcases hl with h1|h1|h1
    · omega
    · omega
    · exact h1
   have hsame:(W.set i ((atW W z).1+c,(atW W z).2+1)).map (·.1)=W.map (·.1):=by
    rw [hmap,heq.1]
    apply List.ext_getElem?;intro j
    rw [List.getElem?_set]
    by_cases e:i=j
    · subst e
      rw [if_pos rfl,if_pos (by simpa using hil),List.getElem?_map,hgi];rfl
    · rw [if_neg e]
   refine⟨⟨by rw [hsame];exact h.ci,by rw [hsame];exact h.ps,fun w hw=>?_⟩,?_⟩
   · rw [hsame]
     rcases List.mem_or_eq_of_mem_set hw with hw|rfl
     · exact h.st w hw
     · simp only;omega
   · have hs:=sumS_set (v:=((atW W z).1+c,(atW W z).2+1)) hgi
     unfold msW
     rw [hsame]
     simp only at hs
     omega
end
end Go.Q
namespace Go.Q
open Go.RowKit
section
variable {u v:Nat} {I:Ip} {w:World}
end
theorem Le.trans {σ σ' σ'':St} (h1:Le σ σ') (h2:Le σ' σ''):Le σ σ'':=fun w0 a w h=>h2 w0 a w (h1 w0 a w h)
section
variable {Q:Exit→St→Prop} {σ:St}
theorem ThenQ.ex {K:St→Prop} {i:Nat} (h:Q (.exit i) σ):ThenQ K Q (.exit i) σ:=h
theorem BlockQ.here {i:Nat} (h:Q .normal σ):BlockQ i Q (.exit i) σ:=by
 show (bif Nat.beq i i then Q .normal σ else Q (.exit i) σ)
 rw [Nat.beq_refl];exact h
theorem BlockQ.past {i j:Nat} (hne:Nat.beq i j=false) (h:Q (.exit i) σ):BlockQ j Q (.exit i) σ:=by
 show (bif Nat.beq i j then Q .normal σ else Q (.exit i) σ)
 rw [hne];exact h
theorem Round1.ex {β1:Type} {Inv:β1→Prop} {J:β1→St} {m:β1→Nat} {a1:β1} {i:Nat} (h:Q (.exit i) σ):Round1 Inv J m a1 Q (.exit i) σ:=h
theorem Round2.ex {β1 β2:Type} {Inv:β1→β2→Prop} {J:β1→β2→St} {m:β1→β2→Nat} {a1:β1} {a2:β2} {i:Nat} (h:Q (.exit i) σ):Round2 Inv J m a1 a2 Q (.exit i) σ:=h
theorem Round3.ex {β1 β2 β3:Type} {Inv:β1→β2→β3→Prop} {J:β1→β2→β3→St} {m:β1→β2→β3→Nat} {a1:β1} {a2:β2} {a3:β3} {i:Nat} (h:Q (.exit i) σ):Round3 Inv J m a1 a2 a3 Q (.exit i) σ:=h
theorem Round4.ex {β1 β2 β3 β4:Type} {Inv:β1→β2→β3→β4→Prop} {J:β1→β2→β3→β4→St} {m:β1→β2→β3→β4→Nat} {a1:β1} {a2:β2} {a3:β3} {a4:β4} {i:Nat} (h:Q (.exit i) σ):Round4 Inv J m a1 a2 a3 a4 Q (.exit i) σ:=h
theorem Round5.ex {β1 β2 β3 β4 β5:Type} {Inv:β1→β2→β3→β4→β5→Prop} {J:β1→β2→β3→β4→β5→St} {m:β1→β2→β3→β4→β5→Nat} {a1:β1} {a2:β2} {a3:β3} {a4:β4} {a5:β5} {i:Nat} (h:Q (.exit i) σ):Round5 Inv J m a1 a2 a3 a4 a5 Q (.exit i) σ:=h
end
section
variable {P:Program} {ops:Array Oper} {o:Oper} {σ:St} {q:Bool}
theorem R_grd {x:S} (hg:Grd ops o σ q) (hd:o.dst.all (fun d=>Nat.blt d σ.n)=true) (h:q=true→Op1 P ops { o with guard:=none } σ (σ.put o.dst (true,x))):Op1 P ops o σ (σ.put o.dst (q,x)):=by
 rintro w0 a w ⟨I,hr⟩ K Q hK
 rw [hg.wanted hr]
 cases q with
 | false=>exact hK _ _ ⟨I,hr.put hd rfl⟩
 | true=>exact h rfl w0 a w ⟨I,hr⟩ K Q hK
end
end Go.Q
namespace Go.Q
open Go.RowKit
end Go.Q
namespace Go.Q
open Go.RowKit
theorem Le.frzR (id d:Nat) {n k:Nat} {sl:List (Nat×(Bool×S))} {rs:List (Nat×R)} {rows:List (List T)} (h1:look rs id=some (.row k rows)) (h2:look sl d=some (true,.a (.one (.rf id)))) :
 Le ⟨n,sl,rs⟩ ⟨n,(d,(true,.a (.one (.t (.sl k rows)))))::((⟨n,sl,rs⟩:St).chg id (.hdr none undef)).slots,((⟨n,sl,rs⟩:St).chg id (.hdr none undef)).res⟩:=by
 rintro w0 a w ⟨I,hr⟩
 have hC:C true w (.sl k rows) (I.hd id) (I.F id):=hr.res id _ h1
 have hv:VS I w (true,.a (.one (.rf id))) (a.tmps.getD d undef):=hr.slots d _ h2
 obtain⟨hv,_⟩:VE I w (.rf id) (a.tmps.getD d undef):=hv
 have s1:=hr.chg h1 (Chg.refl w _) (G:=[]) (u:=undef) (r:=.hdr none undef) ⟨List.nodup_nil,by simp⟩ ⟨by simp [Ip.set],fun i h=>by cases h⟩
 have s2:=s1.also (G:=I.F id) fun b hb=>by
  refine⟨(hr.lt id b hb).1,fun i hi=>?_⟩
  by_cases e:i=id
  · subst e;simp [Ip.set] at hi
  · simp only [Ip.set,if_neg e] at hi
    exact hr.apart i id e _ hi hb
 refine⟨_,⟨s2.ext,s2.defers,s2.size,fun i x hx=>?_,s2.res,s2.old,s2.lt,s2.own,s2.apart⟩⟩
 rw [look_cons] at hx
 by_cases ei:d=i
 · rw [if_pos ei] at hx
   cases hx
   subst ei
   exact⟨I.F id,by rw [hv];exact hC.read,fun b hb=>.inr hb⟩
 · rw [if_neg ei] at hx
   exact s2.slots i x hx
section
variable {P:Program} {ops:Array Oper} {o:Oper} {σ:St}
end
end Go.Q
namespace Go.Q
open Go.RowKit
section
variable {P:Program}
structure MixD (P:Program) (l:List Oper) (n:Nat) (sl:List (Nat×(Bool×S))) (rs:List (Nat×R)) (outs:List Out) (acc:List (Nat×St)) (todo:List (Nat×List Nat)) (es:List (Nat×Nat×Nat)) (Fin:(Nat→St)→Prop):Prop where
 pf:∃ st:Nat→St,(∀ k σ,look acc k=some σ→st k=σ)∧(∀ p∈todo,Le (stL (memN p.2) 0 outs ⟨n,sl,rs⟩) (st p.1))∧(∀ e∈es,∀ o,l[e.2.1]?=some o→∀ w0,AWl P w0 l.toArray (EndQ (st e.2.2)) [o] (st e.1))∧Fin st
variable {l:List Oper} {n:Nat} {sl:List (Nat×(Bool×S))} {rs:List (Nat×R)} {outs:List Out} {acc:List (Nat×St)} {todo:List (Nat×List Nat)} {es:List (Nat×Nat×Nat)} {Fin:(Nat→St)→Prop}
theorem MixD.add {b:Nat} {S:List Nat} (σ':St) (hb:look acc b=none) (hle:Le (stL (memN S) 0 outs ⟨n,sl,rs⟩) σ') (h:MixD P l n sl rs outs ((b,σ')::acc) todo es Fin):MixD P l n sl rs outs acc ((b,S)::todo) es Fin:=by
 obtain⟨st,h1,h2,h3⟩:=h.pf
 have h1':∀ k σ,look acc k=some σ→st k=σ:=fun k σ hk=>h1 k σ (by
  rw [look_cons,if_neg (fun e=>?_)]
  · exact hk
  · subst e;rw [hb] at hk;cases hk)
 refine⟨st,h1',fun p hp=>?_,h3⟩
 rcases List.mem_cons.1 hp with rfl|hp
 · show Le _ (st b)
   rw [h1 b σ' (by rw [look_cons,if_pos rfl])]
   exact hle
 · exact h2 p hp
theorem MixD.go (h:Dag P l acc es Fin):MixD P l n sl rs outs acc [] es Fin:=by
 obtain⟨st,h1,h2,h3⟩:=h.pf
 exact⟨st,h1,fun p hp=>(by cases hp),h2,h3⟩
def FinX (P:Program) (w0:Base) (Q:Exit→St→Prop) (N k:Nat) (B:Nat→List Nat) (es:List (Nat×Nat×Nat)) (todo:List (Nat×List Nat)) (l:List Oper) (n:Nat) (sl:List (Nat×(Bool×S))) (rs:List (Nat×R)) (outs:List Out):Prop:=
 delS (outs.map (·.1)) sl=sl∧outB B ⟨n,sl,rs⟩ outs=true∧MixD P l n sl rs outs [] todo es (fun st=>AWl P w0 l.toArray Q (l.drop N) (st k))
theorem FinX.mk {w0:Base} {Q:Exit→St→Prop} {N k:Nat} {B:Nat→List Nat} (hd:delS (outs.map (·.1)) sl=sl) (hU:outB B ⟨n,sl,rs⟩ outs=true) (h:MixD P l n sl rs outs [] todo es (fun st=>AWl P w0 l.toArray Q (l.drop N) (st k))):FinX P w0 Q N k B es todo l n sl rs outs:=⟨hd,hU,h⟩
end
end Go.Q
set_option maxHeartbeats 1000000
set_option maxRecDepth 100000
namespace Go.Q
open Go.D
section
variable {E:Nat→List (Int×Int)} {G:Nat→Bool} {N:Nat} {O:List Int}
noncomputable def leastL (E:Nat→List (Int×Int)) (G:Nat→Bool) (N:Nat):List Int:=
 open Classical in if h:∃ O,CI E G N O∧∀ i,i<N→∀ e∈E i,fixd O i e then Classical.choose h else []
theorem leastL_eq (hE:∀ i,i<N→∀ e∈E i,0≤e.1∧e.1<N) (h:CI E G N O) (hf:∀ i,i<N→∀ e∈E i,fixd O i e):leastL E G N=O:=by
 have hx:∃ O,CI E G N O∧∀ i,i<N→∀ e∈E i,fixd O i e:=⟨O,h,hf⟩
 unfold leastL
 rw [dif_pos hx]
 obtain⟨h1,h2⟩:=Classical.choose_spec hx
 refine List.ext_getElem? fun i=>?_
 by_cases hi:i<N
 · have e:=CI.same h1 h hE h2 hf hi
   have g1:=atI_get (out:=Classical.choose hx) (k:=(i:Int)) (by rw [h1.len];simpa using hi)
   have g2:=atI_get (out:=O) (k:=(i:Int)) (by rw [h.len];simpa using hi)
   simp only [Int.toNat_natCast] at g1 g2
   rw [g1,g2,e]
 · rw [List.getElem?_eq_none (by rw [h1.len];omega),List.getElem?_eq_none (by rw [h.len];omega)]
end
end Go.Q
set_option maxHeartbeats 1000000
set_option maxRecDepth 100000
namespace Go.Q
open Go.D
end Go.Q
namespace Go.Proofs.YtbecibmlbiebeaaGreat
open Go.RowKit Go.Q Go.D
end Go.Proofs.YtbecibmlbiebeaaGreat
set_option maxHeartbeats 1000000
set_option maxRecDepth 100000
namespace Go.Q
open Go.D
end Go.Q
namespace Go.Proofs.YtbecibmlbiebeaaGreat
open Go.RowKit Go.Q Go.D
end Go.Proofs.YtbecibmlbiebeaaGreat
set_option maxHeartbeats 1000000
set_option maxRecDepth 100000
namespace Go.Q
open Go.D
end Go.Q
set_option maxHeartbeats 1000000
set_option maxRecDepth 100000
namespace Go.Q
open Go.D
theorem CanR.congr {nx nx':Nat→List Int} {G:Nat→Bool} {N:Nat} (hn:∀ p,p<N→∀ k∈nx p,0≤k∧k<(N:Int)) (he:∀ p,p<N→nx p=nx' p) {i:Nat} (h:CanR nx G i):i<N→CanR nx' G i:=by
 induction h with
 | goal h=>exact fun _=>.goal h
 | @step i z hz _ ih=>
  intro hi
  have hb:=hn i hi z hz
  exact .step (by rw [←he i hi];exact hz) (ih (by omega))
end Go.Q
namespace Go.Proofs.YtbecibmlbiebeaaGreat
open Go.RowKit Go.Q Go.D
theorem IndexFuncIntG (l:List Int) (f:FuncId) (caps:List T) (p:Int→Bool) (hp:∀ e∈l,FrT Tryz.prog f ([.one (.v (.int .i64 e))]++caps.map .one) (.a (.one (.v (.bool (p e)))))):FnT Tryz.prog 176 [.one (.sl 1 (l.map cInt)),.one (.fn (.func f) [] caps)] (.a (.one (.v (.int .i64 (findI p l 0))))):=by
 refine Ba Tryz.func176 U (by kernel_rfl) Tryz.ntmps176 U fun hlen w0=>?_
 try simp [cEdge,cGraph,cAutomaton] at hlen
 refine Ah (Av ?_);refine Aa (Af (Ah (Ac ?_)));refine Ab (Bd U (.no U) U (.tm U) (by exact .t) Tryz.underlying40) U ?_;refine Ab (Ar U (.no U) U (.const U)) U ?_;refine Aa (AW.block (Cr (β:=Nat) (fun x=>x≤(l).length∧∀ j y,j<x→(l)[j]?=some y→(fun e=>!p e) y=true) (fun x=>⟨_,[(8,(true,.a (.one (.t (.v (.int .i64 (x:Nat))))))),(0,_),(1,_),(7,_)],[]⟩) (fun x=>(l).length-x) (0) ⟨Nat.zero_le _,fun j y hj=>absurd hj (Nat.not_lt_zero j)⟩ (An U ⟨U,U,U,U,Y⟩ trivial) ?_));intro k hk;refine Ah (Ab (Bz U (.no U) U (.tm U) (.tm U)) U ?_);refine Aa (Af (Aq (.tm U) (fun hlt=>?_) (fun hlt=>?_)))
 · try simp at hlt
   obtain⟨x,hx⟩:∃ ξ,(l)[k]?=some ξ:=⟨_,List.getElem?_eq_getElem (by exact hlt)⟩
   refine As (Af (AW.block (Ah (Ac ?_))));refine Ak ?_;refine Aa (Ah (Ac ?_));refine Ac ?_;refine Ac ?_;refine Ab ((Aw U (.no U) U (.tm U) (.tm U) Tryz.underlying40 ty3 (fun _=>⟨by omega,(by exact Ax (by assumption))⟩))) U ?_;refine Ab (Ap U (.no U) U (.tm U) ty3 U U) U ?_;refine Ab (R_callv U (.no U) U (.tm U) (.cons (.tm U) U .nil) (hp x (List.mem_of_getElem? hx))) U ?_;refine Aa (Aq (.tm U) (fun h16=>?_) (fun h16=>?_))
   · try simp at h16
     refine Af (A4 (σ':=⟨_,[(0,_),(1,_),(5,_),(7,_),(8,_)],[]⟩) (An U ⟨U,U,U,U,U,Y⟩ trivial) ?_);refine Ae (Ac ?_);refine Ak ?_;refine Aa (A3 (Bn U U ?_))
     rw [findI_at (k:=k) hk.2 hx h16];simp
   · try simp at h16
     refine As (A4 (σ':=⟨_,[(0,_),(1,_),(5,_),(7,_),(8,_)],[]⟩) (An U ⟨U,U,U,U,U,Y⟩ trivial) ?_);refine Ae (Ab (Be U (.no U) U (.tm U) (.const U) (fun _=>by omega)) U ?_);refine Ac ?_;refine Aa ?_;refine Round.next (k+1) ⟨by omega,each_succ hk.2 hx (by simp [h16])⟩ (by omega) (An rfl ⟨rfl,rfl,rfl,rfl,Y⟩ trivial)
 · try simp at hlt
   refine Bf (Ah (Av ?_));refine Aa (A3 (Bn U U ?_))
   rw [findI_none hk.2 (by omega)]
theorem ContainsFuncIntG (l:List Int) (f:FuncId) (caps:List T) (p:Int→Bool) (hp:∀ e∈l,FrT Tryz.prog f ([.one (.v (.int .i64 e))]++caps.map .one) (.a (.one (.v (.bool (p e)))))):FnT Tryz.prog 95 [.one (.sl 1 (l.map cInt)),.one (.fn (.func f) [] caps)] (.a (.one (.v (.bool (l.any p))))):=by
 refine Ba Tryz.func95 U (by kernel_rfl) Tryz.ntmps95 U fun hlen w0=>?_
 try simp [cEdge,cGraph,cAutomaton] at hlen
 refine Ah (Av ?_);refine Aa (Ah (Ac ?_));refine Ac ?_;refine Ab (A6 (FnT.fr (IndexFuncIntG _ _ _ _ hp)) U (.no U) U (.cons (.tm U) U (.cons (.tm U) U .nil))) U ?_;refine Ab (R_ge U (.no U) U (.tm U) (.const U)) U ?_;refine Ak ?_;refine Aa (A3 (Bn U U ?_))
 rw [findI_any]
end Go.Proofs.YtbecibmlbiebeaaGreat
