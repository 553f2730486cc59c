import Derived.Test.YtbecibmlbiebeaaGreatB56xa
import Derived.Test.YtbecibmlbiebeaaGreatB24xa
import Derived.Test.YtbecibmlbiebeaaGreatB57xa
import Derived.Test.YtbecibmlbiebeaaGreatB151xa
set_option linter.unusedVariables false
set_option linter.unusedSimpArgs false
set_option maxRecDepth 100000
set_option maxHeartbeats 1000000
set_option maxRecDepth 100000
namespace Go.Q
open Go.D
def hitB (g:TGraph) (a:TAutomaton) (RK:List Int) (p:Nat):Bool:=decide (0≤atI RK (p:Int))&&acc a ((p:Int)%(a.Accept.length:Int)) (g.Values[((p:Int) / (a.Accept.length:Int)).toNat]?.getD 0)
def hitsN (g:TGraph) (a:TAutomaton) (RK:List Int) (i:Nat):List Int:=((List.range i).filter (hitB g a RK)).map fun (p:Nat)=>(p:Int) / (a.Accept.length:Int)
theorem hitsN_succ (g:TGraph) (a:TAutomaton) (RK:List Int) (i:Nat):hitsN g a RK (i+1)=hitsN g a RK i++if hitB g a RK i then [(i:Int) / (a.Accept.length:Int)] else []:=by
 unfold hitsN
 rw [range_filter_succ,List.map_append]
 cases hitB g a RK i<;>rfl
theorem hitsN_len (g:TGraph) (a:TAutomaton) (RK:List Int) (i:Nat):(hitsN g a RK i).length≤i:=by
 unfold hitsN
 rw [List.length_map]
 exact Nat.le_trans (List.length_filter_le _ _) (by simp)
theorem hitsN_rng {g:TGraph} {a:TAutomaton} (ha:validA a=true) {RK:List Int} {i:Nat} (hi:i≤a.Accept.length*g.Values.length):∀ y∈hitsN g a RK i,0≤y∧y<g.Values.length:=by
 intro y hy
 unfold hitsN at hy
 obtain⟨p,hp,rfl⟩:=List.mem_map.1 hy
 have:=List.mem_range.1 (List.mem_filter.1 hp).1
 exact (nd_ok (by have:=validA_len ha;omega) (show p<a.Accept.length*g.Values.length by omega)).1
def ansL (g:TGraph) (a:TAutomaton) (x:Int):List Int:=ascL (hitsN g a (ranksOf g a x) (a.Accept.length*g.Values.length))
theorem setI_strict (m b:Nat):StrictS ltI (setI m b):=by
 unfold setI StrictS
 rw [List.pairwise_map]
 refine List.Pairwise.filter _ ?_;refine List.Pairwise.imp ?_ List.pairwise_lt_range;intro p q h
 unfold ltI
 simp;omega
theorem setI_asc {l:List Int} {b:Nat} (hl:∀ x∈l,0≤x∧x<b):setI (wB l) b=ascL l:=by
 refine strict_ext ltI_so (setI_strict _ _) (setG_strict ltI_so l) fun x=>?_
 rw [mem_ascL]
 unfold setI
 simp only [List.mem_map,List.mem_filter,List.mem_range]
 constructor
 · rintro⟨q,⟨_,h2⟩,rfl⟩
   exact (wB_test (fun k hk=>(hl k hk).1) q).1 h2
 · intro h
   have:=hl x h
   refine⟨x.toNat,⟨by omega,?_⟩,by omega⟩
   exact (wB_test (fun k hk=>(hl k hk).1) _).2 (by rwa [Int.toNat_of_nonneg this.1])
theorem ansL_len {g:TGraph} {a:TAutomaton} (ha:validA a=true) (hg:validG g=true) (x:Int):(ansL g a x).length≤60:=Nat.le_trans (setG_len _) (Nat.le_trans (hitsN_len _ _ _ _) (prod_le ha hg).2)
def allTo (g:TGraph) (a:TAutomaton) (i:Nat):List TPair:=(List.range i).flatMap fun (x:Nat)=>(ansL g a x).map fun y=>⟨(x:Int),y⟩
theorem allTo_succ (g:TGraph) (a:TAutomaton) (i:Nat):allTo g a (i+1)=allTo g a i++(ansL g a i).map fun y=>⟨(i:Int),y⟩:=by
 unfold allTo
 rw [List.range_succ,List.flatMap_append];simp
def allAns (g:TGraph) (a:TAutomaton):List TPair:=if goodC g a then allTo g a g.Values.length else []
theorem allTo_len {g:TGraph} {a:TAutomaton} (ha:validA a=true) (hg:validG g=true):∀ i,(allTo g a i).length≤60*i
 | 0=>by simp [allTo]
 | i+1=>by
  rw [allTo_succ,List.length_append,List.length_map]
  have:=allTo_len ha hg i
  have:=ansL_len ha hg (x:=i)
  omega
end Go.Q
namespace Go.Proofs.YtbecibmlbiebeaaGreat
open Go.RowKit Go.Q Go.D
theorem implAnswersFrom_ok (g:TGraph) (a:TAutomaton) (ha:validA a=true) (hg:validG g=true) (x:Int) (hx:0≤x∧x<g.Values.length):FnT Tryz.prog 180 [.agg (cGraph g),.agg (cAutomaton a),.one (.v (.int .i64 x))] (.a (.one (.sl 1 ((ansL g a x).map cInt)))):=by
 refine Ba Tryz.func180 U (by kernel_rfl) Tryz.ntmps180 U fun hlen w0=>?_
 try simp [cPair,cEdge,cGraph,cAutomaton,cProductStep] at hlen
 have hA:=validA_len ha
 have hG:=validG_len hg
 have hN:1≤NP g a∧NP g a≤60:=prod_le ha hg
 have hRK:=ranks_ok ha hg hx
 have hRl:(ranksOf g a x).length=NP g a:=hRK.1
 refine Ah (Ab (Bm U U U (.tm U) (ts:=_) (by rfl)) U ?_);refine Ab (Bm U U U (.tm U) (ts:=_) (by rfl)) U ?_;refine Av ?_;refine Bw (i:=6) 20001 1 U U ?_;refine Aa (Ah (Bh (Cp 11 U U U Tryz.underlying40 ty3 U) U ?_));refine Ak ?_;refine Aa (Ah (Ab (Ao U (.no U) U (.tm U) Cw) U ?_));refine Ab (Ap U (.no U) U (.tm U) Dc U U) U ?_;refine Ab (Bd U (.no U) U (.tm U) (by exact .t) Tryz.underlying33) U ?_;refine Ak ?_;refine Aa (Af (Ah (Ab (Ap U (.no U) U (.tm U) Bu U U) U ?_)));refine Ab (Ap U (.no U) U (.tm U) Br U U) U ?_;refine Ac ?_;refine Ab (A6 (FnT.fr (implDistancesFrom g a ha hg x hx)) U (.no U) U (.cons (.tm U) U (.cons (.tm U) U (.cons (.tm U) U .nil)))) U ?_;refine Ab (Bd U (.no U) U (.tm U) (by exact .t) Tryz.underlying40) U ?_;refine Ab (Ar U (.no U) U (.const U)) U ?_
 refine Aa (AW.block (Bs (fun (i:Nat)=>(i≤NP g a)∧True) (fun (i:Nat)=>⟨_,[(20,(true,.a (.one (.t (.v (.int .i64 (i:Nat))))))),(7,(true,.a (.one (.rf 11)))),(3,_),(4,_),(6,_),(8,_),(18,_),(19,_)],[(11,.row 1 ((hitsN g a (ranksOf g a x) i).map cInt))]⟩) (fun (i:Nat)=>NP g a-i) (0) ⟨Nat.zero_le _,Y⟩ Ai ?_))
 rintro i ⟨hk,he⟩
 refine Ah (Ab (Bz U (.no U) U (.tm U) (.tm U)) U ?_);refine Aa (Af (Aq (.tm U) (fun h21=>?_) (fun h21=>?_)))
 · try simp at h21
   have hiN:i<NP g a:=by omega
   have hdm:=nd_ok (p:=i) hA.1 (show i<NP g a from hiN)
   obtain⟨v,hv⟩:∃ v,g.Values[((i:Int) / (a.Accept.length:Int)).toNat]?=some v:=⟨_,List.getElem?_eq_getElem (by omega)⟩
   have hvr:=validG_val hg hv
   have hgi:=atI_get (out:=ranksOf g a x) (k:=(i:Int)) (by omega)
   have hhl:=hitsN_len g a (ranksOf g a x) i
   have hpw:2^((i:Int)%(a.Accept.length:Int)).toNat<2^a.Accept.length:=Nat.pow_lt_pow_right (by omega) (by omega)
   refine As (Af (AW.block (Ah (Ac ?_))));refine Ab (Aw U (.no U) U (.tm U) (.tm U) Tryz.underlying40 ty3 (fun _=>⟨by omega,(by exact Ax hgi)⟩)) U ?_;refine Ab (Ap U (.no U) U (.tm U) ty3 U U) U ?_;refine Ak ?_;refine Ak ?_;refine Aa (Af (B9 17 (nthB [[],[0],[0,1],[0,1,2],[0,1,2],[0,1,2],[0,1,2,4,5],[0,1,2,4,5,6],[0,1,2],[0,1,2,8],[0,1,2],[0,1,2],[0,1,2,10,11],[0,1,2,8,9,10,11,12],[0,1,2,8,9,10,11,12,13],[0,1,2,3,4,5,6,7,8,9,10,11,12,13,14],[0,1,2,3,4,5,6,7,8,9,10,11,12,13,14,15]]) (by kernel_rfl) (by kernel_rfl) (by kernel_rfl) ?_));refine Ad U U U (Aj U fun σ' hs=>Ar U (.no U) (Ag hs U) (.tm (hs.slots _ _ U))) ?_;refine Ad U U U (Aj U fun σ' hs=>R_ge U (.no U) (Ag hs U) (.tm (hs.slots _ _ U)) (.const U)) ?_;refine Ad U U U (Aj U fun σ' hs=>Ar U (.no U) (Ag hs U) (.tm (hs.slots _ _ U))) ?_
   refine Ad U U U (Aj U fun σ' hs=>(by exact Ap U (by exact .yes1 U U (hs.slots _ _ U) (by rw [hs.n];rfl)) (Ag hs U) (.tmp (hs.slots _ _ U) (by exact fun _=>rfl)) Br U U)) ?_;refine Ad U U U (Aj U fun σ' hs=>Ar U (by exact .yes1 U U (hs.slots _ _ U) (by rw [hs.n];rfl)) (Ag hs U) (.tmp (hs.slots _ _ U) (by exact fun _=>rfl))) ?_;refine Ad U U U (Aj U fun σ' hs=>Ar U (by exact .yes1 U U (hs.slots _ _ U) (by rw [hs.n];rfl)) (Ag hs U) (.tmp (hs.slots _ _ U) (by exact fun _=>rfl))) ?_;refine Ad U U U (Aj U fun σ' hs=>R_rem U (by exact .yes1 U U (hs.slots _ _ U) (by rw [hs.n];rfl)) (Ag hs U) (.tmp (hs.slots _ _ U) (by exact id)) (.tmp (hs.slots _ _ U) (by exact id)) (fun hq=>by first|omega|(simp at hq;omega))) ?_
   refine Ad U U U (Aj U fun σ' hs=>R_shlN U (by exact .yes1 U U (hs.slots _ _ U) (by rw [hs.n];rfl)) (Ag hs U) (.const U) (.tmp (hs.slots _ _ U) (by exact id)) (fun hq=>by first|omega|(simp at hq;omega))) ?_;refine Ad U U U (Aj U fun σ' hs=>(by exact Ao U (by exact .yes1 U U (hs.slots _ _ U) (by rw [hs.n];rfl)) (Ag hs U) (.tmp (hs.slots _ _ U) (by exact fun _=>rfl)) Ck)) ?_;refine Ad U U U (Aj U fun σ' hs=>(by exact Ap U (by exact .yes1 U U (hs.slots _ _ U) (by rw [hs.n];rfl)) (Ag hs U) (.tmp (hs.slots _ _ U) (by exact id)) By U U)) ?_;refine Ad U U U (Aj U fun σ' hs=>Ar U (by exact .yes1 U U (hs.slots _ _ U) (by rw [hs.n];rfl)) (Ag hs U) (.tmp (hs.slots _ _ U) (by exact fun _=>rfl))) ?_;refine Ad U U U (Aj U fun σ' hs=>Ar U (by exact .yes1 U U (hs.slots _ _ U) (by rw [hs.n];rfl)) (Ag hs U) (.tmp (hs.slots _ _ U) (by exact fun _=>rfl))) ?_
   refine Ad U U U (Aj U fun σ' hs=>R_quo U (by exact .yes1 U U (hs.slots _ _ U) (by rw [hs.n];rfl)) (Ag hs U) (.tmp (hs.slots _ _ U) (by exact id)) (.tmp (hs.slots _ _ U) (by exact id)) (fun hq=>by first|omega|(simp at hq;omega))) ?_;refine Ad U U U (Aj U fun σ' hs=>(by exact Aw U (by exact .yes1 U U (hs.slots _ _ U) (by rw [hs.n];rfl)) (Ag hs U) (.tmp (hs.slots _ _ U) (by exact id)) (.tmp (hs.slots _ _ U) (by exact id)) Tryz.underlying40 ty3 (fun hq=>by (try simp at hq);exact⟨by omega,(by exact Ax hv)⟩))) ?_;refine Ad U U U (Aj U fun σ' hs=>(by exact Ap U (by exact .yes1 U U (hs.slots _ _ U) (by rw [hs.n];rfl)) (Ag hs U) (.tmp (hs.slots _ _ U) (by exact id)) ty3 U U)) ?_
   refine Ad U U U (Aj U fun σ' hs=>C7 U (by exact .yes1 U U (hs.slots _ _ U) (by rw [hs.n];rfl)) (Ag hs U) (.cons (.tmp (hs.slots _ _ U) (by exact id)) (readA_sup hs U) (.cons (.tmp (hs.slots _ _ U) (by exact id)) (readA_sup hs U) (.cons (.tmp (hs.slots _ _ U) (by exact id)) (readA_sup hs U) .nil))) fun hq=>FnT.fr (implacceptsAt a ha (2^((i:Int)%(a.Accept.length:Int)).toNat) hpw v hvr)) ?_;refine Ad U U U (Aj U fun σ' hs=>Cf U (.no U) (Ag hs U) (.tm (hs.slots _ _ U)) (.tmp (hs.slots _ _ U) (by exact id))) ?_;refine Bx U U ?_;refine Aa (Aq (.tm U) (fun h41=>?_) (fun h41=>?_))
   · skip
     rw [accS_pow a v (by omega)] at h41
     have hhit:hitB g a (ranksOf g a x) i=true:=by (unfold hitB;rw [hv,Option.getD_some];simpa [Int.toNat_of_nonneg hdm.2.1] using h41)
     refine A4 (σ':=⟨_,[(3,_),(4,_),(6,_),(7,_),(8,_),(9,_),(10,_),(18,_),(19,_),(20,_)],[(11,_)]⟩) Ai ?_;refine Ae (Ac ?_);refine Ac ?_;refine Ac ?_;refine Ab (R_quo U (.no U) U (.tm U) (.tm U) (fun _=>by omega)) U ?_;refine Bp (Cc (xs:=[.tmp 45]) 46 U U U (.cons (.tm U) U U .nil) Tryz.underlying40 in3 U U U U) U ?_;refine Bk (Bt U U U (.tm U) U (.tm U) (by exact .rf U) (by rfl) Tryz.underlying40 in3 U (by (simp [chunk];omega)) (by (unfold maxLen;simp [chunk];omega))) U ?_;refine Bq (σ':=⟨_,[(3,_),(4,_),(6,_),(7,_),(8,_),(9,_),(10,_),(18,_),(19,_),(20,_),(47,_)],[(11,_),(46,_)]⟩) Ai ?_;refine Ak ?_;refine Aa (Ae (Ab (Be U (.no U) U (.tm U) (.const U) (fun _=>by omega)) U ?_));refine Ac ?_;refine Aa ?_
     repeat (with_reducible refine Az ?_)
     refine Round1.next (i+1) ⟨by omega,Y⟩ (by omega) (An rfl ⟨rfl,rfl,rfl,rfl,rfl,rfl,rfl,rfl,Y⟩ ⟨(by refine congrArg (fun r=>some (R.row 1 r)) ?_;first|(rw [hitsN_succ,hhit];simp [chunk,cInt];done)|(rw [hitsN_succ,hhit];simp;done)),Y⟩)
   · skip
     rw [accS_pow a v (by omega)] at h41
     have hhit:hitB g a (ranksOf g a x) i=false:=by (unfold hitB;rw [hv,Option.getD_some];simpa [Int.toNat_of_nonneg hdm.2.1] using h41)
     refine As (A4 (σ':=⟨_,[(3,_),(4,_),(6,_),(7,_),(8,_),(9,_),(10,_),(18,_),(19,_),(20,_)],[(11,_)]⟩) Ai ?_);refine Ae (Ab (Be U (.no U) U (.tm U) (.const U) (fun _=>by omega)) U ?_);refine Ac ?_;refine Aa ?_
     repeat (with_reducible refine Az ?_)
     refine Round1.next (i+1) ⟨by omega,Y⟩ (by omega) (An rfl ⟨rfl,rfl,rfl,rfl,rfl,rfl,rfl,rfl,Y⟩ ⟨(by refine congrArg (fun r=>some (R.row 1 r)) ?_;first|(rw [hitsN_succ,hhit];simp [chunk,cInt];done)|(rw [hitsN_succ,hhit];simp;done)),Y⟩)
 · try simp at h21
   refine Bf (Af (A4 (σ':=⟨_,[(3,_),(4,_),(6,_),(7,_),(8,_),(18,_),(19,_),(20,_)],[(11,.row 1 ((hitsN g a (ranksOf g a x) (NP g a)).map cInt))]⟩) (An U ⟨U,U,U,U,U,U,U,U,Y⟩ ⟨by rw [show i=NP g a by omega];rfl,Y⟩) ?_));refine Ae (Ac ?_);refine B8 (Cl 5000 (implascending (hitsN g a (ranksOf g a x) (NP g a)) (Nat.le_trans (hitsN_len _ _ _ _) (by omega))) U U U (.cons (.tm U) U .nil) U U) U ?_;refine Ak ?_;refine Aa (A3 (Res.one U (.tmp U .nil) U ?_))
   rfl
theorem implAllAnswers (g:TGraph) (a:TAutomaton):FnT Tryz.prog 109 [.agg (cGraph g),.agg (cAutomaton a)] (.a (.one (.sl 2 ((allAns g a).map cPair)))):=by
 refine Ba Tryz.func109 U (by kernel_rfl) Tryz.ntmps109 U fun hlen w0=>?_
 try simp [cPair,cEdge,cGraph,cAutomaton,cProductStep] at hlen
 skip
 refine Ah (Ab (Bm U U U (.tm U) (ts:=_) (by rfl)) U ?_);refine Ab (Bm U U U (.tm U) (ts:=_) (by rfl)) U ?_;refine Av ?_;refine Bw (i:=4) 20001 2 U U ?_;refine Aa (Af (Ah (Ab (Ap U (.no U) U (.tm U) Bu U U) U ?_)));refine Ab (Ap U (.no U) U (.tm U) Br U U) U ?_;refine Ab (A6 (FnT.fr (implbothOk_nil g a)) U (.no U) U (.cons (.tm U) U (.cons (.tm U) U (.cons (.const U) U .nil)))) U ?_;refine Ab (Cq U (.no U) U (.tm U)) U ?_;refine Aa (Aq (.tm U) (fun h12=>?_) (fun h12=>?_))
 · try simp at h12
   refine Ah (Av ?_);refine Bw (i:=4) 20002 2 U U ?_;refine Aa (A3 (Res.one U (.tmp U .nil) U ?_))
   unfold allAns;rw [if_neg (by simpa using h12)];rfl
 · try simp at h12
   have hgc:goodC g a=true:=by simpa using h12
   obtain⟨hg,ha⟩:=good_c2 hgc
   have hG:=validG_len hg
   refine As (Ah (Bh (Cp 13 U U U Tryz.underlying48 ty58 U) U ?_));refine Ak ?_;refine Aa (Af (Ah (Ab (Ao U (.no U) U (.tm U) Ck) U ?_)));refine Ab (Ap U (.no U) U (.tm U) By U U) U ?_;refine Ab (Bd U (.no U) U (.tm U) (by exact .t) Tryz.underlying40) U ?_;refine Ab (Ar U (.no U) U (.const U)) U ?_;refine Aa (AW.block (Bs (fun (i:Nat)=>(i≤g.Values.length)∧True) (fun (i:Nat)=>⟨_,[(17,(true,.a (.one (.t (.v (.int .i64 (i:Nat))))))),(5,(true,.a (.one (.rf 13)))),(2,_),(3,_),(4,_),(16,_)],[(13,.row 2 ((allTo g a i).map cPair))]⟩) (fun (i:Nat)=>g.Values.length-i) (0) ⟨Nat.zero_le _,Y⟩ (An U ⟨U,U,U,U,U,U,Y⟩ ⟨(by refine congrArg (fun r=>some (R.row 2 r)) ?_;first|rfl|(simp [allTo];done)),Y⟩) ?_))
   rintro i ⟨hk,he⟩
   refine Ah (Ab (Bz U (.no U) U (.tm U) (.tm U)) U ?_);refine Aa (Af (Aq (.tm U) (fun h18=>?_) (fun h18=>?_)))
   · try simp at h18
     have hiV:i<g.Values.length:=by omega
     refine As (Af (AW.block (Ah (Ac ?_))));refine Ak ?_;refine Aa (Ah (Ab (Ap U (.no U) U (.tm U) Bu U U) U ?_));refine Ab (Ap U (.no U) U (.tm U) Br U U) U ?_;refine Ac ?_;refine Ab (A6 (FnT.fr (implAnswersFrom_ok g a ha hg (i:Int) (by omega))) U (.no U) U (.cons (.tm U) U (.cons (.tm U) U (.cons (.tm U) U .nil)))) U ?_;refine Ab (Bd U (.no U) U (.tm U) (by exact .t) Tryz.underlying40) U ?_;refine Ab (Ar U (.no U) U (.const U)) U ?_
     refine Aa (AW.block (Bs (fun (k:Nat)=>(k≤(ansL g a i).length)∧True) (fun (k:Nat)=>⟨_,[(25,(true,.a (.one (.t (.v (.int .i64 (k:Nat))))))),(5,(true,.a (.one (.rf 13)))),(2,_),(3,_),(4,_),(6,_),(16,_),(17,_),(23,_),(24,_)],[(13,.row 2 ((allTo g a i++((ansL g a i).take k).map fun y=>(⟨(i:Int),y⟩:TPair)).map cPair))]⟩) (fun (k:Nat)=>(ansL g a i).length-k) (0) ⟨Nat.zero_le _,Y⟩ (An U ⟨U,U,U,U,U,U,U,U,U,U,Y⟩ ⟨(by refine congrArg (fun r=>some (R.row 2 r)) ?_;first|rfl|(simp [allTo];done)),Y⟩) ?_))
     rintro k ⟨hk1,he1⟩
     refine Ah (Ab (Bz U (.no U) U (.tm U) (.tm U)) U ?_);refine Aa (Af (Aq (.tm U) (fun h26=>?_) (fun h26=>?_)))
     · try simp at h26
       obtain⟨y,hy⟩:∃ ξ,(ansL g a i)[k]?=some ξ:=⟨_,List.getElem?_eq_getElem (by omega)⟩
       have hal:=allTo_len ha hg i
       have hkl:=ansL_len ha hg (i:Int)
       refine As (Af (AW.block (Ah (Ab (Aw U (.no U) U (.tm U) (.tm U) Tryz.underlying40 ty3 (fun _=>⟨by omega,(Ax hy)⟩)) U ?_))));refine Ab (Ap U (.no U) U (.tm U) ty3 U U) U ?_;refine Ak ?_;refine Aa (Ae (Ac ?_));refine Ac ?_;refine Ac ?_;refine Ab (Bo (ps:=[(0,.tmp 30),(1,.tmp 31)]) U U U in58 U U st58 (.cons (.tm U) U U fp58_0 (.cons (.tm U) U U fp58_1 .nil)) U) U ?_;refine Bp (Cc (xs:=[.tmp 32]) 33 U U U (.cons (.tm U) U U .nil) Tryz.underlying48 in58 U U U U) U ?_;refine Bk (Bt U U U (.tm U) U (.tm U) (by exact .rf U) (by rfl) Tryz.underlying48 in58 U (by (simp [chunk];omega)) (by (unfold maxLen;simp [chunk];omega))) U ?_;refine Bq (σ':=⟨_,[(2,_),(3,_),(4,_),(5,_),(6,_),(8,_),(16,_),(17,_),(23,_),(24,_),(25,_),(26,_),(34,_)],[(13,_),(33,_)]⟩) Ai ?_;refine Ak ?_;refine Aa (Ae (Ab (Be U (.no U) U (.tm U) (.const U) (fun _=>by omega)) U ?_));refine Ac ?_;refine Aa ?_
       repeat (with_reducible refine Az ?_)
       refine Round1.next (k+1) ⟨by omega,Y⟩ (by omega) (An rfl ⟨rfl,rfl,rfl,rfl,rfl,rfl,rfl,rfl,rfl,rfl,Y⟩ ⟨(by refine congrArg (fun r=>some (R.row 2 r)) ?_;first|(rw [take_at hy];simp [chunk,cPair];done)|(rw [allTo_succ,List.take_of_length_le (by omega)];done)|(simp;done)),Y⟩)
     · try simp at h26
       refine Bf (Ae (Ab (Be U (.no U) U (.tm U) (.const U) (fun _=>by omega)) U ?_));refine Ac ?_;refine Aa ?_
       repeat (with_reducible refine Az ?_)
       refine Round1.next (i+1) ⟨by omega,Y⟩ (by omega) (An rfl ⟨rfl,rfl,rfl,rfl,rfl,rfl,Y⟩ ⟨(by refine congrArg (fun r=>some (R.row 2 r)) ?_;first|(rw [take_at hy];simp [chunk,cPair];done)|(rw [allTo_succ,List.take_of_length_le (by omega)];done)|(simp;done)),Y⟩)
   · try simp at h18
     refine Bf (Ah (Ac ?_));refine Ak ?_;refine Aa (A3 (Res.one U (.tmp U .nil) U ?_))
     unfold allAns;rw [if_pos hgc,show i=g.Values.length by omega];rfl
theorem implAnswersByComponents (g:TGraph) (a:TAutomaton):FnT Tryz.prog 45 [.agg (cGraph g),.agg (cAutomaton a)] (.a (.one (.sl 2 ((allAns g a).map cPair)))):=by
 refine Ba Tryz.func45 U (by kernel_rfl) Tryz.ntmps45 U fun hlen w0=>?_
 try simp [cPair,cEdge,cGraph,cAutomaton,cProductStep] at hlen
 refine Ah (Ab (Bm U U U (.tm U) (ts:=_) (by rfl)) U ?_);refine Ab (Bm U U U (.tm U) (ts:=_) (by rfl)) U ?_;refine Av ?_;refine Bw (i:=4) 20001 2 U U ?_;refine Aa (Ah (Ab (Ap U (.no U) U (.tm U) Bu U U) U ?_));refine Ab (Ap U (.no U) U (.tm U) Br U U) U ?_;refine B8 (Cl 700 (implAllAnswers g a) U U U (.cons (.tm U) U (.cons (.tm U) U .nil)) U U) U ?_;refine Ak ?_;refine Aa (A3 (Res.one U (.tmp U .nil) U ?_))
 rfl
end Go.Proofs.YtbecibmlbiebeaaGreat
set_option maxHeartbeats 1000000
set_option maxRecDepth 100000
namespace Go.Q
open Go.D
theorem wB_lt {l:List Int} {b:Nat} (h:∀ x∈l,0≤x∧x<b):wB l<2^b:=Nat.lt_pow_two_of_testBit _ fun i hi=>by
 cases ht:(wB l).testBit i with
 | false=>rfl
 | true=>
  have h1:=(wB_test (fun k hk=>(h k hk).1) i).1 ht
  have:=h _ h1
  omega
theorem hitsN_wB {g:TGraph} {a:TAutomaton} (ha:validA a=true) {RK:List Int} {i:Nat} (hi:i≤a.Accept.length*g.Values.length) (hv:g.Values.length≤5):wB (hitsN g a RK i)<2^5:=
 wB_lt fun x hx=>by have:=hitsN_rng ha hi x hx;omega
end Go.Q
namespace Go.Proofs.YtbecibmlbiebeaaGreat
open Go.RowKit Go.Q Go.D
theorem specl15From (g:TGraph) (a:TAutomaton) (ha:validA a=true) (hg:validG g=true) (x:Int) (hx:0≤x∧x<g.Values.length):FnT Tryz.prog 82 [.agg (cGraph g),.agg (cAutomaton a),.one (.v (.int .i64 x))] (.a (.one (.sl 1 ((ansL g a x).map cInt)))):=by
 refine Ba Tryz.func82 U (by kernel_rfl) Tryz.ntmps82 U fun hlen w0=>?_
 try simp [cPair,cEdge,cGraph,cAutomaton,cProductStep] at hlen
 have hA:=validA_len ha
 have hG:=validG_len hg
 have hN:1≤NP g a∧NP g a≤60:=prod_le ha hg
 have hRK:=ranks_ok ha hg hx
 have hRl:(ranksOf g a x).length=NP g a:=hRK.1
 refine Ah (Ab (Bm U U U (.tm U) (ts:=_) (by rfl)) U ?_);refine Ab (Bm U U U (.tm U) (ts:=_) (by rfl)) U ?_;refine Av ?_;refine Bw (i:=6) 20001 1 U U ?_;refine Aa (Ah (Ab (Ao U (.no U) U (.tm U) Cw) U ?_));refine Ab (Ap U (.no U) U (.tm U) Dc U U) U ?_;refine Ab (Bd U (.no U) U (.tm U) (by exact .t) Tryz.underlying33) U ?_;refine Ak ?_;refine Aa (Ah (Ab (Ap U (.no U) U (.tm U) Bu U U) U ?_));refine Ab (Ap U (.no U) U (.tm U) Br U U) U ?_;refine Ac ?_;refine Ab (A6 (FnT.fr (specl14Ranks g a ha hg x hx)) U (.no U) U (.cons (.tm U) U (.cons (.tm U) U (.cons (.tm U) U .nil)))) U ?_;refine Ak ?_;refine Aa (Af (A4 (σ':=⟨_,[(0,_),(1,_),(2,_),(3,_),(4,_),(6,_),(7,_),(8,_)],[(20001,_)]⟩) Ai ?_));refine Ae (Av ?_);refine Aa (Af (Ah (Av ?_)))
 refine Aa (AW.block (Cj (fun (i:Nat) (m:Nat)=>(i≤NP g a∧m<2^60)∧m=wB (hitsN g a (ranksOf g a x) i)) (fun (i:Nat) (m:Nat)=>⟨_,[(10,(true,.a (.one (.t (.v (.int .i64 (i:Nat))))))),(9,(true,.a (.one (.t (.v (.int .i64 (m:Nat))))))),(3,_),(4,_),(6,_),(7,_),(8,_)],[]⟩) (fun (i:Nat) (m:Nat)=>NP g a-i) (0) (0) ⟨⟨Nat.zero_le _,by decide⟩,U⟩ (An U ⟨U,U,U,U,U,U,U,Y⟩ trivial) ?_))
 rintro i m ⟨hk,he⟩
 refine Af (Ah (Ac ?_));refine Ac ?_;refine Ab (Bd U (.no U) U (.tm U) (by exact .t) Tryz.underlying40) U ?_;refine Ab (Bz U (.no U) U (.tm U) (.tm U)) U ?_;refine Aa (Aq (.tm U) (fun h21=>?_) (fun h21=>?_))
 · try simp at h21
   have hiN:i<NP g a:=by omega
   have hdm:=nd_ok (p:=i) hA.1 (show i<NP g a from hiN)
   obtain⟨v,hv⟩:∃ v,g.Values[((i:Int) / (a.Accept.length:Int)).toNat]?=some v:=⟨_,List.getElem?_eq_getElem (by omega)⟩
   have hgi:=atI_get (out:=ranksOf g a x) (k:=(i:Int)) (by omega)
   refine As (Af (AW.block (Af (B9 16 (nthB [[],[],[0,1],[0,1,2],[0,1,2,3],[0,1,2,3,4],[0,1,2,3,4,5],[0,1,2,3,4,5],[0,1,2,3,4,5],[0,1,2,3,4,5],[0,1,2,3,4,5,8,9],[0,1,2,3,4,5],[0,1,2,3,4,5],[0,1,2,3,4,5,11,12],[0,1,2,3,4,5,6,7,8,9,10,11,12,13],[0,1,2,3,4,5,6,7,8,9,10,11,12,13,14]]) (by kernel_rfl) (by kernel_rfl) (by kernel_rfl) ?_))));refine Ad U U U (Aj U fun σ' hs=>Ar U (.no U) (Ag hs U) (.tm (hs.slots _ _ U))) ?_;refine Ad U U U (Aj U fun σ' hs=>Ar U (.no U) (Ag hs U) (.tm (hs.slots _ _ U))) ?_;refine Ad U U U (Aj U fun σ' hs=>(by exact Aw U (.no U) (Ag hs U) (.tm (hs.slots _ _ U)) (.tm (hs.slots _ _ U)) Tryz.underlying40 ty3 (fun _=>⟨by omega,(Ax hgi)⟩))) ?_;refine Ad U U U (Aj U fun σ' hs=>(by exact Ap U (.no U) (Ag hs U) (.tm (hs.slots _ _ U)) ty3 U U)) ?_;refine Ad U U U (Aj U fun σ' hs=>R_ge U (.no U) (Ag hs U) (.tm (hs.slots _ _ U)) (.const U)) ?_
   refine Ad U U U (Aj U fun σ' hs=>Ar U (.no U) (Ag hs U) (.tm (hs.slots _ _ U))) ?_;refine Ad U U U (Aj U fun σ' hs=>(by exact Ap U (by exact .yes1 U U (hs.slots _ _ U) (by rw [hs.n];rfl)) (Ag hs U) (.tmp (hs.slots _ _ U) (by exact fun _=>rfl)) Bu U U)) ?_;refine Ad U U U (Aj U fun σ' hs=>(by exact Ap U (by exact .yes1 U U (hs.slots _ _ U) (by rw [hs.n];rfl)) (Ag hs U) (.tmp (hs.slots _ _ U) (by exact fun _=>rfl)) Br U U)) ?_;refine Ad U U U (Aj U fun σ' hs=>Ar U (by exact .yes1 U U (hs.slots _ _ U) (by rw [hs.n];rfl)) (Ag hs U) (.tmp (hs.slots _ _ U) (by exact fun _=>rfl))) ?_;refine Ad U U U (Aj U fun σ' hs=>Ar U (by exact .yes1 U U (hs.slots _ _ U) (by rw [hs.n];rfl)) (Ag hs U) (.tmp (hs.slots _ _ U) (by exact fun _=>rfl))) ?_
   refine Ad U U U (Aj U fun σ' hs=>R_quo U (by exact .yes1 U U (hs.slots _ _ U) (by rw [hs.n];rfl)) (Ag hs U) (.tmp (hs.slots _ _ U) (by exact id)) (.tmp (hs.slots _ _ U) (by exact id)) (fun hq=>by first|omega|(simp at hq;omega))) ?_;refine Ad U U U (Aj U fun σ' hs=>Ar U (by exact .yes1 U U (hs.slots _ _ U) (by rw [hs.n];rfl)) (Ag hs U) (.tmp (hs.slots _ _ U) (by exact fun _=>rfl))) ?_;refine Ad U U U (Aj U fun σ' hs=>Ar U (by exact .yes1 U U (hs.slots _ _ U) (by rw [hs.n];rfl)) (Ag hs U) (.tmp (hs.slots _ _ U) (by exact fun _=>rfl))) ?_;refine Ad U U U (Aj U fun σ' hs=>R_rem U (by exact .yes1 U U (hs.slots _ _ U) (by rw [hs.n];rfl)) (Ag hs U) (.tmp (hs.slots _ _ U) (by exact id)) (.tmp (hs.slots _ _ U) (by exact id)) (fun hq=>by first|omega|(simp at hq;omega))) ?_
   refine Ad U U U (Aj U fun σ' hs=>C7 U (by exact .yes1 U U (hs.slots _ _ U) (by rw [hs.n];rfl)) (Ag hs U) (.cons (.tmp (hs.slots _ _ U) (by exact id)) (readA_sup hs U) (.cons (.tmp (hs.slots _ _ U) (by exact id)) (readA_sup hs U) (.cons (.tmp (hs.slots _ _ U) (by exact id)) (readA_sup hs U) (.cons (.tmp (hs.slots _ _ U) (by exact id)) (readA_sup hs U) .nil)))) fun hq=>FnT.fr (specl14Accepts g a ha hg ((i:Int) / (a.Accept.length:Int)) ((i:Int)%(a.Accept.length:Int)) v (by omega) hv (by omega))) ?_;refine Ad U U U (Aj U fun σ' hs=>Cf U (.no U) (Ag hs U) (.tm (hs.slots _ _ U)) (.tmp (hs.slots _ _ U) (by exact id))) ?_;refine Bx U U ?_;refine Aa (Aq (.tm U) (fun h39=>?_) (fun h39=>?_))
   · try simp at h39
     have hhit:hitB g a (ranksOf g a x) i=true:=by (unfold hitB;rw [hv,Option.getD_some];simpa using h39)
     have h2x:2^((i:Int) / (a.Accept.length:Int)).toNat≤2^5:=Nat.pow_le_pow_right (by omega) (by omega)
     have h2p:=Nat.two_pow_pos ((i:Int) / (a.Accept.length:Int)).toNat
     refine A4 (σ':=⟨_,[(3,_),(4,_),(6,_),(7,_),(8,_),(9,_),(10,_)],[]⟩) (An U ⟨U,U,U,U,U,U,U,Y⟩ trivial) ?_;refine Ae (Ac ?_);refine Ac ?_;refine Ac ?_;refine Ab (R_quo U (.no U) U (.tm U) (.tm U) (fun _=>by omega)) U ?_;refine Ab (R_shlN U (.no U) U (.const U) (.tm U) (fun _=>by omega)) U ?_;refine Ab (R_or_int U (.no U) U (.tm U) (.tm U) (fun _=>by omega)) U ?_;refine Ak ?_;refine Aa (A4 (σ':=⟨_,[(3,_),(4,_),(6,_),(7,_),(8,_),(9,_),(10,_)],[]⟩) (An U ⟨U,U,U,U,U,U,U,Y⟩ trivial) ?_);refine Ae (Ac ?_);refine Ab (Be U (.no U) U (.tm U) (.const U) (fun _=>by omega)) U ?_;refine Ak ?_;refine Aa ?_
     repeat (with_reducible refine Az ?_)
     refine Round2.next (i+1) (m|||2^((i:Int) / (a.Accept.length:Int)).toNat) ⟨⟨by omega,or_pow_lt hk.2 (by omega)⟩,(by rw [hitsN_succ,hhit,if_pos rfl,wB_snoc,←he])⟩ (by omega) (An rfl ⟨rfl,rfl,rfl,rfl,rfl,rfl,rfl,Y⟩ trivial)
   · try simp at h39
     have hhit:hitB g a (ranksOf g a x) i=false:=by (unfold hitB;rw [hv,Option.getD_some];simpa using h39)
     refine As (A4 (σ':=⟨_,[(3,_),(4,_),(6,_),(7,_),(8,_),(9,_),(10,_)],[]⟩) (An U ⟨U,U,U,U,U,U,U,Y⟩ trivial) ?_);refine Ae (Ac ?_);refine Ab (Be U (.no U) U (.tm U) (.const U) (fun _=>by omega)) U ?_;refine Ak ?_;refine Aa ?_
     repeat (with_reducible refine Az ?_)
     refine Round2.next (i+1) (m) ⟨⟨by omega,hk.2⟩,(by rw [hitsN_succ,hhit];simpa using he)⟩ (by omega) (An rfl ⟨rfl,rfl,rfl,rfl,rfl,rfl,rfl,Y⟩ trivial)
 · try simp at h21
   have hM:m=wB (hitsN g a (ranksOf g a x) (NP g a)):=by (rw [he,show i=NP g a by omega])
   subst hM;refine Bf (Ah (Ac ?_));refine B8 (Cl 4700 (specl4Set (wB (hitsN g a (ranksOf g a x) (NP g a))) (Nat.lt_trans (hitsN_wB ha (Nat.le_refl _) (by omega)) (by decide))) U U U (.cons (.tm U) U .nil) U U) U ?_;refine Ak ?_;refine Aa (A3 (Res.one U (.tmp U .nil) U ?_))
   unfold ansL;rw [setI_asc (fun z hz=>by have:=hitsN_rng ha (Nat.le_refl _) z hz;omega)];rfl
end Go.Proofs.YtbecibmlbiebeaaGreat
set_option maxHeartbeats 1000000
set_option maxRecDepth 100000
namespace Go.Q
open Go.D
section
variable {N n:Nat} {C:Nat→Int} {r:Nat→Nat→Bool} {out:List Int}
def OrdO (N:Nat) (C:Nat→Int) (r:Nat→Nat→Bool) (out:List Int):Prop:=∀ j c,out[j]?=some c→∀ i k,i<N→k<N→C k=c→C i≠c→r i k=true→C i∈out.take j
theorem OrdO.add (h:OrdO N C r out) {c:Int} (hf:freeS N C r out c):OrdO N C r (out++[c]):=by
 intro j d hd i k hi hk h1 h2 h3
 rcases Nat.lt_or_ge j out.length with hj|hj
 · rw [List.getElem?_append_left hj] at hd
   rw [List.take_append_of_le_length (by omega)]
   exact h j d hd i k hi hk h1 h2 h3
 · have hjl:j<(out++[c]).length:=by
    rcases Nat.lt_or_ge j (out++[c]).length with h|h
    · exact h
    · rw [List.getElem?_eq_none h] at hd;cases hd
   have e:j=out.length:=by simp at hjl;omega
   subst e
   rw [List.getElem?_append_right (by omega)] at hd
   simp at hd
   subst hd
   rw [List.take_left]
   exact hf.2 i k hi hk h1 h2 h3
theorem ordG_O:∀ (f:Nat) (out:List Int),OrdO N C r out→OrdO N C r (ordG (fun out (c:Nat)=>freeB N C r out c) n f out)
 | 0,_,h=>h
 | f+1,out,h=>by
  rw [ordG]
  split
  · rename_i c hc
    exact ordG_O f _ (h.add (freeB_iff.1 (List.find?_some (p:=fun c:Nat=>freeB N C r out c) hc)))
  · exact h
theorem ordG_full {e:Nat→Nat→Prop} (F:OrdF N n C r e):∀ (f:Nat) (out:List Int),OI N n C r out→out.length+f=n→(ordG (fun out (c:Nat)=>freeB N C r out c) n f out).length=n
 | 0,out,_,hl=>hl
 | f+1,out,h,hl=>by
  rw [ordG]
  split
  · rename_i c hc
    have hf:=freeB_iff.1 (List.find?_some (p:=fun c:Nat=>freeB N C r out c) hc)
    have hcn:=List.mem_range.1 (List.mem_of_find?_eq_some hc)
    exact ordG_full F f _ (h.add hf (by omega)) (by rw [List.length_append,List.length_singleton];omega)
  · rename_i hno
    obtain⟨c,hc,hf⟩:=free_ex F h (by omega)
    have h1:=List.find?_eq_none.1 hno c (List.mem_range.2 hc)
    exact absurd (freeB_iff.2 hf) h1
end
theorem ord_len (g:TGraph) (a:TAutomaton):(ordOf g a).length=cntOf g a:=by
 cases hb:goodC g a with
 | false=>unfold ordOf cntOf;rw [hb];rfl
 | true=>
  have F:=ord_F (good_c2 hb).2 (good_c2 hb).1 hb
  have h:=ordG_full F (cntOf g a) [] (ord_I0 g a) (by simp)
  unfold ordOf;rw [if_pos hb];exact h
theorem comp_len {g:TGraph} {a:TAutomaton} (hgc:goodC g a=true):(compsOf g a).length=NP g a:=by rw [comps_map hgc,nextsV_len];simp;rfl
theorem comp_at {g:TGraph} {a:TAutomaton} (hgc:goodC g a=true) {i:Nat} (hi:i<NP g a):(compsOf g a)[i]?=some (cC g a i):=by
 rw [comps_map hgc,nextsV_len];exact range_get _ hi
theorem comp_good {g:TGraph} {a:TAutomaton} {i:Nat} (h:i<(compsOf g a).length):goodC g a=true:=by
 cases hb:goodC g a with
 | true=>rfl
 | false=>unfold compsOf at h;rw [hb] at h;simp at h
theorem comp_edge {g:TGraph} {a:TAutomaton} (hgc:goodC g a=true) {i:Nat} (hi:i<NP g a) {z:TProductStep} (hz:z∈stepsOf g a ((i:Int) / (a.Accept.length:Int)) ((i:Int)%(a.Accept.length:Int))):∃ k:Nat,z.Node*(a.Accept.length:Int)+z.State=(k:Int)∧k<NP g a∧(cC g a i=cC g a k→cycOf g a (cC g a i)=true)∧∀ j,(ordOf g a)[j]?=some (cC g a k)→cC g a i≠cC g a k→cC g a i∈(ordOf g a).take j:=by
 obtain⟨hg,ha⟩:=good_c2 hgc
 have F:=ord_F ha hg hgc
 have hm:z.Node*(a.Accept.length:Int)+z.State∈nxN g a i:=by rw [nxN_steps];exact List.mem_map.2 ⟨z,hz,rfl⟩
 have hr:=nxN_ok ha hg hi _ hm
 refine⟨(z.Node*(a.Accept.length:Int)+z.State).toNat,by omega,by unfold NP;omega,?_,?_⟩
 · intro he
   obtain⟨k,hk⟩:∃ k:Nat,z.Node*(a.Accept.length:Int)+z.State=(k:Int):=⟨(z.Node*(a.Accept.length:Int)+z.State).toNat,by omega⟩
   rw [hk] at hm hr he
   rw [Int.toNat_natCast] at he
   have hkN:k<NP g a:=by unfold NP;omega
   have hik:cR g a i k=true:=F.ed i k hi hkN (by rw [nextsV_at hi];exact hm)
   have hii:cR g a i i=true:=by
    rcases (F.co i k hi hkN).1 he with h|h
    · subst h;exact hik
    · exact F.tr i k i hi hkN hi hik h.2
   unfold cycOf
   rw [hgc,anyR_at hi (by rw [←cR_eq g a hi i,hii];unfold cC;simp)];rfl
 · intro j hj hne
   obtain⟨k,hk⟩:∃ k:Nat,z.Node*(a.Accept.length:Int)+z.State=(k:Int):=⟨(z.Node*(a.Accept.length:Int)+z.State).toNat,by omega⟩
   rw [hk] at hm hr hj hne
   rw [Int.toNat_natCast] at hj hne
   have hkN:k<NP g a:=by unfold NP;omega
   have hik:cR g a i k=true:=F.ed i k hi hkN (by rw [nextsV_at hi];exact hm)
   have hO:OrdO (NP g a) (cC g a) (cR g a) (ordOf g a):=by
    unfold ordOf;rw [if_pos hgc]
    exact ordG_O (cntOf g a) [] fun j c h=>by simp at h
   exact hO j _ hj i k hi hkN rfl hne hik
theorem take_hit {l:List Int} {j:Nat} {c:Int} (h:c∈l.take j):∃ x,x<j∧l[x]?=some c:=by
 obtain⟨x,hx⟩:=List.mem_iff_getElem?.1 h
 rw [List.getElem?_take] at hx
 split at hx
 · exact⟨x,by assumption,hx⟩
 · cases hx
end Go.Q
namespace Go.Proofs.YtbecibmlbiebeaaGreat
open Go.RowKit Go.Q Go.D
theorem specAllAnswers (g:TGraph) (a:TAutomaton):FnT Tryz.prog 28 [.agg (cGraph g),.agg (cAutomaton a)] (.a (.one (.sl 2 ((allAns g a).map cPair)))):=by
 refine Ba Tryz.func28 U (by kernel_rfl) Tryz.ntmps28 U fun hlen w0=>?_
 try simp [cPair,cEdge,cGraph,cAutomaton,cProductStep] at hlen
 skip
 refine Ah (Ab (Bm U U U (.tm U) (ts:=_) (by rfl)) U ?_);refine Ab (Bm U U U (.tm U) (ts:=_) (by rfl)) U ?_;refine Av ?_;refine Bw (i:=4) 20001 2 U U ?_;refine Aa (Ah (Bh (Cp 9 U U U Tryz.underlying48 ty58 U) U ?_));refine Ak ?_;refine Aa (Af (Ah (Av ?_)));refine Aa (AW.block (Bs (fun (i:Nat)=>(i≤g.Values.length∧(i=0∨goodC g a=true))∧True) (fun (i:Nat)=>⟨_,[(6,(true,.a (.one (.t (.v (.int .i64 (i:Nat))))))),(5,(true,.a (.one (.rf 9)))),(2,_),(3,_),(4,_)],[(9,.row 2 ((allTo g a i).map cPair))]⟩) (fun (i:Nat)=>g.Values.length-i) (0) ⟨⟨Nat.zero_le _,.inl U⟩,Y⟩ (An U ⟨U,U,U,U,U,Y⟩ ⟨(by refine congrArg (fun r=>some (R.row 2 r)) ?_;first|rfl|(simp [allTo];done)),Y⟩) ?_))
 rintro i ⟨hk,he⟩
 refine Af (Ah (Ac ?_));refine Ab (Ao U (.no U) U (.tm U) Ck) U ?_;refine Ab (Ap U (.no U) U (.tm U) By U U) U ?_;refine Ab (Bd U (.no U) U (.tm U) (by exact .t) Tryz.underlying40) U ?_;refine Ab (Bz U (.no U) U (.tm U) (.tm U)) U ?_;refine Ac ?_;refine Ab (Ap U (by exact .yes1 U U U U) U (.tmp U (by exact fun _=>rfl)) Bu U U) U ?_;refine Ab (Ap U (by exact .yes1 U U U U) U (.tmp U (by exact fun _=>rfl)) Br U U) U ?_;refine Ab (C7 U (by exact .yes1 U U U U) U (.cons (.tmp U (by exact id)) U (.cons (.tmp U (by exact id)) U (.cons (.const U) U (.cons (.const U) U .nil)))) fun hq=>FnT.fr (specl14Good g a 0 0)) U ?_;refine Ab (Cf U (.no U) U (.tm U) (.tmp U (by exact id))) U ?_;refine Aa (Aq (.tm U) (fun h19=>?_) (fun h19=>?_))
 · skip
   rw [good_c] at h19
   have hgc:goodC g a=true:=by simp at h19;exact h19.2
   have hiV:i<g.Values.length:=by simp at h19;omega
   obtain⟨hg,ha⟩:=good_c2 hgc
   have hG:=validG_len hg
   refine As (Af (AW.block (Af (A4 (σ':=⟨_,[(2,_),(3,_),(4,_),(5,_),(6,_)],[(9,_)]⟩) Ai ?_))));refine Ae (Ab (Ap U (.no U) U (.tm U) Bu U U) U ?_);refine Ab (Ap U (.no U) U (.tm U) Br U U) U ?_;refine Ac ?_;refine Ab (A6 (FnT.fr (specl15From g a ha hg (i:Int) (by omega))) U (.no U) U (.cons (.tm U) U (.cons (.tm U) U (.cons (.tm U) U .nil)))) U ?_;refine Ak ?_;refine Aa (Ah (Av ?_));refine Aa (AW.block (Bs (fun (k:Nat)=>(k≤(ansL g a i).length)∧True) (fun (k:Nat)=>⟨_,[(8,(true,.a (.one (.t (.v (.int .i64 (k:Nat))))))),(5,(true,.a (.one (.rf 9)))),(2,_),(3,_),(4,_),(6,_),(7,_)],[(9,.row 2 ((allTo g a i++((ansL g a i).take k).map fun y=>(⟨(i:Int),y⟩:TPair)).map cPair))]⟩) (fun (k:Nat)=>(ansL g a i).length-k) (0) ⟨Nat.zero_le _,Y⟩ (An U ⟨U,U,U,U,U,U,U,Y⟩ ⟨(by refine congrArg (fun r=>some (R.row 2 r)) ?_;first|rfl|(simp [allTo];done)),Y⟩) ?_))
   rintro k ⟨hk1,he1⟩
   refine Af (Ah (Ac ?_));refine Ac ?_;refine Ab (Bd U (.no U) U (.tm U) (by exact .t) Tryz.underlying40) U ?_;refine Ab (Bz U (.no U) U (.tm U) (.tm U)) U ?_;refine Aa (Aq (.tm U) (fun h29=>?_) (fun h29=>?_))
   · try simp at h29
     obtain⟨y,hy⟩:∃ ξ,(ansL g a i)[k]?=some ξ:=⟨_,List.getElem?_eq_getElem (by omega)⟩
     have hal:=allTo_len ha hg i
     have hkl:=ansL_len ha hg (i:Int)
     refine As (Af (AW.block (Ae (Ac ?_))));refine Ac ?_;refine Ac ?_;refine Ac ?_;refine Ab (Aw U (.no U) U (.tm U) (.tm U) Tryz.underlying40 ty3 (fun _=>⟨by omega,(Ax hy)⟩)) U ?_;refine Ab (Ap U (.no U) U (.tm U) ty3 U U) U ?_;refine Ab (Bo (ps:=[(0,.tmp 33),(1,.tmp 37)]) U U U in58 U U st58 (.cons (.tm U) U U fp58_0 (.cons (.tm U) U U fp58_1 .nil)) U) U ?_;refine Bp (Cc (xs:=[.tmp 38]) 39 U U U (.cons (.tm U) U U .nil) Tryz.underlying48 in58 U U U U) U ?_;refine Bk (Bt U U U (.tm U) U (.tm U) (by exact .rf U) (by rfl) Tryz.underlying48 in58 U (by (simp [chunk];omega)) (by (unfold maxLen;simp [chunk];omega))) U ?_;refine Bq (σ':=⟨_,[(2,_),(3,_),(4,_),(5,_),(6,_),(7,_),(8,_),(29,_),(40,_)],[(9,_),(39,_)]⟩) Ai ?_;refine Ak ?_;refine Aa (Ae (Ac ?_));refine Ab (Be U (.no U) U (.tm U) (.const U) (fun _=>by omega)) U ?_;refine Ak ?_;refine Aa ?_
     repeat (with_reducible refine Az ?_)
     refine Round1.next (k+1) ⟨by omega,Y⟩ (by omega) (An rfl ⟨rfl,rfl,rfl,rfl,rfl,rfl,rfl,Y⟩ ⟨(by refine congrArg (fun r=>some (R.row 2 r)) ?_;first|(rw [take_at hy];simp [chunk,cPair];done)|(rw [allTo_succ,List.take_of_length_le (by omega)];done)|(simp;done)),Y⟩)
   · try simp at h29
     refine Bf (Ae (Ac ?_));refine Ab (Be U (.no U) U (.tm U) (.const U) (fun _=>by omega)) U ?_;refine Ak ?_;refine Aa ?_
     repeat (with_reducible refine Az ?_)
     refine Round1.next (i+1) ⟨⟨by omega,.inr hgc⟩,Y⟩ (by omega) (An rfl ⟨rfl,rfl,rfl,rfl,rfl,Y⟩ ⟨(by refine congrArg (fun r=>some (R.row 2 r)) ?_;first|(rw [take_at hy];simp [chunk,cPair];done)|(rw [allTo_succ,List.take_of_length_le (by omega)];done)|(simp;done)),Y⟩)
 · skip
   rw [good_c] at h19
   have hv:allAns g a=allTo g a i:=(by unfold allAns;split;(rename_i hgc;have:i=g.Values.length:=(by have h:=h19;simp [hgc] at h;omega);rw [this]);(rename_i hgc;have:i=0:=(by rcases hk.2 with h|h;exact h;exact absurd h hgc);rw [this];simp [allTo]))
   refine Bf (Af (A4 (σ':=⟨_,[(2,_),(3,_),(4,_),(5,_),(6,_)],[(9,_)]⟩) Ai ?_));refine Ae (Ac ?_);refine Ak ?_;refine Aa (A3 (Res.one U (.tmp U .nil) U ?_))
   rw [hv];rfl
theorem specProductSteps (g:TGraph) (a:TAutomaton) (ha:validA a=true) (hg:validG g=true) (nd s v:Int) (hnd:0≤nd) (hndv:g.Values[nd.toNat]?=some v) (hst:0≤s∧s<a.Accept.length):FnT Tryz.prog 49 [.agg (cGraph g),.agg (cAutomaton a),.one (.v (.int .i64 nd)),.one (.v (.int .i64 s))] (.a (.one (.sl 4 ((stepsOf g a nd s).map cProductStep)))):=by
 have hgb:goodB g a nd s=true:=by
  have hlt:nd.toNat<g.Values.length:=by
   rcases Nat.lt_or_ge nd.toNat g.Values.length with h|h
   · exact h
   · rw [List.getElem?_eq_none h] at hndv;cases hndv
  unfold goodB inB;rw [ha,hg];simp;omega
 refine Ba Tryz.func49 U (by kernel_rfl) Tryz.ntmps49 U fun hlen w0=>?_
 try simp [cPair,cEdge,cGraph,cAutomaton,cProductStep] at hlen
 refine Ah (Ab (Bm U U U (.tm U) (ts:=_) (by rfl)) U ?_);refine Ab (Bm U U U (.tm U) (ts:=_) (by rfl)) U ?_;refine Av ?_;refine Bw (i:=8) 20001 4 U U ?_;refine Aa (Af (Ah (Ab (Ap U (.no U) U (.tm U) Bu U U) U ?_)));refine Ab (Ap U (.no U) U (.tm U) Br U U) U ?_;refine Ac ?_;refine Ac ?_;refine Ab (A6 (FnT.fr (specl14Good g a nd s)) U (.no U) U (.cons (.tm U) U (.cons (.tm U) U (.cons (.tm U) U (.cons (.tm U) U .nil))))) U ?_;refine Ab (Cq U (.no U) U (.tm U)) U ?_;refine Aa (Aq (.tm U) (fun h14=>?_) (fun h14=>?_))
 · exact absurd h14 (by simp [hgb])
 · try simp at h14
   refine As (Af (A4 (σ':=⟨_,[(0,_),(1,_),(2,_),(3,_),(4,_),(5,_),(8,_)],[(20001,_)]⟩) Ai ?_));refine Ae (Ab (Ap U (.no U) U (.tm U) Bu U U) U ?_);refine Ab (Ap U (.no U) U (.tm U) Br U U) U ?_;refine Ac ?_;refine Ac ?_;refine B8 (Cl 2000 (specl14Steps g a ha hg nd s v hnd hndv hst) U U U (.cons (.tm U) U (.cons (.tm U) U (.cons (.tm U) U (.cons (.tm U) U .nil)))) U U) U ?_;refine Ak ?_;refine Aa (A3 (Res.one U (.tmp U .nil) U ?_))
   rfl
theorem specEqualPairsC (l r:List TPair):FnT Tryz.prog 25 [.one (.sl 2 (l.map cPair)),.one (.sl 2 (r.map cPair))] (.a (.one (.v (.bool (decide (l=r)))))):=by
 refine Ba Tryz.func25 U (by kernel_rfl) Tryz.ntmps25 U fun hlen w0=>?_
 try simp [cPair,cEdge,cGraph,cAutomaton,cProductStep] at hlen
 skip
 refine Ah (Av ?_);refine Aa (Af (Ah (Ac ?_)));refine Ab (Bd U (.no U) U (.tm U) (by exact .t) Tryz.underlying48) U ?_;refine Ac ?_;refine Ab (Bd U (.no U) U (.tm U) (by exact .t) Tryz.underlying48) U ?_;refine Ab (Da U (.no U) U (.tm U) (.tm U)) U ?_;refine Aa (Aq (.tm U) (fun h10=>?_) (fun h10=>?_))
 · try simp at h10
   refine Ah (Av ?_);refine Aa (A3 (Bn U U ?_))
   have hne:l≠r:=(fun e=>by subst e;simp at h10);simp [hne]
 · try simp at h10
   refine As (Af (Ah (Av ?_)));refine Aa (AW.block (Bs (fun (k:Nat)=>(k≤l.length∧l.length=r.length)∧decide (l=r)=decide (l.drop k=r.drop k)) (fun (k:Nat)=>⟨_,[(5,(true,.a (.one (.t (.v (.int .i64 (k:Nat))))))),(0,_),(1,_)],[]⟩) (fun (k:Nat)=>l.length-k) (0) ⟨⟨Nat.zero_le _,by (try simp at h10);omega⟩,by simp⟩ (An U ⟨U,U,U,Y⟩ trivial) ?_))
   rintro k ⟨hk,he⟩
   refine Af (Ah (Ac ?_));refine Ac ?_;refine Ab (Bd U (.no U) U (.tm U) (by exact .t) Tryz.underlying48) U ?_;refine Ab (Bz U (.no U) U (.tm U) (.tm U)) U ?_;refine Aa (Aq (.tm U) (fun h14=>?_) (fun h14=>?_))
   · try simp at h14
     have hkl:k<l.length:=(by omega)
     obtain⟨x,hx⟩:∃ ξ,l[k]?=some ξ:=⟨_,List.getElem?_eq_getElem hkl⟩
     obtain⟨y,hy⟩:∃ ξ,r[k]?=some ξ:=⟨_,List.getElem?_eq_getElem (show k<r.length by omega)⟩
     refine As (Af (AW.block (Af (B9 9 (nthB [[],[],[0,1],[0,1,2],[],[],[4,5],[4,5,6],[0,1,2,3,4,5,6,7]]) (by kernel_rfl) (by kernel_rfl) (by kernel_rfl) ?_))));refine Ad U U U (Aj U fun σ' hs=>Ar U (.no U) (Ag hs U) (.tm (hs.slots _ _ U))) ?_;refine Ad U U U (Aj U fun σ' hs=>Ar U (.no U) (Ag hs U) (.tm (hs.slots _ _ U))) ?_;refine Ad U U U (Aj U fun σ' hs=>(by exact Aw U (.no U) (Ag hs U) (.tm (hs.slots _ _ U)) (.tm (hs.slots _ _ U)) Tryz.underlying48 ty58 (fun _=>⟨by omega,Ax hx⟩))) ?_;refine Ad U U U (Aj U fun σ' hs=>(by exact Ap U (.no U) (Ag hs U) (.tm (hs.slots _ _ U)) ty58 U U)) ?_;refine Ad U U U (Aj U fun σ' hs=>Ar U (.no U) (Ag hs U) (.tm (hs.slots _ _ U))) ?_;refine Ad U U U (Aj U fun σ' hs=>Ar U (.no U) (Ag hs U) (.tm (hs.slots _ _ U))) ?_
     refine Ad U U U (Aj U fun σ' hs=>(by exact Aw U (.no U) (Ag hs U) (.tm (hs.slots _ _ U)) (.tm (hs.slots _ _ U)) Tryz.underlying48 ty58 (fun _=>⟨by omega,Ax hy⟩))) ?_;refine Ad U U U (Aj U fun σ' hs=>(by exact Ap U (.no U) (Ag hs U) (.tm (hs.slots _ _ U)) ty58 U U)) ?_;refine Ad U U U (Aj U fun σ' hs=>R_eqs U (.no U) (Ag hs U) (.tm (hs.slots _ _ U)) (.tm (hs.slots _ _ U)) U U (by kernel_rfl) (neS58 _ _ _ _)) ?_;refine Bx U U ?_;refine Aa (Aq (.tm U) (fun h25=>?_) (fun h25=>?_))
     · skip
       skip
       have hne:l≠r:=(fun e=>by subst e;rw [hx] at hy;cases hy;simp at h25)
       refine Af (A4 (σ':=⟨_,[(0,_),(1,_),(5,_)],[]⟩) (An U ⟨U,U,U,Y⟩ trivial) ?_);refine Ae (Av ?_);refine Aa (A3 (Bn U U ?_))
       simp [hne]
     · skip
       skip
       have hx2:l[k]'hkl=r[k]'(by omega):=(by have e1:=(List.getElem?_eq_some_iff.1 hx).2;have e2:=(List.getElem?_eq_some_iff.1 hy).2;rw [e1,e2];cases x;cases y;simp at h25;simpa using h25)
       refine As (A4 (σ':=⟨_,[(0,_),(1,_),(5,_)],[]⟩) (An U ⟨U,U,U,Y⟩ trivial) ?_);refine Ae (Ac ?_);refine Ab (Be U (.no U) U (.tm U) (.const U) (fun _=>by omega)) U ?_;refine Ak ?_;refine Aa ?_
       repeat (with_reducible refine Az ?_)
       refine Round1.next (k+1) ⟨⟨by omega,hk.2⟩,by rw [he,List.drop_eq_getElem_cons (show k<l.length by omega),List.drop_eq_getElem_cons (show k<r.length by omega),hx2];simp only [List.cons.injEq,true_and]⟩ (by omega) (An rfl ⟨rfl,rfl,rfl,Y⟩ trivial)
   · try simp at h14
     refine Bf (Ah (Av ?_));refine Aa (A3 (Bn U U ?_))
     rw [he,List.drop_eq_nil_of_le (show l.length≤k by first|omega|(simp at h14;omega)),List.drop_eq_nil_of_le (show r.length≤k by first|omega|(simp at h14;omega))];simp
theorem lawssameIntsC (l r:List Int):FnT Tryz.prog 38 [.one (.sl 1 (l.map cInt)),.one (.sl 1 (r.map cInt))] (.a (.one (.v (.bool (decide (l=r)))))):=by
 refine Ba Tryz.func38 U (by kernel_rfl) Tryz.ntmps38 U fun hlen w0=>?_
 try simp [cPair,cEdge,cGraph,cAutomaton,cProductStep] at hlen
 refine Ah (Av ?_);refine Aa (Af (Ah (Ac ?_)));refine Ab (Bd U (.no U) U (.tm U) (by exact .t) Tryz.underlying40) U ?_;refine Ac ?_;refine Ab (Bd U (.no U) U (.tm U) (by exact .t) Tryz.underlying40) U ?_;refine Ab (Da U (.no U) U (.tm U) (.tm U)) U ?_;refine Aa (Aq (.tm U) (fun h10=>?_) (fun h10=>?_))
 · try simp at h10
   refine Ah (Av ?_);refine Aa (A3 (Bn U U ?_))
   congr 1;symm;exact decide_eq_false fun e=>h10 (by rw [e])
 · try simp at h10
   refine As (Af (Ah (Av ?_)));refine Aa (AW.block (Cr (β:=Nat) (fun x=>x≤l.length∧∀ i,i<x→l[i]?=r[i]?) (fun x=>⟨_,[(5,(true,.a (.one (.t (.v (.int .i64 x)))))),(0,_),(1,_)],[]⟩) (fun x=>l.length-x) (0) ⟨Nat.zero_le _,by simp⟩ (An U ⟨U,U,U,Y⟩ trivial) ?_));intro k hk
   obtain⟨hk,he⟩:=hk
   refine Af (Ah (Ac ?_));refine Ac ?_;refine Ab (Bd U (.no U) U (.tm U) (by exact .t) Tryz.underlying40) U ?_;refine Ab (Bz U (.no U) U (.tm U) (.tm U)) U ?_;refine Aa (Aq (.tm U) (fun h14=>?_) (fun h14=>?_))
   · try simp at h14
     obtain⟨x,hx⟩:∃ x,l[k]?=some x:=⟨_,List.getElem?_eq_getElem h14⟩
     obtain⟨y,hy⟩:∃ y,r[k]?=some y:=⟨_,List.getElem?_eq_getElem (by omega)⟩
     refine As (Af (AW.block (Af (B9 9 (nthB [[],[],[0,1],[0,1,2],[],[],[4,5],[4,5,6],[0,1,2,3,4,5,6,7]]) (by kernel_rfl) (by kernel_rfl) (by kernel_rfl) ?_))));refine Ad U U U (Aj U fun σ' hs=>Ar U (.no U) (Ag hs U) (.tm (hs.slots _ _ U))) ?_;refine Ad U U U (Aj U fun σ' hs=>Ar U (.no U) (Ag hs U) (.tm (hs.slots _ _ U))) ?_;refine Ad U U U (Aj U fun σ' hs=>(by exact Aw U (.no U) (Ag hs U) (.tm (hs.slots _ _ U)) (.tm (hs.slots _ _ U)) Tryz.underlying40 ty3 (fun _=>⟨by omega,(by exact Ax (by assumption))⟩))) ?_;refine Ad U U U (Aj U fun σ' hs=>(by exact Ap U (.no U) (Ag hs U) (.tm (hs.slots _ _ U)) ty3 U U)) ?_;refine Ad U U U (Aj U fun σ' hs=>Ar U (.no U) (Ag hs U) (.tm (hs.slots _ _ U))) ?_;refine Ad U U U (Aj U fun σ' hs=>Ar U (.no U) (Ag hs U) (.tm (hs.slots _ _ U))) ?_
     refine Ad U U U (Aj U fun σ' hs=>(by exact Aw U (.no U) (Ag hs U) (.tm (hs.slots _ _ U)) (.tm (hs.slots _ _ U)) Tryz.underlying40 ty3 (fun _=>⟨by omega,(by exact Ax (by assumption))⟩))) ?_;refine Ad U U U (Aj U fun σ' hs=>(by exact Ap U (.no U) (Ag hs U) (.tm (hs.slots _ _ U)) ty3 U U)) ?_;refine Ad U U U (Aj U fun σ' hs=>Da U (.no U) (Ag hs U) (.tm (hs.slots _ _ U)) (.tm (hs.slots _ _ U))) ?_;refine Bx U U ?_;refine Aa (Aq (.tm U) (fun h25=>?_) (fun h25=>?_))
     · try simp at h25
       refine Ah (Av ?_);refine Aa (A3 (Bn U U ?_))
       congr 1;symm;exact decide_eq_false fun e=>by rw [e] at hx;rw [hy] at hx;cases hx;simp at h25
     · try simp at h25
       have hxy:x=y:=h25
       refine As (Ae (Ac ?_));refine Ab (Be U (.no U) U (.tm U) (.const U) (fun _=>by omega)) U ?_;refine Ak ?_;refine Aa ?_;refine Round.next (k+1) ⟨by omega,fun i hi=>by rcases Nat.lt_or_eq_of_le (Nat.le_of_lt_succ hi) with h|rfl;exact he i h;rw [hx,hy,hxy]⟩ (by omega) (An rfl ⟨rfl,rfl,rfl,Y⟩ trivial)
   · try simp at h14
     refine Bf (Ah (Av ?_));refine Aa (A3 (Bn U U ?_))
     congr 1;symm;exact decide_eq_true (eq_of_getElem? (by omega) fun i hi=>he i (by omega))
end Go.Proofs.YtbecibmlbiebeaaGreat
