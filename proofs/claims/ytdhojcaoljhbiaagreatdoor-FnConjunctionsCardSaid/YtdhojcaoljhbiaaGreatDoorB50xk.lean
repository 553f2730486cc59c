import Derived.Test.YtdhojcaoljhbiaaGreatDoorB26xk
import Derived.Test.YtdhojcaoljhbiaaGreatDoorB78xk
import Derived.Test.YtdhojcaoljhbiaaGreatDoorB80xk
import Derived.Test.YtdhojcaoljhbiaaGreatDoorAbsRxk
set_option linter.unusedVariables false
set_option linter.unusedSimpArgs false
set_option maxHeartbeats 1000000
set_option maxRecDepth 100000
namespace Go.Q
open Go.D
theorem relIn_pairs {n:Nat} (hn:n≤5) {l:List TPair} (hl:relIn n l) (hs:StrictS pless l):arePairs l=true:=by
 unfold arePairs
 rw [List.all_eq_true]
 intro k hk
 have hk:=List.mem_range.1 hk
 unfold apAt
 rw [List.getElem?_eq_getElem hk]
 have hb:=hl _ (List.getElem_mem hk)
 have ho:okP l[k]=true:=by unfold okP inB;simp;omega
 simp only [ho,Bool.true_and,Bool.not_eq_true',Bool.and_eq_false_iff,decide_eq_false_iff_not]
 by_cases h0:0<k
 · right
   have hk1:k-1<l.length:=by omega
   rw [List.getElem?_eq_getElem hk1,Option.getD_some]
   simp only [Bool.not_eq_false']
   exact List.pairwise_iff_getElem.1 hs (k-1) k hk1 hk (by omega)
 exact .inl h0
def pairC1 (p:TPair) (b:List TPair):List TPair:=(b.filter fun q=>decide (p.To=q.From)).map fun q=>⟨p.From,q.To⟩
theorem pairC1_at {p:TPair} {b:List TPair} {k:Nat} {q:TPair} (h:b[k]?=some q):pairC1 p (b.take (k+1))=pairC1 p (b.take k)++if p.To=q.From then [⟨p.From,q.To⟩] else []:=by
 unfold pairC1
 rw [take_at h,List.filter_append,List.map_append]
 by_cases e:p.To=q.From<;>simp [e]
theorem pairsC_at {a b:List TPair} {k:Nat} {p:TPair} (h:a[k]?=some p):pairsC (a.take (k+1)) b=pairsC (a.take k) b++pairC1 p b:=by
 unfold pairsC
 rw [take_at h,List.flatMap_append];simp [pairC1]
theorem pairC1_len (p:TPair) (b:List TPair):(pairC1 p b).length≤b.length:=by
 unfold pairC1;rw [List.length_map];exact List.length_filter_le _ _
theorem pairsC_take (a b:List TPair) (k:Nat):(pairsC (a.take k) b).length≤a.length*b.length:=Nat.le_trans (pairsC_len _ _) (Nat.mul_le_mul_right _ (by simp;omega))
def selfTo (g:TGraph) (k:Int) (x:Nat):List TPair:=(List.range x).flatMap (selfP g k)
theorem selfTo_succ (g:TGraph) (k:Int) (x:Nat):selfTo g k (x+1)=selfTo g k x++selfP g k x:=by
 unfold selfTo;rw [List.range_succ,List.flatMap_append];simp
theorem selfP_len (g:TGraph) (k:Int) (x:Nat):(selfP g k x).length≤1:=by unfold selfP;split<;>simp
theorem selfTo_len (g:TGraph) (k:Int):∀ x,(selfTo g k x).length≤x
 | 0=>by simp [selfTo]
 | x+1=>by rw [selfTo_succ,List.length_append];have:=selfTo_len g k x;have:=selfP_len g k x;omega
def edgeTo (g:TGraph) (k:Int) (j:Nat):List TPair:=(g.Edges.take j).flatMap (edgeP k)
theorem edgeTo_at {g:TGraph} {k:Int} {j:Nat} {e:TEdge} (h:g.Edges[j]?=some e):edgeTo g k (j+1)=edgeTo g k j++edgeP k e:=by
 unfold edgeTo;rw [take_at h,List.flatMap_append];simp
theorem edgeP_len (k:Int) (e:TEdge):(edgeP k e).length≤2:=by unfold edgeP;rw [List.length_append];split<;>split<;>simp
theorem edgeTo_len (g:TGraph) (k:Int) (j:Nat):(edgeTo g k j).length≤2*g.Edges.length:=by
 unfold edgeTo
 have:∀ l:List TEdge,(l.flatMap (edgeP k)).length≤2*l.length:=by
  intro l
  induction l with
  | nil=>simp
  | cons e l ih=>rw [List.flatMap_cons,List.length_append,List.length_cons];have:=edgeP_len k e;omega
 have h:=this (g.Edges.take j)
 rw [List.length_take] at h
 omega
def arcP (k:Int) (x:Nat) (y:TArc):List TPair:=if y.letter=k then [⟨(x:Int),y.to⟩] else []
def arcRow (g:TGraph) (k:Int) (x j:Nat):List TPair:=((arcsAt g x).take j).flatMap (arcP k x)
theorem arcRow_at {g:TGraph} {k:Int} {x j:Nat} {y:TArc} (h:(arcsAt g x)[j]?=some y):arcRow g k x (j+1)=arcRow g k x j++arcP k x y:=by
 unfold arcRow;rw [take_at h,List.flatMap_append];simp
theorem arcRow_len (g:TGraph) (k:Int) (x j:Nat):(arcRow g k x j).length≤2*g.Edges.length:=by
 unfold arcRow
 have:∀ l:List TArc,(l.flatMap (arcP k x)).length≤l.length:=by
  intro l
  induction l with
  | nil=>simp
  | cons e l ih=>
   rw [List.flatMap_cons,List.length_append,List.length_cons]
   have h1:(arcP k x e).length≤1:=by unfold arcP;split<;>simp
   omega
 have h:=this ((arcsAt g x).take j)
 rw [List.length_take] at h
 have h2:(arcsAt g x).length≤2*g.Edges.length:=arcsL_len _ _
 omega
def arcTo (g:TGraph) (k:Int) (x:Nat):List TPair:=(List.range x).flatMap fun z=>arcRow g k z (arcsAt g z).length++selfP g k z
theorem arcTo_succ (g:TGraph) (k:Int) (x:Nat):arcTo g k (x+1)=arcTo g k x++(arcRow g k x (arcsAt g x).length++selfP g k x):=by
 unfold arcTo;rw [List.range_succ,List.flatMap_append];simp
theorem arcTo_len (g:TGraph) (k:Int):∀ x,(arcTo g k x).length≤x*(2*g.Edges.length+1)
 | 0=>by simp [arcTo]
 | x+1=>by
  rw [arcTo_succ,List.length_append,List.length_append,Nat.succ_mul]
  have:=arcTo_len g k x
  have:=arcRow_len g k x (arcsAt g x).length
  have:=selfP_len g k x
  omega
theorem arcTo_let {g:TGraph} (hg:validG g=true) (k:Int):setG pless (arcTo g k g.Values.length)=letL g k:=by
 unfold letL
 refine setG_ext fun p=>?_
 unfold arcTo
 rw [List.mem_append]
 simp only [List.mem_flatMap,List.mem_range,List.mem_append]
 have hrow:∀ z:Nat,p∈arcRow g k z (arcsAt g z).length↔p.From=(z:Int)∧∃ y∈arcsAt g z,y.letter=k∧p.To=y.to:=by
  intro z
  unfold arcRow arcP
  rw [List.take_length]
  simp only [List.mem_flatMap]
  constructor
  · rintro⟨y,hy,h⟩
    split at h
    · rename_i hk
      rw [List.mem_singleton] at h
      subst h
      exact⟨rfl,y,hy,hk,rfl⟩
    cases h
  rintro⟨h1,y,hy,hk,h2⟩
  exact⟨y,hy,by rw [if_pos hk,List.mem_singleton];cases p;simp at h1 h2 ⊢;exact⟨h1,h2⟩⟩
 constructor
 · rintro⟨z,hz,h|h⟩
   · right
     obtain⟨h1,y,hy,hk,h2⟩:=(hrow z).1 h
     unfold arcsAt arcsL at hy
     obtain⟨e,he,hy⟩:=List.mem_flatMap.1 hy
     refine⟨e,he,?_⟩
     unfold edgeP
     unfold arcsOf at hy
     rcases List.mem_append.1 hy with hy|hy
     · split at hy
       · rename_i hf
         rw [List.mem_singleton] at hy
         subst hy
         unfold reads at hk
         refine List.mem_append.2 (.inl ?_)
         rw [if_pos (by simpa using hk),List.mem_singleton]
         cases p;simp at h1 h2 ⊢;omega
       cases hy
     split at hy
     · rename_i hf
       rw [List.mem_singleton] at hy
       subst hy
       unfold reads at hk
       refine List.mem_append.2 (.inr ?_)
       rw [if_pos (by simpa using hk),List.mem_singleton]
       cases p;simp at h1 h2 ⊢;omega
     cases hy
   exact .inl ⟨z,hz,h⟩
 rintro (⟨z,hz,h⟩|⟨e,he,h⟩)
 · exact⟨z,hz,.inr h⟩
 obtain⟨j,hj⟩:=List.getElem?_of_mem he
 have hb:=validG_edge hg hj
 unfold edgeP at h
 rcases List.mem_append.1 h with h|h
 · split at h
   · rename_i hk
     rw [List.mem_singleton] at h
     subst h
     refine⟨e.From.toNat,by omega,.inl ((hrow _).2 ⟨by simp only;omega,⟨⟨e.ID,false⟩,reads e false,e.To⟩,?_,by simpa [reads] using hk,rfl⟩)⟩
     unfold arcsAt arcsL
     refine List.mem_flatMap.2 ⟨e,he,?_⟩
     unfold arcsOf
     rw [if_pos (by omega)];simp
   cases h
 split at h
 · rename_i hk
   rw [List.mem_singleton] at h
   subst h
   refine⟨e.To.toNat,by omega,.inl ((hrow _).2 ⟨by simp only;omega,⟨⟨e.ID,true⟩,reads e true,e.From⟩,?_,by simpa [reads] using hk,rfl⟩)⟩
   unfold arcsAt arcsL
   refine List.mem_flatMap.2 ⟨e,he,?_⟩
   unfold arcsOf
   rw [if_pos (show e.To=_ by omega)];simp
 cases h
theorem selfP_at {g:TGraph} {k v:Int} {x:Nat} (hv:g.Values[x]?=some v):selfP g k x=if k=6+v then [⟨(x:Int),(x:Int)⟩] else []:=by unfold selfP;rw [hv];rfl
end Go.Q
namespace Go.Proofs.YtdhojcaoljhbiaaGreatDoor
open Go.RowKit Go.Q Go.D
theorem specIdentityRelation (n:Nat) (hn:n≤5):FnT Tryz.prog 98 [.one (.v (.int .i64 (n:Int)))] (.a (.one (.sl 2 ((idL n).map cPair)))):=by
 refine Ay Tryz.func98 U (by kernel_rfl) Tryz.ntmps98 U fun hlen w0=>?_
 try simp [cPair,cEdge,cGraph] at hlen
 skip
 refine Ae (Ak ?_);refine By (i:=2) 20001 2 U U ?_;refine Aa (Ae (A6 (Ce 5 U U U Tryz.underlying89 Cj U) U ?_));refine Ah ?_;refine Aa (Ac (Ae (Ak ?_)));refine Aa (AW.block (Bj (fun (k:Nat)=>(k≤n)∧True) (fun (k:Nat)=>⟨_,[(4,(true,.a (.one (.t (.v (.int .i64 (k:Nat))))))),(3,(true,.a (.one (.rf 5)))),(0,_),(2,_)],[(5,.row 2 ((idL k).map cPair))]⟩) (fun (k:Nat)=>n-k) (0) ⟨Nat.zero_le _,Y⟩ Bm ?_))
 rintro k ⟨hk,he⟩
 refine Ac (Ae (Ab ?_));refine Ab ?_;refine AWl.lt ?_;refine Ab ?_;refine Cp ?_;refine Ag (R_le U (by exact .yes1 U U U U) U (.tmp U (by exact id)) (.const U)) U ?_;refine Cm ?_;refine Aa (Ai (.tm U) (fun h12=>?_) (fun h12=>?_))
 · try simp at h12
   have hkn:k<n:=by (first|omega|(simp at h12;omega))
   have hil:(idL k).length=k:=by unfold idL;simp
   refine Aj (Ac (AW.block (Am (As [0,2,3,4] [5]) ?_)));refine Ad (Ab ?_);refine Ab ?_;refine Ab ?_;refine Ag (Bd (ps:=[(0,.tmp 16),(1,.tmp 17)]) U U U Du U U st97 (.cons (.tm U) U U fp97_0 (.cons (.tm U) U U fp97_1 .nil)) U) U ?_;refine Bh (Ch (xs:=[.tmp 18]) 19 U U U (.cons (.tm U) U U .nil) Tryz.underlying89 Du U U U U) U ?_;refine Bu (B7 U U U (.tm U) U (.tm U) (by exact .rf U) (by rfl) Tryz.underlying89 Du U (by (simp [chunk];omega)) (by (unfold maxLen;simp [chunk];omega))) U ?_;refine Bt (As [0,2,3,4,20] [5,19]) ?_;refine Ah ?_;refine Aa (Ad (Ab ?_));refine A8 ?_;refine Ah ?_;refine Aa ?_
   repeat (with_reducible refine Au ?_)
   refine Round1.next (k+1) ⟨by omega,Y⟩ (by omega) (Ar rfl ⟨rfl,rfl,rfl,rfl,Y⟩ ⟨(by refine congrArg (fun r=>some (R.row 2 r)) ?_;rw [idL_succ];simp [chunk,cPair]),Y⟩)
 try simp at h12
 refine Ba (Ac (Am (As [0,2,3,4] [5]) ?_));refine Ad (Ab ?_);refine Ah ?_;refine Aa (Al (Res.one U (.tmp U .nil) U ?_))
 rw [show k=n by first|omega|(simp at h12;omega)];rfl
theorem implIdentityRelation (n:Nat) (hn:n≤5):FnT Tryz.prog 181 [.one (.v (.int .i64 (n:Int)))] (.a (.one (.sl 2 ((idL n).map cPair)))):=by
 refine Ay Tryz.func181 U (by kernel_rfl) Tryz.ntmps181 U fun hlen w0=>?_
 try simp [cPair,cEdge,cGraph] at hlen
 skip
 refine Ae (Ak ?_);refine By (i:=2) 20001 2 U U ?_;refine Aa (Ac (Ae (Ab ?_)));refine AWl.gc ?_;refine Aa (Ai (.tm U) (fun h6=>?_) (fun h6=>?_))
 · exact absurd h6 (by simp at h6;omega)
 try simp at h6
 refine Aj (Ae (A6 (Ce 7 U U U Tryz.underlying89 Cj U) U ?_));refine Ah ?_;refine Aa (Ac (Ae (Ak ?_)));refine Aa (AW.block (Bj (fun (k:Nat)=>(k≤n)∧True) (fun (k:Nat)=>⟨_,[(4,(true,.a (.one (.t (.v (.int .i64 (k:Nat))))))),(3,(true,.a (.one (.rf 7)))),(0,_),(2,_)],[(7,.row 2 ((idL k).map cPair))]⟩) (fun (k:Nat)=>n-k) (0) ⟨Nat.zero_le _,Y⟩ Bm ?_))
 rintro k ⟨hk,he⟩
 refine Ac (Ae (Ab ?_));refine Ab ?_;refine AWl.lt ?_;refine Aa (Ai (.tm U) (fun h10=>?_) (fun h10=>?_))
 · try simp at h10
   have hkn:k<n:=by omega
   have hil:(idL k).length=k:=by unfold idL;simp
   refine Aj (Ac (AW.block (Ad (Ab ?_))));refine Ab ?_;refine Ab ?_;refine Ag (Bd (ps:=[(0,.tmp 14),(1,.tmp 15)]) U U U Du U U st97 (.cons (.tm U) U U fp97_0 (.cons (.tm U) U U fp97_1 .nil)) U) U ?_;refine Bh (Ch (xs:=[.tmp 16]) 17 U U U (.cons (.tm U) U U .nil) Tryz.underlying89 Du U U U U) U ?_;refine Bu (B7 U U U (.tm U) U (.tm U) (by exact .rf U) (by rfl) Tryz.underlying89 Du U (by (simp [chunk];omega)) (by (unfold maxLen;simp [chunk];omega))) U ?_;refine Bt (As [0,2,3,4,10,18] [7,17]) ?_;refine Ah ?_;refine Aa (Ad (Ab ?_));refine A8 ?_;refine Ah ?_;refine Aa ?_
   repeat (with_reducible refine Au ?_)
   refine Round1.next (k+1) ⟨by omega,Y⟩ (by omega) (Ar rfl ⟨rfl,rfl,rfl,rfl,Y⟩ ⟨(by refine congrArg (fun r=>some (R.row 2 r)) ?_;rw [idL_succ];simp [chunk,cPair]),Y⟩)
 try simp at h10
 refine Ba (Ae (Ab ?_));refine Ah ?_;refine Aa (Al (Res.one U (.tmp U .nil) U ?_))
 rw [show k=n by omega];rfl
theorem specHoldsAt (g:TGraph) (hg:validG g=true) (x k v:Int) (hx:0≤x) (hv:g.Values[x.toNat]?=some v) (hk:0≤k∧k≤8):FnT Tryz.prog 138 [.agg (cGraph g),.one (.v (.int .i64 x)),.one (.v (.int .i64 k))] (.a (.one (.v (.bool (decide (k=6+v)))))):=by
 refine Ay Tryz.func138 U (by kernel_rfl) Tryz.ntmps138 U fun hlen w0=>?_
 try simp [cPair,cEdge,cGraph] at hlen
 have hG:=validG_len hg
 have hvr:=validG_val hg hv
 have hxl:=(List.getElem?_eq_some_iff.1 hv).1
 refine Ae (Ag (B9 U U U (.tm U) (ts:=_) (by rfl)) U ?_);refine Ak ?_;refine Aa (Ae (Aq Bz ?_));refine Bl (specIsValidGraph g) ?_;refine Ab ?_;refine Cp ?_;refine Ds Cv ?_;refine Dm Ca ?_;refine Ag (C4 U (by exact .yes1 U U U U) U (.tmp U (by exact id)) (by exact .t) Tryz.underlying34) U ?_;refine Ag (Dy U (by exact .yes1 U U U U) U (.tmp U (by exact id)) (.const U) (fun hq=>by first|omega|(simp at hq;omega))) U ?_;refine Ag (A3 (FnT.fr (specl1In ..)) U (by exact .yes1 U U U U) U (.cons (.tmp U (by exact id)) U (.cons (.const U) U (.cons (.tmp U (by exact id)) U .nil)))) U ?_;refine Cm ?_;refine Ab ?_;refine Cp ?_;refine Ag (A3 (FnT.fr (specl1In ..)) U (by exact .yes1 U U U U) U (.cons (.tmp U (by exact id)) U (.cons (.const U) U (.cons (.const U) U .nil)))) U ?_;refine Cm ?_;refine Ab ?_;refine Ds Cv ?_;refine Dm Ca ?_;refine Cp ?_
 refine Ag (by exact An U (by exact .yes1 U U U U) U (.tmp U (by exact id)) (.tmp U (by exact id)) Tryz.underlying34 ty3 (fun hq=>by (try simp at hq);exact⟨by omega,(Ao hv)⟩)) U ?_;refine Dm ty3 ?_;refine Cp ?_;refine Ag (Dy U (by exact .yes1 U U U U) U (.tmp U (by exact id)) (.const U) (fun hq=>by first|omega|(simp at hq;omega))) U ?_;refine Ag (R_eq U (by exact .yes1 U U U U) U (.tmp U (by exact id)) (.tmp U (by exact id))) U ?_;refine Cm ?_;refine Ah ?_;refine Aa (Al (Bb U U ?_))
 (congr 1;unfold inB;rw [hg,Bool.eq_iff_iff];simp only [Bool.and_eq_true,decide_eq_true_eq,true_and];omega)
theorem implHoldsAt (g:TGraph) (hg:validG g=true) (x k v:Int) (hx:0≤x) (hv:g.Values[x.toNat]?=some v) (hk:0≤k∧k≤8):FnT Tryz.prog 232 [.agg (cGraph g),.one (.v (.int .i64 x)),.one (.v (.int .i64 k))] (.a (.one (.v (.bool (decide (k=6+v)))))):=by
 refine Ay Tryz.func232 U (by kernel_rfl) Tryz.ntmps232 U fun hlen w0=>?_
 try simp [cPair,cEdge,cGraph] at hlen
 have hG:=validG_len hg
 have hvr:=validG_val hg hv
 have hxl:=(List.getElem?_eq_some_iff.1 hv).1
 refine Ae (Ag (B9 U U U (.tm U) (ts:=_) (by rfl)) U ?_);refine Ak ?_;refine Aa (Ae (Aq Bz ?_));refine Bl (implIsValidGraph g) ?_;refine Ab ?_;refine Cp ?_;refine Ds Cv ?_;refine Dm Ca ?_;refine Ag (C4 U (by exact .yes1 U U U U) U (.tmp U (by exact id)) (by exact .t) Tryz.underlying34) U ?_;refine Ag (Dy U (by exact .yes1 U U U U) U (.tmp U (by exact id)) (.const U) (fun hq=>by first|omega|(simp at hq;omega))) U ?_;refine Ag (A3 (FnT.fr (implwithin ..)) U (by exact .yes1 U U U U) U (.cons (.tmp U (by exact id)) U (.cons (.const U) U (.cons (.tmp U (by exact id)) U .nil)))) U ?_;refine Cm ?_;refine Ab ?_;refine Cp ?_;refine Ag (A3 (FnT.fr (implisLetter ..)) U (by exact .yes1 U U U U) U (.cons (.tmp U (by exact id)) U .nil)) U ?_;refine Cm ?_;refine Ab ?_;refine Cp ?_;refine Ds Cv ?_;refine Dm Ca ?_;refine Cp ?_
 refine Ag (by exact An U (by exact .yes1 U U U U) U (.tmp U (by exact id)) (.tmp U (by exact id)) Tryz.underlying34 ty3 (fun hq=>by (try simp at hq);exact⟨by omega,(Ao hv)⟩)) U ?_;refine Dm ty3 ?_;refine Ag (R_add U (by exact .yes1 U U U U) U (.const U) (.tmp U (by exact id)) (fun hq=>by first|omega|(simp at hq;omega))) U ?_;refine Ag (R_eq U (by exact .yes1 U U U U) U (.tmp U (by exact id)) (.tmp U (by exact id))) U ?_;refine Cm ?_;refine Ah ?_;refine Aa (Al (Bb U U ?_))
 (congr 1;unfold inB;rw [hg,Bool.eq_iff_iff];simp only [Bool.and_eq_true,decide_eq_true_eq,true_and];omega)
theorem specLetterRelation (g:TGraph) (hg:validG g=true) (k:Int) (hkr:0≤k∧k≤8):FnT Tryz.prog 99 [.agg (cGraph g),.one (.v (.int .i64 k))] (.a (.one (.sl 2 ((letL g k).map cPair)))):=by
 refine Ay Tryz.func99 U (by kernel_rfl) Tryz.ntmps99 U fun hlen w0=>?_
 try simp [cPair,cEdge,cGraph] at hlen
 have hG:=validG_len hg
 refine Ae (Ag (B9 U U U (.tm U) (ts:=_) (by rfl)) U ?_);refine Ak ?_;refine By (i:=4) 20001 2 U U ?_;refine Aa (Ae (A6 (Ce 9 U U U Tryz.underlying89 Cj U) U ?_));refine Ah ?_;refine Aa (Ac (Ae (Aq Bz ?_)));refine Bl (specIsValidGraph g) ?_;refine C1 ?_;refine Aa (Ai (.tm U) (fun h12=>?_) (fun h12=>?_))
 · exact absurd h12 (by simp [hg] at h12)
 try simp at h12
 refine Aj (Ac (Ae (Ak ?_)));refine Aa (AW.block (Bj (fun (x:Nat)=>(x≤g.Values.length)∧True) (fun (x:Nat)=>⟨_,[(6,(true,.a (.one (.t (.v (.int .i64 (x:Nat))))))),(5,(true,.a (.one (.rf 9)))),(1,_),(2,_),(4,_)],[(9,.row 2 ((setG pless (selfTo g k x)).map cPair))]⟩) (fun (x:Nat)=>g.Values.length-x) (0) ⟨Nat.zero_le _,Y⟩ (Ar U ⟨U,U,U,U,U,Y⟩ ⟨(by refine congrArg (fun r=>some (R.row 2 r)) ?_;first|(simp [selfTo,setG];done)|(rw [show x=g.Values.length by omega];simp [edgeTo];done)),Y⟩) ?_))
 rintro x ⟨hk,he⟩
 refine Ac (Ae (Ab ?_));refine A7 Cv ?_;refine Aq Ca ?_;refine Bc (.t) Tryz.underlying34 ?_;refine AWl.lt ?_;refine Aa (Ai (.tm U) (fun h18=>?_) (fun h18=>?_))
 · try simp at h18
   obtain⟨v,hv⟩:∃ v,g.Values[x]?=some v:=⟨_,List.getElem?_eq_getElem (by omega)⟩
   have hsl:=selfTo_len g k x
   refine Aj (Ac (AW.block (Ae (Aq Bz ?_))));refine Ab ?_;refine Ab ?_;refine Ag (A3 (FnT.fr (specHoldsAt g hg (x:Int) k v (by omega) (by simpa using hv) hkr)) U (.no U) U (.cons (.tm U) U (.cons (.tm U) U (.cons (.tm U) U .nil)))) U ?_;refine Aa (Ai (.tm U) (fun h24=>?_) (fun h24=>?_))
   · try simp at h24
     refine Am (As [1,2,4,5,6] [9]) ?_;refine Ad (Ab ?_);refine Ab ?_;refine Ab ?_;refine Ag (Bd (ps:=[(0,.tmp 26),(1,.tmp 27)]) U U U Du U U st97 (.cons (.tm U) U U fp97_0 (.cons (.tm U) U U fp97_1 .nil)) U) U ?_;apply Cu
     case ho=>
      apply Da (xo:=.tmp 25) 9 (specl15Put (setG pless (selfTo g k x)) ⟨(x:Int),(x:Int)⟩ (Nat.le_trans (setG_len _) (by omega))) rfl rfl rfl (.tm rfl)
      case ha=>rfl
      case hargs=>exact (ArgC.own (ArgRd.agg (.tm rfl) .nil))
      all_goals rfl
     case hd=>rfl
     refine Ah ?_;refine Aa (Ad (Ab ?_));refine A8 ?_;refine Ah ?_;refine Aa ?_
     repeat (with_reducible refine Au ?_)
     refine Round1.next (x+1) ⟨by omega,Y⟩ (by omega) (Ar rfl ⟨rfl,rfl,rfl,rfl,rfl,Y⟩ ⟨(by refine congrArg (fun r=>some (R.row 2 r)) ?_;first|(rw [selfTo_succ,selfP_at hv,if_pos (by simpa using h24),setG_add];done)|(rw [selfTo_succ,selfP_at hv,if_neg (by simpa using h24),List.append_nil];done)|(rw [edgeTo_at hx];unfold edgeP;rw [if_pos h59,←List.append_assoc,←List.append_assoc,setG_add];done)|(rw [edgeTo_at hx];unfold edgeP;rw [if_neg h59,List.append_nil,←List.append_assoc];done)),Y⟩)
   try simp at h24
   refine Aj (Am (As [1,2,4,5,6] [9]) ?_);refine Ad (Ab ?_);refine A8 ?_;refine Ah ?_;refine Aa ?_
   repeat (with_reducible refine Au ?_)
   refine Round1.next (x+1) ⟨by omega,Y⟩ (by omega) (Ar rfl ⟨rfl,rfl,rfl,rfl,rfl,Y⟩ ⟨(by refine congrArg (fun r=>some (R.row 2 r)) ?_;first|(rw [selfTo_succ,selfP_at hv,if_pos (by simpa using h24),setG_add];done)|(rw [selfTo_succ,selfP_at hv,if_neg (by simpa using h24),List.append_nil];done)|(rw [edgeTo_at hx];unfold edgeP;rw [if_pos h59,←List.append_assoc,←List.append_assoc,setG_add];done)|(rw [edgeTo_at hx];unfold edgeP;rw [if_neg h59,List.append_nil,←List.append_assoc];done)),Y⟩)
 try simp at h18
 refine Ba (Ac (Ae (Ak ?_)));refine Aa (AW.block (Bj (fun (j:Nat)=>(j≤g.Edges.length)∧True) (fun (j:Nat)=>⟨_,[(7,(true,.a (.one (.t (.v (.int .i64 (j:Nat))))))),(5,(true,.a (.one (.rf 9)))),(1,_),(2,_),(4,_)],[(9,.row 2 ((setG pless (selfTo g k g.Values.length++edgeTo g k j)).map cPair))]⟩) (fun (j:Nat)=>g.Edges.length-j) (0) ⟨Nat.zero_le _,Y⟩ (Ar U ⟨U,U,U,U,U,Y⟩ ⟨(by refine congrArg (fun r=>some (R.row 2 r)) ?_;first|(simp [selfTo,setG];done)|(rw [show x=g.Values.length by omega];simp [edgeTo];done)),Y⟩) ?_))
 rintro j ⟨hk1,he1⟩
 refine Ac (Ae (Ab ?_));refine A7 Dr ?_;refine Aq ty35 ?_;refine Bc (.t) Tryz.underlying35 ?_;refine AWl.lt ?_;refine Aa (Ai (.tm U) (fun h34=>?_) (fun h34=>?_))
 · try simp at h34
   obtain⟨e,hx⟩:∃ ξ,g.Edges[j]?=some ξ:=⟨_,List.getElem?_eq_getElem (by omega)⟩
   have hb:=validG_edge hg hx
   have hsl:=selfTo_len g k g.Values.length
   have hel:=edgeTo_len g k j
   refine Aj (Ac (AW.block (Ae (A7 Dr ?_))));refine Aq ty35 ?_;refine Ab ?_;refine Ag (An U (.no U) U (.tm U) (.tm U) Tryz.underlying35 ty101 (fun _=>⟨by omega,(Ao hx)⟩)) U ?_;refine Aq ty101 ?_;refine A6 (Bo 8 U U U in101 U U U) U ?_;refine A4 ty101 ?_;refine Aa (Ac (Ac (Am (As [1,2,4,5,7,8] [9,8]) ?_)));refine Ad (B6 fl101_3 ?_);refine Bp ty3 ?_;refine Ag (R_mul U (.no U) U (.const U) (.tm U) (fun _=>by omega)) U ?_;refine Ab ?_;refine AWl.eq ?_;refine Aa (Ai (.tm U) (fun h46=>?_) (fun h46=>?_))
   · try simp at h46
     refine Ad (Ab ?_);refine B6 fl101_1 ?_;refine Bp ty3 ?_;refine B6 fl101_2 ?_;refine Bp ty3 ?_;refine Ag (Bd (ps:=[(0,.tmp 49),(1,.tmp 51)]) U U U Du U U st97 (.cons (.tm U) U U fp97_0 (.cons (.tm U) U U fp97_1 .nil)) U) U ?_;apply Cu
     case ho=>
      apply Da (xo:=.tmp 47) 9 (specl15Put (setG pless (selfTo g k g.Values.length++edgeTo g k j)) ⟨e.From,e.To⟩ (Nat.le_trans (setG_len _) (by rw [List.length_append];omega))) rfl rfl rfl (.tm rfl)
      case ha=>rfl
      case hargs=>exact (ArgC.own (ArgRd.agg (.tm rfl) .nil))
      all_goals rfl
     case hd=>rfl
     refine Ah ?_;refine Aa (Ac (Am (σ':=⟨_,[(1,_),(2,_),(4,_),(5,_),(7,_),(8,_)],[(8,_),(9,.row 2 ((setG pless (selfTo g k g.Values.length++edgeTo g k j++(if 2*e.Label=k then [⟨e.From,e.To⟩] else []))).map cPair))]⟩) (Ar U ⟨U,U,U,U,U,U,Y⟩ ⟨U,by refine congrArg (fun r=>some (R.row 2 r)) ?_;first|(rw [if_pos h46,setG_add];done)|(rw [if_neg h46,List.append_nil];done),Y⟩) ?_));refine Ad (B6 fl101_3 ?_);refine Bp ty3 ?_;refine Ag (R_mul U (.no U) U (.const U) (.tm U) (fun _=>by omega)) U ?_;refine A8 ?_;refine Ab ?_;refine AWl.eq ?_;refine Aa (Ai (.tm U) (fun h59=>?_) (fun h59=>?_))
     · try simp at h59
       refine Am (As [1,2,4,5,7,8] [8,9]) ?_;refine Ad (Ab ?_);refine B6 fl101_2 ?_;refine Bp ty3 ?_;refine B6 fl101_1 ?_;refine Bp ty3 ?_;refine Ag (Bd (ps:=[(0,.tmp 62),(1,.tmp 64)]) U U U Du U U st97 (.cons (.tm U) U U fp97_0 (.cons (.tm U) U U fp97_1 .nil)) U) U ?_;apply Cu
       case ho=>
        apply Da (xo:=.tmp 60) 9 (specl15Put (setG pless (selfTo g k g.Values.length++edgeTo g k j++(if 2*e.Label=k then [⟨e.From,e.To⟩] else []))) ⟨e.To,e.From⟩ (Nat.le_trans (setG_len _) (by rw [List.length_append,List.length_append];split<;>simp<;>omega))) rfl rfl rfl (.tm rfl)
        case ha=>rfl
        case hargs=>exact (ArgC.own (ArgRd.agg (.tm rfl) .nil))
        all_goals rfl
       case hd=>rfl
       refine Ah ?_;refine Aa (Am (As [1,2,4,5,7,8] [8,9]) ?_);refine Ad (Ab ?_);refine A8 ?_;refine Ah ?_;refine Aa ?_
       repeat (with_reducible refine Au ?_)
       refine Round1.next (j+1) ⟨by omega,Y⟩ (by omega) (Ar rfl ⟨rfl,rfl,rfl,rfl,rfl,Y⟩ ⟨(by refine congrArg (fun r=>some (R.row 2 r)) ?_;first|(rw [selfTo_succ,selfP_at hv,if_pos (by simpa using h24),setG_add];done)|(rw [selfTo_succ,selfP_at hv,if_neg (by simpa using h24),List.append_nil];done)|(rw [edgeTo_at hx];unfold edgeP;rw [if_pos h59,←List.append_assoc,←List.append_assoc,setG_add];done)|(rw [edgeTo_at hx];unfold edgeP;rw [if_neg h59,List.append_nil,←List.append_assoc];done)),Y⟩)
     try simp at h59
     refine Aj (Am (As [1,2,4,5,7,8] [8,9]) ?_);refine Ad (Ab ?_);refine A8 ?_;refine Ah ?_;refine Aa ?_
     repeat (with_reducible refine Au ?_)
     refine Round1.next (j+1) ⟨by omega,Y⟩ (by omega) (Ar rfl ⟨rfl,rfl,rfl,rfl,rfl,Y⟩ ⟨(by refine congrArg (fun r=>some (R.row 2 r)) ?_;first|(rw [selfTo_succ,selfP_at hv,if_pos (by simpa using h24),setG_add];done)|(rw [selfTo_succ,selfP_at hv,if_neg (by simpa using h24),List.append_nil];done)|(rw [edgeTo_at hx];unfold edgeP;rw [if_pos h59,←List.append_assoc,←List.append_assoc,setG_add];done)|(rw [edgeTo_at hx];unfold edgeP;rw [if_neg h59,List.append_nil,←List.append_assoc];done)),Y⟩)
   try simp at h46
   refine Aj (Ac (Am (σ':=⟨_,[(1,_),(2,_),(4,_),(5,_),(7,_),(8,_)],[(9,.row 2 ((setG pless (selfTo g k g.Values.length++edgeTo g k j++(if 2*e.Label=k then [⟨e.From,e.To⟩] else []))).map cPair)),(8,_)]⟩) (Ar U ⟨U,U,U,U,U,U,Y⟩ ⟨by refine congrArg (fun r=>some (R.row 2 r)) ?_;first|(rw [if_pos h46,setG_add];done)|(rw [if_neg h46,List.append_nil];done),U,Y⟩) ?_));refine Ad (B6 fl101_3 ?_);refine Bp ty3 ?_;refine Ag (R_mul U (.no U) U (.const U) (.tm U) (fun _=>by omega)) U ?_;refine A8 ?_;refine Ab ?_;refine AWl.eq ?_;refine Aa (Ai (.tm U) (fun h59=>?_) (fun h59=>?_))
   · try simp at h59
     refine Am (As [1,2,4,5,7,8] [9,8]) ?_;refine Ad (Ab ?_);refine B6 fl101_2 ?_;refine Bp ty3 ?_;refine B6 fl101_1 ?_;refine Bp ty3 ?_;refine Ag (Bd (ps:=[(0,.tmp 62),(1,.tmp 64)]) U U U Du U U st97 (.cons (.tm U) U U fp97_0 (.cons (.tm U) U U fp97_1 .nil)) U) U ?_;apply Cu
     case ho=>
      apply Da (xo:=.tmp 60) 9 (specl15Put (setG pless (selfTo g k g.Values.length++edgeTo g k j++(if 2*e.Label=k then [⟨e.From,e.To⟩] else []))) ⟨e.To,e.From⟩ (Nat.le_trans (setG_len _) (by rw [List.length_append,List.length_append];split<;>simp<;>omega))) rfl rfl rfl (.tm rfl)
      case ha=>rfl
      case hargs=>exact (ArgC.own (ArgRd.agg (.tm rfl) .nil))
      all_goals rfl
     case hd=>rfl
     refine Ah ?_;refine Aa (Am (As [1,2,4,5,7,8] [8,9]) ?_);refine Ad (Ab ?_);refine A8 ?_;refine Ah ?_;refine Aa ?_
     repeat (with_reducible refine Au ?_)
     refine Round1.next (j+1) ⟨by omega,Y⟩ (by omega) (Ar rfl ⟨rfl,rfl,rfl,rfl,rfl,Y⟩ ⟨(by refine congrArg (fun r=>some (R.row 2 r)) ?_;first|(rw [selfTo_succ,selfP_at hv,if_pos (by simpa using h24),setG_add];done)|(rw [selfTo_succ,selfP_at hv,if_neg (by simpa using h24),List.append_nil];done)|(rw [edgeTo_at hx];unfold edgeP;rw [if_pos h59,←List.append_assoc,←List.append_assoc,setG_add];done)|(rw [edgeTo_at hx];unfold edgeP;rw [if_neg h59,List.append_nil,←List.append_assoc];done)),Y⟩)
   try simp at h59
   refine Aj (Am (As [1,2,4,5,7,8] [9,8]) ?_);refine Ad (Ab ?_);refine A8 ?_;refine Ah ?_;refine Aa ?_
   repeat (with_reducible refine Au ?_)
   refine Round1.next (j+1) ⟨by omega,Y⟩ (by omega) (Ar rfl ⟨rfl,rfl,rfl,rfl,rfl,Y⟩ ⟨(by refine congrArg (fun r=>some (R.row 2 r)) ?_;first|(rw [selfTo_succ,selfP_at hv,if_pos (by simpa using h24),setG_add];done)|(rw [selfTo_succ,selfP_at hv,if_neg (by simpa using h24),List.append_nil];done)|(rw [edgeTo_at hx];unfold edgeP;rw [if_pos h59,←List.append_assoc,←List.append_assoc,setG_add];done)|(rw [edgeTo_at hx];unfold edgeP;rw [if_neg h59,List.append_nil,←List.append_assoc];done)),Y⟩)
 try simp at h34
 refine Ba (Ae (Ab ?_));refine Ah ?_;refine Aa (Al (Res.one U (.tmp U .nil) U ?_))
 unfold letL;rw [show j=g.Edges.length by omega,edgeTo,List.take_length];rfl
theorem specComposeRelations (a b:List TPair) (ha:a.length≤4096) (hb:b.length≤4096):FnT Tryz.prog 101 [.one (.sl 2 (a.map cPair)),.one (.sl 2 (b.map cPair))] (.a (.one (.sl 2 ((compL a b).map cPair)))):=by
 refine Ay Tryz.func101 U (by kernel_rfl) Tryz.ntmps101 U fun hlen w0=>?_
 try simp [cPair,cEdge,cGraph] at hlen
 skip
 refine Ae (Ak ?_);refine By (i:=4) 20001 2 U U ?_;refine Aa (Ae (A6 (Ce 8 U U U Tryz.underlying89 Cj U) U ?_));refine Ah ?_;refine Aa (Ac (Ae (Ak ?_)));refine Aa (AW.block (Bj (fun (i:Nat)=>(i≤a.length)∧True) (fun (i:Nat)=>⟨_,[(6,(true,.a (.one (.t (.v (.int .i64 (i:Nat))))))),(5,(true,.a (.one (.rf 8)))),(0,_),(1,_),(4,_)],[(8,.row 2 ((setG pless (pairsC (a.take i) b)).map cPair))]⟩) (fun (i:Nat)=>a.length-i) (0) ⟨Nat.zero_le _,Y⟩ (Ar U ⟨U,U,U,U,U,Y⟩ ⟨(by refine congrArg (fun r=>some (R.row 2 r)) ?_;first|rfl|(simp [pairC1];done)|(simp [pairsC,setG];done)),Y⟩) ?_))
 rintro i ⟨hk,he⟩
 refine Ac (Ae (Ab ?_));refine Ab ?_;refine Bc (.t) Tryz.underlying89 ?_;refine AWl.lt ?_;refine Aa (Ai (.tm U) (fun h12=>?_) (fun h12=>?_))
 · try simp at h12
   obtain⟨p,hp⟩:∃ ξ,a[i]?=some ξ:=⟨_,List.getElem?_eq_getElem (by omega)⟩
   have hpl:=pairsC_take a b i
   have hab:a.length*b.length≤4096*4096:=Nat.mul_le_mul ha hb
   refine Aj (Ac (AW.block (Ae (Ak ?_))));refine Aa (AW.block (Bj (fun (k:Nat)=>(k≤b.length)∧True) (fun (k:Nat)=>⟨_,[(7,(true,.a (.one (.t (.v (.int .i64 (k:Nat))))))),(5,(true,.a (.one (.rf 8)))),(0,_),(1,_),(4,_),(6,_)],[(8,.row 2 ((setG pless (pairsC (a.take i) b++pairC1 p (b.take k))).map cPair))]⟩) (fun (k:Nat)=>b.length-k) (0) ⟨Nat.zero_le _,Y⟩ (Ar U ⟨U,U,U,U,U,U,Y⟩ ⟨(by refine congrArg (fun r=>some (R.row 2 r)) ?_;first|rfl|(simp [pairC1];done)|(simp [pairsC,setG];done)),Y⟩) ?_))
   rintro k ⟨hk1,he1⟩
   refine Ac (Ae (Ab ?_));refine Ab ?_;refine Bc (.t) Tryz.underlying89 ?_;refine AWl.lt ?_;refine Aa (Ai (.tm U) (fun h18=>?_) (fun h18=>?_))
   · try simp at h18
     obtain⟨q,hq⟩:∃ ξ,b[k]?=some ξ:=⟨_,List.getElem?_eq_getElem (by omega)⟩
     have hql:(pairC1 p (b.take k)).length≤4096:=Nat.le_trans (pairC1_len _ _) (by rw [List.length_take];omega)
     refine Aj (Ac (AW.block (Ac (Bq 11 (nthB [[],[],[0,1],[0,1,2],[0,1,2,3],[],[],[5,6],[5,6,7],[5,6,7,8],[0,1,2,3,4,5,6,7,8,9]]) (by kernel_rfl) (by kernel_rfl) (by kernel_rfl) ?_))));refine Ap ?_;refine Ap ?_;refine DrawC.s (fun _ hs=>(by exact An U (.no U) (Af hs U) (hs.tm U) (hs.tm U) Tryz.underlying89 Cj (fun _=>⟨by omega,(by exact Ao hp)⟩))) ?_;refine Cb fl97_1 ?_;refine A5 ty3 ?_;refine Ap ?_;refine Ap ?_;refine DrawC.s (fun _ hs=>(by exact An U (.no U) (Af hs U) (hs.tm U) (hs.tm U) Tryz.underlying89 Cj (fun _=>⟨by omega,(by exact Ao hq)⟩))) ?_;refine Cb fl97_0 ?_;refine A5 ty3 ?_;refine DrawC.s (fun _ hs=>R_eq U (.no U) (Af hs U) (hs.tm U) (hs.tm U)) ?_;refine Bi U U ?_;refine Aa (Ai (.tm U) (fun h31=>?_) (fun h31=>?_))
     · try simp at h31
       refine Am (As [0,1,4,5,6,7] [8]) ?_;refine Bq 12 (nthB [[],[],[],[1,2],[1,2,3],[1,2,3,4],[],[],[6,7],[6,7,8],[6,7,8,9],[1,2,3,4,5,6,7,8,9,10]]) (by kernel_rfl) (by kernel_rfl) (by kernel_rfl) ?_;refine Ap ?_;refine Ap ?_;refine Ap ?_;refine DrawC.s (fun _ hs=>(by exact An U (.no U) (Af hs U) (hs.tm U) (hs.tm U) Tryz.underlying89 Cj (fun _=>⟨by omega,(by exact Ao hp)⟩))) ?_;refine Cb fl97_0 ?_;refine A5 ty3 ?_;refine Ap ?_;refine Ap ?_;refine DrawC.s (fun _ hs=>(by exact An U (.no U) (Af hs U) (hs.tm U) (hs.tm U) Tryz.underlying89 Cj (fun _=>⟨by omega,(by exact Ao hq)⟩))) ?_;refine Cb fl97_1 ?_;refine A5 ty3 ?_;refine DrawC.s (fun _ hs=>Bd (ps:=[(0,.tmp 37),(1,.tmp 42)]) U U (Af hs U) Du U U st97 (.cons (hs.tm U) U U fp97_0 (.cons (hs.tm U) U U fp97_1 .nil)) U) ?_;refine Bi U U ?_;apply Cu
       case ho=>
        apply Da (xo:=.tmp 32) 8 (specl15Put (setG pless (pairsC (a.take i) b++pairC1 p (b.take k))) ⟨p.From,q.To⟩ (Nat.le_trans (setG_len _) (by rw [List.length_append];omega))) rfl rfl rfl (.tm rfl)
        case ha=>rfl
        case hargs=>exact (ArgC.own (ArgRd.agg (.tm rfl) .nil))
        all_goals rfl
       case hd=>rfl
       refine Ah ?_;refine Aa (Am (As [0,1,4,5,6,7] [8]) ?_);refine Ad (Ab ?_);refine A8 ?_;refine Ah ?_;refine Aa ?_
       repeat (with_reducible refine Au ?_)
       refine Round1.next (k+1) ⟨by omega,Y⟩ (by omega) (Ar rfl ⟨rfl,rfl,rfl,rfl,rfl,rfl,Y⟩ ⟨(by refine congrArg (fun r=>some (R.row 2 r)) ?_;first|(rw [pairC1_at hq,if_pos (by simpa using h31),←List.append_assoc,setG_add];done)|(rw [pairC1_at hq,if_neg (by simpa using h31),List.append_nil];done)|(rw [pairsC_at hp,List.take_of_length_le (l:=b) (i:=k) (by omega)];done)|(simp [pairC1];done)),Y⟩)
     try simp at h31
     refine Aj (Am (As [0,1,4,5,6,7] [8]) ?_);refine Ad (Ab ?_);refine A8 ?_;refine Ah ?_;refine Aa ?_
     repeat (with_reducible refine Au ?_)
     refine Round1.next (k+1) ⟨by omega,Y⟩ (by omega) (Ar rfl ⟨rfl,rfl,rfl,rfl,rfl,rfl,Y⟩ ⟨(by refine congrArg (fun r=>some (R.row 2 r)) ?_;first|(rw [pairC1_at hq,if_pos (by simpa using h31),←List.append_assoc,setG_add];done)|(rw [pairC1_at hq,if_neg (by simpa using h31),List.append_nil];done)|(rw [pairsC_at hp,List.take_of_length_le (l:=b) (i:=k) (by omega)];done)|(simp [pairC1];done)),Y⟩)
   try simp at h18
   refine Ba (Ad (Ab ?_));refine A8 ?_;refine Ah ?_;refine Aa ?_
   repeat (with_reducible refine Au ?_)
   refine Round1.next (i+1) ⟨by omega,Y⟩ (by omega) (Ar rfl ⟨rfl,rfl,rfl,rfl,rfl,Y⟩ ⟨(by refine congrArg (fun r=>some (R.row 2 r)) ?_;first|(rw [pairC1_at hq,if_pos (by simpa using h31),←List.append_assoc,setG_add];done)|(rw [pairC1_at hq,if_neg (by simpa using h31),List.append_nil];done)|(rw [pairsC_at hp,List.take_of_length_le (l:=b) (i:=k) (by omega)];done)|(simp [pairC1];done)),Y⟩)
 try simp at h12
 refine Ba (Ae (Ab ?_));refine Ah ?_;refine Aa (Al (Res.one U (.tmp U .nil) U ?_))
 unfold compL;rw [List.take_of_length_le (l:=a) (i:=i) (by omega)];rfl
theorem implComposeRelations (a b:List TPair) (ha:a.length≤4096) (hb:b.length≤4096):FnT Tryz.prog 183 [.one (.sl 2 (a.map cPair)),.one (.sl 2 (b.map cPair))] (.a (.one (.sl 2 ((compL a b).map cPair)))):=by
 obtain⟨s,hs⟩:∃ s,s=setG pless a:=⟨_,rfl⟩
 have hsl:s.length≤4096:=by rw [hs];exact Nat.le_trans (setG_len _) ha
 have hsb:s.length*b.length≤4096*4096:=Nat.mul_le_mul hsl hb
 have hps:=implpairSet a (by omega)
 rw [←hs] at hps
 rw [←compL_set,←hs]
 refine Ay Tryz.func183 U (by kernel_rfl) Tryz.ntmps183 U fun hlen w0=>?_
 try simp [cPair,cEdge,cGraph] at hlen
 skip
 refine Ae (Ak ?_);refine By (i:=4) 20001 2 U U ?_;refine Aa (Ae (A6 (Ce 10 U U U Tryz.underlying89 Cj U) U ?_));refine Ah ?_;refine Aa (Ac (Ae (Ab ?_)));refine Bl (hps) ?_;refine Bc (.t) Tryz.underlying89 ?_;refine Ag (Az U (.no U) U (.const U)) U ?_;refine Aa (AW.block (Bj (fun (i:Nat)=>(i≤s.length)∧True) (fun (i:Nat)=>⟨_,[(14,(true,.a (.one (.t (.v (.int .i64 (i:Nat))))))),(5,(true,.a (.one (.rf 10)))),(1,_),(4,_),(12,_),(13,_)],[(10,.row 2 ((pairsC (s.take i) b).map cPair))]⟩) (fun (i:Nat)=>s.length-i) (0) ⟨Nat.zero_le _,Y⟩ (Ar U ⟨U,U,U,U,U,U,Y⟩ ⟨(by refine congrArg (fun r=>some (R.row 2 r)) ?_;first|rfl|(simp [pairC1];done)|(simp [pairsC];done)),Y⟩) ?_))
 rintro i ⟨hk,he⟩
 refine Ae (AWl.lt ?_);refine Aa (Ac (Ai (.tm U) (fun h15=>?_) (fun h15=>?_)))
 · try simp at h15
   obtain⟨p,hp⟩:∃ ξ,s[i]?=some ξ:=⟨_,List.getElem?_eq_getElem (by omega)⟩
   have hpl:=pairsC_take s b i
   refine Aj (Ac (AW.block (Ae (Ag (An U (.no U) U (.tm U) (.tm U) Tryz.underlying89 Cj (fun _=>⟨by omega,(by exact Ao hp)⟩)) U ?_))));refine Aq Cj ?_;refine A6 (Bo 7 U U U Du U U U) U ?_;refine A4 Cj ?_;refine Aa (Ae (Ab ?_));refine Bc (.t) Tryz.underlying89 ?_;refine Ag (Az U (.no U) U (.const U)) U ?_;refine Aa (AW.block (Bj (fun (k:Nat)=>(k≤b.length)∧True) (fun (k:Nat)=>⟨_,[(20,(true,.a (.one (.t (.v (.int .i64 (k:Nat))))))),(5,(true,.a (.one (.rf 10)))),(1,_),(4,_),(7,_),(12,_),(13,_),(14,_),(18,_),(19,_)],[(7,.box [.t (.v (.int .i64 p.From)),.t (.v (.int .i64 p.To))]),(10,.row 2 ((pairsC (s.take i) b++pairC1 p (b.take k)).map cPair))]⟩) (fun (k:Nat)=>b.length-k) (0) ⟨Nat.zero_le _,Y⟩ (Ar U ⟨U,U,U,U,U,U,U,U,U,U,Y⟩ ⟨U,(by refine congrArg (fun r=>some (R.row 2 r)) ?_;first|rfl|(simp [pairC1];done)|(simp [pairsC];done)),Y⟩) ?_))
   rintro k ⟨hk1,he1⟩
   refine Ae (AWl.lt ?_);refine Aa (Ac (Ai (.tm U) (fun h21=>?_) (fun h21=>?_)))
   · try simp at h21
     obtain⟨q,hq⟩:∃ ξ,b[k]?=some ξ:=⟨_,List.getElem?_eq_getElem (by omega)⟩
     have hql:(pairC1 p (b.take k)).length≤4096:=Nat.le_trans (pairC1_len _ _) (by rw [List.length_take];omega)
     refine Aj (Ac (AW.block (Ae (Ag (An U (.no U) U (.tm U) (.tm U) Tryz.underlying89 Cj (fun _=>⟨by omega,(by exact Ao hq)⟩)) U ?_))));refine Aq Cj ?_;refine A6 (Bo 9 U U U Du U U U) U ?_;refine A4 Cj ?_;refine Aa (Ae (B6 fl97_1 ?_));refine Bp ty3 ?_;refine B6 fl97_0 ?_;refine Bp ty3 ?_;refine AWl.eq ?_;refine Aa (Ai (.tm U) (fun h28=>?_) (fun h28=>?_))
     · try simp at h28
       refine Am (As [1,4,5,7,9,12,13,14,18,19,20] [7,10,9]) ?_;refine Ad (Ab ?_);refine B6 fl97_0 ?_;refine Bp ty3 ?_;refine B6 fl97_1 ?_;refine Bp ty3 ?_;refine Ag (Bd (ps:=[(0,.tmp 31),(1,.tmp 33)]) U U U Du U U st97 (.cons (.tm U) U U fp97_0 (.cons (.tm U) U U fp97_1 .nil)) U) U ?_;refine Bh (Ch (xs:=[.tmp 34]) 35 U U U (.cons (.tm U) U U .nil) Tryz.underlying89 Du U U U U) U ?_;refine Bu (B7 U U U (.tm U) U (.tm U) (by exact .rf U) (by rfl) Tryz.underlying89 Du U (by (simp [chunk];omega)) (by (unfold maxLen;simp [chunk];omega))) U ?_;refine Bt (As [1,4,5,7,9,12,13,14,18,19,20,36] [7,10,9,35]) ?_;refine Ah ?_;refine Aa (Ad (A8 ?_));refine Ab ?_;refine Aa ?_
       repeat (with_reducible refine Au ?_)
       refine Round1.next (k+1) ⟨by omega,Y⟩ (by omega) (Ar rfl ⟨rfl,rfl,rfl,rfl,rfl,rfl,rfl,rfl,rfl,rfl,Y⟩ ⟨(by rfl),(by refine congrArg (fun r=>some (R.row 2 r)) ?_;first|(rw [pairC1_at hq,if_pos (by simpa using h28)];simp [chunk,cPair];done)|(rw [pairC1_at hq,if_neg (by simpa using h28)];simp;done)|(rw [pairsC_at hp,List.take_of_length_le (l:=b) (i:=k) (by omega)];done)|(simp [pairC1];done)),Y⟩)
     try simp at h28
     refine Aj (Am (As [1,4,5,7,9,12,13,14,18,19,20] [7,10,9]) ?_);refine Ad (A8 ?_);refine Ab ?_;refine Aa ?_
     repeat (with_reducible refine Au ?_)
     refine Round1.next (k+1) ⟨by omega,Y⟩ (by omega) (Ar rfl ⟨rfl,rfl,rfl,rfl,rfl,rfl,rfl,rfl,rfl,rfl,Y⟩ ⟨(by rfl),(by refine congrArg (fun r=>some (R.row 2 r)) ?_;first|(rw [pairC1_at hq,if_pos (by simpa using h28)];simp [chunk,cPair];done)|(rw [pairC1_at hq,if_neg (by simpa using h28)];simp;done)|(rw [pairsC_at hp,List.take_of_length_le (l:=b) (i:=k) (by omega)];done)|(simp [pairC1];done)),Y⟩)
   try simp at h21
   refine Ba (Ad (A8 ?_));refine Ab ?_;refine Aa ?_
   repeat (with_reducible refine Au ?_)
   refine Round1.next (i+1) ⟨by omega,Y⟩ (by omega) (Ar rfl ⟨rfl,rfl,rfl,rfl,rfl,rfl,Y⟩ ⟨(by refine congrArg (fun r=>some (R.row 2 r)) ?_;first|(rw [pairC1_at hq,if_pos (by simpa using h28)];simp [chunk,cPair];done)|(rw [pairC1_at hq,if_neg (by simpa using h28)];simp;done)|(rw [pairsC_at hp,List.take_of_length_le (l:=b) (i:=k) (by omega)];done)|(simp [pairC1];done)),Y⟩)
 try simp at h15
 refine Ba (Ac (Am (σ':=⟨_,[(1,_),(4,_),(5,_),(12,_),(13,_),(14,_)],[(10,.row 2 ((pairsC s b).map cPair))]⟩) (Ar U ⟨U,U,U,U,U,U,Y⟩ ⟨by rw [List.take_of_length_le (l:=s) (i:=i) (by omega)];rfl,Y⟩) ?_));refine Ad (Ab ?_);refine B8 (Cd 4000 (implpairSet (pairsC s b) (Nat.le_trans (pairsC_len _ _) (by omega))) U U U (.cons (.tm U) U .nil) U U) U ?_;refine Ah ?_;refine Aa (Al (Res.one U (.tmp U .nil) U ?_))
 rfl
theorem specClosureRelation (n:Nat) (hn:1≤n∧n≤5) (l:List TPair) (hl:relIn n l) (hs:StrictS pless l):FnT Tryz.prog 103 [.one (.v (.int .i64 (n:Int))),.one (.sl 2 (l.map cPair))] (.a (.one (.sl 2 ((closeL n l).map cPair)))):=by
 refine Ay Tryz.func103 U (by kernel_rfl) Tryz.ntmps103 U fun hlen w0=>?_
 try simp [cPair,cEdge,cGraph] at hlen
 have hap:=relIn_pairs hn.2 hl hs
 have hin:inB (n:Int) 1 5=true:=by unfold inB;simp;omega
 have hll:=relIn_len5 hn.2 hs hl
 refine Ae (Ak ?_);refine By (i:=4) 20001 2 U U ?_;refine Aa (Ac (Ae (Ab ?_)));refine Bl (specl1In (n:Int) 1 5) ?_;refine C1 ?_;refine Ab ?_;refine Dj ?_;refine Ag (A3 (FnT.fr (specArePairs l)) U (by exact .not1 U U U U) U (.cons (.tmp U (by exact id)) U .nil)) U ?_;refine Ag (Cy U (by exact .not1 U U U U) U (.tmp U (by exact id))) U ?_;refine Cf ?_;refine Aa (Ai (.tm U) (fun h14=>?_) (fun h14=>?_))
 · exact absurd h14 (by simp [hap,hin] at h14)
 try simp at h14
 refine Aj (Ac (Am (As [0,1,4] [20001]) ?_));refine Ad (Ab ?_);refine B8 (Cd 1700 (specIdentityRelation n hn.2) U U U (.cons (.tm U) U .nil) U U) U ?_;refine Ah ?_;refine Aa (Ac (Ae (Ak ?_)));refine Aa (AW.block ?_);refine Bj (fun (k:Nat)=>(k≤5)∧True) (fun (k:Nat)=>⟨_,[(6,(true,.a (.one (.t (.v (.int .i64 (k:Nat))))))),(5,(true,.a (.one (.rf 1700)))),(1,_),(4,_)],[(1700,.row 2 ((itC n l k).map cPair))]⟩) (fun (k:Nat)=>5-k) (0) ⟨by omega,Y⟩ Bm ?_
 rintro k ⟨hk,he⟩
 refine Ac (Ae (Ab ?_));refine AWl.lc ?_;refine Aa (Ai (.tm U) (fun h19=>?_) (fun h19=>?_))
 · try simp at h19
   have hk5:k<5:=by (first|omega|(simp at h19;omega))
   have hil:=relIn_len5 hn.2 (itC_strict n l k) (itC_in hl k)
   have hcl:=relIn_len5 hn.2 (show StrictS pless (compL (itC n l k) l) from setG_strict pless_so _) (relIn_comp (itC_in hl k) hl)
   refine Aj (Ac (AW.block (Ad (Ab ?_))));refine Ab ?_;refine Ab ?_;refine Ag (A3 (FnT.fr (specComposeRelations (itC n l k) l (by omega) (by omega))) U (.no U) U (.cons (.tm U) U (.cons (.tm U) U .nil))) U ?_;refine B8 (Cd 2600 (specMergePairs (itC n l k) (compL (itC n l k) l) (by omega)) U U U (.cons (.tm U) U (.cons (.tm U) U .nil)) U U) U ?_;refine Ah ?_;refine Aa (Am (Le.sw 1700 2600 _) ?_);refine Am (As [1,4,5,6] [2600,1700]) ?_;refine Ad (Ab ?_);refine A8 ?_;refine Ah ?_;refine Aa ?_
   repeat (with_reducible refine Au ?_)
   refine Round1.next (k+1) ⟨by omega,Y⟩ (by omega) (Ar rfl ⟨rfl,rfl,rfl,rfl,Y⟩ ⟨(by rfl),Y⟩)
 try simp at h19
 refine Ba (Ae (Ab ?_));refine Ah ?_;refine Aa (Al (Res.one U (.tmp U .nil) U ?_))
 rw [show k=5 by first|omega|(simp at h19;omega)];rfl
theorem implClosureRelation (n:Nat) (hn:1≤n∧n≤5) (l:List TPair) (hl:relIn n l) (hs:StrictS pless l):FnT Tryz.prog 185 [.one (.v (.int .i64 (n:Int))),.one (.sl 2 (l.map cPair))] (.a (.one (.sl 2 ((closeL n l).map cPair)))):=by
 refine Ay Tryz.func185 U (by kernel_rfl) Tryz.ntmps185 U fun hlen w0=>?_
 try simp [cPair,cEdge,cGraph] at hlen
 have hap:=relIn_pairs hn.2 hl hs
 have hin:inB (n:Int) 1 5=true:=by unfold inB;simp;omega
 have hll:=relIn_len5 hn.2 hs hl
 refine Ae (Ak ?_);refine By (i:=4) 20001 2 U U ?_;refine Aa (Ac (Ae (Ab ?_)));refine Bl (implwithin (n:Int) 1 5) ?_;refine C1 ?_;refine Ab ?_;refine Dj ?_;refine Ag (A3 (FnT.fr (implArePairs l)) U (by exact .not1 U U U U) U (.cons (.tmp U (by exact id)) U .nil)) U ?_;refine Ag (Cy U (by exact .not1 U U U U) U (.tmp U (by exact id))) U ?_;refine Cf ?_;refine Aa (Ai (.tm U) (fun h14=>?_) (fun h14=>?_))
 · exact absurd h14 (by simp [hap,hin] at h14)
 try simp at h14
 refine Aj (Ac (Am (As [0,1,4] [20001]) ?_));refine Ad (Ab ?_);refine B8 (Cd 1600 (implIdentityRelation n hn.2) U U U (.cons (.tm U) U .nil) U U) U ?_;refine Ah ?_;refine Aa (AW.block ?_);refine Bj (fun (k:Nat)=>(k≤5)∧True) (fun (k:Nat)=>⟨_,[(5,(true,.a (.one (.rf 1600)))),(1,_)],[(1600,.row 2 ((itC n l k).map cPair))]⟩) (fun (k:Nat)=>5-k) (0) ⟨by omega,Y⟩ Bm ?_
 rintro k ⟨hk,he⟩
 refine AW.block (Ae (Ab ?_));refine Ab ?_;refine Ab ?_;refine Ag (A3 (FnT.fr (implComposeRelations (itC n l k) l (by have:=relIn_len5 hn.2 (itC_strict n l k) (itC_in hl k);omega) (by omega))) U (.no U) U (.cons (.tm U) U (.cons (.tm U) U .nil))) U ?_;refine B8 (Cd 2100 (implMergePairs (itC n l k) (compL (itC n l k) l) (by have:=relIn_len5 hn.2 (itC_strict n l k) (itC_in hl k);have:=relIn_len5 hn.2 (show StrictS pless (compL (itC n l k) l) from setG_strict pless_so _) (relIn_comp (itC_in hl k) hl);omega)) U U U (.cons (.tm U) U (.cons (.tm U) U .nil)) U U) U ?_;refine Ah ?_;refine Aa (Ac (Ae (Ab ?_)));refine Bc (.rf U) Tryz.underlying89 ?_;refine Ab ?_;refine Bc (.rf U) Tryz.underlying89 ?_;refine AWl.eq ?_;refine Aa (Ai (.tm U) (fun h26=>?_) (fun h26=>?_))
 · try simp at h26
   have he1:(itC n l (k+1)).length=(itC n l k).length:=by (have h:=h26;(try simp only [List.length_map] at h);show (pmerge (itC n l k) (compL (itC n l k) l)).length=_;first|omega|(simp at h;omega))
   refine Ac (Am (As [1,5,6] [1600,2100]) ?_);refine Ad (Ab ?_);refine Ah ?_;refine Aa (Al (Res.one U (.tmp U .nil) U ?_))
   rw [itC_done hn.2 hl he1];rfl
 try simp at h26
 have he2:(itC n l (k+1)).length≠(itC n l k).length:=by (have h:=h26;(try simp only [List.length_map] at h);show (pmerge (itC n l k) (compL (itC n l k) l)).length≠_;first|omega|(simp at h;omega))
 have hk5:=itC_on hn.2 hl he2
 refine Aj (Am (Le.sw 1600 2100 _) ?_);refine Am (As [1,5,6] [2100,1600]) ?_;refine Ad (Ab ?_);refine Ah ?_;refine Aa ?_
 repeat (with_reducible refine Au ?_)
 refine Round1.next (k+1) ⟨by omega,Y⟩ (by omega) (Ar rfl ⟨rfl,rfl,Y⟩ ⟨(by rfl),Y⟩)
theorem specPowerRelation (n:Nat) (hn:1≤n∧n≤5) (l:List TPair) (hl:relIn n l) (hs:StrictS pless l) (low high:Int) (h0:0≤low) (h1:0≤high∧high≤3):FnT Tryz.prog 104 [.one (.v (.int .i64 (n:Int))),.one (.sl 2 (l.map cPair)),.one (.v (.int .i64 low)),.one (.v (.int .i64 high))] (.a (.one (.sl 2 ((powL n l low high).map cPair)))):=by
 refine Ay Tryz.func104 U (by kernel_rfl) Tryz.ntmps104 U fun hlen w0=>?_
 try simp [cPair,cEdge,cGraph] at hlen
 have hap:=relIn_pairs hn.2 hl hs
 have hin:inB (n:Int) 1 5=true:=by unfold inB;simp;omega
 have hih:inB high 0 3=true:=by unfold inB;simp;omega
 have hlo:decide (low<0)=false:=by simp;omega
 have hll:=relIn_len5 hn.2 hs hl
 refine Ae (Ak ?_);refine By (i:=8) 20001 2 U U ?_;refine Aa (Ae (A6 (Ce 12 U U U Tryz.underlying89 Cj U) U ?_));refine Ah ?_;refine Aa (Ac (Ae (Ab ?_)));refine Bl (specl1In (n:Int) 1 5) ?_;refine C1 ?_;refine Ab ?_;refine Dj ?_;refine Ag (A3 (FnT.fr (specArePairs l)) U (by exact .not1 U U U U) U (.cons (.tmp U (by exact id)) U .nil)) U ?_;refine Ag (Cy U (by exact .not1 U U U U) U (.tmp U (by exact id))) U ?_;refine Cf ?_;refine Ab ?_;refine Dj ?_;refine Ag (A3 (FnT.fr (specl1In high 0 3)) U (by exact .not1 U U U U) U (.cons (.tmp U (by exact id)) U (.cons (.const U) U (.cons (.const U) U .nil)))) U ?_;refine Ag (Cy U (by exact .not1 U U U U) U (.tmp U (by exact id))) U ?_;refine Cf ?_;refine Ab ?_;refine Dj ?_;refine Ag (R_lt U (by exact .not1 U U U U) U (.tmp U (by exact id)) (.const U)) U ?_;refine Cf ?_;refine Aa (Ai (.tm U) (fun h29=>?_) (fun h29=>?_))
 · exact absurd h29 (by simp [hap,hin,hih,hlo] at h29)
 try simp at h29
 refine Aj (Ac (Am (As [0,1,2,3,8,9] [20001,12]) ?_));refine Ad (Ab ?_);refine B8 (Cd 3200 (specIdentityRelation n hn.2) U U U (.cons (.tm U) U .nil) U U) U ?_;refine Ah ?_;refine Aa (Ac (Ae (Ak ?_)));refine Aa (AW.block ?_);refine Dz (fun (k:Nat) (O:List TPair)=>(k≤high.toNat+1)∧O=outP n l low k) (fun (k:Nat) (O:List TPair)=>⟨_,[(11,(true,.a (.one (.t (.v (.int .i64 (k:Nat))))))),(9,(true,.a (.one (.rf 12)))),(10,(true,.a (.one (.rf 3200)))),(1,_),(2,_),(3,_),(8,_)],[(12,.row 2 (O.map cPair)),(3200,.row 2 ((pwL n l k).map cPair))]⟩) (fun (k:Nat) (O:List TPair)=>high.toNat+1-k) (0) ([]) ⟨by omega,U⟩ Bm ?_
 rintro k O ⟨hk,he⟩
 refine Ac (Ae (Ab ?_));refine Ab ?_;refine Ag (R_le U (.no U) U (.tm U) (.tm U)) U ?_;refine Aa (Ai (.tm U) (fun h35=>?_) (fun h35=>?_))
 · try simp at h35
   have hkh:(k:Int)≤high:=by (have h:=h35;first|omega|(simp at h;omega))
   have hol:=relIn_len5 hn.2 (outP_strict n l low k) (outP_in hl k)
   have hpl:=relIn_len5 hn.2 (pwL_strict n l k) (pwL_in hl k)
   rw [←he] at hol
   refine Aj (Ac (AW.block (Ac (Ae (Ab ?_)))));refine Ab ?_;refine Ag (R_ge U (.no U) U (.tm U) (.tm U)) U ?_;refine Aa (Ai (.tm U) (fun h40=>?_) (fun h40=>?_))
   · try simp at h40
     have hlk:low≤(k:Int):=by (have h:=h40;first|omega|(simp at h;omega))
     refine Am (As [1,2,3,8,9,10,11] [12,3200]) ?_;refine Ad (Ab ?_);refine Ab ?_;refine B8 (Cd 4300 (specMergePairs O (pwL n l k) (by omega)) U U U (.cons (.tm U) U (.cons (.tm U) U .nil)) U U) U ?_;refine Ah ?_;refine Aa (Am (Le.sw 12 4300 _) ?_);refine Ad (Ab ?_);refine Ab ?_;refine B8 (Cd 4600 (specComposeRelations (pwL n l k) l (by omega) (by omega)) U U U (.cons (.tm U) U (.cons (.tm U) U .nil)) U U) U ?_;refine Ah ?_;refine Aa (Am (Le.sw 3200 4600 _) ?_);refine Am (As [1,2,3,8,9,10,11] [4300,4600,12,3200]) ?_;refine Ad (Ab ?_);refine A8 ?_;refine Ah ?_;refine Aa ?_
     repeat (with_reducible refine Au ?_)
     refine Round2.next (k+1) (pmerge O (pwL n l k)) ⟨by omega,(by rw [outP,←he];exact (if_pos hlk).symm)⟩ (by omega) (Ar rfl ⟨rfl,rfl,rfl,rfl,rfl,rfl,rfl,Y⟩ ⟨(by rfl),(by rfl),Y⟩)
   try simp at h40
   have hlk:¬ low≤(k:Int):=by (have h:=h40;first|omega|(simp at h;omega))
   refine Aj (Am (As [1,2,3,8,9,10,11] [12,3200]) ?_);refine Ad (Ab ?_);refine Ab ?_;refine B8 (Cd 4600 (specComposeRelations (pwL n l k) l (by omega) (by omega)) U U U (.cons (.tm U) U (.cons (.tm U) U .nil)) U U) U ?_;refine Ah ?_;refine Aa (Am (Le.sw 3200 4600 _) ?_);refine Ad (Ab ?_);refine A8 ?_;refine Ah ?_;refine Aa ?_
   repeat (with_reducible refine Au ?_)
   refine Round2.next (k+1) (O) ⟨by omega,(by rw [outP,←he];exact (if_neg hlk).symm)⟩ (by omega) (Ar rfl ⟨rfl,rfl,rfl,rfl,rfl,rfl,rfl,Y⟩ ⟨(by rfl),(by rfl),Y⟩)
 try simp at h35
 refine Ba (Ae (Ab ?_));refine Ah ?_;refine Aa (Al (Res.one U (.tmp U .nil) U ?_))
 unfold powL;rw [he,show k=high.toNat+1 by have h:=h35;first|omega|(simp at h;omega)];rfl
theorem implPowerRelation (n:Nat) (hn:1≤n∧n≤5) (l:List TPair) (hl:relIn n l) (hs:StrictS pless l) (low high:Int) (h0:0≤low) (h1:0≤high∧high≤3):FnT Tryz.prog 186 [.one (.v (.int .i64 (n:Int))),.one (.sl 2 (l.map cPair)),.one (.v (.int .i64 low)),.one (.v (.int .i64 high))] (.a (.one (.sl 2 ((powL n l low high).map cPair)))):=by
 refine Ay Tryz.func186 U (by kernel_rfl) Tryz.ntmps186 U fun hlen w0=>?_
 try simp [cPair,cEdge,cGraph] at hlen
 have hap:=relIn_pairs hn.2 hl hs
 have hin:inB (n:Int) 1 5=true:=by unfold inB;simp;omega
 have hih:inB high 0 3=true:=by unfold inB;simp;omega
 have hlo:decide (low<0)=false:=by simp;omega
 have hll:=relIn_len5 hn.2 hs hl
 refine Ae (Ak ?_);refine By (i:=8) 20001 2 U U ?_;refine Aa (Ac (Ae (Ab ?_)));refine Bl (implwithin (n:Int) 1 5) ?_;refine C1 ?_;refine Ab ?_;refine Dj ?_;refine Ag (A3 (FnT.fr (implArePairs l)) U (by exact .not1 U U U U) U (.cons (.tmp U (by exact id)) U .nil)) U ?_;refine Ag (Cy U (by exact .not1 U U U U) U (.tmp U (by exact id))) U ?_;refine Cf ?_;refine Ab ?_;refine Dj ?_;refine Ag (R_lt U (by exact .not1 U U U U) U (.tmp U (by exact id)) (.const U)) U ?_;refine Cf ?_;refine Ab ?_;refine Dj ?_;refine Ag (A3 (FnT.fr (implwithin high 0 3)) U (by exact .not1 U U U U) U (.cons (.tmp U (by exact id)) U (.cons (.const U) U (.cons (.const U) U .nil)))) U ?_;refine Ag (Cy U (by exact .not1 U U U U) U (.tmp U (by exact id))) U ?_;refine Cf ?_;refine Aa (Ai (.tm U) (fun h28=>?_) (fun h28=>?_))
 · exact absurd h28 (by simp [hap,hin,hih,hlo] at h28)
 try simp at h28
 refine Aj (Ac (Am (As [0,1,2,3,8] [20001]) ?_));refine Ad (A6 (Ce 29 U U U Tryz.underlying89 Cj U) U ?_);refine Ah ?_;refine Aa (Ae (Ab ?_));refine B8 (Cd 3100 (implIdentityRelation n hn.2) U U U (.cons (.tm U) U .nil) U U) U ?_;refine Ah ?_;refine Aa (Ac (Ae (Ak ?_)));refine Aa (AW.block ?_);refine Dz (fun (k:Nat) (O:List TPair)=>(k≤high.toNat+1)∧O=outP n l low k) (fun (k:Nat) (O:List TPair)=>⟨_,[(11,(true,.a (.one (.t (.v (.int .i64 (k:Nat))))))),(9,(true,.a (.one (.rf 29)))),(10,(true,.a (.one (.rf 3100)))),(1,_),(2,_),(3,_),(8,_)],[(29,.row 2 (O.map cPair)),(3100,.row 2 ((pwL n l k).map cPair))]⟩) (fun (k:Nat) (O:List TPair)=>high.toNat+1-k) (0) ([]) ⟨by omega,U⟩ Bm ?_
 rintro k O ⟨hk,he⟩
 refine Ac (Ae (Ab ?_));refine Ab ?_;refine Ag (R_le U (.no U) U (.tm U) (.tm U)) U ?_;refine Aa (Ai (.tm U) (fun h34=>?_) (fun h34=>?_))
 · try simp at h34
   have hkh:(k:Int)≤high:=by (have h:=h34;first|omega|(simp at h;omega))
   have hol:=relIn_len5 hn.2 (outP_strict n l low k) (outP_in hl k)
   have hpl:=relIn_len5 hn.2 (pwL_strict n l k) (pwL_in hl k)
   rw [←he] at hol
   refine Aj (Ac (AW.block (Ac (Ae (Ab ?_)))));refine Ab ?_;refine Ag (R_ge U (.no U) U (.tm U) (.tm U)) U ?_;refine Aa (Ai (.tm U) (fun h39=>?_) (fun h39=>?_))
   · try simp at h39
     have hlk:low≤(k:Int):=by (have h:=h39;first|omega|(simp at h;omega))
     refine Am (As [1,2,3,8,9,10,11] [29,3100]) ?_;refine Ad (Ab ?_);refine Ab ?_;refine B8 (Cd 4200 (implMergePairs O (pwL n l k) (by omega)) U U U (.cons (.tm U) U (.cons (.tm U) U .nil)) U U) U ?_;refine Ah ?_;refine Aa (Am (Le.sw 29 4200 _) ?_);refine Ad (Ab ?_);refine Ab ?_;refine B8 (Cd 4500 (implComposeRelations (pwL n l k) l (by omega) (by omega)) U U U (.cons (.tm U) U (.cons (.tm U) U .nil)) U U) U ?_;refine Ah ?_;refine Aa (Am (Le.sw 3100 4500 _) ?_);refine Am (As [1,2,3,8,9,10,11] [4200,4500,29,3100]) ?_;refine Ad (Ab ?_);refine A8 ?_;refine Ah ?_;refine Aa ?_
     repeat (with_reducible refine Au ?_)
     refine Round2.next (k+1) (pmerge O (pwL n l k)) ⟨by omega,(by rw [outP,←he];exact (if_pos hlk).symm)⟩ (by omega) (Ar rfl ⟨rfl,rfl,rfl,rfl,rfl,rfl,rfl,Y⟩ ⟨(by rfl),(by rfl),Y⟩)
   try simp at h39
   have hlk:¬ low≤(k:Int):=by (have h:=h39;first|omega|(simp at h;omega))
   refine Aj (Am (As [1,2,3,8,9,10,11] [29,3100]) ?_);refine Ad (Ab ?_);refine Ab ?_;refine B8 (Cd 4500 (implComposeRelations (pwL n l k) l (by omega) (by omega)) U U U (.cons (.tm U) U (.cons (.tm U) U .nil)) U U) U ?_;refine Ah ?_;refine Aa (Am (Le.sw 3100 4500 _) ?_);refine Ad (Ab ?_);refine A8 ?_;refine Ah ?_;refine Aa ?_
   repeat (with_reducible refine Au ?_)
   refine Round2.next (k+1) (O) ⟨by omega,(by rw [outP,←he];exact (if_neg hlk).symm)⟩ (by omega) (Ar rfl ⟨rfl,rfl,rfl,rfl,rfl,rfl,rfl,Y⟩ ⟨(by rfl),(by rfl),Y⟩)
 try simp at h34
 refine Ba (Ae (Ab ?_));refine Ah ?_;refine Aa (Al (Res.one U (.tmp U .nil) U ?_))
 unfold powL;rw [he,show k=high.toNat+1 by have h:=h34;first|omega|(simp at h;omega)];rfl
theorem implLetterRelation (g:TGraph) (hg:validG g=true) (k:Int) (hkr:0≤k∧k≤8):FnT Tryz.prog 182 [.agg (cGraph g),.one (.v (.int .i64 k))] (.a (.one (.sl 2 ((letL g k).map cPair)))):=by
 refine Ay Tryz.func182 U (by kernel_rfl) Tryz.ntmps182 U fun hlen w0=>?_
 try simp [cPair,cEdge,cGraph] at hlen
 have hG:=validG_len hg
 have hl:inB k 0 8=true:=by unfold inB;simp;omega
 have hAl:(arcsV g).length=g.Values.length:=by unfold arcsV;simp
 refine Ae (Ag (B9 U U U (.tm U) (ts:=_) (by rfl)) U ?_);refine Ak ?_;refine By (i:=4) 20001 2 U U ?_;refine Aa (Ac (Ae (Aq Bz ?_)));refine Bl (implIsValidGraph g) ?_;refine C1 ?_;refine Ab ?_;refine Dj ?_;refine Ag (A3 (FnT.fr (implisLetter k)) U (by exact .not1 U U U U) U (.cons (.tmp U (by exact id)) U .nil)) U ?_;refine Ag (Cy U (by exact .not1 U U U U) U (.tmp U (by exact id))) U ?_;refine Cf ?_;refine Aa (Ai (.tm U) (fun h17=>?_) (fun h17=>?_))
 · exact absurd h17 (by simp [hg,hl])
 try simp at h17
 refine Aj (Ac (Am (As [0,1,2,4] [20001]) ?_));refine Ad (A6 (Ce 18 U U U Tryz.underlying89 Cj U) U ?_);refine Ah ?_;refine Aa (Ac (Ae (Aq Bz ?_)));refine Bl (implarcs g hg) ?_;refine Bc (.t) Tryz.underlying245 ?_;refine Ag (Az U (.no U) U (.const U)) U ?_;refine Aa (AW.block (Bj (fun (x:Nat)=>(x≤g.Values.length)∧True) (fun (x:Nat)=>⟨_,[(22,(true,.a (.one (.t (.v (.int .i64 (x:Nat))))))),(5,(true,.a (.one (.rf 18)))),(1,_),(2,_),(4,_),(20,_),(21,_)],[(18,.row 2 ((arcTo g k x).map cPair))]⟩) (fun (x:Nat)=>g.Values.length-x) (0) ⟨Nat.zero_le _,Y⟩ (Ar U ⟨U,U,U,U,U,U,U,Y⟩ ⟨(by refine congrArg (fun r=>some (R.row 2 r)) ?_;first|rfl|(simp [arcRow];done)|(simp [arcTo];done)),Y⟩) ?_))
 rintro x ⟨hk,he⟩
 refine Ae (AWl.lt ?_);refine Aa (Ac (Ai (.tm U) (fun h23=>?_) (fun h23=>?_)))
 · try simp at h23
   obtain⟨v,hv⟩:∃ v,g.Values[x]?=some v:=⟨_,List.getElem?_eq_getElem (by omega)⟩
   have hga:(arcsV g)[x]?=some (arcsAt g x):=by unfold arcsV;exact range_get _ (by omega)
   have hto:=arcTo_len g k x
   have hal:(arcsAt g x).length≤24:=Nat.le_trans (arcsL_len _ _) (by omega)
   have hx5:x*(2*g.Edges.length+1)≤5*25:=Nat.mul_le_mul (by omega) (by omega)
   have hsl:=selfP_len g k x
   refine Aj (Ac (AW.block (Ae (Ab ?_))));refine Ag (An U (.no U) U (.tm U) (.tm U) Tryz.underlying245 ty247 (fun _=>⟨by omega,(by exact Ao hga)⟩)) U ?_;refine Aq ty247 ?_;refine Ah ?_;refine Ah ?_;refine Aa (Ac (Ae (Ab ?_)));refine Bc (.t) Tryz.underlying247 ?_;refine Ag (Az U (.no U) U (.const U)) U ?_;refine Aa (AW.block (Bj (fun (j:Nat)=>(j≤(arcsAt g x).length)∧True) (fun (j:Nat)=>⟨_,[(29,(true,.a (.one (.t (.v (.int .i64 (j:Nat))))))),(5,(true,.a (.one (.rf 18)))),(1,_),(2,_),(4,_),(6,_),(20,_),(21,_),(22,_),(27,_),(28,_)],[(18,.row 2 ((arcTo g k x++arcRow g k x j).map cPair))]⟩) (fun (j:Nat)=>(arcsAt g x).length-j) (0) ⟨Nat.zero_le _,Y⟩ (Ar U ⟨U,U,U,U,U,U,U,U,U,U,U,Y⟩ ⟨(by refine congrArg (fun r=>some (R.row 2 r)) ?_;first|rfl|(simp [arcRow];done)|(simp [arcTo];done)),Y⟩) ?_))
   rintro j ⟨hk1,he1⟩
   refine Ae (AWl.lt ?_);refine Aa (Ac (Ai (.tm U) (fun h30=>?_) (fun h30=>?_)))
   · try simp at h30
     obtain⟨y,hy⟩:∃ ξ,(arcsAt g x)[j]?=some ξ:=⟨_,List.getElem?_eq_getElem (by omega)⟩
     have hrw:=arcRow_len g k x j
     refine Aj (Ac (AW.block (Ae (Ag (An U (.no U) U (.tm U) (.tm U) Tryz.underlying247 ty251 (fun _=>⟨by omega,(by exact Ao hy)⟩)) U ?_))));refine Aq ty251 ?_;refine A6 (Bo 9 U U U in251 U U U) U ?_;refine A4 ty251 ?_;refine Aa (Ae (B6 fl251_1 ?_));refine Bp ty3 ?_;refine Ab ?_;refine AWl.eq ?_;refine Aa (Ai (.tm U) (fun h36=>?_) (fun h36=>?_))
     · try simp at h36
       refine Am (As [1,2,4,5,6,9,20,21,22,27,28,29] [18,9]) ?_;refine Ad (Ab ?_);refine Ab ?_;refine B6 fl251_2 ?_;refine Bp ty3 ?_;refine Ag (Bd (ps:=[(0,.tmp 38),(1,.tmp 40)]) U U U Du U U st97 (.cons (.tm U) U U fp97_0 (.cons (.tm U) U U fp97_1 .nil)) U) U ?_;refine Bh (Ch (xs:=[.tmp 41]) 42 U U U (.cons (.tm U) U U .nil) Tryz.underlying89 Du U U U U) U ?_;refine Bu (B7 U U U (.tm U) U (.tm U) (by exact .rf U) (by rfl) Tryz.underlying89 Du U (by (simp [chunk];omega)) (by (unfold maxLen;simp [chunk];omega))) U ?_;refine Bt (As [1,2,4,5,6,9,20,21,22,27,28,29,43] [18,9,42]) ?_;refine Ah ?_;refine Aa (Ad (A8 ?_));refine Ab ?_;refine Aa ?_
       repeat (with_reducible refine Au ?_)
       refine Round1.next (j+1) ⟨by omega,Y⟩ (by omega) (Ar rfl ⟨rfl,rfl,rfl,rfl,rfl,rfl,rfl,rfl,rfl,rfl,rfl,Y⟩ ⟨(by refine congrArg (fun r=>some (R.row 2 r)) ?_;first|(rw [arcRow_at hy];unfold arcP;rw [if_pos (by simpa using h36)];simp [chunk,cPair];done)|(rw [arcRow_at hy];unfold arcP;rw [if_neg (by simpa using h36)];simp;done)|(rw [arcTo_succ,selfP_at hv,if_pos (by simpa using h48),show j=(arcsAt g x).length by omega];simp [chunk,cPair];done)|(rw [arcTo_succ,selfP_at hv,if_neg (by simpa using h48),show j=(arcsAt g x).length by omega];simp;done)|(simp [arcRow];done)),Y⟩)
     try simp at h36
     refine Aj (Am (As [1,2,4,5,6,9,20,21,22,27,28,29] [18,9]) ?_);refine Ad (A8 ?_);refine Ab ?_;refine Aa ?_
     repeat (with_reducible refine Au ?_)
     refine Round1.next (j+1) ⟨by omega,Y⟩ (by omega) (Ar rfl ⟨rfl,rfl,rfl,rfl,rfl,rfl,rfl,rfl,rfl,rfl,rfl,Y⟩ ⟨(by refine congrArg (fun r=>some (R.row 2 r)) ?_;first|(rw [arcRow_at hy];unfold arcP;rw [if_pos (by simpa using h36)];simp [chunk,cPair];done)|(rw [arcRow_at hy];unfold arcP;rw [if_neg (by simpa using h36)];simp;done)|(rw [arcTo_succ,selfP_at hv,if_pos (by simpa using h48),show j=(arcsAt g x).length by omega];simp [chunk,cPair];done)|(rw [arcTo_succ,selfP_at hv,if_neg (by simpa using h48),show j=(arcsAt g x).length by omega];simp;done)|(simp [arcRow];done)),Y⟩)
   try simp at h30
   have hrw:=arcRow_len g k x j
   refine Ba (Ae (Aq Bz ?_));refine Ab ?_;refine Ab ?_;refine Ag (A3 (FnT.fr (implHoldsAt g hg (x:Int) k v (by omega) (by simpa using hv) hkr)) U (.no U) U (.cons (.tm U) U (.cons (.tm U) U (.cons (.tm U) U .nil)))) U ?_;refine Aa (Ai (.tm U) (fun h48=>?_) (fun h48=>?_))
   · try simp at h48
     refine Ad (Ab ?_);refine Ab ?_;refine Ab ?_;refine Ag (Bd (ps:=[(0,.tmp 50),(1,.tmp 51)]) U U U Du U U st97 (.cons (.tm U) U U fp97_0 (.cons (.tm U) U U fp97_1 .nil)) U) U ?_;refine Bh (Ch (xs:=[.tmp 52]) 53 U U U (.cons (.tm U) U U .nil) Tryz.underlying89 Du U U U U) U ?_;refine Bu (B7 U U U (.tm U) U (.tm U) (by exact .rf U) (by rfl) Tryz.underlying89 Du U (by (simp [chunk];omega)) (by (unfold maxLen;simp [chunk];omega))) U ?_;refine Bt (As [1,2,4,5,6,20,21,22,27,28,29,30,48,54] [18,53]) ?_;refine Ah ?_;refine Aa (Ad (A8 ?_));refine Ab ?_;refine Aa ?_
     repeat (with_reducible refine Au ?_)
     refine Round1.next (x+1) ⟨by omega,Y⟩ (by omega) (Ar rfl ⟨rfl,rfl,rfl,rfl,rfl,rfl,rfl,Y⟩ ⟨(by refine congrArg (fun r=>some (R.row 2 r)) ?_;first|(rw [arcRow_at hy];unfold arcP;rw [if_pos (by simpa using h36)];simp [chunk,cPair];done)|(rw [arcRow_at hy];unfold arcP;rw [if_neg (by simpa using h36)];simp;done)|(rw [arcTo_succ,selfP_at hv,if_pos (by simpa using h48),show j=(arcsAt g x).length by omega];simp [chunk,cPair];done)|(rw [arcTo_succ,selfP_at hv,if_neg (by simpa using h48),show j=(arcsAt g x).length by omega];simp;done)|(simp [arcRow];done)),Y⟩)
   try simp at h48
   refine Aj (Ad (A8 ?_));refine Ab ?_;refine Aa ?_
   repeat (with_reducible refine Au ?_)
   refine Round1.next (x+1) ⟨by omega,Y⟩ (by omega) (Ar rfl ⟨rfl,rfl,rfl,rfl,rfl,rfl,rfl,Y⟩ ⟨(by refine congrArg (fun r=>some (R.row 2 r)) ?_;first|(rw [arcRow_at hy];unfold arcP;rw [if_pos (by simpa using h36)];simp [chunk,cPair];done)|(rw [arcRow_at hy];unfold arcP;rw [if_neg (by simpa using h36)];simp;done)|(rw [arcTo_succ,selfP_at hv,if_pos (by simpa using h48),show j=(arcsAt g x).length by omega];simp [chunk,cPair];done)|(rw [arcTo_succ,selfP_at hv,if_neg (by simpa using h48),show j=(arcsAt g x).length by omega];simp;done)|(simp [arcRow];done)),Y⟩)
 try simp at h23
 refine Ba (Ac (Am (σ':=⟨_,[(1,_),(2,_),(4,_),(5,_),(20,_),(21,_),(22,_)],[(18,.row 2 ((arcTo g k g.Values.length).map cPair))]⟩) (Ar U ⟨U,U,U,U,U,U,U,Y⟩ ⟨by rw [show x=g.Values.length by omega];rfl,Y⟩) ?_));refine Ad (Ab ?_);refine B8 (Cd 5700 (implpairSet (arcTo g k g.Values.length) (by have:=arcTo_len g k g.Values.length;have:g.Values.length*(2*g.Edges.length+1)≤5*25:=Nat.mul_le_mul (by omega) (by omega);omega)) U U U (.cons (.tm U) U .nil) U U) U ?_;refine Ah ?_;refine Aa (Al (Res.one U (.tmp U .nil) U ?_))
 rw [arcTo_let hg];rfl
end Go.Proofs.YtdhojcaoljhbiaaGreatDoor
