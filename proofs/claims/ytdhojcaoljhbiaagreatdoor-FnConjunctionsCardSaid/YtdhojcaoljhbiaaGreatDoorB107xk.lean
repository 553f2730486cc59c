import Derived.Test.YtdhojcaoljhbiaaGreatDoorB08xk
import Derived.Test.YtdhojcaoljhbiaaGreatDoorAbsJxk
import Derived.Test.YtdhojcaoljhbiaaGreatDoorPvxk
import Derived.Test.YtdhojcaoljhbiaaGreatDoorB106xk
import Derived.Test.YtdhojcaoljhbiaaGreatDoorAbsDxk
import Derived.Laws.OwnMore
set_option linter.unusedVariables false
set_option linter.unusedSimpArgs false
set_option maxRecDepth 100000
namespace Go.Q
open Go.D
def dE:TEdge:=⟨0,0,0,0⟩
def edgeOk (e:TEdge) (n:Int):Bool:=inB e.ID 1 99&&inB e.From 0 (n-1)&&inB e.To 0 (n-1)&&inB e.Label 0 2
def edgeAt (l:List TEdge) (n:Int) (k:Nat):Bool:=match l[k]? with
 | some e=>edgeOk e n&&!(decide (0<k)&&decide (e.ID≤(l[k-1]?.getD dE).ID))
 | none=>true
def validG (g:TGraph):Bool:=(g.Values.all fun v=>inB v 0 2)&&((List.range g.Edges.length).all fun k=>edgeAt g.Edges g.Values.length k)&&(inB g.Values.length 1 5&&decide (g.Edges.length≤12))
theorem range_all {p:Nat→Bool} {n k:Nat} (h:∀ j,j<k→p j=true) (hk:n≤k):(List.range n).all p=true:=by
 rw [List.all_eq_true]
 intro j hj;exact h j (by have:=List.mem_range.1 hj;omega)
theorem range_not {p:Nat→Bool} {n k:Nat} (hk:k<n) (hp:p k=false):(List.range n).all p=false:=by
 rw [List.all_eq_false]
 exact⟨k,List.mem_range.2 hk,by rw [hp];simp⟩
theorem range_succ {p:Nat→Bool} {k:Nat} (h:∀ j,j<k→p j=true) (hp:p k=true):∀ j,j<k+1→p j=true:=fun j hj=>by
 rcases Nat.lt_or_eq_of_le (Nat.le_of_lt_succ hj) with h1|rfl
 · exact h j h1
 exact hp
theorem getD_pred {α:Type} {d:α} {l:List α} {k:Nat} (h:0<k) (hk:k≤l.length):l[((k:Int)-1).toNat]?=some (l[k-1]?.getD d):=by
 have e:((k:Int)-1).toNat=k-1:=by omega
 rw [e];exact getD_at (by omega)
end Go.Q
namespace Go.Proofs.YtdhojcaoljhbiaaGreatDoor
open Go.RowKit Go.Q Go.D
theorem specl3Edge (g:TGraph) (e:TEdge):FnT Tryz.prog 59 [.agg (cGraph g),.agg (cEdge e)] (.a (.one (.v (.bool (edgeOk e g.Values.length))))):=by
 refine Ay Tryz.func59 U (by kernel_rfl) Tryz.ntmps59 U fun hlen w0=>?_
 try simp [cEdge,cGraph] at hlen
 skip
 refine Ae (Ag (B9 U U U (.tm U) (ts:=_) (by rfl)) U ?_);refine Ag (B9 U U U (.tm U) (ts:=_) (by rfl)) U ?_;refine Ak ?_;refine Aa (Ae (A7 Cv ?_));refine Aq Ca ?_;refine Bc (.t) Tryz.underlying34 ?_;refine C6 ?_;refine Ah ?_;refine Aa (Ae (A7 fl101_0 ?_));refine Aq ty3 ?_;refine Bl (specl1In _ _ _) ?_;refine Ab ?_;refine Ds fl101_1 ?_;refine Dm ty3 ?_;refine Cp ?_;refine Ag (A3 (FnT.fr (specl1In _ _ _)) U (by exact .yes1 U U U U) U (.cons (.tmp U (by exact id)) U (.cons (.const U) U (.cons (.tmp U (by exact id)) U .nil)))) U ?_;refine Cm ?_;refine Ab ?_;refine Ds fl101_2 ?_;refine Dm ty3 ?_;refine Cp ?_;refine Ag (A3 (FnT.fr (specl1In _ _ _)) U (by exact .yes1 U U U U) U (.cons (.tmp U (by exact id)) U (.cons (.const U) U (.cons (.tmp U (by exact id)) U .nil)))) U ?_;refine Cm ?_;refine Ab ?_;refine Ds fl101_3 ?_;refine Dm ty3 ?_
 refine Ag (A3 (FnT.fr (specl1In _ _ _)) U (by exact .yes1 U U U U) U (.cons (.tmp U (by exact id)) U (.cons (.const U) U (.cons (.const U) U .nil)))) U ?_;refine Cm ?_;refine Ah ?_;refine Aa (Al (Bb U U ?_))
 rfl
theorem impledgeOk (e:TEdge) (n:Int) (hn:-1000≤n) (hn':n≤9223372036854775807):FnT Tryz.prog 92 [.agg (cEdge e),.one (.v (.int .i64 n))] (.a (.one (.v (.bool (edgeOk e n))))):=by
 refine Ay Tryz.func92 U (by kernel_rfl) Tryz.ntmps92 U fun hlen w0=>?_
 try simp [cEdge,cGraph] at hlen
 refine Ae (Ag (B9 U U U (.tm U) (ts:=_) (by rfl)) U ?_);refine Ak ?_;refine Aa (Ae (A7 fl101_0 ?_));refine Aq ty3 ?_;refine Bl (implwithin _ _ _) ?_;refine Ab ?_;refine Ds fl101_1 ?_;refine Dm ty3 ?_;refine Cp ?_;refine Ag (Dy U (by exact .yes1 U U U U) U (.tmp U (by exact id)) (.const U) fun _=>by omega) U ?_;refine Ag (A3 (FnT.fr (implwithin _ _ _)) U (by exact .yes1 U U U U) U (.cons (.tmp U (by exact id)) U (.cons (.const U) U (.cons (.tmp U (by exact id)) U .nil)))) U ?_;refine Cm ?_;refine Ab ?_;refine Ds fl101_2 ?_;refine Dm ty3 ?_;refine Cp ?_;refine Ag (Dy U (by exact .yes1 U U U U) U (.tmp U (by exact id)) (.const U) fun _=>by omega) U ?_;refine Ag (A3 (FnT.fr (implwithin _ _ _)) U (by exact .yes1 U U U U) U (.cons (.tmp U (by exact id)) U (.cons (.const U) U (.cons (.tmp U (by exact id)) U .nil)))) U ?_;refine Cm ?_;refine Ab ?_;refine Ds fl101_3 ?_;refine Dm ty3 ?_
 refine Ag (A3 (FnT.fr (implwithin _ _ _)) U (by exact .yes1 U U U U) U (.cons (.tmp U (by exact id)) U (.cons (.const U) U (.cons (.const U) U .nil)))) U ?_;refine Cm ?_;refine Ah ?_;refine Aa (Al (Bb U U ?_))
 rfl
theorem specIsValidGraph (g:TGraph):FnT Tryz.prog 19 [.agg (cGraph g)] (.a (.one (.v (.bool (validG g))))):=by
 refine Ay Tryz.func19 U (by kernel_rfl) Tryz.ntmps19 U fun hlen w0=>?_
 try simp [cEdge,cGraph] at hlen
 skip
 refine Ae (Ag (B9 U U U (.tm U) (ts:=_) (by rfl)) U ?_);refine Ak ?_;refine Aa (Ac (Ae (Ak ?_)));refine Aa (AW.block (Dx (β:=Nat) (fun x=>x≤(g.Values).length∧∀ j y,j<x→(g.Values)[j]?=some y→(fun v=>inB v 0 2) y=true) (fun x=>⟨_,[(3,(true,.a (.one (.t (.v (.int .i64 (x:Nat))))))),(1,_)],[]⟩) (fun x=>(g.Values).length-x) (0) ⟨Nat.zero_le _,fun j y hj=>absurd hj (Nat.not_lt_zero j)⟩ (Ar U ⟨U,U,Y⟩ trivial) ?_));intro k hk;refine Ac (Ae (Ab ?_));refine A7 Cv ?_;refine Aq Ca ?_;refine Bc (.t) Tryz.underlying34 ?_;refine AWl.lt ?_;refine Aa (Ai (.tm U) (fun hlt=>?_) (fun hlt=>?_))
 · try simp at hlt
   obtain⟨x,hx⟩:∃ ξ,(g.Values)[k]?=some ξ:=⟨_,List.getElem?_eq_getElem (by exact hlt)⟩
   refine Aj (Ac (AW.block (Ae (A7 Cv ?_))));refine Aq Ca ?_;refine Ab ?_;refine Ag ((An U (.no U) U (.tm U) (.tm U) Tryz.underlying34 ty3 (fun _=>⟨by omega,(by exact Ao (by assumption))⟩))) U ?_;refine Aq ty3 ?_;refine Bl (specl1In _ _ _) ?_;refine C1 ?_;refine Aa (Ai (.tm U) (fun h18=>?_) (fun h18=>?_))
   · try simp at h18
     refine Ac (Am (As [1,3] []) ?_);refine Ad (Ak ?_);refine Aa (Al (Bb U U ?_))
     unfold validG;rw [not_all hx h18];rfl
   try simp at h18
   refine Aj (Am (As [1,3] []) ?_);refine Ad (Ab ?_);refine A8 ?_;refine Ah ?_;refine Aa ?_;refine Round.next (k+1) ⟨by omega,each_succ hk.2 hx (h18)⟩ (by omega) (Ar rfl ⟨rfl,rfl,Y⟩ trivial)
 try simp at hlt
 refine Ba (Ac (Ae (Ak ?_)));refine Aa (AW.block (Dx (β:=Nat) (fun x=>x≤g.Edges.length∧∀ j,j<x→edgeAt g.Edges g.Values.length j=true) (fun x=>⟨_,[(4,(true,.a (.one (.t (.v (.int .i64 (x:Nat))))))),(1,_)],[]⟩) (fun x=>g.Edges.length-x) (0) ⟨Nat.zero_le _,fun j hj=>absurd hj (Nat.not_lt_zero j)⟩ (Ar U ⟨U,U,Y⟩ trivial) ?_));intro k1 hk1;refine Ac (Ae (Ab ?_));refine A7 Dr ?_;refine Aq ty35 ?_;refine Bc (.t) Tryz.underlying35 ?_;refine AWl.lt ?_;refine Aa (Ai (.tm U) (fun hlt1=>?_) (fun hlt1=>?_))
 · try simp at hlt1
   obtain⟨x1,hx1⟩:∃ x1,g.Edges[k1]?=some x1:=⟨_,List.getElem?_eq_getElem hlt1⟩
   refine Aj (Ac (AW.block (Ac (Bq 28 (nthB [[],[],[1],[],[1,2,3],[1,2,3,4],[0,1,2,3,4,5],[0,1,2,3,4,5,6],[0,1,2,3,4,5,6,7],[0,1,2,3,4,5,6,7,8],[0,1,2,3,4,5,6,7,8,9],[0,1,2,3,4,5,6,7,8,9,10],[0,1,2,3,4,5,6,7,8,9,10,11],[0,1,2,3,4,5,6,7,8,9,10,11,12],[0,1,2,3,4,5,6,7,8,9,10,11],[0,1,2,3,4,5,6,7,8,9,10,11,14],[0,1,2,3,4,5,6,7,8,9,10,11,12,13,14,15],[0,1,2,3,4,5,6,7,8,9,10,11,12,13,14,15,16],[0,1,2,3,4,5,6,7,8,9,10,11,12,13,14,15,16,17],[0,1,2,3,4,5,6,7,8,9,10,11],[0,1,2,3,4,5,6,7,8,9,10,11,19],[0,1,2,3,4,5,6,7,8,9,10,11],[0,1,2,3,4,5,6,7,8,9,10,11,19,20,21],[0,1,2,3,4,5,6,7,8,9,10,11,19,20,21,22],[0,1,2,3,4,5,6,7,8,9,10,11,19,20,21,22,23],[0,1,2,3,4,5,6,7,8,9,10,11,12,13,14,15,16,17,18,19,20,21,22,23,24],[0,1,2,3,4,5,6,7,8,9,10,11,12,13,14,15,16,17,18,19,20,21,22,23,24,25],[0,1,2,3,4,5,6,7,8,9,10,11,12,13,14,15,16,17,18,19,20,21,22,23,24,25,26]]) (by kernel_rfl) (by kernel_rfl) (by kernel_rfl) ?_))))
   refine A5 Bz ?_;refine Cb Dr ?_;refine A5 ty35 ?_;refine Ap ?_;refine DrawC.s (fun _ hs=>(by exact An U (.no U) (Af hs U) (hs.tm U) (hs.tm U) Tryz.underlying35 ty101 (fun _=>⟨by omega,(by exact Ao (by assumption))⟩))) ?_;refine A5 ty101 ?_;refine DrawC.s (fun _ hs=>A3 (FnT.fr (specl3Edge _ _)) U (.no U) (Af hs U) (.cons (hs.tm U) (readA_sup hs U) (.cons (hs.tm U) (readA_sup hs U) .nil))) ?_;refine DrawC.s (fun _ hs=>Cy U (.no U) (Af hs U) (hs.tm U)) ?_;refine Ap ?_;refine DrawC.s (fun _ hs=>Az U (by exact hs.n1) (Af hs U) (hs.tm U)) ?_;refine DrawC.s (fun _ hs=>R_gt U (by exact hs.n1) (Af hs U) (hs.ti U) (.const U)) ?_;refine DrawC.s (fun _ hs=>Az U (by exact hs.n1) (Af hs U) (hs.ti U)) ?_;refine DrawC.s (fun _ hs=>(by exact Cq U (by exact .yes U U (hs.slots _ _ U) (by rw [hs.n];rfl)) (Af hs U) (hs.tm U) Dr)) ?_
   refine DrawC.s (fun _ hs=>(by exact Bw U (by exact .yes U U (hs.slots _ _ U) (by rw [hs.n];rfl)) (Af hs U) (hs.ti U) ty35 U U)) ?_;refine DrawC.s (fun _ hs=>Az U (by exact .yes U U (hs.slots _ _ U) (by rw [hs.n];rfl)) (Af hs U) (hs.tm U)) ?_;refine DrawC.s (fun _ hs=>Dy U (by exact .yes U U (hs.slots _ _ U) (by rw [hs.n];rfl)) (Af hs U) (hs.ti U) (.const U) (fun hq=>by first|omega|(simp at hq;omega))) ?_;refine DrawC.s (fun _ hs=>(by exact An U (by exact .yes U U (hs.slots _ _ U) (by rw [hs.n];rfl)) (Af hs U) (hs.ti U) (hs.ti U) Tryz.underlying35 ty101 (fun hq=>by simp at hq;exact⟨by omega,Ao (getD_pred (l:=g.Edges) (d:=dE) (by omega) (by omega))⟩))) ?_;refine DrawC.s (fun _ hs=>(by exact Cq U (by exact .yes U U (hs.slots _ _ U) (by rw [hs.n];rfl)) (Af hs U) (hs.ti U) fl101_0)) ?_
   refine DrawC.s (fun _ hs=>(by exact Bw U (by exact .yes U U (hs.slots _ _ U) (by rw [hs.n];rfl)) (Af hs U) (hs.ti U) ty3 U U)) ?_;refine DrawC.s (fun _ hs=>(by exact Cq U (by exact .yes U U (hs.slots _ _ U) (by rw [hs.n];rfl)) (Af hs U) (hs.tm U) Dr)) ?_;refine DrawC.s (fun _ hs=>(by exact Bw U (by exact .yes U U (hs.slots _ _ U) (by rw [hs.n];rfl)) (Af hs U) (hs.ti U) ty35 U U)) ?_;refine DrawC.s (fun _ hs=>Az U (by exact .yes U U (hs.slots _ _ U) (by rw [hs.n];rfl)) (Af hs U) (hs.tm U)) ?_;refine DrawC.s (fun _ hs=>(by exact An U (by exact .yes U U (hs.slots _ _ U) (by rw [hs.n];rfl)) (Af hs U) (hs.ti U) (hs.ti U) Tryz.underlying35 ty101 (fun hq=>by (try simp at hq);exact⟨by omega,(by exact Ao (by assumption))⟩))) ?_;refine DrawC.s (fun _ hs=>(by exact Cq U (by exact .yes U U (hs.slots _ _ U) (by rw [hs.n];rfl)) (Af hs U) (hs.ti U) fl101_0)) ?_
   refine DrawC.s (fun _ hs=>(by exact Bw U (by exact .yes U U (hs.slots _ _ U) (by rw [hs.n];rfl)) (Af hs U) (hs.ti U) ty3 U U)) ?_;refine DrawC.s (fun _ hs=>R_ge U (by exact .yes U U (hs.slots _ _ U) (by rw [hs.n];rfl)) (Af hs U) (hs.ti U) (hs.ti U)) ?_;refine DrawC.s (fun _ hs=>R_and U (by exact hs.n1) (Af hs U) (hs.ti U) (hs.ti U)) ?_;refine DrawC.s (fun _ hs=>R_or U (.no U) (Af hs U) (hs.tm U) (hs.ti U)) ?_;refine Bi U U ?_;refine Aa (Ai (.tm U) (fun h53=>?_) (fun h53=>?_))
   · try simp at h53
     refine Ac (Am (As [1,4] []) ?_);refine Ad (Ak ?_);refine Aa (Al (Bb U U ?_))
     unfold validG;rw [range_not hlt1 (by simp only [edgeAt,hx1];grind)];simp
   try simp at h53
   refine Aj (Am (As [1,4] []) ?_);refine Ad (Ab ?_);refine A8 ?_;refine Ah ?_;refine Aa ?_;refine Round.next (k1+1) ⟨by omega,range_succ hk1.2 (by simp only [edgeAt,hx1];grind)⟩ (by omega) (Ar rfl ⟨rfl,rfl,Y⟩ trivial)
 try simp at hlt1
 refine Ba (Ae (A7 Cv ?_));refine Aq Ca ?_;refine Bc (.t) Tryz.underlying34 ?_;refine Bl (specl1In _ _ _) ?_;refine Ab ?_;refine Ds Dr ?_;refine Dm ty35 ?_;refine Ag (C4 U (by exact .yes1 U U U U) U (.tmp U (by exact id)) (by exact .t) Tryz.underlying35) U ?_;refine Ag (R_le U (by exact .yes1 U U U U) U (.tmp U (by exact id)) (.const U)) U ?_;refine Cm ?_;refine Ah ?_;refine Aa (Al (Bb U U ?_))
 unfold validG;rw [each_all hk.2 (by omega),range_all hk1.2 (by omega)];simp;grind
theorem implIsValidGraph (g:TGraph):FnT Tryz.prog 49 [.agg (cGraph g)] (.a (.one (.v (.bool (validG g))))):=by
 refine Ay Tryz.func49 U (by kernel_rfl) Tryz.ntmps49 U fun hlen w0=>?_
 try simp [cEdge,cGraph] at hlen
 skip
 refine Ae (Ag (B9 U U U (.tm U) (ts:=_) (by rfl)) U ?_);refine Ak ?_;refine Aa (Ae (A7 Cv ?_));refine Aq Ca ?_;refine Bc (.t) Tryz.underlying34 ?_;refine Ah ?_;refine Aa (Ac (Ae (A7 Cv ?_)));refine Aq Ca ?_;refine Bc (.t) Tryz.underlying34 ?_;refine Ag (Az U (.no U) U (.const U)) U ?_;refine Aa (AW.block (Dx (β:=Nat) (fun x=>x≤(g.Values).length∧∀ j y,j<x→(g.Values)[j]?=some y→(fun v=>inB v 0 2) y=true) (fun x=>⟨_,[(14,(true,.a (.one (.t (.v (.int .i64 (x:Nat))))))),(1,_),(3,_),(12,_),(13,_)],[]⟩) (fun x=>(g.Values).length-x) (0) ⟨Nat.zero_le _,fun j y hj=>absurd hj (Nat.not_lt_zero j)⟩ (Ar U ⟨U,U,U,U,U,Y⟩ trivial) ?_));intro k hk;refine Ae (AWl.lt ?_);refine Aa (Ac (Ai (.tm U) (fun hlt=>?_) (fun hlt=>?_)))
 · try simp at hlt
   obtain⟨x,hx⟩:∃ ξ,(g.Values)[k]?=some ξ:=⟨_,List.getElem?_eq_getElem (by exact hlt)⟩
   refine Aj (Ac (AW.block (Ae (Ag ((An U (.no U) U (.tm U) (.tm U) Tryz.underlying34 ty3 (fun _=>⟨by omega,(by exact Ao (by assumption))⟩))) U ?_))));refine Aq ty3 ?_;refine Ah ?_;refine Aa (Ae (Ab ?_));refine Bl (implwithin _ _ _) ?_;refine C1 ?_;refine Aa (Ai (.tm U) (fun h20=>?_) (fun h20=>?_))
   · try simp at h20
     refine Ac (Am (As [1,3,5,12,13,14] []) ?_);refine Ad (Ak ?_);refine Aa (Al (Bb U U ?_))
     unfold validG;rw [not_all hx h20];rfl
   try simp at h20
   refine Aj (Am (As [1,3,5,12,13,14] []) ?_);refine Ad (A8 ?_);refine Ab ?_;refine Aa ?_;refine Round.next (k+1) ⟨by omega,each_succ hk.2 hx (h20)⟩ (by omega) (Ar rfl ⟨rfl,rfl,rfl,rfl,rfl,Y⟩ trivial)
 try simp at hlt
 refine Ba (Ac (Ae (A7 Dr ?_)));refine Aq ty35 ?_;refine Bc (.t) Tryz.underlying35 ?_;refine Ag (Az U (.no U) U (.const U)) U ?_;refine Aa (AW.block (Dx (β:=Nat) (fun x=>x≤g.Edges.length∧∀ j,j<x→edgeAt g.Edges g.Values.length j=true) (fun x=>⟨_,[(25,(true,.a (.one (.t (.v (.int .i64 (x:Nat))))))),(1,_),(3,_),(23,_),(24,_)],[]⟩) (fun x=>g.Edges.length-x) (0) ⟨Nat.zero_le _,fun j hj=>absurd hj (Nat.not_lt_zero j)⟩ (Ar U ⟨U,U,U,U,U,Y⟩ trivial) ?_));intro k1 hk1;refine Ae (AWl.lt ?_);refine Aa (Ac (Ai (.tm U) (fun hlt1=>?_) (fun hlt1=>?_)))
 · try simp at hlt1
   obtain⟨x1,hx1⟩:∃ x1,g.Edges[k1]?=some x1:=⟨_,List.getElem?_eq_getElem hlt1⟩
   refine Aj (Ac (AW.block (Ae (Ab ?_))));refine Ag ((An U (.no U) U (.tm U) (.tm U) Tryz.underlying35 ty101 (fun _=>⟨by omega,(by exact Ao (by assumption))⟩))) U ?_;refine Aq ty101 ?_;refine A6 (Bo 7 U U U in101 U U U) U ?_;refine Ah ?_;refine A4 ty101 ?_;refine Aa (Ac (Bq 20 (nthB [[],[],[0,1],[0,1,2],[0,1,2,3],[0,1,2,3,4],[0,1,2,3,4,5],[0,1,2,3,4,5,6],[0,1,2,3,4,5,6,7],[0,1,2,3,4,5,6,7,8],[0,1,2,3,4,5,6,7],[0,1,2,3,4,5,6,7,10],[0,1,2,3,4,5,6,7,8,9,10,11],[0,1,2,3,4,5,6,7,8,9,10,11,12],[0,1,2,3,4,5,6,7,8,9,10,11,12,13],[0,1,2,3,4,5,6,7],[0,1,2,3,4,5,6,7,15],[0,1,2,3,4,5,6,7,8,9,10,11,12,13,14,15,16],[0,1,2,3,4,5,6,7,8,9,10,11,12,13,14,15,16,17],[0,1,2,3,4,5,6,7,8,9,10,11,12,13,14,15,16,17,18]]) (by kernel_rfl) (by kernel_rfl) (by kernel_rfl) ?_));refine DrawC.s (fun _ hs=>(by exact Ax U (.no U) (Af hs U) (hs.tm U) (hs.res _ _ U) ty101 U U)) ?_;refine Ap ?_
   refine DrawC.s (fun _ hs=>A3 (FnT.fr (impledgeOk _ _ (by omega) (by omega))) U (.no U) (Af hs U) (.cons (hs.tm U) (readA_sup hs U) (.cons (hs.tm U) (readA_sup hs U) .nil))) ?_;refine DrawC.s (fun _ hs=>Cy U (.no U) (Af hs U) (hs.tm U)) ?_;refine Ap ?_;refine DrawC.s (fun _ hs=>Az U (by exact hs.n1) (Af hs U) (hs.tm U)) ?_;refine DrawC.s (fun _ hs=>R_gt U (by exact hs.n1) (Af hs U) (hs.ti U) (.const U)) ?_;refine DrawC.s (fun _ hs=>Az U (by exact hs.n1) (Af hs U) (hs.ti U)) ?_;refine DrawC.s (fun _ hs=>(by exact Cq U (by exact .yes U U (hs.slots _ _ U) (by rw [hs.n];rfl)) (Af hs U) (hs.tm U) Dr)) ?_;refine DrawC.s (fun _ hs=>(by exact Bw U (by exact .yes U U (hs.slots _ _ U) (by rw [hs.n];rfl)) (Af hs U) (hs.ti U) ty35 U U)) ?_;refine DrawC.s (fun _ hs=>Az U (by exact .yes U U (hs.slots _ _ U) (by rw [hs.n];rfl)) (Af hs U) (hs.tm U)) ?_
   refine DrawC.s (fun _ hs=>Dy U (by exact .yes U U (hs.slots _ _ U) (by rw [hs.n];rfl)) (Af hs U) (hs.ti U) (.const U) (fun hq=>by first|omega|(simp at hq;omega))) ?_;refine DrawC.s (fun _ hs=>(by exact An U (by exact .yes U U (hs.slots _ _ U) (by rw [hs.n];rfl)) (Af hs U) (hs.ti U) (hs.ti U) Tryz.underlying35 ty101 (fun hq=>by simp at hq;exact⟨by omega,Ao (getD_pred (l:=g.Edges) (d:=dE) (by omega) (by omega))⟩))) ?_;refine DrawC.s (fun _ hs=>(by exact Cq U (by exact .yes U U (hs.slots _ _ U) (by rw [hs.n];rfl)) (Af hs U) (hs.ti U) fl101_0)) ?_;refine DrawC.s (fun _ hs=>(by exact Bw U (by exact .yes U U (hs.slots _ _ U) (by rw [hs.n];rfl)) (Af hs U) (hs.ti U) ty3 U U)) ?_;refine DrawC.s (fun _ hs=>(by exact Av U (by exact .yes U U (hs.slots _ _ U) (by rw [hs.n];rfl)) (Af hs U) (hs.tm U) fl101_0)) ?_
   refine DrawC.s (fun _ hs=>(by exact Ax U (by exact .yes U U (hs.slots _ _ U) (by rw [hs.n];rfl)) (Af hs U) (hs.ti U) (hs.res _ _ U) ty3 U U)) ?_;refine DrawC.s (fun _ hs=>R_ge U (by exact .yes U U (hs.slots _ _ U) (by rw [hs.n];rfl)) (Af hs U) (hs.ti U) (hs.ti U)) ?_;refine DrawC.s (fun _ hs=>R_and U (by exact hs.n1) (Af hs U) (hs.ti U) (hs.ti U)) ?_;refine DrawC.s (fun _ hs=>R_or U (.no U) (Af hs U) (hs.tm U) (hs.ti U)) ?_;refine Bi U U ?_;refine Aa (Ai (.tm U) (fun h49=>?_) (fun h49=>?_))
   · try simp at h49
     refine Ac (Am (As [1,3,6,7,23,24,25] [7]) ?_);refine Ad (Ak ?_);refine Aa (Al (Bb U U ?_))
     unfold validG;rw [range_not hlt1 (by simp only [edgeAt,hx1];grind)];simp
   try simp at h49
   refine Aj (Am (As [1,3,6,7,23,24,25] [7]) ?_);refine Ad (A8 ?_);refine Ab ?_;refine Aa ?_;refine Round.next (k1+1) ⟨by omega,range_succ hk1.2 (by simp only [edgeAt,hx1];grind)⟩ (by omega) (Ar rfl ⟨rfl,rfl,rfl,rfl,rfl,Y⟩ trivial)
 try simp at hlt1
 refine Ba (Ae (Ab ?_));refine Bl (implwithin _ _ _) ?_;refine Ab ?_;refine Ds Dr ?_;refine Dm ty35 ?_;refine Ag (C4 U (by exact .yes1 U U U U) U (.tmp U (by exact id)) (by exact .t) Tryz.underlying35) U ?_;refine Ag (R_le U (by exact .yes1 U U U U) U (.tmp U (by exact id)) (.const U)) U ?_;refine Cm ?_;refine Ah ?_;refine Aa (Al (Bb U U ?_))
 unfold validG;rw [each_all hk.2 (by omega),range_all hk1.2 (by omega)];simp;grind
end Go.Proofs.YtdhojcaoljhbiaaGreatDoor
namespace Go.Q
open Go.D
def reads (e:TEdge) (b:Bool):Int:=if b then 2*e.Label+1 else 2*e.Label
end Go.Q
namespace Go.Proofs.YtdhojcaoljhbiaaGreatDoor
open Go.RowKit Go.Q Go.D
theorem implreads (e:TEdge) (b:Bool) (h:0≤e.Label∧e.Label≤2):FnT Tryz.prog 252 [.agg (cEdge e),.one (.v (.bool b))] (.a (.one (.v (.int .i64 (reads e b))))):=by
 refine Ay Tryz.func252 U (by kernel_rfl) Tryz.ntmps252 U fun hlen w0=>?_
 try simp [cEdge,cGraph] at hlen
 refine Ae (Ag (B9 U U U (.tm U) (ts:=_) (by rfl)) U ?_);refine Ak ?_;refine Aa (Ac (Ae (Ab ?_)));refine Aa (Ai (.tm U) (fun h5=>?_) (fun h5=>?_))
 · try simp at h5
   refine Ae (A7 fl101_3 ?_);refine Aq ty3 ?_;refine Ag (R_mul U (.no U) U (.const U) (.tm U) (fun _=>by omega)) U ?_;refine A8 ?_;refine Ah ?_;refine Aa (Al (Bb U U ?_))
   simp [reads,h5]
 try simp at h5
 refine Aj (Ae (A7 fl101_3 ?_));refine Aq ty3 ?_;refine Ag (R_mul U (.no U) U (.const U) (.tm U) (fun _=>by omega)) U ?_;refine Ah ?_;refine Aa (Al (Bb U U ?_))
 simp [reads,h5]
end Go.Proofs.YtdhojcaoljhbiaaGreatDoor
set_option maxHeartbeats 1000000
set_option maxRecDepth 100000
namespace Go.Q
open Go.D
def bitsN (m:Nat):List Nat:=(List.range 64).filter m.testBit
def nextOf (a:TAutomaton) (s k:Int):Int:=(a.Next[s.toNat]?.getD [])[k.toNat]?.getD (-1)
def clos (a:TAutomaton) (v:Int):Nat→Int→Nat→Nat
 | 0,_,m=>m
 | f+1,s,m=>if s<0||m.testBit s.toNat then m else clos a v f (nextOf a s (6+v)) (m|||2^s.toNat)
def closure (a:TAutomaton) (s v:Int):Nat:=clos a v (a.Accept.length+1) s 0
def accAt (a:TAutomaton) (t:Nat):Bool:=a.Accept[t]?.getD false
def acc (a:TAutomaton) (s v:Int):Bool:=(bitsN (closure a s v)).any (accAt a)
structure TArc where
 step:TStep
 letter:Int
 to:Int
 deriving DecidableEq
def arcsOf (e:TEdge) (x:Int):List TArc:=(if e.From=x then [⟨⟨e.ID,false⟩,reads e false,e.To⟩] else [])++if e.To=x then [⟨⟨e.ID,true⟩,reads e true,e.From⟩] else []
def arcsL (l:List TEdge) (x:Int):List TArc:=l.flatMap fun e=>arcsOf e x
def arcsAt (g:TGraph) (x:Int):List TArc:=arcsL g.Edges x
theorem arcsL_at {l:List TEdge} {k:Nat} {e:TEdge} (h:l[k]?=some e) (x:Int):arcsL (l.take (k+1)) x=arcsL (l.take k) x++arcsOf e x:=by
 unfold arcsL
 rw [take_at h,List.flatMap_append];simp
theorem arcsL_len (l:List TEdge) (x:Int):(arcsL l x).length≤2*l.length:=by
 induction l with
 | nil=>simp [arcsL]
 | cons e l ih=>
  have e1:arcsL (e::l) x=arcsOf e x++arcsL l x:=by simp [arcsL]
  have e2:(arcsOf e x).length≤2:=by
   unfold arcsOf
   rw [List.length_append]
   split<;>split<;>simp
  rw [e1,List.length_append,List.length_cons];omega
def cArc (x:TArc):List T:=[.v (.int .i64 x.step.Edge),.v (.bool x.step.Inverse),.v (.int .i64 x.letter),.v (.int .i64 x.to)]
def cArcS (x:List TArc):List T:=[.sl 4 (x.map cArc)]
def arcsV (g:TGraph):List (List TArc):=(List.range g.Values.length).map fun (x:Nat)=>arcsAt g x
theorem validG_len {g:TGraph} (h:validG g=true):1≤g.Values.length∧g.Values.length≤5∧g.Edges.length≤12:=by
 unfold validG inB at h
 simp only [Bool.and_eq_true,decide_eq_true_eq] at h
 omega
theorem validG_val {g:TGraph} (h:validG g=true) {k:Nat} {v:Int} (hv:g.Values[k]?=some v):0≤v∧v≤2:=by
 unfold validG at h
 simp only [Bool.and_eq_true,List.all_eq_true] at h
 have:=h.1.1 _ (List.mem_of_getElem? hv)
 unfold inB at this
 simpa using this
theorem validG_edge {g:TGraph} (h:validG g=true) {k:Nat} {e:TEdge} (he:g.Edges[k]?=some e):0≤e.From∧e.From<g.Values.length∧0≤e.To∧e.To<g.Values.length∧0≤e.Label∧e.Label≤2∧1≤e.ID∧e.ID≤99:=by
 unfold validG at h
 simp only [Bool.and_eq_true,List.all_eq_true] at h
 have:=h.1.2 k (List.mem_range.2 (List.getElem?_eq_some_iff.1 he).1)
 unfold edgeAt at this
 rw [he] at this
 simp only [Bool.and_eq_true] at this
 have:=this.1
 unfold edgeOk inB at this
 simp only [Bool.and_eq_true,decide_eq_true_eq] at this
 omega
theorem range_set {α:Type} (f:Nat→α) (y:α) {n i:Nat}:((List.range n).map f).set i y=(List.range n).map fun x=>if x=i then y else f x:=by
 apply List.ext_getElem?;intro j
 rw [List.getElem?_set]
 simp only [List.length_map,List.length_range,List.getElem?_map]
 by_cases e:i=j
 · subst e
   by_cases h:i<n
   · simp [h]
   simp [h]
 rw [if_neg e]
 by_cases h:j<n
 · rw [List.getElem?_range h];simp;intro e';exact absurd e'.symm e
 simp [h]
theorem range_get {α:Type} (f:Nat→α) {n i:Nat} (h:i<n):((List.range n).map f)[i]?=some (f i):=by
 rw [List.getElem?_map,List.getElem?_range h];rfl
end Go.Q
namespace Go.Proofs.YtdhojcaoljhbiaaGreatDoor
open Go.RowKit Go.Q Go.D
end Go.Proofs.YtdhojcaoljhbiaaGreatDoor
namespace Go.Q
open Go.D
def cmpL:List Int→List Int→Int
 | [],[]=>0
 | [],_::_=> -1
 | _::_,[]=>1
 | x::l,y::r=>if x<y then -1 else if y<x then 1 else cmpL l r
theorem cmpL_drop {l r:List Int} {k:Nat} {x y:Int} (hx:l[k]?=some x) (hy:r[k]?=some y):cmpL (l.drop k) (r.drop k)=if x<y then -1 else if y<x then 1 else cmpL (l.drop (k+1)) (r.drop (k+1)):=by
 rw [drop_at hx,drop_at hy,cmpL]
theorem cmpL_end {l r:List Int} {k:Nat} (h:l.length≤k∨r.length≤k) (h1:k≤l.length) (h2:k≤r.length):cmpL (l.drop k) (r.drop k)=if l.length<r.length then -1 else if r.length<l.length then 1 else 0:=by
 by_cases e1:l.length=k
 · by_cases e2:r.length=k
   · rw [List.drop_eq_nil_of_le (by omega),List.drop_eq_nil_of_le (by omega),cmpL,if_neg (by omega),if_neg (by omega)]
   rw [List.drop_eq_nil_of_le (by omega),List.drop_eq_getElem_cons (l:=r) (by omega),cmpL,if_pos (by omega)]
 by_cases e2:r.length=k
 · rw [List.drop_eq_nil_of_le (show r.length≤k by omega),List.drop_eq_getElem_cons (l:=l) (by omega),cmpL,if_neg (by omega),if_pos (by omega)]
 omega
theorem cmpL_zero:∀ (l r:List Int),decide (cmpL l r=0)=decide (l=r)
 | [],[]=>by simp [cmpL]
 | [],_::_=>by simp [cmpL]
 | _::_,[]=>by simp [cmpL]
 | x::l,y::r=>by
  have ih:=cmpL_zero l r
  rw [cmpL]
  by_cases h1:x<y
  · rw [if_pos h1];simp;omega
  by_cases h2:y<x
  · rw [if_neg h1,if_pos h2];simp;omega
  rw [if_neg h1,if_neg h2,ih]
  have:x=y:=by omega
  simp [this]
end Go.Q
namespace Go.Proofs.YtdhojcaoljhbiaaGreatDoor
open Go.RowKit Go.Q Go.D
theorem specl2Cmp (l r:List Int):FnT Tryz.prog 43 [.one (.sl 1 (l.map cInt)),.one (.sl 1 (r.map cInt))] (.a (.one (.v (.int .i64 (cmpL l r))))):=by
 refine Ay Tryz.func43 U (by kernel_rfl) Tryz.ntmps43 U fun hlen w0=>?_
 try simp [cEdge,cGraph] at hlen
 refine Ae (Ak ?_);refine Aa (Ac (Ae (Ak ?_)));refine Aa (AW.block (Dx (β:=Nat) (fun x=>(x≤l.length∧x≤r.length)∧cmpL l r=cmpL (l.drop x) (r.drop x)) (fun x=>⟨_,[(5,(true,.a (.one (.t (.v (.int .i64 x)))))),(0,_),(1,_)],[]⟩) (fun x=>l.length-x) (0) ⟨⟨Nat.zero_le _,Nat.zero_le _⟩,U⟩ (Ar U ⟨U,U,U,Y⟩ trivial) ?_));intro k hk
 obtain⟨hk,he⟩:=hk
 refine Ac (Ae (Ab ?_));refine Ab ?_;refine Bc (.t) Tryz.underlying34 ?_;refine AWl.lt ?_;refine Ab ?_;refine Cp ?_;refine Cp ?_;refine Ag (C4 U (by exact .yes1 U U U U) U (.tmp U (by exact id)) (by exact .t) Tryz.underlying34) U ?_;refine Ag (R_lt U (by exact .yes1 U U U U) U (.tmp U (by exact id)) (.tmp U (by exact id))) U ?_;refine Cm ?_;refine Aa (Ai (.tm U) (fun hlt=>?_) (fun hlt=>?_))
 · try simp at hlt
   obtain⟨x,hx⟩:∃ x,l[k]?=some x:=⟨_,List.getElem?_eq_getElem (by omega)⟩
   obtain⟨y,hy⟩:∃ y,r[k]?=some y:=⟨_,List.getElem?_eq_getElem (by omega)⟩
   rw [cmpL_drop hx hy] at he
   refine Aj (Ac (AW.block (Ac (Ac (Am (As [0,1,5] []) ?_)))));refine Bq 9 (nthB [[],[],[0,1],[0,1,2],[],[],[4,5],[4,5,6],[0,1,2,3,4,5,6,7]]) (by kernel_rfl) (by kernel_rfl) (by kernel_rfl) ?_;refine Ap ?_;refine Ap ?_;refine DrawC.s (fun _ hs=>(An U (.no U) (Af hs U) (hs.tm U) (hs.tm U) Tryz.underlying34 ty3 (fun _=>⟨by omega,(by exact Ao (by assumption))⟩))) ?_;refine A5 ty3 ?_;refine Ap ?_;refine Ap ?_;refine DrawC.s (fun _ hs=>(by exact An U (.no U) (Af hs U) (hs.tm U) (hs.tm U) Tryz.underlying34 ty3 (fun _=>⟨by omega,(by exact Ao (by assumption))⟩))) ?_;refine A5 ty3 ?_;refine DrawC.s (fun _ hs=>R_lt U (.no U) (Af hs U) (hs.tm U) (hs.tm U)) ?_;refine Bi U U ?_;refine Aa (Ai (.tm U) (fun h26=>?_) (fun h26=>?_))
   · try simp at h26
     refine Ac (Am (As [0,1,5] []) ?_);refine Ad (Ak ?_);refine Aa (Al (Bb U U ?_))
     rw [he,if_pos h26]
   try simp at h26
   refine Aj (Ac (Am (As [0,1,5] []) ?_));refine Bq 9 (nthB [[],[],[0,1],[0,1,2],[],[],[4,5],[4,5,6],[0,1,2,3,4,5,6,7]]) (by kernel_rfl) (by kernel_rfl) (by kernel_rfl) ?_;refine Ap ?_;refine Ap ?_;refine DrawC.s (fun _ hs=>(by exact An U (.no U) (Af hs U) (hs.tm U) (hs.tm U) Tryz.underlying34 ty3 (fun _=>⟨by omega,(by exact Ao (by assumption))⟩))) ?_;refine A5 ty3 ?_;refine Ap ?_;refine Ap ?_;refine DrawC.s (fun _ hs=>(by exact An U (.no U) (Af hs U) (hs.tm U) (hs.tm U) Tryz.underlying34 ty3 (fun _=>⟨by omega,(by exact Ao (by assumption))⟩))) ?_;refine A5 ty3 ?_;refine DrawC.s (fun _ hs=>R_gt U (.no U) (Af hs U) (hs.tm U) (hs.tm U)) ?_;refine Bi U U ?_;refine Aa (Ai (.tm U) (fun h35=>?_) (fun h35=>?_))
   · try simp at h35
     refine Ac (Am (As [0,1,5] []) ?_);refine Ad (Ak ?_);refine Aa (Al (Bb U U ?_))
     rw [he,if_neg (by omega),if_pos h35]
   try simp at h35
   refine Aj (Am (As [0,1,5] []) ?_);refine Ad (Ab ?_);refine A8 ?_;refine Ah ?_;refine Aa ?_;refine Round.next (k+1) ⟨by omega,by rw [he,if_neg (by omega),if_neg (by omega)]⟩ (by omega) (Ar rfl ⟨rfl,rfl,rfl,Y⟩ trivial)
 try simp at hlt
 rw [cmpL_end (by omega) (by omega) (by omega)] at he
 refine Ba (Ac (Ac (Am (As [0,1,5] []) ?_)));refine Ad (Ab ?_);refine Bc (.t) Tryz.underlying34 ?_;refine Ab ?_;refine Bc (.t) Tryz.underlying34 ?_;refine AWl.lt ?_;refine Aa (Ai (.tm U) (fun h40=>?_) (fun h40=>?_))
 · try simp at h40
   refine Ae (Ak ?_);refine Aa (Al (Bb U U ?_))
   rw [he];grind
 try simp at h40
 refine Aj (Ac (Ae (Ab ?_)));refine Bc (.t) Tryz.underlying34 ?_;refine Ab ?_;refine Bc (.t) Tryz.underlying34 ?_;refine Ag (R_gt U (.no U) U (.tm U) (.tm U)) U ?_;refine Aa (Ai (.tm U) (fun h45=>?_) (fun h45=>?_))
 · try simp at h45
   refine Ac (Am (As [0,1,5] []) ?_);refine Ad (Ak ?_);refine Aa (Al (Bb U U ?_))
   rw [he];grind
 try simp at h45
 refine Aj (Ac (Am (As [0,1,5] []) ?_));refine Ad (Ak ?_);refine Aa (Al (Bb U U ?_))
 rw [he];grind
end Go.Proofs.YtdhojcaoljhbiaaGreatDoor
namespace Go.Q
open Go.RowKit Go.Sort Go.Proofs Go.D
theorem cmpL_self:∀ l:List Int,cmpL l l=0
 | []=>rfl
 | x::l=>by rw [cmpL,if_neg (by omega),if_neg (by omega)];exact cmpL_self l
theorem cmpL_tra:∀ a b c:List Int,cmpL a b<0→cmpL b c<0→cmpL a c<0
 | [],[],_,h,_=>by simp [cmpL] at h
 | _::_,[],_,h,_=>by simp [cmpL] at h
 | _,_::_,[],_,h=>by simp [cmpL] at h
 | [],_::_,_::_,_,_=>by simp [cmpL]
 | x::a,y::b,z::c,h1,h2=>by
  rw [cmpL] at *
  have ih:=cmpL_tra a b c
  repeat' split at *
  all_goals first|omega|exact ih h1 h2
theorem cmpL_tri:∀ a b:List Int,cmpL a b<0∨a=b∨cmpL b a<0
 | [],[]=>.inr (.inl rfl)
 | [],_::_=>.inl (by simp [cmpL])
 | _::_,[]=>.inr (.inr (by simp [cmpL]))
 | x::a,y::b=>by
  rw [cmpL,cmpL]
  by_cases h1:x<y
  · simp [h1]
  by_cases h2:y<x
  · simp [h1,h2]
  have:x=y:=by omega
  subst this
  simp only [if_neg h1]
  rcases cmpL_tri a b with h|h|h
  · exact .inl h
  · exact .inr (.inl (by rw [h]))
  exact .inr (.inr h)
def rless (a b:List Int):Bool:=decide (cmpL a b<0)
theorem rless_so:SO rless where
 irr x:=by simp [rless,cmpL_self]
 tra x y z h1 h2:=by simp only [rless,decide_eq_true_eq] at *;exact cmpL_tra x y z h1 h2
 tri x y:=by simp only [rless,decide_eq_true_eq];exact cmpL_tri x y
def cR (r:List Int):List T:=[.sl 1 (r.map cInt)]
section
variable {P:Program} {ρ:Go.Shelf.Ren}
theorem FnS.rows (L:SlLaysF.n6 P ρ) {g:FuncId} (hcal:Callee P (ρ.f 6)) (heg:∀ args w,(callFunc g args).run P w=.ok (.enter g args) w)
 (hcmp:∀ (x y:List Int) (vx vy:Value) (Gx Gy:List Nat) (w:World),C false w (.sl 1 (x.map cInt)) vx Gx→C false w (.sl 1 (y.map cInt)) vy Gy→Calls P g #[vx,vy] w fun e w'=>e=.returned (.int .i64 (cmpL x y))∧∃ q os',w'=grow (w.drewN q) os')
 (rows:List (List Int)) (hl:rows.length<4611686018427387904):FnS P (ρ.f 6) 1 (rows.map cR) (.func (.func g) #[] #[]) ((sortG rless rows).map cR):=⟨hcal,fun w v F _ hC hnd hth=>by
 obtain⟨n,hn⟩:∃ n,rows.length=n:=⟨_,rfl⟩
 have hCc:=hC
 simp only [C] at hCc
 obtain⟨a0,n0,m0,rfl,_⟩:=hCc
 obtain⟨e1,e2,e3⟩:=hC.hdr
 rw [List.length_map] at e1
 cases n with
 | zero=>
  have h0:rows=[]:=List.eq_nil_of_length_eq_zero hn
  subst h0;subst e1
  have hs0:sortG rless ([]:List (List Int))=[]:=List.eq_nil_of_length_eq_zero (sortG_len _)
  rw [hs0]
  refine (AnyF.slices_SortFunc_none { L with } a0 m0 _ w).mono fun e w' ⟨h1,h2⟩=>?_;subst h2
  exact⟨h1,Chg.refl _ _,F,hC,hnd,fun b hb=>⟨hb,hth b hb⟩⟩
 | succ n'=>
  have hC':C true w (.sl 1 ((rows.map fun r=>T.sl 1 (r.map cInt)).map fun t=>[t])) (.slice a0 n0 m0) F:=by rw [List.map_map];exact hC
  have hlen:(rows.map fun r=>T.sl 1 (r.map cInt)).length=n'+1:=by rw [List.length_map,hn]
  obtain⟨hd,G,F0,c1,c2,c3,c4,c5,c6,c7⟩:=C_split hC' hnd
  rw [hlen] at c2 c5 c6 c7
  let R:Fin (n'+1)→List Int:=fun i=>rows.getD i.val []
  have hRi:∀ i:Fin (n'+1),rows[i.val]?=some (R i):=fun i=>by
   show _=some (rows.getD i.val [])
   rw [List.getD_eq_getElem?_getD,List.getElem?_eq_getElem (by rw [hn];exact i.isLt)];rfl
  have hti:∀ i:Fin (n'+1),C true w (.sl 1 ((R i).map cInt)) (hd i.val) (G i.val):=fun i=>c1 i.val _ (by rw [List.getElem?_map,hRi i];rfl)
  have hlt:∀ b∈F,b<w.heap.size:=hC'.lt
  rcases c2.blk with ⟨_,_,q3⟩|⟨g0,G0,cur,e',rfl,rfl,q3,q4,q5⟩
  · simp at q3
  have q5':Rws true w g0 1 0 (((List.range (n'+1)).map fun i=>T.v (hd i)).map fun t=>[t]) G0:=by rw [List.map_map];exact q5
  obtain⟨hs,Gs,s1,s2,s3,s4⟩:=Rws_split q5'
  have hcell:∀ i,i<n'+1→w.cell? ⟨g0,i,none⟩=some (hd i)∧(hd i).oneCell'=true:=fun i hi=>by
   obtain⟨h,A,k1,k2,k3,k4⟩:=s4 i (.v (hd i)) (by simp [hi])
   simp only [C] at k4
   rw [Nat.zero_add,k4.1] at k3
   exact⟨k3,k4.2.2⟩
  have hg0:g0<w.heap.size:=(Array.getElem?_eq_some_iff.1 q3).1
  let enc:Fin (n'+1)→Value:=fun i=>hd i.val
  let cf:Fin (n'+1)→Fin (n'+1)→Int:=fun i j=>cmpL (R i) (R j)
  let d:Array (Fin (n'+1)):=(List.finRange (n'+1)).toArray
  have hds:d.size=n'+1:=by simp [d]
  have hdi:∀ j,(hj:j<n'+1)→d[j]! = ⟨j,hj⟩:=fun j hj=>by
   rw [getElem!_pos d j (by rw [hds];exact hj)];simp [d]
  have hO:SWO (ltOf cf):={
   irrefl:=fun x=>by simp [ltOf,cf,cmpL_self]
   trans:=fun x y z h1 h2=>by simp only [ltOf,cf,decide_eq_true_eq] at *;exact cmpL_tra _ _ _ h1 h2
   ntrans:=fun x y z h1 h2=>by
    have:=leG_trans rless_so (R z) (R y) (R x) (by unfold leG rless;simpa [ltOf,cf] using h2) (by unfold leG rless;simpa [ltOf,cf] using h1)
    unfold leG rless at this
    simpa [ltOf,cf] using this }
  have hH:Holds enc w g0 0 d:=fun j hj=>by
   rw [hds] at hj
   rw [Nat.zero_add,hdi j hj]
   exact⟨(hcell j hj).1,by simp [World.frozen?,q3]⟩
  have hother:∀ (m:Nat) (dk:Array (Fin (n'+1))) (os:Array Obj) (b:Nat),b<w.heap.size→b≠g0→(sortWorld enc w g0 0 m dk os).heap[b]?=w.heap[b]?:=fun m dk os b hb hne=>by
   unfold sortWorld grow putRow
   show ((mapBlock (Go.Sort.ahead w m) g0 _).heap++os)[b]?=_
   have hm:=heap_mapBlock_other (w:=Go.Sort.ahead w m) (f:=putCells enc 0 dk) hne
   rw [Array.getElem?_append_left (heap_lt hm hb)]
   exact hm
  have hGo:∀ i:Fin (n'+1),∀ b∈G i.val,b<w.heap.size∧b≠g0:=fun i b hb=>by
   have:=c5 i.val i.isLt b hb
   exact⟨hlt b this.1,fun e=>this.2 (by simp [e])⟩
  have hcon:=Any.slices_SortFunc L enc (fun x=>(hcell x.val x.isLt).2) cf hO g #[] g0 0 m0 d w heg (fun m os dk _ x y=>
   hcmp (R x) (R y) (hd x.val) (hd y.val) (G x.val) (G y.val) _ ((hti x).read'.congr fun b hb=>hother m dk os b (hGo x b hb).1 (hGo x b hb).2) ((hti y).read'.congr fun b hb=>hother m dk os b (hGo y b hb).1 (hGo y b hb).2)) hH hg0 (by rw [hds,←hn];exact hl)
  have hn0:n0=n'+1:=by omega
  subst hn0
  rw [hds] at hcon
  refine hcon.mono fun e w' hR=>?_
  obtain⟨rfl,d',n2,os,hP,hS,rfl⟩:=hR
  obtain⟨p1,_,p3⟩:=hP
  have hd's:d'.size=n'+1:=by rw [p1,hds]
  have x1:d'.extract 0 (n'+1)=d':=by have h:=Array.extract_size (xs:=d');rw [hd's] at h;exact h
  have x2:d.extract 0 (n'+1)=d:=by have h:=Array.extract_size (xs:=d);rw [hds] at h;exact h
  rw [x1,x2] at p3
  have hLp:d'.toList.Perm (List.finRange (n'+1)):=by simpa [d] using p3
  have hLn:d'.toList.Nodup:=hLp.nodup_iff.2 (List.nodup_finRange _)
  have hmapR:(List.finRange (n'+1)).map R=rows:=by
   apply List.ext_getElem?;intro i
   by_cases hi:i<n'+1
   · rw [List.getElem?_map,List.getElem?_eq_getElem (by simpa using hi)]
     have:=hRi ⟨i,hi⟩
     simp at this ⊢
     exact this.symm
   rw [List.getElem?_eq_none (by simp;omega),List.getElem?_eq_none (by omega)]
  have hLR:d'.toList.map R=sortG rless rows:=by
   refine sortG_unique rless_so ?_ ?_
   · rw [←hmapR];exact hLp.map R
   rw [List.pairwise_map,List.pairwise_iff_getElem]
   intro i j hi hj hij
   have hi':i<d'.size:=by simpa using hi
   have hj':j<d'.size:=by simpa using hj
   have:=hS i j (Nat.zero_le _) hij (by omega)
   rw [getElem!_pos d' j hj',getElem!_pos d' i hi'] at this
   simpa [ltOf,cf,rless] using this
  have hw1:(sortWorld enc w g0 0 n2 d' os).heap[g0]?=some (.cells (putCells enc 0 d' cur) e' (0,0)):=by
   unfold sortWorld grow putRow
   show ((mapBlock (Go.Sort.ahead w n2) g0 _).heap++os)[g0]?=_
   have hm:=heap_mapBlock (w:=Go.Sort.ahead w n2) (f:=putCells enc 0 d') q3
   rw [Array.getElem?_append_left (Array.getElem?_eq_some_iff.1 hm).1]
   exact hm
  have hch:Chg w (sortWorld enc w g0 0 n2 d' os) [g0]:=⟨rfl,rfl,rfl,by unfold sortWorld;rw [size_grow,Go.Sort.size_putRow];exact Nat.le_add_right _ _,fun b hb hn=>hother n2 d' os b hb (by simpa using hn)⟩
  have hsz:(putCells enc 0 d' cur).size=m0*1:=by unfold putCells;simp [q4]
  have hcells:∀ i x,d'.toList[i]?=some x→(sortWorld enc w g0 0 n2 d' os).cell? ⟨g0,0+i,none⟩=some (hd x.val):=fun i x hi=>by
   have hi1:i<d'.size:=by have:=(List.getElem?_eq_some_iff.1 hi).1;simpa using this
   have hi2:i<cur.size:=by rw [q4];omega
   have hx:d'[i]=x:=by have:=(List.getElem?_eq_some_iff.1 hi).2;simpa using this
   simp only [World.cell?,hw1,Nat.zero_add]
   unfold putCells
   rw [Array.getElem?_mapIdx,Array.getElem?_eq_getElem hi2]
   simp [hi1,hx,enc]
  have hrow:C true (sortWorld enc w g0 0 n2 d' os) (.sl 1 (d'.toList.map fun i=>[.v (hd i.val)])) (.slice (some ⟨g0,0,none⟩) (n'+1) m0) [g0]:=by
   unfold C
   have hj:=Rws_join (o:=true) (w:=sortWorld enc w g0 0 n2 d' os) (b:=g0) (off:=0) (t:=fun i:Fin (n'+1)=>T.v (hd i.val)) (h:=fun i=>hd i.val) (G:=fun _=>([]:List Nat)) (l:=d'.toList) fun i x hi=>⟨hcells i x hi,by simp only [C];exact⟨trivial,trivial,(hcell x.val x.isLt).2⟩⟩
   have hz:d'.toList.flatMap (fun _=>([]:List Nat))=[]:=by rw [List.flatMap_eq_nil_iff];intro _ _;rfl
   rw [hz] at hj
   exact⟨_,_,_,rfl,by simp [hd's],e2,e3,.inr ⟨g0,0,[],rfl,rfl,(Array.getElem?_eq_some_iff.1 hw1).1,fun _=>⟨rfl,_,e',hw1,hsz⟩,hj⟩⟩
  have hall:=C_join (t:=fun i:Fin (n'+1)=>T.sl 1 ((R i).map cInt)) (h:=fun i=>hd i.val) (G:=fun i=>G i.val) hrow fun x _=>(hti x).congr fun b hb=>hother n2 d' os b (hGo x b hb).1 (hGo x b hb).2
  have hflat:(if d'.toList=[] then [] else d'.toList.flatMap fun i=>G i.val)=d'.toList.flatMap fun i=>G i.val:=by split<;>simp_all
  rw [hflat] at hall
  have hres:(d'.toList.map fun i=>[T.sl 1 ((R i).map cInt)])=(sortG rless rows).map cR:=by rw [←hLR,List.map_map];rfl
  rw [hres] at hall
  have hin:∀ b∈d'.toList.flatMap (fun i=>G i.val),∃ i:Fin (n'+1),b∈G i.val:=fun b hb=>by
   obtain⟨i,_,hb⟩:=List.mem_flatMap.1 hb
   exact⟨i,hb⟩
  refine⟨rfl,⟨hch.os,hch.tape,hch.output,hch.size,fun b hb hn=>hch.block b hb fun h=>hn (c4 b (by simp at h;simp [h]))⟩,_,hall,List.nodup_append.2 ⟨by simp,nodup_flatMap hLn (fun i _=>c6 i.val i.isLt) (fun i _ j _ hne=>c7 i.val j.val i.isLt j.isLt fun e=>hne (Fin.ext e)),fun b hb c hc ebc=>?_⟩,fun b hb=>?_⟩
  · subst ebc
    obtain⟨i,hi⟩:=hin b hc
    exact (hGo i b hi).2 (by simpa using hb)
  rcases List.mem_append.1 hb with hb|hb
  · simp only [List.mem_singleton] at hb
    subst hb
    exact⟨c4 _ (by simp),.inl _,_,hw1⟩
  obtain⟨i,hi⟩:=hin b hb
  have q:=c5 i.val i.isLt b hi
  obtain⟨cc,ee,o3⟩:=hth b q.1
  exact⟨q.1,cc,ee,(hother n2 d' os b (hGo i b hi).1 (hGo i b hi).2).trans o3⟩⟩
end
end Go.Q
namespace Go.Q
open Go.RowKit
open Rd (rd)
theorem encs_get {α:Type} [Flat α]:∀ (l:List α) (j:Nat) (u:Value),(encs l)[j]?=some u→∃ i x r,l[i]?=some x∧(Flat.enc x)[r]?=some u∧j=i*Flat.k α+r
 | [],j,u,h=>by simp [encs] at h
 | y::l,j,u,h=>by
  have e:encs (y::l)=Flat.enc y++encs l:=by simp [encs]
  rw [e] at h
  by_cases hj:j<(Flat.enc y).length
  · rw [List.getElem?_append_left hj] at h
    exact⟨0,y,j,rfl,h,by omega⟩
  rw [List.getElem?_append_right (by omega)] at h
  obtain⟨i,x,r,h1,h2,h3⟩:=encs_get l _ u h
  refine⟨i+1,x,r,by simpa using h1,h2,?_⟩
  rw [Flat.len] at h3 hj
  rw [Nat.add_mul,Nat.one_mul]
  omega
theorem Sl.news {α:Type} [Flat α] {w:World} {ad:Addr} {m c:Nat} {l:List α} {F:List Nat} (h:Sl w (some ad) m c l F):∀ j u,(encs l)[j]?=some u→w.cell? (ad.add j)=some u:=by
 intro j u hu
 obtain⟨i,x,r,h1,h2,rfl⟩:=encs_get l j u hu
 have hi:i<m:=by rw [←h.hlen];exact (List.getElem?_eq_some_iff.1 h1).1
 obtain⟨b,off,y,ha,hy,hc⟩:=h.flat hi
 cases ha
 rw [h1] at hy
 cases hy
 have:=hc r u h2
 rw [Addr.add_lit]
 simpa [Nat.add_assoc] using this
section
variable {P:Program}
theorem run_append_copy {α:Type} [Flat α] {w:World} (t ty e:TypeId) (i:TypeInfo) (z:Value) {bytes:Nat} (ht:P.underlying t=some (.slice e)) (hi:P.info? e=some i) (hz:i.zero=some z)
 (hsize:i.size=Flat.k α) (hby:i.bytes=bytes) (hzs:z.cells.size=Flat.k α) {ad0 ax:Option Addr} {m c:Nat} {l:List α} {F:List Nat} (hl:Sl w ax m c l F) (hb:m*bytes≤140737488355328) :
 ∃ v w',(Builtin.append_ #[t,t] ty #[.slice ad0 0 0,.slice ax m c]).run P w=.ok v w'∧New w w' v l∧Ext w w':=by
 subst hby
 have h1:=hl.le
 by_cases hm:m=0
 · subst hm
   obtain rfl:l=[]:=List.eq_nil_of_length_eq_zero hl.hlen
   refine⟨.slice ad0 0 0,w,?_,⟨[],Sl.vl ⟨rfl,Nat.le_refl _,Nat.zero_le _,[],[],rfl,rfl,by simp,.inl ⟨rfl,rfl⟩⟩,by simp,List.nodup_nil⟩,Ext.refl w⟩
   cases ad0<;>cases ax<;>simp [Builtin.append_,run_underlying ht,sizeOf,typeInfo,hi,Builtin.lenOf,Builtin.firstCells,loadCells,loadCellsFrom,storeCells]
 obtain⟨b,off,x,rfl,-⟩:=hl.flat (i:=0) (by omega)
 have hnews:=hl.news
 have hlen:(encs l).length=m*i.size:=by rw [encs_length,hl.hlen,hsize]
 have h63:m≤9223372036854775807:=by unfold maxLen at h1;omega
 have key:∃ cap,(Builtin.append_ #[t,t] ty #[.slice ad0 0 0,.slice (some ⟨b,off,none⟩) m c]).run P w=.ok (.slice (some ⟨w.heap.size,0,none⟩) m (grownCap w m 0 e)) (w.drew.alloc (.cells ((encs l).toArray++Builtin.zeroCells z.cells (grownCap w m 0 e-m)) e))∧cap=0:=by
  refine⟨0,?_,rfl⟩
  cases ad0 with
  | none=>
   have hr:=run_append_nil (P:=P) w t ty e i z ht hi hz ⟨b,off,none⟩ m c (encs l) hlen hnews (by omega) (by omega) (by have hb:=hb;omega)
   simpa using hr
  | some g=>
   have hr:=run_append_grow (P:=P) w t ty e i z ht hi hz g 0 0 [] (by simp) (by simp) ⟨b,off,none⟩ m c (encs l) hlen hnews (by omega) (by omega) (growslice_fits (by omega) (by simpa using hb))
   simpa using hr
 obtain⟨_,hr,_⟩:=key
 refine⟨_,_,hr,?_,(Ext.refl w).drawn.alloc _⟩
 refine New.of_owns (e:=e) (n:=m) (xs:=encs l) ⟨by rw [encs_length,hl.hlen],.inr ⟨w.heap.size,_,_,rfl,Nat.le_refl _,heap_alloc_new w.drew _,grownCap_ge w m 0 e,grownCap_le_maxLen w m 0 e (by simp only [maxLen];omega),?_,?_⟩⟩ hl.hlen.symm rfl
 · simp only [Array.size_append,List.size_toArray,size_zeroCells,hzs,encs_length,hl.hlen,←Nat.add_mul]
   congr 1
   have:=grownCap_ge w m 0 e
   omega
 have e1:m*Flat.k α=(encs l).length:=by rw [encs_length,hl.hlen]
 simp only [Array.toList_append,e1]
 exact List.take_left
theorem wpList_append_copy {α:Type} [Flat α] {w:World} {ops:Array Oper} {rest:List Oper} {o:Oper} {a:Act} {Q:Exit→Act→World→Prop} (hgd:o.guard=none) (s x:Operand) (t:TypeId)
 (ho:o.op=.call { callee:=.builtin .append,args:=#[s,x],argTypes:=#[t,t] }) (e:TypeId) (i:TypeInfo) (z:Value) (bytes:Nat) (ht:P.underlying t=some (.slice e)) (hi:P.info? e=some i) (hz:i.zero=some z)
 (hsize:i.size=Flat.k α) (hby:i.bytes=bytes) (hzs:z.cells.size=Flat.k α) {ad0 ax:Option Addr} {m c:Nat} {l:List α} {F:List Nat} (hs:a.eval s=.slice ad0 0 0) (hx:a.eval x=.slice ax m c) (hl:Sl w ax m c l F) (hb:m*bytes≤140737488355328)
 (h:∀ v w',New w w' v l→Ext w w'→wpList P ops Q rest (a.put o.dst v) w'):wpList P ops Q (o::rest) a w:=by
 refine wpList_plain hgd fun K hK=>?_
 obtain⟨v,w',hr,h2,h3⟩:=run_append_copy (P:=P) (α:=α) t o.type e i z ht hi hz hsize hby hzs (ad0:=ad0) hl hb
 unfold Oper.wp execOp
 simp only [ho,resolve,invoke,builtin,Sem.run_bind,Sem.run_pure,Result.andThen_ok,List.map_toArray,List.map_cons,List.map_nil,hs,hx,hr]
 exact hK _ _ (h v w' h2 h3)
end
end Go.Q
set_option maxHeartbeats 1000000
set_option maxRecDepth 100000
namespace Go.Q
open Go.RowKit Go.D
theorem C.ints {w:World} {l:List Int} {v:Value} {F:List Nat} (h:C false w (.sl 1 (l.map cInt)) v F):∃ a len cap,v=.slice a len cap∧l.length=len∧len≤9223372036854775807∧∀ i,i<len→∃ b off x,a=some ⟨b,off,none⟩∧l[i]?=some x∧w.cell? ⟨b,off+i,none⟩=some (.int .i64 x):=by
 simp only [C] at h
 obtain⟨a,len,cap,rfl,h2,h3,h4,h5⟩:=h
 rw [List.length_map] at h2
 refine⟨a,len,cap,rfl,h2,by unfold maxLen at h4;omega,fun i hi=>?_⟩
 rcases h5 with ⟨h5,_⟩|⟨b,off,G,rfl,rfl,h7,h8,h9⟩
 · omega
 obtain⟨s1,xs,s2,s3,s4⟩:=h9.flat
 have hf:(l.map cInt).flatten=l.map fun x=>T.v (.int .i64 x):=by
  clear h9 s1 s2 s3 h2
  induction l with
  | nil=>rfl
  | cons x l ih=>rw [List.map_cons,List.flatten_cons,ih];rfl
 rw [hf] at s2
 have key:∀ (m:List Int) {cs:List Value} {G:List Nat},Cs false w (m.map fun x=>T.v (.int .i64 x)) cs G→cs=m.map fun x=>.int .i64 x:=by
  intro m
  induction m with
  | nil=>intro cs G h;simp only [List.map_nil,Cs] at h;exact h.1
  | cons x m ih=>
   intro cs G h
   simp only [List.map_cons,Cs] at h
   obtain⟨c1,cr,G1,G2,rfl,g1,g2,rfl⟩:=h
   simp only [C] at g1
   obtain⟨rfl,_⟩:=g1
   rw [ih g2];rfl
 have hx:=key _ s2
 subst hx
 have hil:i<l.length:=by omega
 exact⟨b,off,l[i],rfl,List.getElem?_eq_getElem hil,s4 i _ (by rw [List.getElem?_map,List.getElem?_eq_getElem hil];rfl)⟩
def okVar (row:List Int) (v:Int):Bool:=inB v 0 ((row.length:Int)-1)
def okVars (vars:List Int) (row:List Int):Bool:=vars.all (okVar row)
def projR (vars:List Int) (row:List Int):List Int:=vars.map fun v=>row[v.toNat]?.getD 0
def projB (rows:List (List Int)) (vars:List Int):List (List Int):=if rows.all (okVars vars) then setG rless (rows.map (projR vars)) else []
theorem okVar_get {row:List Int} {v:Int} (h:okVar row v=true):(0≤v∧v<row.length)∧row[v.toNat]?=some (row[v.toNat]?.getD 0):=by
 unfold okVar inB at h
 simp only [Bool.and_eq_true,decide_eq_true_eq] at h
 refine⟨by omega,?_⟩
 rw [List.getElem?_eq_getElem (by omega)];rfl
theorem projB_not {rows:List (List Int)} {vars row:List Int} {v:Int} (h1:row∈rows) (h2:v∈vars) (h3:okVar row v=false):projB rows vars=[]:=by
 unfold projB
 rw [if_neg]
 intro h
 have:=List.all_eq_true.1 (List.all_eq_true.1 h row h1) v h2
 rw [h3] at this;cases this
theorem projB_all {rows:List (List Int)} {vars:List Int} (h:∀ (j:Nat) (r:List Int),j<rows.length→rows[j]?=some r→okVars vars r=true):projB rows vars=setG rless (rows.map (projR vars)):=by
 unfold projB
 rw [if_pos]
 rw [List.all_eq_true]
 intro r hr
 obtain⟨j,hj⟩:=List.getElem?_of_mem hr
 exact h j r (List.getElem?_eq_some_iff.1 hj).1 hj
end Go.Q
namespace Go.Proofs.YtdhojcaoljhbiaaGreatDoor
open Go.RowKit Go.Q Go.D
open Go.Sort (grow grow_grow)
theorem isNaN_calls (x:Int) (W:World):Calls Tryz.prog 164 #[.int .i64 x] W fun e w'=>e=.returned (.bool false)∧w'=W:=by
 have e:(x != x)=false:=by simp
 go_enter Tryz.func164,Tryz.ntmps164
 go_wp2
 go_ret
 exact⟨by simp,rfl⟩
theorem cmpCompare_calls (x y:Int) (W:World):Calls Tryz.prog 116 #[.int .i64 x,.int .i64 y] W fun e w'=>e=.returned (.int .i64 (cmpI x y))∧w'=W:=by
 have hcon:=fun a W'=>isNaN_calls a W'
 have e:cmpI x y=if x<y then -1 else if y<x then 1 else 0:=rfl
 generalize cmpI x y=r at e ⊢
 by_cases h1:x<y
 · rw [if_pos h1] at e
   subst e
   go_enter Tryz.func116,Tryz.ntmps116
   go_wp2_with (go_at_call 164;refine (hcon _ _).mono ?_;rintro e w' ⟨rfl,rfl⟩)
   go_ret
   exact⟨rfl,rfl⟩
 rw [if_neg h1] at e
 by_cases h2:y<x
 · rw [if_pos h2] at e
   subst e
   go_enter Tryz.func116,Tryz.ntmps116
   go_wp2_with (go_at_call 164;refine (hcon _ _).mono ?_;rintro e w' ⟨rfl,rfl⟩)
   go_ret
   exact⟨rfl,rfl⟩
 rw [if_neg h2] at e
 subst e
 go_enter Tryz.func116,Tryz.ntmps116
 go_wp2_with (go_at_call 164;refine (hcon _ _).mono ?_;rintro e w' ⟨rfl,rfl⟩)
 go_ret
 exact⟨rfl,rfl⟩
set_option maxHeartbeats 1000000 in
theorem slicesCompare_calls (l r:List Int) (vx vy:Value) (Gx Gy:List Nat) (w:World) (hx:C false w (.sl 1 (l.map cInt)) vx Gx) (hy:C false w (.sl 1 (r.map cInt)) vy Gy):Calls Tryz.prog 70 #[vx,vy] w fun e w'=>e=.returned (.int .i64 (cmpL l r))∧w'=w:=by
 obtain⟨a,len,cap,rfl,n1,n2,c1⟩:=hx.ints
 obtain⟨a',len',cap',rfl,m1,m2,d1⟩:=hy.ints
 clear hx hy
 have hcon:=fun p q W'=>cmpCompare_calls p q W'
 go_enter Tryz.func70,Tryz.ntmps70
 go_wp2
 go_loopw [5,6,7,8,11] (fun _ _ _ _ i wr=>∃ k:Nat,k≤len∧k≤len'∧i=.int .i64 k∧wr=w∧cmpL l r=cmpL (l.drop k) (r.drop k)) (fun _ _ _ _ i _=>len-(intOf i).toNat)
 case atStart=>exact⟨0,by simp⟩
 case round=>
  obtain⟨k,hk,hk',rfl,rfl,ht⟩:=hrel
  have HT:=hid ht;clear ht
  by_cases hlt:k<len
  · obtain⟨pb,poff,px,rfl,phx,pd⟩:=c1 k hlt
    by_cases hlt':k<len'
    · obtain⟨qb,qoff,qx,rfl,qhx,qd⟩:=d1 k hlt'
      have HD:=hid (cmpL_drop phx qhx)
      clear phx qhx c1 d1
      have e:cmpI px qx=if px<qx then -1 else if qx<px then 1 else 0:=rfl
      have HC:=hid e
      clear e
      have hcc:=hcon px qx wr
      generalize cmpI px qx=rr at HC hcc
      by_cases h0:rr=0
      · subst h0
        go_wp2_with (go_at_call 116;refine hcc.mono ?_;rintro e w' ⟨rfl,rfl⟩)
        go_roundw
        case rel=>
         have:=HC.out
         refine⟨k+1,by omega,by omega,by go_num,trivial,?_⟩
         rw [HT.out,HD.out]
         split at this
         · omega
         split at this
         · omega
         rw [if_neg (by assumption),if_neg (by assumption)]
        case measure=>simp [intOf];omega
      have hb:(rr != 0)=true:=by simpa using h0
      go_wp2_with (go_at_call 116;refine hcc.mono ?_;rintro e w' ⟨rfl,rfl⟩)
      go_ret
      refine⟨ret_int ?_,rfl⟩
      have:=HC.out
      rw [HT.out,HD.out]
      split at this
      · rw [if_pos (by assumption)];exact this
      split at this
      · rw [if_neg (by assumption),if_pos (by assumption)];exact this
      exact absurd this h0
    clear d1
    go_wp2
    go_ret
    refine⟨ret_int ?_,rfl⟩
    rw [HT.out,cmpL_end (by omega) (by omega) (by omega),if_neg (by omega),if_pos (by omega)]
  clear c1 d1
  have hke:k=len:=by omega
  subst hke
  by_cases h2:k<len'
  · go_wp2
    go_ret
    refine⟨ret_int ?_,rfl⟩
    rw [HT.out,cmpL_end (by omega) (by omega) (by omega),if_pos (by omega)]
  go_wp2
  go_ret
  refine⟨ret_int ?_,rfl⟩
  rw [HT.out,cmpL_end (by omega) (by omega) (by omega),if_neg (by omega),if_neg (by omega)]
end Go.Proofs.YtdhojcaoljhbiaaGreatDoor
namespace Go.Proofs
open Go.Shelf Go.RowKit Go.Lib Go.Sort
def Tryz.sortRows_ren:Go.Shelf.Ren:=⟨fun|6=>68|15=>115|14=>114|28=>162|29=>163|20=>154|21=>155|22=>156|23=>157|24=>158|25=>159|26=>160|27=>161|46=>211|47=>212|48=>213|49=>214|50=>215|57=>247|n=>n,fun|22=>44|24=>34|25=>76|3=>3|39=>158|0=>0|53=>195|55=>197|4=>4|46=>189|45=>188|50=>109|5=>5|9=>9|66=>233|70=>237|76=>267|77=>268|n=>n,fun|n=>n⟩
theorem Tryz.sortRows:Go.Proofs.SlLaysF.n6 Tryz.prog Tryz.sortRows_ren:={
 mixed:=by kernel_rfl
 f6:=⟨Tryz.f68.name,by decide,Tryz.func68.trans (congrArg some (by kernel_rfl))⟩
 f14:=⟨Tryz.f114.name,by decide,Tryz.func114.trans (congrArg some (by kernel_rfl))⟩
 f15:=Tryz.func115.trans (congrArg some (by kernel_rfl))
 f20:=⟨Tryz.f154.name,by decide,Tryz.func154.trans (congrArg some (by kernel_rfl))⟩
 f21:=⟨Tryz.f155.name,by decide,Tryz.func155.trans (congrArg some (by kernel_rfl))⟩
 f22:=⟨Tryz.f156.name,by decide,Tryz.func156.trans (congrArg some (by kernel_rfl))⟩
 f23:=⟨Tryz.f157.name,by decide,Tryz.func157.trans (congrArg some (by kernel_rfl))⟩
 f24:=⟨Tryz.f158.name,by decide,Tryz.func158.trans (congrArg some (by kernel_rfl))⟩
 f25:=⟨Tryz.f159.name,by decide,Tryz.func159.trans (congrArg some (by kernel_rfl))⟩
 f26:=⟨Tryz.f160.name,by decide,Tryz.func160.trans (congrArg some (by kernel_rfl))⟩
 f27:=⟨Tryz.f161.name,by decide,Tryz.func161.trans (congrArg some (by kernel_rfl))⟩
 f28:=Tryz.func162.trans (congrArg some (by kernel_rfl))
 f29:=Tryz.func163.trans (congrArg some (by kernel_rfl))
 f46:=⟨Tryz.f211.name,by decide,Tryz.func211.trans (congrArg some (by kernel_rfl))⟩
 f47:=Tryz.func212.trans (congrArg some (by kernel_rfl))
 f48:=Tryz.func213.trans (congrArg some (by kernel_rfl))
 f49:=⟨Tryz.f214.name,by decide,Tryz.func214.trans (congrArg some (by kernel_rfl))⟩
 f50:=⟨Tryz.f215.name,by decide,Tryz.func215.trans (congrArg some (by kernel_rfl))⟩
 f57:=⟨Tryz.f247.name,by decide,Tryz.func247.trans (congrArg some (by kernel_rfl))⟩
 t0:=Tryz.underlying0
 a0:=Tryz.isAgg0
 z0:=Tryz.sizeOf0
 v0:=Tryz.zeroValue0
 t3:=Tryz.underlying3
 a3:=Tryz.isAgg3
 z3:=Tryz.sizeOf3
 v3:=Tryz.zeroValue3
 t4:=Tryz.underlying4
 a4:=Tryz.isAgg4
 z4:=Tryz.sizeOf4
 v4:=Tryz.zeroValue4
 t5:=Tryz.underlying5
 a5:=Tryz.isAgg5
 z5:=Tryz.sizeOf5
 v5:=Tryz.zeroValue5
 t9:=Tryz.underlying9
 a9:=Tryz.isAgg9
 z9:=Tryz.sizeOf9
 v9:=Tryz.zeroValue9
 t22:=Tryz.underlying44
 a22:=Tryz.isAgg44
 z22:=Tryz.sizeOf44
 v22:=Tryz.zeroValue44
 a24:=Tryz.isAgg34
 z24:=Tryz.sizeOf34
 t25:=Tryz.underlying76
 a25:=Tryz.isAgg76
 z25:=Tryz.sizeOf76
 v25:=Tryz.zeroValue76
 t39:=Tryz.underlying158
 a39:=Tryz.isAgg158
 z39:=Tryz.sizeOf158
 v39:=Tryz.zeroValue158
 t45:=Tryz.underlying188
 a45:=Tryz.isAgg188
 z45:=Tryz.sizeOf188
 v45:=Tryz.zeroValue188
 t46:=Tryz.underlying189
 a46:=Tryz.isAgg189
 z46:=Tryz.sizeOf189
 v46:=Tryz.zeroValue189
 t50:=Tryz.underlying109
 a50:=Tryz.isAgg109
 z50:=Tryz.sizeOf109
 v50:=Tryz.zeroValue109
 t53:=Tryz.underlying195
 a53:=Tryz.isAgg195
 z53:=Tryz.sizeOf195
 v53:=Tryz.zeroValue195
 t55:=Tryz.underlying197
 a55:=Tryz.isAgg197
 z55:=Tryz.sizeOf197
 v55:=Tryz.zeroValue197
 t66:=Tryz.underlying233
 a66:=Tryz.isAgg233
 z66:=Tryz.sizeOf233
 v66:=Tryz.zeroValue233
 t70:=Tryz.underlying237
 a70:=Tryz.isAgg237
 z70:=Tryz.sizeOf237
 v70:=Tryz.zeroValue237
 t76:=Tryz.underlying267
 a76:=Tryz.isAgg267
 z76:=Tryz.sizeOf267
 v76:=Tryz.zeroValue267
 t77:=Tryz.underlying268
 a77:=Tryz.isAgg268
 z77:=Tryz.sizeOf268
 v77:=Tryz.zeroValue268 }
end Go.Proofs
namespace Go.Proofs.YtdhojcaoljhbiaaGreatDoor
open Go.RowKit Go.Q Go.D
open Go.Sort (grow grow_grow)
theorem project1_calls (l r:List Int) (vx vy:Value) (Gx Gy:List Nat) (w:World) (hx:C false w (.sl 1 (l.map cInt)) vx Gx) (hy:C false w (.sl 1 (r.map cInt)) vy Gy):Calls Tryz.prog 69 #[vx,vy] w fun e w'=>e=.returned (.int .i64 (cmpL l r))∧∃ q os',w'=grow (w.drewN q) os':=by
 have hcon:=slicesCompare_calls l r vx vy Gx Gy w hx hy
 go_enter Tryz.func69,Tryz.ntmps69
 go_wp2_with (go_at_call 70;refine hcon.mono ?_;rintro e w' ⟨rfl,rfl⟩)
 go_ret
 exact⟨rfl,0,#[],by simp [grow,World.drewN]⟩
theorem sortRows (rows:List (List Int)) (hl:rows.length<4611686018427387904):FnS Tryz.prog 68 1 (rows.map cR) (.func (.func 69) #[] #[]) ((sortG rless rows).map cR):=
 FnS.rows Tryz.sortRows ⟨_,rfl,by kernel_rfl,rfl⟩ (enters_of Tryz.func69 (by kernel_rfl) rfl) project1_calls rows hl
end Go.Proofs.YtdhojcaoljhbiaaGreatDoor
namespace Go.Proofs.YtdhojcaoljhbiaaGreatDoor
open Go.RowKit Go.Q Go.D
theorem implproject2 (a b:List Int):FnT Tryz.prog 72 [.one (.sl 1 (a.map cInt)),.one (.sl 1 (b.map cInt))] (.a (.one (.v (.bool (decide (a=b)))))):=by
 refine Ay Tryz.func72 U (by kernel_rfl) Tryz.ntmps72 U fun hlen w0=>?_
 try simp [cEdge,cGraph] at hlen
 refine Ae (Ak ?_);refine Aa (Ae (Ab ?_));refine Ab ?_;refine Bl (slicesEqualInt _ _) ?_;refine Ah ?_;refine Aa (Al (Res.one U (.tmp U .nil) U ?_))
 rfl
theorem compactRows (rows:List (List Int)) (hz:rows.length≤1099511627776):FnC Tryz.prog 71 ((true,.one (.sl 1 (rows.map cR)))::rdAll [.one (.fn (.func 72) [] [])]) (.a (.one (.sl 1 ((compactL rows).map cR)))):=by
 have hcl:Go.Q.Callee Tryz.prog 71:=⟨_,rfl,by kernel_rfl,rfl⟩
 let R:Nat→List Int:=fun i=>rows.getD i []
 let ts:List T:=rows.map fun r=>.sl 1 (r.map cInt)
 have hts:ts.length=rows.length:=by simp [ts]
 have hRi:∀ i,i<rows.length→rows[i]?=some (R i):=fun i hi=>by
  show _=some (rows.getD i [])
  rw [List.getD_eq_getElem?_getD,List.getElem?_eq_getElem hi];rfl
 have hti:∀ i,i<rows.length→ts[i]?=some (.sl 1 ((R i).map cInt)):=fun i hi=>by
  show (rows.map _)[i]?=_
  rw [List.getElem?_map,hRi i hi];rfl
 let p:Nat→Nat→Bool:=fun x y=>decide (R x=R y)
 have hsub:=compK_sub p (List.range rows.length)
 have h:=FnC.lift (ts:=ts) (L:=compK p (List.range ts.length)) (rest:=[.one (.fn (.func 72) [] [])]) hcl (by rw [hts];exact hsub.nodup List.nodup_range) (fun i hi=>by rw [hts] at hi ⊢;exact List.mem_range.1 (hsub.subset hi))
  fun hd K hK=>by
   rw [hts]
   exact CompactRows (List.range rows.length) hd K 72 [] p (fun x y hx hy=>FrTk.of2 (implproject2 (R x) (R y)).fr (hK x _ (hti x (List.mem_range.1 hx))) (hK y _ (hti y (List.mem_range.1 hy)))) (by simpa using hz)
 have e1:(ts.map fun t=>[t])=rows.map cR:=by show (rows.map _).map _=_;rw [List.map_map];rfl
 have hmap:(List.range rows.length).map R=rows:=by
  apply List.ext_getElem?;intro i
  by_cases hi:i<rows.length
  · rw [List.getElem?_map,List.getElem?_range hi,hRi i hi];rfl
  rw [List.getElem?_eq_none (by simp;omega),List.getElem?_eq_none (by omega)]
 have e2:((compK p (List.range ts.length)).map fun i=>[ts.getD i (.v undef)])=(compactL rows).map cR:=by
  rw [hts]
  conv=>rhs;rw [←hmap,←compK_map R p _ (fun a _ b _=>rfl),List.map_map]
  refine List.map_congr_left fun i hi=>?_
  have hil:=List.mem_range.1 (hsub.subset hi)
  rw [List.getD_eq_getElem?_getD,hti i hil]
  rfl
 rw [e1,e2] at h
 exact h
theorem implProjectBindings (rows:List (List Int)) (vars:List Int) (hz:rows.length≤1048576) (hr:∀ r∈rows,r.length≤1048576) (hv:vars.length≤1048576):FnT Tryz.prog 23 [.one (.sl 1 (rows.map cIntS)),.one (.sl 1 (vars.map cInt))] (.a (.one (.sl 1 ((projB rows vars).map cIntS)))):=by
 refine Ay Tryz.func23 U (by kernel_rfl) Tryz.ntmps23 U fun hlen w0=>?_
 try simp [cEdge,cGraph] at hlen
 refine Ae (Ak ?_);refine By (i:=4) 20001 1 U U ?_;refine Aa (Ae (A6 (Ce 11 U U U Tryz.underlying44 Ca U) U ?_));refine Ah ?_;refine Aa (Ac (Ae (Ab ?_)));refine Bc (.t) Tryz.underlying44 ?_;refine Ag (Az U (.no U) U (.const U)) U ?_;refine Aa (AW.block (Bj (fun (k:Nat)=>(k≤rows.length∧∀ j r,j<k→rows[j]?=some r→okVars vars r=true)∧True) (fun (k:Nat)=>⟨_,[(14,(true,.a (.one (.t (.v (.int .i64 (k:Nat))))))),(5,(true,.a (.one (.rf 11)))),(1,_),(12,_),(13,_)],[(11,.row 1 (((rows.take k).map (projR vars)).map cIntS))]⟩) (fun (k:Nat)=>rows.length-k) (0) ⟨⟨Nat.zero_le _,fun j r hj=>absurd hj (Nat.not_lt_zero j)⟩,Y⟩ Bm ?_))
 rintro k ⟨hk,he⟩
 refine Ae (AWl.lt ?_);refine Aa (Ac (Ai (.tm U) (fun h15=>?_) (fun h15=>?_)))
 · try simp at h15
   obtain⟨x,hx⟩:∃ ξ,rows[k]?=some ξ:=⟨_,List.getElem?_eq_getElem (by omega)⟩
   have hxl:=hr x (List.mem_of_getElem? hx)
   refine Aj (Ac (AW.block (Ae (Ag (An U (.no U) U (.tm U) (.tm U) Tryz.underlying44 Ca (fun _=>⟨by omega,(by exact Ao hx)⟩)) U ?_))));refine Aq Ca ?_;refine Ah ?_;refine Aa (Ae (A6 (Ce 18 U U U Tryz.underlying34 ty3 U) U ?_));refine Ah ?_;refine Aa (Ac (Ae (Ab ?_)));refine Bc (.t) Tryz.underlying34 ?_;refine Ag (Az U (.no U) U (.const U)) U ?_;refine Aa (AW.block (Bj (fun (k1:Nat)=>(k1≤vars.length∧∀ j v,j<k1→vars[j]?=some v→okVar x v=true)∧True) (fun (k1:Nat)=>⟨_,[(21,(true,.a (.one (.t (.v (.int .i64 (k1:Nat))))))),(8,(true,.a (.one (.rf 18)))),(1,_),(5,_),(7,_),(12,_),(13,_),(14,_),(19,_),(20,_)],[(11,.row 1 (((rows.take k).map (projR vars)).map cIntS)),(18,.row 1 (((vars.take k1).map fun v=>x[v.toNat]?.getD 0).map cInt))]⟩) (fun (k1:Nat)=>vars.length-k1) (0) ⟨⟨Nat.zero_le _,fun j r hj=>absurd hj (Nat.not_lt_zero j)⟩,Y⟩ Bm ?_))
   rintro k1 ⟨hk1,he1⟩
   refine Ae (AWl.lt ?_);refine Aa (Ac (Ai (.tm U) (fun h22=>?_) (fun h22=>?_)))
   · try simp at h22
     obtain⟨y,hy⟩:∃ ξ,vars[k1]?=some ξ:=⟨_,List.getElem?_eq_getElem (by omega)⟩
     refine Aj (Ac (AW.block (Ae (Ag (An U (.no U) U (.tm U) (.tm U) Tryz.underlying34 ty3 (fun _=>⟨by omega,(by exact Ao hy)⟩)) U ?_))));refine Aq ty3 ?_;refine Ah ?_;refine Aa (Ac (Ae (Ab ?_)));refine Ab ?_;refine Bc (.t) Tryz.underlying34 ?_;refine C6 ?_;refine Bl (implwithin _ _ _) ?_;refine C1 ?_;refine Aa (Ai (.tm U) (fun h30=>?_) (fun h30=>?_))
     · skip
       skip
       have hno:okVar x y=false:=by (unfold okVar;simpa using h30)
       refine Ac (Am (As [1,5,7,8,10,12,13,14,19,20,21] [11,18]) ?_);refine Ad (Ak ?_);refine By (i:=4) 20002 1 U U ?_;refine Aa (Al (Res.one U (.tmp U .nil) U ?_))
       rw [projB_not (List.mem_of_getElem? hx) (List.mem_of_getElem? hy) hno];rfl
     skip
     skip
     have hyes:okVar x y=true:=by (unfold okVar;simpa using h30)
     have hyg:=okVar_get hyes
     refine Aj (Am (As [1,5,7,8,10,12,13,14,19,20,21] [11,18]) ?_);refine Ad (Ab ?_);refine Ab ?_;refine Ab ?_;refine Ag (An U (.no U) U (.tm U) (.tm U) Tryz.underlying34 ty3 (fun _=>⟨by omega,Ao hyg.2⟩)) U ?_;refine Aq ty3 ?_;refine Bh (Ch (xs:=[.tmp 35]) 36 U U U (.cons (.tm U) U U .nil) Tryz.underlying34 in3 U U U U) U ?_;refine Ct (Cx U U U (.tm U) U (.tm U) U U Tryz.underlying34 in3 U (by (simp [chunk];omega)) (by (unfold maxLen;simp [chunk];omega))) U ?_;refine Bt (As [1,5,7,8,10,12,13,14,19,20,21,37] [11,18]) ?_;refine Ah ?_;refine Aa (Ad (A8 ?_));refine Ab ?_;refine Aa ?_
     repeat (with_reducible refine Au ?_)
     refine Round1.next (k1+1) ⟨⟨by omega,each_succ hk1.2 hy hyes⟩,Y⟩ (by omega) (Ar rfl ⟨rfl,rfl,rfl,rfl,rfl,rfl,rfl,rfl,rfl,rfl,Y⟩ ⟨(by rfl),(by refine congrArg (fun r=>some (R.row 1 r)) ?_;simp [take_at hy,cInt,chunk]),Y⟩)
   try simp at h22
   refine Ba (Ad (Ab ?_));refine Ab ?_;refine Bh (Ch (xs:=[.tmp 40]) 41 U U U (.cons (.tm U) U U .nil) Tryz.underlying44 in34 U U U U) U ?_;refine Ct (Cx U U U (.tm U) U (.tm U) U U Tryz.underlying44 in34 U (by (simp [chunk];omega)) (by (unfold maxLen;simp [chunk];omega))) U ?_;refine Bt (As [1,5,7,8,12,13,14,19,20,21,22,42] [11]) ?_;refine Ah ?_;refine Aa (Ad (A8 ?_));refine Ab ?_;refine Aa ?_
   repeat (with_reducible refine Au ?_)
   refine Round1.next (k+1) ⟨⟨by omega,fun j r hj hr=>(by by_cases e:j=k;(subst e;rw [hx] at hr;cases hr;exact List.all_eq_true.2 fun v hv'=>by obtain⟨i,hi⟩:=List.getElem?_of_mem hv';exact hk1.2 i v (by have:=(List.getElem?_eq_some_iff.1 hi).1;omega) hi);exact hk.2 j r (by omega) hr)⟩,Y⟩ (by omega) (Ar rfl ⟨rfl,rfl,rfl,rfl,rfl,Y⟩ ⟨(by (refine congrArg (fun r=>some (R.row 1 r)) ?_;rw [take_at hx,List.take_of_length_le (l:=vars) (by omega)];simp [cIntS,projR,chunk])),Y⟩)
 try simp at h15
 refine Ba (Ae (Ab ?_));refine AWl.updput (R_sortc U U U (.tm U) U .func (sortRows ((rows.take k).map (projR vars)) (by simp;omega))) U ?_;refine Aa (Ae (Ab ?_));apply Cu
 case ho=>
  apply Da (xo:=.tmp 46) 4700 (compactRows (sortG rless ((rows.take k).map (projR vars))) (by rw [sortG_len];simp;omega)) rfl rfl rfl (.tm rfl)
  case ha=>rfl
  case hargs=>exact (ArgC.own (ArgRd.one .func .nil))
  all_goals rfl
 case hd=>rfl
 refine Ah ?_;refine Aa (Al (Res.one U (.tmp U .nil) U ?_))
 rw [compact_sort rless_so,List.take_of_length_le (by omega),←projB_all (fun j r hj hr=>hk.2 j r (by omega) hr)];rfl
end Go.Proofs.YtdhojcaoljhbiaaGreatDoor
