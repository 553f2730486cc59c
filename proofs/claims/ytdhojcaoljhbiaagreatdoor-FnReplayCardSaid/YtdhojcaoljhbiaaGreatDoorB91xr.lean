import Derived.Test.YtdhojcaoljhbiaaGreatDoorB90xr
import Derived.Test.YtdhojcaoljhbiaaGreatDoorAbsWxr
import Derived.Test.YtdhojcaoljhbiaaGreatDoorAbsKxr
import Derived.Test.YtdhojcaoljhbiaaGreatDoorStdxr
import Derived.Lib.IndexMore
set_option linter.unusedVariables false
set_option linter.unusedSimpArgs false
set_option maxRecDepth 100000
namespace Go.Q
open Go.D
def dE:TEdge:=⟨0,0,0,0⟩
def edgeOk (e:TEdge) (n:Int):Bool:=inB e.ID 1 99&&inB e.From 0 (n-1)&&inB e.To 0 (n-1)&&inB e.Label 0 2
def edgeAt (l:List TEdge) (n:Int) (k:Nat):Bool:=match l[k]? with
 | some e=>edgeOk e n&&!(decide (0<k)&&decide (e.ID≤(l[k-1]?.getD dE).ID))
 | none=>true
def validG (g:TGraph):Bool:=(g.Values.all fun v=>inB v 0 2)&&((List.range g.Edges.length).all fun k=>edgeAt g.Edges g.Values.length k)&&(inB g.Values.length 1 5&&decide (g.Edges.length≤12))
def edgeIndex (g:TGraph) (id:Int):Int:=findI (fun e=>decide (e.ID=id)) g.Edges 0
theorem edgeIndex_get {g:TGraph} {id:Int} (h:0≤edgeIndex g id):∃ k x,g.Edges[k]?=some x∧edgeIndex g id=((k:Nat):Int):=by
 rcases findI_lt (p:=fun e:TEdge=>decide (e.ID=id)) (l:=g.Edges) (m:=0) with h1|⟨k,x,h1,_,h3⟩
 · unfold edgeIndex at h;omega
 exact⟨k,x,h1,by unfold edgeIndex;rw [h3];simp⟩
theorem range_all {p:Nat→Bool} {n k:Nat} (h:∀ j,j<k→p j=true) (hk:n≤k):(List.range n).all p=true:=by
 rw [List.all_eq_true]
 intro j hj;exact h j (by have:=List.mem_range.1 hj;omega)
theorem range_not {p:Nat→Bool} {n k:Nat} (hk:k<n) (hp:p k=false):(List.range n).all p=false:=by
 rw [List.all_eq_false]
 exact⟨k,List.mem_range.2 hk,by rw [hp];simp⟩
theorem range_succ {p:Nat→Bool} {k:Nat} (h:∀ j,j<k→p j=true) (hp:p k=true):∀ j,j<k+1→p j=true:=fun j hj=>by
 rcases Nat.lt_or_eq_of_le (Nat.le_of_lt_succ hj) with h1|rfl
 · exact h j h1
 exact hp
theorem getD_pred {α:Type} {d:α} {l:List α} {k:Nat} (h:0<k) (hk:k≤l.length):l[((k:Int)-1).toNat]?=some (l[k-1]?.getD d):=by
 have e:((k:Int)-1).toNat=k-1:=by omega
 rw [e];exact getD_at (by omega)
end Go.Q
namespace Go.Proofs.YtdhojcaoljhbiaaGreatDoor
open Go.RowKit Go.Q Go.D
theorem specl3Edge (g:TGraph) (e:TEdge):FnT Tryz.prog 59 [.agg (cGraph g),.agg (cEdge e)] (.a (.one (.v (.bool (edgeOk e g.Values.length))))):=by
 refine Bb Tryz.func59 U (by kernel_rfl) Tryz.ntmps59 U fun hlen w0=>?_
 try simp [cEdge,cGraph] at hlen
 skip
 refine Af (Ac (Bx U U U (.tm U) (ts:=_) (by rfl)) U ?_);refine Ac (Bx U U U (.tm U) (ts:=_) (by rfl)) U ?_;refine Aj ?_;refine Aa (Af (Bz Cu ?_));refine A3 Dm ?_;refine Bu (.t) Tryz.underlying34 ?_;refine Cy ?_;refine Ah ?_;refine Aa (Af (Bz Cx ?_));refine A3 ty3 ?_;refine Br (specl1In _ _ _) ?_;refine Ab ?_;refine AWl.fy fl101_1 ?_;refine AWl.ly ty3 ?_;refine Da ?_;refine Ac (Bo (FnT.fr (specl1In _ _ _)) U (by exact .yes1 U U U U) U (.cons (.tmp U (by exact id)) U (.cons (.const U) U (.cons (.tmp U (by exact id)) U .nil)))) U ?_;refine C1 ?_;refine Ab ?_;refine AWl.fy fl101_2 ?_;refine AWl.ly ty3 ?_;refine Da ?_;refine Ac (Bo (FnT.fr (specl1In _ _ _)) U (by exact .yes1 U U U U) U (.cons (.tmp U (by exact id)) U (.cons (.const U) U (.cons (.tmp U (by exact id)) U .nil)))) U ?_;refine C1 ?_;refine Ab ?_;refine AWl.fy fl101_3 ?_;refine AWl.ly ty3 ?_
 refine Ac (Bo (FnT.fr (specl1In _ _ _)) U (by exact .yes1 U U U U) U (.cons (.tmp U (by exact id)) U (.cons (.const U) U (.cons (.const U) U .nil)))) U ?_;refine C1 ?_;refine Ah ?_;refine Aa (Ap (By U U ?_))
 rfl
theorem impledgeOk (e:TEdge) (n:Int) (hn:-1000≤n) (hn':n≤9223372036854775807):FnT Tryz.prog 92 [.agg (cEdge e),.one (.v (.int .i64 n))] (.a (.one (.v (.bool (edgeOk e n))))):=by
 refine Bb Tryz.func92 U (by kernel_rfl) Tryz.ntmps92 U fun hlen w0=>?_
 try simp [cEdge,cGraph] at hlen
 refine Af (Ac (Bx U U U (.tm U) (ts:=_) (by rfl)) U ?_);refine Aj ?_;refine Aa (Af (Bz Cx ?_));refine A3 ty3 ?_;refine Br (implwithin _ _ _) ?_;refine Ab ?_;refine AWl.fy fl101_1 ?_;refine AWl.ly ty3 ?_;refine Da ?_;refine Ac (Dl U (by exact .yes1 U U U U) U (.tmp U (by exact id)) (.const U) fun _=>by omega) U ?_;refine Ac (Bo (FnT.fr (implwithin _ _ _)) U (by exact .yes1 U U U U) U (.cons (.tmp U (by exact id)) U (.cons (.const U) U (.cons (.tmp U (by exact id)) U .nil)))) U ?_;refine C1 ?_;refine Ab ?_;refine AWl.fy fl101_2 ?_;refine AWl.ly ty3 ?_;refine Da ?_;refine Ac (Dl U (by exact .yes1 U U U U) U (.tmp U (by exact id)) (.const U) fun _=>by omega) U ?_;refine Ac (Bo (FnT.fr (implwithin _ _ _)) U (by exact .yes1 U U U U) U (.cons (.tmp U (by exact id)) U (.cons (.const U) U (.cons (.tmp U (by exact id)) U .nil)))) U ?_;refine C1 ?_;refine Ab ?_;refine AWl.fy fl101_3 ?_
 refine AWl.ly ty3 ?_;refine Ac (Bo (FnT.fr (implwithin _ _ _)) U (by exact .yes1 U U U U) U (.cons (.tmp U (by exact id)) U (.cons (.const U) U (.cons (.const U) U .nil)))) U ?_;refine C1 ?_;refine Ah ?_;refine Aa (Ap (By U U ?_))
 rfl
theorem specEdgeIndex (g:TGraph) (id:Int):FnT Tryz.prog 166 [.agg (cGraph g),.one (.v (.int .i64 id))] (.a (.one (.v (.int .i64 (edgeIndex g id))))):=by
 refine Bb Tryz.func166 U (by kernel_rfl) Tryz.ntmps166 U fun hlen w0=>?_
 try simp [cEdge,cGraph] at hlen
 skip
 refine Af (Ac (Bx U U U (.tm U) (ts:=_) (by rfl)) U ?_);refine Aj ?_;refine Aa (Ae (Af (Aj ?_)));refine Aa (AW.block (C8 (β:=Nat) (fun x=>x≤(g.Edges).length∧∀ j y,j<x→(g.Edges)[j]?=some y→(fun e=>!decide (e.ID=id)) y=true) (fun x=>⟨_,[(5,(true,.a (.one (.t (.v (.int .i64 (x:Nat))))))),(1,_),(2,_)],[]⟩) (fun x=>(g.Edges).length-x) (0) ⟨Nat.zero_le _,fun j y hj=>absurd hj (Nat.not_lt_zero j)⟩ (A6 U ⟨U,U,U,Y⟩ trivial) ?_));intro k hk;refine Ae (Af (Ab ?_));refine Bz Ca ?_;refine A3 C6 ?_;refine Bu (.t) Tryz.underlying35 ?_;refine AWl.lt ?_;refine Aa (Al (.tm U) (fun hlt=>?_) (fun hlt=>?_))
 · try simp at hlt
   obtain⟨x,hx⟩:∃ ξ,(g.Edges)[k]?=some ξ:=⟨_,List.getElem?_eq_getElem (by exact hlt)⟩
   refine Am (Ae (AW.block (Af (Bz Ca ?_))));refine A3 C6 ?_;refine Ab ?_;refine Ac ((Aw U (.no U) U (.tm U) (.tm U) Tryz.underlying35 Ba (fun _=>⟨by omega,(by exact A5 (by assumption))⟩))) U ?_;refine Bz Cx ?_;refine A3 ty3 ?_;refine Ab ?_;refine AWl.eq ?_;refine Aa (Al (.tm U) (fun h20=>?_) (fun h20=>?_))
   · try simp at h20
     refine Ae (Ar (Av [1,2,5] []) ?_);refine Ad (Ab ?_);refine Ah ?_;refine Aa (Ap (By U U ?_))
     unfold edgeIndex;rw [findI_at (k:=k) hk.2 hx (by simp [h20])];simp
   try simp at h20
   refine Am (Ar (Av [1,2,5] []) ?_);refine Ad (Ab ?_);refine Bs ?_;refine Ah ?_;refine Aa ?_;refine Round.next (k+1) ⟨by omega,each_succ hk.2 hx (by simp [h20])⟩ (by omega) (A6 rfl ⟨rfl,rfl,rfl,Y⟩ trivial)
 try simp at hlt
 refine Bt (Af (Aj ?_));refine Aa (Ap (By U U ?_))
 unfold edgeIndex;rw [findI_none hk.2 (by omega)]
theorem implEdgeIndex1 (e:TEdge) (id:Int):FnT Tryz.prog 222 [.agg (cEdge e),.one (.ad [.v (.int .i64 id)])] (.a (.one (.v (.bool (decide (e.ID=id)))))):=by
 refine Bb Tryz.func222 U (by kernel_rfl) Tryz.ntmps222 U fun hlen w0=>?_
 try simp [cEdge,cGraph] at hlen
 refine Af (Ac (Bx U U U (.tm U) (ts:=_) (by rfl)) U ?_);refine Aj ?_;refine Aa (Af (Bz Cx ?_));refine A3 ty3 ?_;refine A3 ty3 ?_;refine AWl.eq ?_;refine Ah ?_;refine Aa (Ap (By U U ?_))
 rfl
theorem implEdgeIndex (g:TGraph) (id:Int):FnT Tryz.prog 172 [.agg (cGraph g),.one (.v (.int .i64 id))] (.a (.one (.v (.int .i64 (edgeIndex g id))))):=by
 refine Bb Tryz.func172 U (by kernel_rfl) Tryz.ntmps172 U fun hlen w0=>?_
 try simp [cEdge,cGraph] at hlen
 refine Af (Ac (Bx U U U (.tm U) (ts:=_) (by rfl)) U ?_);refine Ac (Bx U U U (.tm U) (ts:=_) (by exact cells_t1 _)) U ?_;refine Aj ?_;refine Aa (Af (Bz Ca ?_));refine A3 C6 ?_;refine Ac (R_makeFunc U (.no U) U (.cons (.tm U) .nil)) U ?_;refine Br (IndexFuncEdge _ _ _ _ fun e=>(implEdgeIndex1 e id).fr) ?_;refine Ah ?_;refine Aa (Ap (By U U ?_))
 rfl
theorem specIsValidGraph (g:TGraph):FnT Tryz.prog 19 [.agg (cGraph g)] (.a (.one (.v (.bool (validG g))))):=by
 refine Bb Tryz.func19 U (by kernel_rfl) Tryz.ntmps19 U fun hlen w0=>?_
 try simp [cEdge,cGraph] at hlen
 skip
 refine Af (Ac (Bx U U U (.tm U) (ts:=_) (by rfl)) U ?_);refine Aj ?_;refine Aa (Ae (Af (Aj ?_)));refine Aa (AW.block (C8 (β:=Nat) (fun x=>x≤(g.Values).length∧∀ j y,j<x→(g.Values)[j]?=some y→(fun v=>inB v 0 2) y=true) (fun x=>⟨_,[(3,(true,.a (.one (.t (.v (.int .i64 (x:Nat))))))),(1,_)],[]⟩) (fun x=>(g.Values).length-x) (0) ⟨Nat.zero_le _,fun j y hj=>absurd hj (Nat.not_lt_zero j)⟩ (A6 U ⟨U,U,Y⟩ trivial) ?_));intro k hk;refine Ae (Af (Ab ?_));refine Bz Cu ?_;refine A3 Dm ?_;refine Bu (.t) Tryz.underlying34 ?_;refine AWl.lt ?_;refine Aa (Al (.tm U) (fun hlt=>?_) (fun hlt=>?_))
 · try simp at hlt
   obtain⟨x,hx⟩:∃ ξ,(g.Values)[k]?=some ξ:=⟨_,List.getElem?_eq_getElem (by exact hlt)⟩
   refine Am (Ae (AW.block (Af (Bz Cu ?_))));refine A3 Dm ?_;refine Ab ?_;refine Ac ((Aw U (.no U) U (.tm U) (.tm U) Tryz.underlying34 ty3 (fun _=>⟨by omega,(by exact A5 (by assumption))⟩))) U ?_;refine A3 ty3 ?_;refine Br (specl1In _ _ _) ?_;refine Cg ?_;refine Aa (Al (.tm U) (fun h18=>?_) (fun h18=>?_))
   · try simp at h18
     refine Ae (Ar (Av [1,3] []) ?_);refine Ad (Aj ?_);refine Aa (Ap (By U U ?_))
     unfold validG;rw [not_all hx h18];rfl
   try simp at h18
   refine Am (Ar (Av [1,3] []) ?_);refine Ad (Ab ?_);refine Bs ?_;refine Ah ?_;refine Aa ?_;refine Round.next (k+1) ⟨by omega,each_succ hk.2 hx (h18)⟩ (by omega) (A6 rfl ⟨rfl,rfl,Y⟩ trivial)
 try simp at hlt
 refine Bt (Ae (Af (Aj ?_)));refine Aa (AW.block (C8 (β:=Nat) (fun x=>x≤g.Edges.length∧∀ j,j<x→edgeAt g.Edges g.Values.length j=true) (fun x=>⟨_,[(4,(true,.a (.one (.t (.v (.int .i64 (x:Nat))))))),(1,_)],[]⟩) (fun x=>g.Edges.length-x) (0) ⟨Nat.zero_le _,fun j hj=>absurd hj (Nat.not_lt_zero j)⟩ (A6 U ⟨U,U,Y⟩ trivial) ?_));intro k1 hk1;refine Ae (Af (Ab ?_));refine Bz Ca ?_;refine A3 C6 ?_;refine Bu (.t) Tryz.underlying35 ?_;refine AWl.lt ?_;refine Aa (Al (.tm U) (fun hlt1=>?_) (fun hlt1=>?_))
 · try simp at hlt1
   obtain⟨x1,hx1⟩:∃ x1,g.Edges[k1]?=some x1:=⟨_,List.getElem?_eq_getElem hlt1⟩
   refine Am (Ae (AW.block (Ae (Cv 28 (nthB [[],[],[1],[],[1,2,3],[1,2,3,4],[0,1,2,3,4,5],[0,1,2,3,4,5,6],[0,1,2,3,4,5,6,7],[0,1,2,3,4,5,6,7,8],[0,1,2,3,4,5,6,7,8,9],[0,1,2,3,4,5,6,7,8,9,10],[0,1,2,3,4,5,6,7,8,9,10,11],[0,1,2,3,4,5,6,7,8,9,10,11,12],[0,1,2,3,4,5,6,7,8,9,10,11],[0,1,2,3,4,5,6,7,8,9,10,11,14],[0,1,2,3,4,5,6,7,8,9,10,11,12,13,14,15],[0,1,2,3,4,5,6,7,8,9,10,11,12,13,14,15,16],[0,1,2,3,4,5,6,7,8,9,10,11,12,13,14,15,16,17],[0,1,2,3,4,5,6,7,8,9,10,11],[0,1,2,3,4,5,6,7,8,9,10,11,19],[0,1,2,3,4,5,6,7,8,9,10,11],[0,1,2,3,4,5,6,7,8,9,10,11,19,20,21],[0,1,2,3,4,5,6,7,8,9,10,11,19,20,21,22],[0,1,2,3,4,5,6,7,8,9,10,11,19,20,21,22,23],[0,1,2,3,4,5,6,7,8,9,10,11,12,13,14,15,16,17,18,19,20,21,22,23,24],[0,1,2,3,4,5,6,7,8,9,10,11,12,13,14,15,16,17,18,19,20,21,22,23,24,25],[0,1,2,3,4,5,6,7,8,9,10,11,12,13,14,15,16,17,18,19,20,21,22,23,24,25,26]]) (by kernel_rfl) (by kernel_rfl) (by kernel_rfl) ?_))))
   refine Cd A9 ?_;refine Di Ca ?_;refine Cd C6 ?_;refine Bp ?_;refine DrawC.s (fun _ hs=>(by exact Aw U (.no U) (Ag hs U) (hs.tm U) (hs.tm U) Tryz.underlying35 Ba (fun _=>⟨by omega,(by exact A5 (by assumption))⟩))) ?_;refine Cd Ba ?_;refine DrawC.s (fun _ hs=>Bo (FnT.fr (specl3Edge _ _)) U (.no U) (Ag hs U) (.cons (hs.tm U) (readA_sup hs U) (.cons (hs.tm U) (readA_sup hs U) .nil))) ?_;refine DrawC.s (fun _ hs=>Dq U (.no U) (Ag hs U) (hs.tm U)) ?_;refine Bp ?_;refine DrawC.s (fun _ hs=>Bh U (by exact hs.n1) (Ag hs U) (hs.tm U)) ?_;refine DrawC.s (fun _ hs=>R_gt U (by exact hs.n1) (Ag hs U) (hs.ti U) (.const U)) ?_;refine DrawC.s (fun _ hs=>Bh U (by exact hs.n1) (Ag hs U) (hs.ti U)) ?_;refine DrawC.s (fun _ hs=>(by exact Bc U (by exact .yes U U (hs.slots _ _ U) (by rw [hs.n];rfl)) (Ag hs U) (hs.tm U) Ca)) ?_
   refine DrawC.s (fun _ hs=>(by exact Bl U (by exact .yes U U (hs.slots _ _ U) (by rw [hs.n];rfl)) (Ag hs U) (hs.ti U) C6 U U)) ?_;refine DrawC.s (fun _ hs=>Bh U (by exact .yes U U (hs.slots _ _ U) (by rw [hs.n];rfl)) (Ag hs U) (hs.tm U)) ?_;refine DrawC.s (fun _ hs=>Dl U (by exact .yes U U (hs.slots _ _ U) (by rw [hs.n];rfl)) (Ag hs U) (hs.ti U) (.const U) (fun hq=>by first|omega|(simp at hq;omega))) ?_;refine DrawC.s (fun _ hs=>(by exact Aw U (by exact .yes U U (hs.slots _ _ U) (by rw [hs.n];rfl)) (Ag hs U) (hs.ti U) (hs.ti U) Tryz.underlying35 Ba (fun hq=>by simp at hq;exact⟨by omega,A5 (getD_pred (l:=g.Edges) (d:=dE) (by omega) (by omega))⟩))) ?_;refine DrawC.s (fun _ hs=>(by exact Bc U (by exact .yes U U (hs.slots _ _ U) (by rw [hs.n];rfl)) (Ag hs U) (hs.ti U) Cx)) ?_
   refine DrawC.s (fun _ hs=>(by exact Bl U (by exact .yes U U (hs.slots _ _ U) (by rw [hs.n];rfl)) (Ag hs U) (hs.ti U) ty3 U U)) ?_;refine DrawC.s (fun _ hs=>(by exact Bc U (by exact .yes U U (hs.slots _ _ U) (by rw [hs.n];rfl)) (Ag hs U) (hs.tm U) Ca)) ?_;refine DrawC.s (fun _ hs=>(by exact Bl U (by exact .yes U U (hs.slots _ _ U) (by rw [hs.n];rfl)) (Ag hs U) (hs.ti U) C6 U U)) ?_;refine DrawC.s (fun _ hs=>Bh U (by exact .yes U U (hs.slots _ _ U) (by rw [hs.n];rfl)) (Ag hs U) (hs.tm U)) ?_;refine DrawC.s (fun _ hs=>(by exact Aw U (by exact .yes U U (hs.slots _ _ U) (by rw [hs.n];rfl)) (Ag hs U) (hs.ti U) (hs.ti U) Tryz.underlying35 Ba (fun hq=>by (try simp at hq);exact⟨by omega,(by exact A5 (by assumption))⟩))) ?_;refine DrawC.s (fun _ hs=>(by exact Bc U (by exact .yes U U (hs.slots _ _ U) (by rw [hs.n];rfl)) (Ag hs U) (hs.ti U) Cx)) ?_
   refine DrawC.s (fun _ hs=>(by exact Bl U (by exact .yes U U (hs.slots _ _ U) (by rw [hs.n];rfl)) (Ag hs U) (hs.ti U) ty3 U U)) ?_;refine DrawC.s (fun _ hs=>R_ge U (by exact .yes U U (hs.slots _ _ U) (by rw [hs.n];rfl)) (Ag hs U) (hs.ti U) (hs.ti U)) ?_;refine DrawC.s (fun _ hs=>R_and U (by exact hs.n1) (Ag hs U) (hs.ti U) (hs.ti U)) ?_;refine DrawC.s (fun _ hs=>R_or U (.no U) (Ag hs U) (hs.tm U) (hs.ti U)) ?_;refine Cm U U ?_;refine Aa (Al (.tm U) (fun h53=>?_) (fun h53=>?_))
   · try simp at h53
     refine Ae (Ar (Av [1,4] []) ?_);refine Ad (Aj ?_);refine Aa (Ap (By U U ?_))
     unfold validG;rw [range_not hlt1 (by simp only [edgeAt,hx1];grind)];simp
   try simp at h53
   refine Am (Ar (Av [1,4] []) ?_);refine Ad (Ab ?_);refine Bs ?_;refine Ah ?_;refine Aa ?_;refine Round.next (k1+1) ⟨by omega,range_succ hk1.2 (by simp only [edgeAt,hx1];grind)⟩ (by omega) (A6 rfl ⟨rfl,rfl,Y⟩ trivial)
 try simp at hlt1
 refine Bt (Af (Bz Cu ?_));refine A3 Dm ?_;refine Bu (.t) Tryz.underlying34 ?_;refine Br (specl1In _ _ _) ?_;refine Ab ?_;refine AWl.fy Ca ?_;refine AWl.ly C6 ?_;refine Ac (Cn U (by exact .yes1 U U U U) U (.tmp U (by exact id)) (by exact .t) Tryz.underlying35) U ?_;refine Ac (R_le U (by exact .yes1 U U U U) U (.tmp U (by exact id)) (.const U)) U ?_;refine C1 ?_;refine Ah ?_;refine Aa (Ap (By U U ?_))
 unfold validG;rw [each_all hk.2 (by omega),range_all hk1.2 (by omega)];simp;grind
theorem implIsValidGraph (g:TGraph):FnT Tryz.prog 49 [.agg (cGraph g)] (.a (.one (.v (.bool (validG g))))):=by
 refine Bb Tryz.func49 U (by kernel_rfl) Tryz.ntmps49 U fun hlen w0=>?_
 try simp [cEdge,cGraph] at hlen
 skip
 refine Af (Ac (Bx U U U (.tm U) (ts:=_) (by rfl)) U ?_);refine Aj ?_;refine Aa (Af (Bz Cu ?_));refine A3 Dm ?_;refine Bu (.t) Tryz.underlying34 ?_;refine Ah ?_;refine Aa (Ae (Af (Bz Cu ?_)));refine A3 Dm ?_;refine Bu (.t) Tryz.underlying34 ?_;refine Ac (Bh U (.no U) U (.const U)) U ?_;refine Aa (AW.block (C8 (β:=Nat) (fun x=>x≤(g.Values).length∧∀ j y,j<x→(g.Values)[j]?=some y→(fun v=>inB v 0 2) y=true) (fun x=>⟨_,[(14,(true,.a (.one (.t (.v (.int .i64 (x:Nat))))))),(1,_),(3,_),(12,_),(13,_)],[]⟩) (fun x=>(g.Values).length-x) (0) ⟨Nat.zero_le _,fun j y hj=>absurd hj (Nat.not_lt_zero j)⟩ (A6 U ⟨U,U,U,U,U,Y⟩ trivial) ?_));intro k hk;refine Af (AWl.lt ?_);refine Aa (Ae (Al (.tm U) (fun hlt=>?_) (fun hlt=>?_)))
 · try simp at hlt
   obtain⟨x,hx⟩:∃ ξ,(g.Values)[k]?=some ξ:=⟨_,List.getElem?_eq_getElem (by exact hlt)⟩
   refine Am (Ae (AW.block (Af (Ac ((Aw U (.no U) U (.tm U) (.tm U) Tryz.underlying34 ty3 (fun _=>⟨by omega,(by exact A5 (by assumption))⟩))) U ?_))));refine A3 ty3 ?_;refine Ah ?_;refine Aa (Af (Ab ?_));refine Br (implwithin _ _ _) ?_;refine Cg ?_;refine Aa (Al (.tm U) (fun h20=>?_) (fun h20=>?_))
   · try simp at h20
     refine Ae (Ar (Av [1,3,5,12,13,14] []) ?_);refine Ad (Aj ?_);refine Aa (Ap (By U U ?_))
     unfold validG;rw [not_all hx h20];rfl
   try simp at h20
   refine Am (Ar (Av [1,3,5,12,13,14] []) ?_);refine Ad (Bs ?_);refine Ab ?_;refine Aa ?_;refine Round.next (k+1) ⟨by omega,each_succ hk.2 hx (h20)⟩ (by omega) (A6 rfl ⟨rfl,rfl,rfl,rfl,rfl,Y⟩ trivial)
 try simp at hlt
 refine Bt (Ae (Af (Bz Ca ?_)));refine A3 C6 ?_;refine Bu (.t) Tryz.underlying35 ?_;refine Ac (Bh U (.no U) U (.const U)) U ?_;refine Aa (AW.block (C8 (β:=Nat) (fun x=>x≤g.Edges.length∧∀ j,j<x→edgeAt g.Edges g.Values.length j=true) (fun x=>⟨_,[(25,(true,.a (.one (.t (.v (.int .i64 (x:Nat))))))),(1,_),(3,_),(23,_),(24,_)],[]⟩) (fun x=>g.Edges.length-x) (0) ⟨Nat.zero_le _,fun j hj=>absurd hj (Nat.not_lt_zero j)⟩ (A6 U ⟨U,U,U,U,U,Y⟩ trivial) ?_));intro k1 hk1;refine Af (AWl.lt ?_);refine Aa (Ae (Al (.tm U) (fun hlt1=>?_) (fun hlt1=>?_)))
 · try simp at hlt1
   obtain⟨x1,hx1⟩:∃ x1,g.Edges[k1]?=some x1:=⟨_,List.getElem?_eq_getElem hlt1⟩
   refine Am (Ae (AW.block (Af (Ab ?_))));refine Ac ((Aw U (.no U) U (.tm U) (.tm U) Tryz.underlying35 Ba (fun _=>⟨by omega,(by exact A5 (by assumption))⟩))) U ?_;refine A3 Ba ?_;refine Au (Az 7 U U U C0 U U U) U ?_;refine Ah ?_;refine An Ba ?_;refine Aa (Ae (Cv 20 (nthB [[],[],[0,1],[0,1,2],[0,1,2,3],[0,1,2,3,4],[0,1,2,3,4,5],[0,1,2,3,4,5,6],[0,1,2,3,4,5,6,7],[0,1,2,3,4,5,6,7,8],[0,1,2,3,4,5,6,7],[0,1,2,3,4,5,6,7,10],[0,1,2,3,4,5,6,7,8,9,10,11],[0,1,2,3,4,5,6,7,8,9,10,11,12],[0,1,2,3,4,5,6,7,8,9,10,11,12,13],[0,1,2,3,4,5,6,7],[0,1,2,3,4,5,6,7,15],[0,1,2,3,4,5,6,7,8,9,10,11,12,13,14,15,16],[0,1,2,3,4,5,6,7,8,9,10,11,12,13,14,15,16,17],[0,1,2,3,4,5,6,7,8,9,10,11,12,13,14,15,16,17,18]]) (by kernel_rfl) (by kernel_rfl) (by kernel_rfl) ?_));refine DrawC.s (fun _ hs=>(by exact Bm U (.no U) (Ag hs U) (hs.tm U) (hs.res _ _ U) Ba U U)) ?_;refine Bp ?_
   refine DrawC.s (fun _ hs=>Bo (FnT.fr (impledgeOk _ _ (by omega) (by omega))) U (.no U) (Ag hs U) (.cons (hs.tm U) (readA_sup hs U) (.cons (hs.tm U) (readA_sup hs U) .nil))) ?_;refine DrawC.s (fun _ hs=>Dq U (.no U) (Ag hs U) (hs.tm U)) ?_;refine Bp ?_;refine DrawC.s (fun _ hs=>Bh U (by exact hs.n1) (Ag hs U) (hs.tm U)) ?_;refine DrawC.s (fun _ hs=>R_gt U (by exact hs.n1) (Ag hs U) (hs.ti U) (.const U)) ?_;refine DrawC.s (fun _ hs=>Bh U (by exact hs.n1) (Ag hs U) (hs.ti U)) ?_;refine DrawC.s (fun _ hs=>(by exact Bc U (by exact .yes U U (hs.slots _ _ U) (by rw [hs.n];rfl)) (Ag hs U) (hs.tm U) Ca)) ?_;refine DrawC.s (fun _ hs=>(by exact Bl U (by exact .yes U U (hs.slots _ _ U) (by rw [hs.n];rfl)) (Ag hs U) (hs.ti U) C6 U U)) ?_;refine DrawC.s (fun _ hs=>Bh U (by exact .yes U U (hs.slots _ _ U) (by rw [hs.n];rfl)) (Ag hs U) (hs.tm U)) ?_
   refine DrawC.s (fun _ hs=>Dl U (by exact .yes U U (hs.slots _ _ U) (by rw [hs.n];rfl)) (Ag hs U) (hs.ti U) (.const U) (fun hq=>by first|omega|(simp at hq;omega))) ?_;refine DrawC.s (fun _ hs=>(by exact Aw U (by exact .yes U U (hs.slots _ _ U) (by rw [hs.n];rfl)) (Ag hs U) (hs.ti U) (hs.ti U) Tryz.underlying35 Ba (fun hq=>by simp at hq;exact⟨by omega,A5 (getD_pred (l:=g.Edges) (d:=dE) (by omega) (by omega))⟩))) ?_;refine DrawC.s (fun _ hs=>(by exact Bc U (by exact .yes U U (hs.slots _ _ U) (by rw [hs.n];rfl)) (Ag hs U) (hs.ti U) Cx)) ?_;refine DrawC.s (fun _ hs=>(by exact Bl U (by exact .yes U U (hs.slots _ _ U) (by rw [hs.n];rfl)) (Ag hs U) (hs.ti U) ty3 U U)) ?_;refine DrawC.s (fun _ hs=>(by exact Bk U (by exact .yes U U (hs.slots _ _ U) (by rw [hs.n];rfl)) (Ag hs U) (hs.tm U) Cx)) ?_
   refine DrawC.s (fun _ hs=>(by exact Bm U (by exact .yes U U (hs.slots _ _ U) (by rw [hs.n];rfl)) (Ag hs U) (hs.ti U) (hs.res _ _ U) ty3 U U)) ?_;refine DrawC.s (fun _ hs=>R_ge U (by exact .yes U U (hs.slots _ _ U) (by rw [hs.n];rfl)) (Ag hs U) (hs.ti U) (hs.ti U)) ?_;refine DrawC.s (fun _ hs=>R_and U (by exact hs.n1) (Ag hs U) (hs.ti U) (hs.ti U)) ?_;refine DrawC.s (fun _ hs=>R_or U (.no U) (Ag hs U) (hs.tm U) (hs.ti U)) ?_;refine Cm U U ?_;refine Aa (Al (.tm U) (fun h49=>?_) (fun h49=>?_))
   · try simp at h49
     refine Ae (Ar (Av [1,3,6,7,23,24,25] [7]) ?_);refine Ad (Aj ?_);refine Aa (Ap (By U U ?_))
     unfold validG;rw [range_not hlt1 (by simp only [edgeAt,hx1];grind)];simp
   try simp at h49
   refine Am (Ar (Av [1,3,6,7,23,24,25] [7]) ?_);refine Ad (Bs ?_);refine Ab ?_;refine Aa ?_;refine Round.next (k1+1) ⟨by omega,range_succ hk1.2 (by simp only [edgeAt,hx1];grind)⟩ (by omega) (A6 rfl ⟨rfl,rfl,rfl,rfl,rfl,Y⟩ trivial)
 try simp at hlt1
 refine Bt (Af (Ab ?_));refine Br (implwithin _ _ _) ?_;refine Ab ?_;refine AWl.fy Ca ?_;refine AWl.ly C6 ?_;refine Ac (Cn U (by exact .yes1 U U U U) U (.tmp U (by exact id)) (by exact .t) Tryz.underlying35) U ?_;refine Ac (R_le U (by exact .yes1 U U U U) U (.tmp U (by exact id)) (.const U)) U ?_;refine C1 ?_;refine Ah ?_;refine Aa (Ap (By U U ?_))
 unfold validG;rw [each_all hk.2 (by omega),range_all hk1.2 (by omega)];simp;grind
end Go.Proofs.YtdhojcaoljhbiaaGreatDoor
set_option maxHeartbeats 1000000
set_option maxRecDepth 100000
namespace Go.Q
open Go.RowKit Go.D
theorem arity_nk {t:TToken} (h:tokOk t=true):arity t=nk t.Kind:=by
 unfold tokOk at h
 unfold arity at h ⊢
 unfold nk
 have h:=of_decide_eq_true h
 repeat' split
 all_goals first|rfl|omega|skip
 all_goals simp_all
theorem nk_cases (k:Int):nk k=0∨nk k=1∨nk k=2:=by
 unfold nk
 split
 · exact .inr (.inr rfl)
 split
 · exact .inr (.inl rfl)
 exact .inl rfl
theorem stepTr_some {ts:List Tr} {t:TToken} (h:tokOk t=true) (hn:nk t.Kind≤ts.length):∃ ts',stepTr ts t=some ts'∧ts'.length=ts.length-nk t.Kind+1:=by
 unfold stepTr
 rw [if_neg (by simp [h];omega)]
 have hl:(ts.drop (ts.length-nk t.Kind)).length=nk t.Kind:=by rw [List.length_drop];omega
 generalize ts.drop (ts.length-nk t.Kind)=r at hl
 have h3:=nk_cases t.Kind
 generalize nk t.Kind=n at *
 match n,r,hl with
 | 0,_,_=>exact⟨_,rfl,by simp⟩
 | 1,[x],_=>exact⟨_,rfl,by simp⟩
 | 2,[x,y],_=>exact⟨_,rfl,by simp⟩
 | n+3,_,_=>omega
theorem depth_run (l:List TToken):∀ ts:List Tr,depthGo ts.length l=match runTr ts l with|some [_]=>true|_=>false:=by
 induction l with
 | nil=>
  intro ts
  match ts with
  | []=>rfl
  | [_]=>rfl
  | _::_::_=>simp [depthGo,runTr];omega
 | cons t r ih=>
  intro ts
  rw [depthGo,runTr]
  by_cases h:tokOk t=true
  · have ha:=arity_nk h
    by_cases hn:nk t.Kind≤ts.length
    · obtain⟨ts',h1,h2⟩:=stepTr_some h hn
      rw [if_neg (by omega),h1]
      have e:(ts.length:Int)-arity t+1=ts'.length:=by omega
      rw [e]
      exact ih ts'
    have:stepTr ts t=none:=by unfold stepTr;rw [if_pos (.inr (by omega))]
    rw [if_pos (.inr (by omega)),this]
  have:stepTr ts t=none:=by unfold stepTr;rw [if_pos (.inl (by simpa using h))]
  have ha:arity t<0:=by simpa [tokOk] using h
  rw [if_pos (.inl ha),this]
theorem isExpr_tree (l:List TToken):isExpr l=(treeM l).isSome:=by
 have h:=depth_run l []
 unfold isExpr treeM
 have e:depthGo 0 l=depthGo ([]:List Tr).length l:=rfl
 rw [e,h]
 cases runTr [] l with
 | none=>rfl
 | some v=>match v with
  | []=>rfl
  | [_]=>rfl
  | _::_::_=>rfl
def good:Tr→Prop
 | .leaf t=>arity t=0
 | .un t x=>arity t=1∧good x
 | .bin t x y=>arity t=2∧good x∧good y
inductive NilB:T→Bool→Prop where
 | ad {cs:List T}:NilB (.ad cs) false
 | nil:NilB (.v (.pointer none)) true
theorem NilB.tree (l:List TToken):NilB (treeV l) (!isExpr l):=by
 rw [isExpr_tree]
 unfold treeV
 cases treeM l with
 | none=>exact .nil
 | some x=>exact .ad
section
variable {P:Program} {ops:Array Oper} {o:Oper} {σ:St} {q:Bool}
theorem NilB.val {I:Ip} {w:World} {x:T} {b:Bool} (h:NilB x b) {v:Value} (hv:VE I w (.t x) v):∃ p,v=.pointer p∧p.isNone=b:=by
 obtain⟨G,h1,_⟩:=hv
 cases h with
 | ad=>simp only [C] at h1;obtain⟨b,off,G',rfl,_⟩:=h1;exact⟨_,rfl,rfl⟩
 | nil=>simp only [C] at h1;exact⟨_,h1.1,rfl⟩
end
end Go.Q
namespace Go.Proofs.YtdhojcaoljhbiaaGreatDoor
open Go.RowKit Go.Q Go.D
end Go.Proofs.YtdhojcaoljhbiaaGreatDoor
namespace Go.Q
open Go.D
def reads (e:TEdge) (b:Bool):Int:=if b then 2*e.Label+1 else 2*e.Label
end Go.Q
namespace Go.Proofs.YtdhojcaoljhbiaaGreatDoor
open Go.RowKit Go.Q Go.D
end Go.Proofs.YtdhojcaoljhbiaaGreatDoor
set_option maxHeartbeats 1000000
set_option maxRecDepth 100000
namespace Go.Q
open Go.D
def bitsN (m:Nat):List Nat:=(List.range 64).filter m.testBit
def nextOf (a:TAutomaton) (s k:Int):Int:=(a.Next[s.toNat]?.getD [])[k.toNat]?.getD (-1)
def clos (a:TAutomaton) (v:Int):Nat→Int→Nat→Nat
 | 0,_,m=>m
 | f+1,s,m=>if s<0||m.testBit s.toNat then m else clos a v f (nextOf a s (6+v)) (m|||2^s.toNat)
def closure (a:TAutomaton) (s v:Int):Nat:=clos a v (a.Accept.length+1) s 0
def accAt (a:TAutomaton) (t:Nat):Bool:=a.Accept[t]?.getD false
def acc (a:TAutomaton) (s v:Int):Bool:=(bitsN (closure a s v)).any (accAt a)
end Go.Q
namespace Go.Proofs.YtdhojcaoljhbiaaGreatDoor
open Go.RowKit Go.Q Go.D
end Go.Proofs.YtdhojcaoljhbiaaGreatDoor
set_option maxHeartbeats 1000000
set_option maxRecDepth 100000
namespace Go.Q
open Go.D
section
variable {α:Type} {lt:α→α→Bool}
end
section
variable {α:Type} [DecidableEq α] {lt:α→α→Bool}
end
instance:Inhabited TPair:=⟨⟨0,0⟩⟩
end Go.Q
namespace Go.Q
open Go.D
end Go.Q
namespace Go.Proofs.YtdhojcaoljhbiaaGreatDoor
open Go.RowKit Go.Q Go.D
end Go.Proofs.YtdhojcaoljhbiaaGreatDoor
set_option maxHeartbeats 1000000
set_option maxRecDepth 100000
namespace Go.Q
open Go.D
end Go.Q
namespace Go.Proofs.YtdhojcaoljhbiaaGreatDoor
open Go.RowKit Go.Q Go.D
end Go.Proofs.YtdhojcaoljhbiaaGreatDoor
set_option maxHeartbeats 1000000
set_option maxRecDepth 100000
namespace Go.Q
open Go.D
end Go.Q
namespace Go.D
open Go.Q
end Go.D
set_option maxHeartbeats 1000000
set_option maxRecDepth 100000
namespace Go.Q
open Go.D
end Go.Q
namespace Go.Proofs.YtdhojcaoljhbiaaGreatDoor
open Go.RowKit Go.Q Go.D
end Go.Proofs.YtdhojcaoljhbiaaGreatDoor
set_option maxHeartbeats 1000000
set_option maxRecDepth 100000
namespace Go.Q
open Go.D
end Go.Q
namespace Go.Proofs.YtdhojcaoljhbiaaGreatDoor
open Go.RowKit Go.Q Go.D
end Go.Proofs.YtdhojcaoljhbiaaGreatDoor
set_option maxHeartbeats 1000000
set_option maxRecDepth 100000
namespace Go.Q
open Go.D
def letNames:List (List UInt8):=[[97],[97,45],[98],[98,45],[99],[99,45],[48],[49],[50]]
def letS (k:Int):List UInt8:=letNames[k.toNat]?.getD []
theorem letS_len (k:Int):(letS k).length≤2:=by
 unfold letS
 by_cases h:k.toNat<9
 · have h9:k.toNat=0∨k.toNat=1∨k.toNat=2∨k.toNat=3∨k.toNat=4∨k.toNat=5∨k.toNat=6∨k.toNat=7∨k.toNat=8:=by omega
   rcases h9 with e|e|e|e|e|e|e|e|e<;>rw [e]<;>decide
 rw [List.getElem?_eq_none (by simp [letNames];omega)];simp
theorem letS_get {k:Int} (h0:0≤k) (h8:k≤8):(letNames.map cStr)[k.toNat]?=some (cStr (letS k)):=by
 have hk:k.toNat<letNames.length:=by simp [letNames];omega
 rw [List.getElem?_map,List.getElem?_eq_getElem hk]
 unfold letS
 rw [List.getElem?_eq_getElem hk];rfl
end Go.Q
set_option maxHeartbeats 1000000
set_option maxRecDepth 100000
namespace Go.Q
open Go.D
end Go.Q
namespace Go.Proofs.YtdhojcaoljhbiaaGreatDoor
open Go.RowKit Go.Q Go.D
end Go.Proofs.YtdhojcaoljhbiaaGreatDoor
set_option maxHeartbeats 1000000
set_option maxRecDepth 100000
namespace Go.Q
open Go.D
end Go.Q
namespace Go.Proofs.YtdhojcaoljhbiaaGreatDoor
open Go.RowKit Go.Q Go.D
end Go.Proofs.YtdhojcaoljhbiaaGreatDoor
set_option maxHeartbeats 1000000
set_option maxRecDepth 100000
namespace Go.Q
open Go.D
end Go.Q
namespace Go.Proofs.YtdhojcaoljhbiaaGreatDoor
open Go.RowKit Go.Q Go.D
end Go.Proofs.YtdhojcaoljhbiaaGreatDoor
set_option maxHeartbeats 1000000
set_option maxRecDepth 100000
namespace Go.Q
open Go.D
end Go.Q
namespace Go.Proofs.YtdhojcaoljhbiaaGreatDoor
open Go.RowKit Go.Q Go.D
end Go.Proofs.YtdhojcaoljhbiaaGreatDoor
set_option maxHeartbeats 1000000
set_option maxRecDepth 100000
namespace Go.Q
open Go.D
def fmtEdge (e:TEdge):List UInt8:=if edgeOk e 5=true then numS e.ID++[58]++numS e.From++letS (2*e.Label)++numS e.To else []
theorem edge_r {e:TEdge} (h:edgeOk e 5=true):(1≤e.ID∧e.ID≤99)∧(0≤e.From∧e.From≤4)∧(0≤e.To∧e.To≤4)∧0≤e.Label∧e.Label≤2:=by
 unfold edgeOk at h
 simp only [inB,Bool.and_eq_true,decide_eq_true_eq] at h
 omega
theorem lab_abc {k:Int} (h0:0≤k) (h2:k≤2):(ByteArray.mk #[97,98,99]).extract k.toNat (k.toNat+1)=bs (letS (2*k)):=by
 have h3:k=0∨k=1∨k=2:=by omega
 rcases h3 with rfl|rfl|rfl<;>rfl
theorem fmtEdge_len {e:TEdge}:(fmtEdge e).length≤8:=by
 unfold fmtEdge
 split
 · rename_i h
   have hr:=edge_r h
   have h1:=numS_len (n:=e.ID) (by omega)
   have h2:=numS_len (n:=e.From) (by omega)
   have h3:=numS_len (n:=e.To) (by omega)
   have h4:=letS_len (2*e.Label)
   simp only [List.length_append,List.length_singleton]
   have h5:(numS e.From).length≤1:=by unfold numS;rw [dig_small (by omega)];simp
   have h6:(numS e.To).length≤1:=by unfold numS;rw [dig_small (by omega)];simp
   omega
 simp
theorem fmtEdge_nil {e:TEdge}:fmtEdge e=[]↔edgeOk e 5=false:=by
 unfold fmtEdge
 by_cases h:edgeOk e 5=true
 · rw [if_pos h,h]
   simp
 rw [if_neg h]
 simpa using h
def fmtCh (c:TChange):List UInt8:=(if c.Insert=true then [43] else [45])++fmtEdge c.Edge
theorem fmtCh_len {c:TChange}:(fmtCh c).length≤9:=by
 have:=fmtEdge_len (e:=c.Edge)
 unfold fmtCh
 rw [List.length_append]
 split<;>simp<;>omega
def batchOk (b:TBatch):Bool:=decide (b.Changes.length≤6)&&b.Changes.all fun c=>edgeOk c.Edge 5
def fmtBatch (b:TBatch):List UInt8:=if batchOk b=true then joinL [32] (b.Changes.map fmtCh) else []
theorem fmtBatch_len (b:TBatch):(fmtBatch b).length≤100:=by
 unfold fmtBatch
 split
 · rename_i h
   unfold batchOk at h
   simp only [Bool.and_eq_true,decide_eq_true_eq] at h
   have:=joinL_len (sep:=[32]) (b:=9) (f:=fmtCh) (l:=b.Changes) fun c _=>fmtCh_len
   simp at this;omega
 simp
theorem batch_long {b:TBatch} (h:6<b.Changes.length):fmtBatch b=[]:=by
 unfold fmtBatch batchOk
 rw [if_neg (by simp;omega)]
theorem batch_bad {b:TBatch} {k:Nat} {c:TChange} (hc:b.Changes[k]?=some c) (h:fmtEdge c.Edge=[]):fmtBatch b=[]:=by
 have h1:=fmtEdge_nil.1 h
 unfold fmtBatch batchOk
 rw [if_neg ?_]
 simp only [Bool.and_eq_true,List.all_eq_true,not_and]
 intro _ hh
 have:=hh c (List.mem_of_getElem? hc)
 rw [h1] at this;cases this
theorem batch_all {b:TBatch} {k:Nat} (h6:b.Changes.length≤6) (hk:b.Changes.length≤k) (h:∀ j c,j<k→b.Changes[j]?=some c→fmtEdge c.Edge≠[]):fmtBatch b=joinL [32] (b.Changes.map fmtCh):=by
 unfold fmtBatch batchOk
 rw [if_pos ?_]
 simp only [Bool.and_eq_true,decide_eq_true_eq,List.all_eq_true]
 refine⟨h6,fun c hc=>?_⟩
 obtain⟨j,hj⟩:=List.getElem?_of_mem hc
 have hl:=(List.getElem?_eq_some_iff.1 hj).1
 have:=h j c (by omega) hj
 rw [Ne,fmtEdge_nil] at this
 simpa using this
theorem batch_more {b:TBatch} {k:Nat} {x:TChange} (h:∀ j c,j<k→b.Changes[j]?=some c→fmtEdge c.Edge≠[]) (hx:b.Changes[k]?=some x) (hne:fmtEdge x.Edge≠[]):∀ j c,j<k+1→b.Changes[j]?=some c→fmtEdge c.Edge≠[]:=fun j c hj hc=>by
 by_cases e:j=k
 · subst e;rw [hx] at hc;cases hc;exact hne
 exact h j c (by omega) hc
theorem fmtCh_p {x:TChange} (h:x.Insert=true):fmtCh x=[43]++fmtEdge x.Edge:=by unfold fmtCh;rw [if_pos h]
theorem fmtCh_m {x:TChange} (h:x.Insert=false):fmtCh x=[45]++fmtEdge x.Edge:=by unfold fmtCh;rw [if_neg (by rw [h];decide)]
theorem batch_txt {b:TBatch} {k:Nat} {x:TChange} {O:ByteArray} {s:List UInt8} (hx:b.Changes[k]?=some x) (he:O=bs (joinL [32] ((b.Changes.take k).map fmtCh))) (hk:k≠0) (hs:fmtCh x=s++fmtEdge x.Edge) :
 ((O++bs [32])++bs s)++bs (fmtEdge x.Edge)=bs (joinL [32] ((b.Changes.take (k+1)).map fmtCh)):=by
 rw [joinL_at _ hx,if_neg hk,he,hs]
 simp [bs_append,List.append_assoc]
theorem batch_txt0 {b:TBatch} {k:Nat} {x:TChange} {O:ByteArray} {s:List UInt8} (hx:b.Changes[k]?=some x) (he:O=bs (joinL [32] ((b.Changes.take k).map fmtCh))) (hk:k=0) (hs:fmtCh x=s++fmtEdge x.Edge) :
 (O++bs s)++bs (fmtEdge x.Edge)=bs (joinL [32] ((b.Changes.take (k+1)).map fmtCh)):=by
 rw [joinL_at _ hx,if_pos hk,he,hs,hk]
 simp [bs_append,joinL_nil]
def recHead (v:Int) (b:TBatch):List UInt8:=itoS v++[59]++fmtBatch b++[59]
def recOk (v:Int) (b:TBatch):Bool:=inB v 1 999&&!(decide (0<b.Changes.length)&&decide (fmtBatch b=[]))
theorem rec_iff {v:Int} {b:TBatch}:recOk v b=true↔inB v 1 999=true∧(bs (fmtBatch b)=bs []→b.Changes=[]):=by
 unfold recOk
 rw [Bool.and_eq_true]
 refine and_congr_right fun _=>?_
 constructor
 · intro h e
   have e:=bs_inj e
   simp only [e,decide_true,Bool.and_true,Bool.not_eq_true',decide_eq_false_iff_not] at h
   exact List.eq_nil_of_length_eq_zero (by omega)
 intro h
 by_cases e:fmtBatch b=[]
 · have:=h (by rw [e])
   simp [this]
 simp [e]
theorem rec_no {v:Int} {b:TBatch} (h:inB v 1 999=false∨bs (fmtBatch b)=bs []∧0<b.Changes.length):¬ recOk v b=true:=fun hh=>by
 obtain⟨h1,h2⟩:=rec_iff.1 hh
 rcases h with h|⟨h3,h4⟩
 · rw [h1] at h;cases h
 rw [h2 h3] at h4;simp at h4
def encRec (v:Int) (b:TBatch):List UInt8:=if recOk v b=true then recHead v b++itoS (chkS (recHead v b))++[10] else []
theorem itoS_len {n:Int} (h0:0≤n) (h:n<1000000000):(itoS n).length≤9:=by
 unfold itoS Lib.itoa
 rw [if_neg (by omega)]
 exact (dig_le 9 n.toNat (by decide)).1 (by omega)
end Go.Q
set_option maxHeartbeats 1000000
set_option maxRecDepth 100000
namespace Go.Proofs.YtdhojcaoljhbiaaGreatDoor
open Go.RowKit Go.Q Go.D
theorem implFormatInt (n:Int) (h0:0≤n) (h1:n<100):FnT Tryz.prog 60 [.one (.v (.int .i64 n))] (.a (.one (.v (.string (bs (numS n)))))):=by
 refine Bb Tryz.func60 U (by kernel_rfl) Tryz.ntmps60 U fun hlen w0=>?_
 try simp [cEdge,cGraph] at hlen
 refine Af (Aj ?_);refine Aa (Af (Ab ?_));refine Br (strconvItoa n h0 h1) ?_;refine Ah ?_;refine Aa (Ap (By U U ?_))
 rfl
theorem specFormatInt (n:Int) (h0:0≤n) (h1:n<100):FnT Tryz.prog 121 [.one (.v (.int .i64 n))] (.a (.one (.v (.string (bs (numS n)))))):=by
 obtain⟨n0,rfl⟩:=Int.eq_ofNat_of_zero_le h0
 refine Bb Tryz.func121 U (by kernel_rfl) Tryz.ntmps121 U fun hlen w0=>?_
 try simp [cEdge,cGraph] at hlen
 have hn0:n0<100:=by omega
 refine Af (Aj ?_);refine Aa (Ae (Af (Ab ?_)));refine Ck ?_;refine Aa (Al (.tm U) (fun h7=>?_) (fun h7=>?_))
 · try simp at h7
   refine Af (Aj ?_);refine Aa (Ap (By U U ?_))
   (have e:n0=0:=(by omega);subst e;unfold numS;rw [dig_small (by simp)];rfl)
 try simp at h7
 refine Am (Af (Aj ?_));refine Aa (Af (Ab ?_));refine AWl.lc ?_;refine Ah ?_;refine Aa (Ae (AW.block (Dn (fun (m:Nat) (O:ByteArray)=>(m<100∧O.size+2*m≤1000)∧bs (restD n0)=bs (restD m)++O) (fun (m:Nat) (O:ByteArray)=>⟨_,[(0,(true,.a (.one (.t (.v (.int .i64 (m:Nat))))))),(3,(true,.a (.one (.t (.v (.string O)))))),(2,_),(4,_)],[]⟩) (fun (m:Nat) (O:ByteArray)=>m) (n0) (⟨#[]⟩) ⟨⟨by omega,by simp [ByteArray.size];omega⟩,(by rw [show (⟨#[]⟩:ByteArray)=bs [] from U,bs_append,List.append_nil])⟩ (A6 U ⟨U,U,U,U,Y⟩ trivial) ?_)))
 rintro m O ⟨hk,he⟩
 refine Ae (Af (Ab ?_));refine AWl.nc ?_;refine Aa (Al (.tm U) (fun h11=>?_) (fun h11=>?_))
 · try simp at h11
   have hm0:m≠0:=by (first|omega|(simp at h11;omega))
   refine Am (AW.block (Af (Ab ?_)));refine Ac (R_rem U (.no U) U (.tm U) (.const U) (fun _=>by omega)) U ?_;refine Ah ?_;refine Aa (Ae (Af (Ab ?_)));refine AWl.lc ?_;refine Aa (Al (.tm U) (fun h15=>?_) (fun h15=>?_))
   · exact absurd h15 (by (first|omega|(simp at h15;omega)))
   try simp at h15
   refine Am (Ae (Ar (Av [0,2,3,4,5] []) ?_));refine Ad (Ab ?_);refine Ac (C5 U (.no U) U (.const U) (.tm U) (fun _=>by omega)) U ?_;refine Ac (De U (.no U) U (.tm U) (by rw [Tryz.underlying3];rfl) Tryz.underlying5 (fun _=>(show IntKind.u8.wrap _=(48+(m:Int)%10) by simp [IntKind.wrap,IntKind.bits];omega))) U ?_;refine Ac (R_listz (xs:=[.tmp 20]) (rows:=[[.v (.int .u8 (48+(m:Int)%10))]]) U U U (.cons (.tm U) U U .nil) Tryz.underlying22 in5 U U (U)) U ?_;refine Ac (R_byteStr U (.no U) U (.tm U) Tryz.underlying22 Tryz.underlying5 Tryz.underlying9) U ?_;refine Ab ?_;refine Ac (Cr U (.no U) U (.tm U) (.tm U) (fun _=>by have:(⟨#[UInt8.ofNat ((48+(m:Int)%10)).toNat]⟩:ByteArray).size=1:=U;omega)) U ?_;refine Ah ?_;refine Aa (Ar (Av [0,2,3,4,5] []) ?_);refine Ad (Ab ?_);refine Ac (R_quo U (.no U) U (.tm U) (.const U) (fun _=>by omega)) U ?_;refine Ah ?_;refine Aa ?_
   repeat (with_reducible refine A7 ?_)
   refine Round2.next (m / 10) (((ByteArray.mk #[UInt8.ofNat ((48+(m:Int)%10)).toNat])++O)) ⟨⟨by omega,(by rw [ByteArray.size_append];have:(⟨#[UInt8.ofNat ((48+(m:Int)%10)).toNat]⟩:ByteArray).size=1:=rfl;omega)⟩,(by rw [he,restD_step (by omega),←bs_append,show (48+(m:Int)%10).toNat=48+m%10 by omega];rw [ByteArray.append_assoc];rfl)⟩ (by omega) (A6 rfl ⟨rfl,rfl,rfl,rfl,Y⟩ trivial)
 try simp at h11
 refine Bt (Ae (Af (Ab ?_)));refine Aa (Al (.tm U) (fun h27=>?_) (fun h27=>?_))
 · exact absurd h27 (by simp)
 try simp at h27
 refine Am (Af (Ab ?_));refine Ah ?_;refine Aa (Ap (By U U ?_))
 (have e:m=0:=(by omega);have e0:n0≠0:=(by omega);rw [e] at he;unfold restD at he;rw [if_neg e0,if_pos rfl] at he;unfold numS;rw [Int.toNat_natCast,he,bs_nil_append])
theorem specFormatLetter (k:Int) (h0:0≤k) (h8:k≤8):FnT Tryz.prog 216 [.one (.v (.int .i64 k))] (.a (.one (.v (.string (bs (letS k)))))):=by
 refine Bb Tryz.func216 U (by kernel_rfl) Tryz.ntmps216 U fun hlen w0=>?_
 try simp [cEdge,cGraph] at hlen
 have hl:inB k 0 8=true:=by unfold inB;simp;omega
 refine Af (Aj ?_);refine Aa (Ae (Af (Ab ?_)));refine Br (specl2Letter k) ?_;refine Cg ?_;refine Aa (Al (.tm U) (fun h5=>?_) (fun h5=>?_))
 · exact absurd h5 (by simp [hl] at h5)
 try simp at h5
 refine Am (Af (Ac (R_listz (xs:=[.const (.string ⟨#[97]⟩),.const (.string ⟨#[97,45]⟩),.const (.string ⟨#[98]⟩),.const (.string ⟨#[98,45]⟩),.const (.string ⟨#[99]⟩),.const (.string ⟨#[99,45]⟩),.const (.string ⟨#[48]⟩),.const (.string ⟨#[49]⟩),.const (.string ⟨#[50]⟩)]) (rows:=letNames.map cStr) U U U (.cons (.const U) U U (.cons (.const U) U U (.cons (.const U) U U (.cons (.const U) U U (.cons (.const U) U U (.cons (.const U) U U (.cons (.const U) U U (.cons (.const U) U U (.cons (.const U) U U .nil))))))))) Tryz.underlying102 in9 U U (U)) U ?_));refine Ab ?_;refine Ac (Aw U (.no U) U (.tm U) (.tm U) Tryz.underlying102 ty9 (fun _=>⟨by omega,(letS_get h0 h8)⟩)) U ?_;refine A3 ty9 ?_;refine Ah ?_;refine Aa (Ap (By U U ?_))
 rfl
end Go.Proofs.YtdhojcaoljhbiaaGreatDoor
set_option maxHeartbeats 1000000
set_option maxRecDepth 100000
namespace Go.Proofs.YtdhojcaoljhbiaaGreatDoor
open Go.RowKit Go.Q Go.D
theorem specl2Cut (l:List UInt8) (c:UInt8) (hz:l.length≤1073741824):FnT Tryz.prog 129 [.one (.v (.string (bs l))),.one (.v (.int .u8 c.toNat))] (.a (.one (.sl 1 ((splitL c l).map cStr)))):=by
 refine Bb Tryz.func129 U (by kernel_rfl) Tryz.ntmps129 U fun hlen w0=>?_
 try simp [cEdge,cGraph] at hlen
 have hsz:=bs_size l
 refine Af (Aj ?_);refine AWl.nilS (i:=4) 20001 1 U U ?_;refine Aa (Af (Au (Df 8 U U U Tryz.underlying102 ty9 U) U ?_));refine Ah ?_;refine Aa (Af (Aj ?_));refine Aa (Ae (Af (Aj ?_)));refine Aa (AW.block (AW.loop3 (fun (i:Nat) (F:Nat) (O:List (List UInt8))=>(F≤i∧i≤l.length∧c∉(l.take i).drop F∧O.length≤i)∧splitL c l=O++splitL c (l.drop F)) (fun (i:Nat) (F:Nat) (O:List (List UInt8))=>⟨_,[(6,(true,.a (.one (.t (.v (.int .i64 F)))))),(7,(true,.a (.one (.t (.v (.int .i64 i)))))),(5,(true,.a (.one (.rf 8)))),(0,_),(1,_),(4,_)],[(8,.row 1 (O.map cStr))]⟩) (fun (i:Nat) (F:Nat) (O:List (List UInt8))=>l.length-i) (0) (0) ([]) ⟨⟨by omega,by omega,by simp,by simp⟩,(by simp)⟩ Ay ?_))
 rintro i F O ⟨hk,he⟩
 refine Ae (Af (Ab ?_));refine Ab ?_;refine Ac (C4 U (.no U) U (.tm U) Tryz.underlying9) U ?_;refine AWl.lt ?_;refine Aa (Al (.tm U) (fun h12=>?_) (fun h12=>?_))
 · try simp at h12
   obtain⟨b,hb⟩:∃ ξ,l[i]?=some ξ:=⟨_,List.getElem?_eq_getElem (by omega)⟩
   refine Am (Ae (AW.block (Af (Ab ?_))));refine Ab ?_;refine Ac (B6 U (.no U) U (.tm U) (.tm U) Tryz.underlying9 (fun _=>⟨by omega,(by rw [bs_get];exact hb)⟩)) U ?_;refine Ab ?_;refine AWl.eq ?_;refine Aa (Al (.tm U) (fun h19=>?_) (fun h19=>?_))
   · try simp at h19
     refine Ae (Ar (Av [0,1,4,5,6,7] [8]) ?_);refine Ad (Ab ?_);refine Ab ?_;refine Ab ?_;refine Ab ?_;refine Ac (Cl (n:=F) (m:=i) U (.no U) U (.tm U) (.yes (.tm U) (fun _=>by first|omega|(simp<;>omega))) (.yes (.tm U) (fun _=>by first|omega|(simp<;>omega))) Tryz.underlying9 (fun _=>⟨by omega,by first|omega|(simp;omega)⟩)) U ?_;refine Bd (B8 (xs:=[.tmp 24]) 25 U U U (.cons (.tm U) U U .nil) Tryz.underlying102 in9 U U U U) U ?_;refine Ce (Cc U U U (.tm U) U (.tm U) (by exact .rf U) (by rfl) Tryz.underlying102 in9 U (by (simp [chunk];omega)) (by (unfold maxLen;simp [chunk];omega))) U ?_;refine Bf (Av [0,1,4,5,6,7,26] [8,25]) ?_;refine Ah ?_;refine Aa (Ad (Ab ?_));refine Bs ?_;refine Ah ?_;refine Aa (Ad (Ab ?_));refine Bs ?_;refine Ah ?_;refine Aa ?_
     repeat (with_reducible refine A7 ?_)
     refine Round3.next (i+1) (i+1) (O++[(l.take i).drop F]) ⟨⟨by omega,by omega,(by simp),(by rw [List.length_append,List.length_singleton];omega)⟩,(cut_step hb hk (UInt8.toNat_inj.1 (by omega)) he)⟩ (by omega) (A6 rfl ⟨rfl,rfl,rfl,rfl,rfl,rfl,Y⟩ ⟨(by refine congrArg (fun r=>some (R.row 1 r)) ?_;simp [chunk,cStr,bs_extract];done),Y⟩)
   try simp at h19
   refine Am (Ar (Av [0,1,4,5,6,7] [8]) ?_);refine Ad (Ab ?_);refine Bs ?_;refine Ah ?_;refine Aa ?_
   repeat (with_reducible refine A7 ?_)
   refine Round3.next (i+1) (F) (O) ⟨⟨by omega,by omega,cut_keep hb hk (fun e=>h19 (by rw [e])),by omega⟩,he⟩ (by omega) (A6 rfl ⟨rfl,rfl,rfl,rfl,rfl,rfl,Y⟩ ⟨(by refine congrArg (fun r=>some (R.row 1 r)) ?_;simp [chunk,cStr,bs_extract];done),Y⟩)
 try simp at h12
 refine Bt (Af (Ab ?_));refine Ab ?_;refine Ab ?_;refine Ac (Cl (n:=F) U (.no U) U (.tm U) (.yes (.tm U) (fun _=>by first|omega|(simp<;>omega))) .no Tryz.underlying9 (fun _=>⟨by omega,by first|omega|(simp;omega)⟩)) U ?_;refine Bd (B8 (xs:=[.tmp 32]) 33 U U U (.cons (.tm U) U U .nil) Tryz.underlying102 in9 U U U U) U ?_;refine Ce (Cc U U U (.tm U) U (.tm U) (by exact .rf U) (by rfl) Tryz.underlying102 in9 U (by (simp [chunk];omega)) (by (unfold maxLen;simp [chunk];omega))) U ?_;refine Bf (Av [0,1,4,5,6,7,12,34] [8,33]) ?_;refine Ah ?_;refine Aa (Ap (Res.one U (.tmp U .nil) U ?_))
 (have hi:i=l.length:=(by omega);subst hi;rw [he,splitL_no (by rw [List.take_of_length_le (Nat.le_refl _)] at hk;exact hk.2.2.1)];refine congrArg (fun r=>[V0.one (T.sl 1 r)]) ?_;simp [chunk,cStr,bs_extract,hsz];done)
theorem specChecksum (l:List UInt8) (hz:l.length≤1073741824):FnT Tryz.prog 122 [.one (.v (.string (bs l)))] (.a (.one (.v (.int .i64 (chkS l))))):=by
 refine Bb Tryz.func122 U (by kernel_rfl) Tryz.ntmps122 U fun hlen w0=>?_
 try simp [cEdge,cGraph] at hlen
 have hsz:=bs_size l
 refine Af (Aj ?_);refine Aa (Af (Aj ?_));refine Aa (Ae (Af (Aj ?_)));refine Aa (AW.block (Dn (fun (i:Nat) (n:Int)=>(i≤l.length∧0≤n∧n<9973)∧n=chkS (l.take i)) (fun (i:Nat) (n:Int)=>⟨_,[(4,(true,.a (.one (.t (.v (.int .i64 i)))))),(3,(true,.a (.one (.t (.v (.int .i64 n)))))),(0,_),(2,_)],[]⟩) (fun (i:Nat) (n:Int)=>l.length-i) (0) (1) ⟨⟨Nat.zero_le _,by decide⟩,U⟩ (A6 U ⟨U,U,U,U,Y⟩ trivial) ?_))
 rintro i n ⟨hk,he⟩
 refine Ae (Af (Ab ?_));refine Ab ?_;refine Ac (C4 U (.no U) U (.tm U) Tryz.underlying9) U ?_;refine AWl.lt ?_;refine Aa (Al (.tm U) (fun h8=>?_) (fun h8=>?_))
 · try simp at h8
   obtain⟨b,hb⟩:∃ ξ,l[i]?=some ξ:=⟨_,List.getElem?_eq_getElem (by omega)⟩
   have hc:=chkS_le (l.take i)
   have hs:chkS (l.take (i+1))=(chkS (l.take i)*257+(b.toNat:Int)+1)%9973:=by rw [take_at hb,chkS_snoc]
   have hb8:b.toNat<256:=b.toNat_lt
   refine Am (Ae (AW.block (Ad (Ab ?_))));refine Ac (R_mul U (.no U) U (.tm U) (.const U) (fun _=>by omega)) U ?_;refine Ab ?_;refine Ab ?_;refine Ac (B6 U (.no U) U (.tm U) (.tm U) Tryz.underlying9 (fun _=>⟨by omega,(by rw [bs_get];exact hb)⟩)) U ?_;refine Ac (De U (.no U) U (.tm U) (by rw [Tryz.underlying5];rfl) Tryz.underlying3 (fun _=>(show IntKind.i64.wrap (b.toNat:Int)=(b.toNat:Int) by simp [IntKind.wrap,IntKind.bits];omega))) U ?_;refine Ac (C5 U (.no U) U (.tm U) (.tm U) (fun _=>by omega)) U ?_;refine Bs ?_;refine Ac (R_rem U (.no U) U (.tm U) (.const U) (fun _=>by omega)) U ?_;refine Ah ?_;refine Aa (Ar (Av [0,2,3,4] []) ?_);refine Ad (Ab ?_);refine Bs ?_;refine Ah ?_;refine Aa ?_
   repeat (with_reducible refine A7 ?_)
   refine Round2.next (i+1) (((n*257+(b.toNat:Int)+1)%9973)) ⟨⟨by omega,by omega⟩,(by rw [hs,he])⟩ (by omega) (A6 rfl ⟨rfl,rfl,rfl,rfl,Y⟩ trivial)
 try simp at h8
 refine Bt (Af (Ab ?_));refine Ah ?_;refine Aa (Ap (By U U ?_))
 (rw [he,List.take_of_length_le (by omega)])
theorem implChecksum (l:List UInt8) (hz:l.length≤1073741824):FnT Tryz.prog 220 [.one (.v (.string (bs l)))] (.a (.one (.v (.int .i64 (chkS l))))):=by
 refine Bb Tryz.func220 U (by kernel_rfl) Tryz.ntmps220 U fun hlen w0=>?_
 try simp [cEdge,cGraph] at hlen
 have hsz:=bs_size l
 refine Af (Aj ?_);refine Aa (Af (Aj ?_));refine Aa (Ae (Af (Aj ?_)));refine Aa (AW.block (Dn (fun (i:Nat) (n:Int)=>(i≤l.length∧0≤n∧n<9973)∧n=chkS (l.take i)) (fun (i:Nat) (n:Int)=>⟨_,[(4,(true,.a (.one (.t (.v (.int .i64 i)))))),(3,(true,.a (.one (.t (.v (.int .i64 n)))))),(0,_),(2,_)],[]⟩) (fun (i:Nat) (n:Int)=>l.length-i) (0) (1) ⟨⟨Nat.zero_le _,by decide⟩,U⟩ (A6 U ⟨U,U,U,U,Y⟩ trivial) ?_))
 rintro i n ⟨hk,he⟩
 refine Ae (Af (Ab ?_));refine Ab ?_;refine Ac (C4 U (.no U) U (.tm U) Tryz.underlying9) U ?_;refine AWl.lt ?_;refine Aa (Al (.tm U) (fun h8=>?_) (fun h8=>?_))
 · try simp at h8
   obtain⟨b,hb⟩:∃ ξ,l[i]?=some ξ:=⟨_,List.getElem?_eq_getElem (by omega)⟩
   have hc:=chkS_le (l.take i)
   have hs:chkS (l.take (i+1))=(chkS (l.take i)*257+(b.toNat:Int)+1)%9973:=by rw [take_at hb,chkS_snoc]
   have hb8:b.toNat<256:=b.toNat_lt
   refine Am (Ae (AW.block (Ad (Ab ?_))));refine Ac (R_mul U (.no U) U (.const U) (.tm U) (fun _=>by omega)) U ?_;refine Ab ?_;refine Ab ?_;refine Ac (B6 U (.no U) U (.tm U) (.tm U) Tryz.underlying9 (fun _=>⟨by omega,(by rw [bs_get];exact hb)⟩)) U ?_;refine Ac (De U (.no U) U (.tm U) (by rw [Tryz.underlying5];rfl) Tryz.underlying3 (fun _=>(show IntKind.i64.wrap (b.toNat:Int)=(b.toNat:Int) by simp [IntKind.wrap,IntKind.bits];omega))) U ?_;refine Ac (C5 U (.no U) U (.tm U) (.tm U) (fun _=>by omega)) U ?_;refine Bs ?_;refine Ac (R_rem U (.no U) U (.tm U) (.const U) (fun _=>by omega)) U ?_;refine Ah ?_;refine Aa (Ar (Av [0,2,3,4] []) ?_);refine Ad (Ab ?_);refine Bs ?_;refine Ah ?_;refine Aa ?_
   repeat (with_reducible refine A7 ?_)
   refine Round2.next (i+1) (((257*n+(b.toNat:Int)+1)%9973)) ⟨⟨by omega,by omega⟩,(by rw [hs,he];omega)⟩ (by omega) (A6 rfl ⟨rfl,rfl,rfl,rfl,Y⟩ trivial)
 try simp at h8
 refine Bt (Af (Ab ?_));refine Ah ?_;refine Aa (Ap (By U U ?_))
 (rw [he,List.take_of_length_le (by omega)])
theorem implFormatIntA (n:Int) (h0:-9223372036854775808≤n) (h1:n≤9223372036854775807):FnT Tryz.prog 60 [.one (.v (.int .i64 n))] (.a (.one (.v (.string (bs (itoS n)))))):=by
 refine Bb Tryz.func60 U (by kernel_rfl) Tryz.ntmps60 U fun hlen w0=>?_
 try simp [cEdge,cGraph] at hlen
 refine Af (Aj ?_);refine Aa (Af (Ab ?_));refine Br (strconvItoaA n h0 h1) ?_;refine Ah ?_;refine Aa (Ap (By U U ?_))
 rfl
end Go.Proofs.YtdhojcaoljhbiaaGreatDoor
set_option maxHeartbeats 1000000
set_option maxRecDepth 100000
namespace Go.Q
open Go.D
theorem parseI_numS {n:Int} (h:0≤n∧n≤999999999):parseI (numS n)=(n,true):=by
 rw [←itoS_num h.1,parseI_of rfl,if_pos (by omega)]
theorem numS_dg (n:Int):(numS n).all isDg=true:=dig_all (n.toNat+1) n.toNat (by omega)
theorem numS_no {n:Int} {c:UInt8} (h:isDg c=false):c∉numS n:=fun hm=>by
 have:=List.all_eq_true.1 (numS_dg n) c hm
 rw [h] at this;cases this
theorem numS_one {n:Int} (h:0≤n∧n≤9):numS n=[UInt8.ofNat (48+n.toNat)]:=by unfold numS;exact dig_small (by omega)
theorem occ1 {l:List UInt8} {i:Nat} {a:UInt8}:Lib.occAt l [a] i=true↔l[i]?=some a:=by
 unfold Lib.occAt
 have e1:l[i]?=(l.drop i)[0]?:=by simp
 rw [e1]
 match l.drop i with
 | []=>simp
 | x::r=>simp [List.isPrefixOf];exact⟨fun h=>h.symm,fun h=>h.symm⟩
theorem cut1_at {c:UInt8} {x y:List UInt8} (h:c∉x):Lib.cut (x++c::y) [c]=(x,y,true):=by
 have hi:Lib.index (x++c::y) [c]=(x.length:Nat):=by
  refine Lib.index_first (by simp) (occ1.2 (by simp)) fun j hj=>Bool.eq_false_iff.2 fun hh=>?_
  have:=occ1.1 hh
  rw [List.getElem?_append_left hj] at this
  exact h (List.mem_of_getElem? this)
 unfold Lib.cut
 rw [hi,if_pos (by omega)]
 simp
theorem cut1_nil (c:UInt8):(Lib.cut [] [c]).2.1=[]:=by
 unfold Lib.cut
 split<;>simp
def threeE (e:TEdge):List UInt8:=[UInt8.ofNat (48+e.From.toNat),UInt8.ofNat (97+e.Label.toNat),UInt8.ofNat (48+e.To.toNat)]
theorem ofN {k:Nat} (h:k<256):(UInt8.ofNat k).toNat=k:=by rw [UInt8.toNat_ofNat'];omega
theorem edge_txt {e:TEdge} (h:edgeOk e 5=true):fmtEdge e=numS e.ID++58::threeE e:=by
 obtain⟨h1,h2,h3,h4⟩:=edge_r h
 unfold fmtEdge threeE
 rw [if_pos h,numS_one (n:=e.From) (by omega),numS_one (n:=e.To) (by omega)]
 have hl:letS (2*e.Label)=[UInt8.ofNat (97+e.Label.toNat)]:=by
  have:e.Label=0∨e.Label=1∨e.Label=2:=by omega
  rcases this with g|g|g<;>rw [g]<;>rfl
 rw [hl];simp
theorem three_no {e:TEdge} (h:edgeOk e 5=true):(58:UInt8)∉threeE e:=by
 obtain⟨h1,h2,h3,h4⟩:=edge_r h
 unfold threeE
 simp only [List.mem_cons,List.not_mem_nil,or_false,not_or]
 refine⟨fun g=>?_,fun g=>?_,fun g=>?_⟩<;>have g:=congrArg UInt8.toNat g<;>rw [ofN (by omega)] at g<;>change 58=_ at g<;>omega
def edgeRd (a b:List UInt8):TEdge:=⟨(parseI a).1,((b[0]?.getD 0).toNat:Int)-48,((b[2]?.getD 0).toNat:Int)-48,((b[1]?.getD 0).toNat:Int)-97⟩
theorem edgeRd_fmt {e:TEdge} (h:edgeOk e 5=true):edgeRd (numS e.ID) (threeE e)=e:=by
 obtain⟨h1,h2,h3,h4⟩:=edge_r h
 unfold edgeRd threeE
 rw [parseI_numS (by omega)]
 simp only [List.getElem?_cons_zero,List.getElem?_cons_succ,Option.getD_some]
 rw [ofN (by omega),ofN (by omega),ofN (by omega)]
 obtain⟨a,b,c,d⟩:=e
 simp only at h1 h2 h3 h4
 simp only [TEdge.mk.injEq,true_and]
 refine⟨?_,?_,?_⟩<;>omega
def noE:TEdge:=⟨0,0,0,0⟩
def parseE (l:List UInt8):TEdge×Bool:=
 if (Lib.cut l [58]).2.1.length=3∧fmtEdge (edgeRd (Lib.cut l [58]).1 (Lib.cut l [58]).2.1)=l then (edgeRd (Lib.cut l [58]).1 (Lib.cut l [58]).2.1,true) else (noE,false)
theorem parseE_fmt {e:TEdge} (h:edgeOk e 5=true):parseE (fmtEdge e)=(e,true):=by
 have hc:Lib.cut (fmtEdge e) [58]=(numS e.ID,threeE e,true):=by rw [edge_txt h];exact cut1_at (numS_no (by decide))
 unfold parseE
 rw [hc]
 simp only [edgeRd_fmt h]
 rw [if_pos ⟨rfl,trivial⟩]
theorem fmtEdge_ok {e:TEdge} (h:fmtEdge e≠[]):edgeOk e 5=true:=by
 unfold fmtEdge at h
 split at h
 · assumption
 exact absurd rfl h
theorem parseE_get {l:List UInt8} (h:(parseE l).2=true):edgeOk (parseE l).1 5=true∧fmtEdge (parseE l).1=l:=by
 unfold parseE at h ⊢
 split
 · rename_i hc
   refine⟨fmtEdge_ok fun e=>?_,hc.2⟩
   have h1:=hc.1
   have h2:=hc.2
   rw [e] at h2
   rw [←h2,cut1_nil] at h1;cases h1
 rename_i hc;rw [if_neg hc] at h;cases h
theorem parseE_no {l:List UInt8} (h:∀ e,edgeOk e 5=true→fmtEdge e≠l):parseE l=(noE,false):=by
 by_cases g:(parseE l).2=true
 · obtain⟨h1,h2⟩:=parseE_get g
   exact absurd h2 (h _ h1)
 unfold parseE at g ⊢
 split
 · rename_i hc;rw [if_pos hc] at g;exact absurd rfl g
 rfl
def letP (s:List UInt8):Int×Bool:=match (List.range 9).find? (fun k=>decide (letS (k:Nat)=s)) with
 | some k=>((k:Int),true)
 | none=>(0,false)
theorem letP_at {s:List UInt8} {k:Nat} (hk:k<9) (h:letS (k:Nat)=s) (hn:∀ j,j<k→letS (j:Nat)≠s):letP s=((k:Int),true):=by
 have:(List.range 9).find? (fun k=>decide (letS (k:Nat)=s))=some k:=by
  rw [List.find?_range_eq_some]
  exact⟨decide_eq_true h,List.mem_range.2 hk,fun j hj=>by simpa using hn j hj⟩
 unfold letP
 rw [this]
theorem letP_no {s:List UInt8} (hn:∀ j,j<9→letS (j:Nat)≠s):letP s=(0,false):=by
 have:(List.range 9).find? (fun k=>decide (letS (k:Nat)=s))=none:=by
  rw [List.find?_eq_none]
  intro x hx
  simpa using hn x (List.mem_range.1 hx)
 unfold letP
 rw [this]
theorem letP_le (s:List UInt8):0≤(letP s).1∧(letP s).1≤8:=by
 unfold letP
 split
 · rename_i k hk
   have:=List.mem_range.1 (List.mem_of_find?_eq_some hk)
   simp only;omega
 simp
def edgeSp (a b:List UInt8):TEdge:=⟨(parseI a).1,((b[0]?.getD 0).toNat:Int)-48,((b[2]?.getD 0).toNat:Int)-48,(letP [b[1]?.getD 0]).1 / 2⟩
theorem edgeSp_fmt {e:TEdge} (h:edgeOk e 5=true):edgeSp (numS e.ID) (threeE e)=e:=by
 have h0:=edgeRd_fmt h
 obtain⟨h1,h2,h3,h4⟩:=edge_r h
 have hl:(letP [UInt8.ofNat (97+e.Label.toNat)]).1 / 2=e.Label:=by
  have:e.Label=0∨e.Label=1∨e.Label=2:=by omega
  rcases this with g|g|g<;>rw [g]<;>decide
 unfold edgeRd at h0
 unfold edgeSp
 have e1:[(threeE e)[1]?.getD 0]=[UInt8.ofNat (97+e.Label.toNat)]:=rfl
 rw [e1,hl]
 have:=congrArg TEdge.From h0
 have:=congrArg TEdge.To h0
 have:=congrArg TEdge.ID h0
 cases e
 simp_all
theorem split_fmt {e:TEdge} (h:edgeOk e 5=true):splitL 58 (fmtEdge e)=[numS e.ID,threeE e]:=by
 rw [edge_txt h,splitL_hit (numS_no (by decide)),splitL_no (three_no h)]
theorem spec_edge {l a b:List UInt8} (hs:splitL 58 l=[a,b]):parseE l=if fmtEdge (edgeSp a b)=l then (edgeSp a b,true) else (noE,false):=by
 split
 · rename_i h
   have hne:fmtEdge (edgeSp a b)≠[]:=by
    intro e;rw [e] at h;subst h;cases hs
   have:=parseE_fmt (fmtEdge_ok hne)
   rwa [h] at this
 rename_i h
 refine parseE_no fun e he hl=>h ?_
 rw [←hl,split_fmt he] at hs
 cases hs
 rw [edgeSp_fmt he];exact hl
theorem spec_edge_no {l:List UInt8} (hs:∀ a b,splitL 58 l=[a,b]→b.length≠3):parseE l=(noE,false):=
 parseE_no fun e he hl=>hs _ _ (by rw [←hl,split_fmt he]) rfl
def chOf (p:List UInt8):TChange:=⟨decide (p[0]?.getD 0=43),(parseE (p.drop 1)).1⟩
def chGood (p:List UInt8):Bool:=decide (1≤p.length)&&(parseE (p.drop 1)).2
def parseB (l:List UInt8):TBatch×Bool:=if l=[] then (⟨[]⟩,true) else if (splitL 32 l).all chGood=true∧fmtBatch ⟨(splitL 32 l).map chOf⟩=l then (⟨(splitL 32 l).map chOf⟩,true) else (⟨[]⟩,false)
theorem parseB_bad {l p:List UInt8} {k:Nat} (h0:l≠[]) (hp:(splitL 32 l)[k]?=some p) (h:chGood p=false):parseB l=(⟨[]⟩,false):=by
 unfold parseB
 rw [if_neg h0,if_neg fun hh=>?_]
 have:=List.all_eq_true.1 hh.1 p (List.mem_of_getElem? hp)
 rw [h] at this;cases this
theorem parseB_all {l:List UInt8} {k:Nat} (h0:l≠[]) (hk:(splitL 32 l).length≤k) (h:∀ j p,j<k→(splitL 32 l)[j]?=some p→chGood p=true):parseB l=if fmtBatch ⟨(splitL 32 l).map chOf⟩=l then (⟨(splitL 32 l).map chOf⟩,true) else (⟨[]⟩,false):=by
 unfold parseB
 rw [if_neg h0]
 have:(splitL 32 l).all chGood=true:=List.all_eq_true.2 fun p hp=>by
  obtain⟨j,hj⟩:=List.getElem?_of_mem hp
  exact h j p (Nat.lt_of_lt_of_le (List.getElem?_eq_some_iff.1 hj).1 hk) hj
 simp [this]
theorem parseB_seven {l:List UInt8} {k:Nat} (h0:l≠[]) (hk:(splitL 32 l).length≤k∨7≤k) (h:∀ j p,j<k→(splitL 32 l)[j]?=some p→chGood p=true):parseB l=if fmtBatch ⟨((splitL 32 l).take k).map chOf⟩=l then (⟨((splitL 32 l).take k).map chOf⟩,true) else (⟨[]⟩,false):=by
 by_cases h1:(splitL 32 l).length≤k
 · rw [List.take_of_length_le h1];exact parseB_all h0 h1 h
 have h2:fmtBatch ⟨((splitL 32 l).take k).map chOf⟩=[]:=batch_long (by simp;omega)
 have h3:fmtBatch ⟨(splitL 32 l).map chOf⟩=[]:=batch_long (by simp;omega)
 rw [h2,if_neg (Ne.symm h0)]
 unfold parseB
 rw [if_neg h0,if_neg fun hh=>?_]
 rw [h3] at hh
 exact h0 hh.2.symm
theorem parts_more {l:List (List UInt8)} {k:Nat} {x:List UInt8} {g:List UInt8→Bool} (h:∀ j p,j<k→l[j]?=some p→g p=true) (hx:l[k]?=some x) (h2:g x=true):∀ j p,j<k+1→l[j]?=some p→g p=true:=fun j p hj hp=>by
 by_cases e:j=k
 · subst e;rw [hx] at hp;cases hp;exact h2
 exact h j p (by omega) hp
theorem parseB_few (l:List UInt8):(parseB l).1.Changes.length≤6:=by
 unfold parseB
 split
 · simp
 rename_i h0
 split
 · rename_i hc
   simp only
   rcases Nat.lt_or_ge 6 ((splitL 32 l).map chOf).length with h|h
   · have:=batch_long (b:=⟨(splitL 32 l).map chOf⟩) h
     rw [this] at hc
     exact absurd hc.2.symm h0
   exact h
 simp
def recG (l:List UInt8):Bool:=decide ((splitL 59 l).length=3)&&(parseI ((splitL 59 l)[0]?.getD [])).2&&(parseB ((splitL 59 l)[1]?.getD [])).2&&decide (encRec (parseI ((splitL 59 l)[0]?.getD [])).1 (parseB ((splitL 59 l)[1]?.getD [])).1=l)
def recV (l:List UInt8):Int:=if recG l=true then (parseI ((splitL 59 l)[0]?.getD [])).1 else 0
def recB (l:List UInt8):TBatch:=if recG l=true then (parseB ((splitL 59 l)[1]?.getD [])).1 else ⟨[]⟩
theorem rec_yes {l a b c:List UInt8} (hs:splitL 59 l=[a,b,c]) (h1:(parseI a).2=true) (h2:(parseB b).2=true) (h3:encRec (parseI a).1 (parseB b).1=l):recG l=true∧recV l=(parseI a).1∧recB l=(parseB b).1:=by
 have hg:recG l=true:=by
  unfold recG
  rw [hs]
  simp [h1,h2,h3]
 refine⟨hg,?_,?_⟩
 · unfold recV;rw [if_pos hg,hs];rfl
 unfold recB;rw [if_pos hg,hs];rfl
theorem rec_none {l:List UInt8} (h:recG l=false):recV l=0∧recB l=⟨[]⟩:=by
 unfold recV recB
 rw [if_neg (by rw [h];decide),if_neg (by rw [h];decide)]
 exact⟨rfl,rfl⟩
theorem rec_not3 {l:List UInt8} (hs:(splitL 59 l).length≠3):recG l=false:=by
 unfold recG
 simp [hs]
theorem rec_bad {l a b c:List UInt8} (hs:splitL 59 l=[a,b,c]) (h:(parseI a).2=false∨(parseB b).2=false∨encRec (parseI a).1 (parseB b).1≠l):recG l=false:=by
 unfold recG
 rw [hs]
 rcases h with h|h|h<;>simp [h]
theorem recG_get {l:List UInt8} (h:recG l=true):encRec (recV l) (recB l)=l∧(1≤recV l∧recV l≤999)∧(recB l).Changes.length≤6:=by
 have hg:=h
 unfold recG at h
 simp only [Bool.and_eq_true,decide_eq_true_eq] at h
 have he:encRec (recV l) (recB l)=l:=by
  unfold recV recB
  rw [if_pos hg,if_pos hg];exact h.2
 refine⟨he,?_,?_⟩
 · unfold encRec at he
   split at he
   · rename_i hr
     unfold recOk inB at hr
     simp at hr;omega
   rw [←he] at h
   simp [splitL] at h
 unfold recB
 rw [if_pos hg];exact parseB_few _
theorem recB_few (l:List UInt8):(recB l).Changes.length≤6:=by
 by_cases h:recG l=true
 · exact (recG_get h).2.2
 rw [(rec_none (Bool.eq_false_iff.2 h)).2];simp
def nlAt (l:List UInt8) (i:Nat):Option Nat:=(l.drop i).findIdx? fun b=>decide (b=10)
def scanF:Nat→List UInt8→List Int→List TBatch→Nat→List Int×List TBatch×Nat
 | 0,_,vs,bt,i=>(vs,bt,i)
 | f+1,l,vs,bt,i=>match nlAt l i with
  | none=>(vs,bt,i)
  | some n=>if recG ((l.drop i).take (n+1))=true∧(vs=[]∨recV ((l.drop i).take (n+1))=vs.getLast?.getD 0+1) then
   scanF f l (vs++[recV ((l.drop i).take (n+1))]) (bt++[recB ((l.drop i).take (n+1))]) (i+n+1) else (vs,bt,i)
def scanL (l:List UInt8):List Int×List TBatch×Nat:=if l.length≤4000 then scanF (l.length+1) l [] [] 0 else ([],[],0)
theorem nlAt_some {l:List UInt8} {i n:Nat} (h:nlAt l i=some n):l[i+n]?=some 10∧∀ k,k<n→l[i+k]?≠some 10:=by
 unfold nlAt at h
 rw [List.findIdx?_eq_some_iff_getElem] at h
 obtain⟨h1,h2,h3⟩:=h
 rw [List.length_drop] at h1
 refine⟨?_,fun k hk hh=>?_⟩
 · rw [List.getElem?_eq_getElem (by omega)]
   simpa using h2
 have h4:=h3 k hk
 rw [List.getElem?_eq_getElem (by omega)] at hh
 simp only [List.getElem_drop,decide_eq_true_eq] at h4
 exact h4 (by simpa using hh)
theorem nlAt_intro {l:List UInt8} {i n:Nat} (h1:l[i+n]?=some 10) (h2:∀ k,k<n→l[i+k]?≠some 10):nlAt l i=some n:=by
 have hl:=(List.getElem?_eq_some_iff.1 h1).1
 unfold nlAt
 rw [List.findIdx?_eq_some_iff_getElem]
 refine⟨by rw [List.length_drop];omega,?_,fun j hj=>?_⟩
 · rw [List.getElem?_eq_getElem hl] at h1
   simpa using h1
 have:=h2 j hj
 rw [List.getElem?_eq_getElem (by omega)] at this
 simpa using this
theorem nlAt_none {l:List UInt8} {i:Nat} (h:∀ k,i≤k→l[k]?≠some 10):nlAt l i=none:=by
 unfold nlAt
 rw [List.findIdx?_eq_none_iff]
 intro x hx
 obtain⟨j,hj⟩:=List.getElem?_of_mem hx
 rw [List.getElem?_drop] at hj
 have:=h (i+j) (by omega)
 rw [hj] at this
 simpa using this
theorem nlAt_index (l:List UInt8) (i:Nat):Lib.indexByte (l.drop i) 10=match nlAt l i with|some n=>(n:Int)|none=> -1:=by
 have h:=Lib.indexByte_none (l:=l.drop i) (c:=10)
 rcases Lib.index_spec (l.drop i) [10] with ⟨h1,h2⟩|⟨n,h1,h2,h3,h4⟩
 · rw [Lib.index_one] at h1
   rw [nlAt_none,h1]
   intro k hk hh
   have:=h h1 (k-i)
   rw [List.getElem?_drop,show i+(k-i)=k by omega] at this
   exact this hh
 have hx:=Lib.index_first h2 h3 h4
 rw [Lib.index_one] at hx
 obtain⟨g1,g2⟩:=Lib.indexByte_some hx
 rw [List.getElem?_drop] at g1
 rw [nlAt_intro g1 fun k hk=>by have:=g2 k hk;rwa [List.getElem?_drop] at this,hx]
theorem scan_none {f:Nat} {l:List UInt8} {vs:List Int} {bt:List TBatch} {i:Nat} (h:nlAt l i=none):scanF f l vs bt i=(vs,bt,i):=by
 cases f with
 | zero=>rfl
 | succ f=>unfold scanF;rw [h]
theorem scan_stop {f:Nat} {l:List UInt8} {vs:List Int} {bt:List TBatch} {i n:Nat} (h:nlAt l i=some n) (hb:recG ((l.drop i).take (n+1))=false∨vs≠[]∧recV ((l.drop i).take (n+1))≠vs.getLast?.getD 0+1):scanF f l vs bt i=(vs,bt,i):=by
 cases f with
 | zero=>rfl
 | succ f=>
  unfold scanF;rw [h]
  simp only
  rw [if_neg]
  rintro⟨h1,h2⟩
  rcases hb with hb|⟨h3,h4⟩
  · rw [h1] at hb;cases hb
  rcases h2 with h2|h2
  · exact h3 h2
  exact h4 h2
theorem scan_more {f:Nat} {l:List UInt8} {vs:List Int} {bt:List TBatch} {i n:Nat} (h:nlAt l i=some n) (h1:recG ((l.drop i).take (n+1))=true) (h2:vs=[]∨recV ((l.drop i).take (n+1))=vs.getLast?.getD 0+1) :
 scanF (f+1) l vs bt i=scanF f l (vs++[recV ((l.drop i).take (n+1))]) (bt++[recB ((l.drop i).take (n+1))]) (i+n+1):=by
 conv=>lhs;unfold scanF
 rw [h]
 simp only
 rw [if_pos ⟨h1,h2⟩]
theorem scanF_few:∀ (f:Nat) (l:List UInt8) (vs:List Int) (bt:List TBatch) (i:Nat),vs.length≤i→bt.length=vs.length→i≤l.length→(∀ b∈bt,b.Changes.length≤6)→
 (scanF f l vs bt i).1.length≤l.length∧(scanF f l vs bt i).2.1.length=(scanF f l vs bt i).1.length∧∀ b∈(scanF f l vs bt i).2.1,b.Changes.length≤6
 | 0,l,vs,bt,i,h1,h2,h3,h4=>⟨by simp only [scanF];omega,h2,h4⟩
 | f+1,l,vs,bt,i,h1,h2,h3,h4=>by
  cases hn:nlAt l i with
  | none=>rw [scan_none hn];exact⟨by simp only;omega,h2,h4⟩
  | some n=>
   by_cases hc:recG ((l.drop i).take (n+1))=true∧(vs=[]∨recV ((l.drop i).take (n+1))=vs.getLast?.getD 0+1)
   · have hl:=(List.getElem?_eq_some_iff.1 (nlAt_some hn).1).1
     rw [scan_more hn hc.1 hc.2]
     refine scanF_few f l _ _ _ (by simp;omega) (by simp [h2]) (by omega) fun b hb=>?_
     rcases List.mem_append.1 hb with hb|hb
     · exact h4 b hb
     rw [List.mem_singleton] at hb;subst hb;exact recB_few _
   rw [scan_stop hn]
   · exact⟨by simp only;omega,h2,h4⟩
   rcases Classical.em (recG ((l.drop i).take (n+1))=true) with g|g
   · exact .inr ⟨fun e=>hc ⟨g,.inl e⟩,fun e=>hc ⟨g,.inr e⟩⟩
   exact .inl (Bool.eq_false_iff.2 g)
end Go.Q
