import Derived.Test.YtbecibmlbiebeaaGreatAbsJxa
set_option linter.unusedVariables false
set_option linter.unusedSimpArgs false
set_option maxRecDepth 100000
namespace Go.Q
open Go.D
def dE:TEdge:=⟨0,0,0,0⟩
def edgeOk (e:TEdge) (n:Int):Bool:=inB e.ID 1 99&&inB e.From 0 (n-1)&&inB e.To 0 (n-1)&&inB e.Label 0 2
def edgeAt (l:List TEdge) (n:Int) (k:Nat):Bool:=match l[k]? with
 | some e=>edgeOk e n&&!(decide (0<k)&&decide (e.ID≤(l[k-1]?.getD dE).ID))
 | none=>true
def validG (g:TGraph):Bool:=(g.Values.all fun v=>inB v 0 2)&&((List.range g.Edges.length).all fun k=>edgeAt g.Edges g.Values.length k)&&(inB g.Values.length 1 5&&decide (g.Edges.length≤12))
def edgeIndex (g:TGraph) (id:Int):Int:=findI (fun e=>decide (e.ID=id)) g.Edges 0
theorem range_all {p:Nat→Bool} {n k:Nat} (h:∀ j,j<k→p j=true) (hk:n≤k):(List.range n).all p=true:=by
 rw [List.all_eq_true]
 intro j hj;exact h j (by have:=List.mem_range.1 hj;omega)
theorem range_not {p:Nat→Bool} {n k:Nat} (hk:k<n) (hp:p k=false):(List.range n).all p=false:=by
 rw [List.all_eq_false]
 exact⟨k,List.mem_range.2 hk,by rw [hp];simp⟩
theorem range_succ {p:Nat→Bool} {k:Nat} (h:∀ j,j<k→p j=true) (hp:p k=true):∀ j,j<k+1→p j=true:=fun j hj=>by
 rcases Nat.lt_or_eq_of_le (Nat.le_of_lt_succ hj) with h1|rfl
 · exact h j h1
 · exact hp
theorem getD_pred {α:Type} {d:α} {l:List α} {k:Nat} (h:0<k) (hk:k≤l.length):l[((k:Int)-1).toNat]?=some (l[k-1]?.getD d):=by
 have e:((k:Int)-1).toNat=k-1:=by omega
 rw [e];exact getD_at (by omega)
end Go.Q
namespace Go.Proofs.YtbecibmlbiebeaaGreat
open Go.RowKit Go.Q Go.D
theorem specl3Edge (g:TGraph) (e:TEdge):FnT Tryz.prog 214 [.agg (cGraph g),.agg (cEdge e)] (.a (.one (.v (.bool (edgeOk e g.Values.length))))):=by
 refine Ba Tryz.func214 U (by kernel_rfl) Tryz.ntmps214 U fun hlen w0=>?_
 try simp [cEdge,cGraph] at hlen
 skip
 refine Ah (Ab (Bm U U U (.tm U) (ts:=_) (by rfl)) U ?_);refine Ab (Bm U U U (.tm U) (ts:=_) (by rfl)) U ?_;refine Av ?_;refine Aa (Ah (Ab (Ao U (.no U) U (.tm U) Ck) U ?_));refine Ab (Ap U (.no U) U (.tm U) By U U) U ?_;refine Ab (Bd U (.no U) U (.tm U) (by exact .t) Tryz.underlying40) U ?_;refine Ab (Co U (.no U) U (.tm U) (.const U) (fun _=>by omega)) U ?_;refine Ak ?_;refine Aa (Ah (Ab (Ao U (.no U) U (.tm U) De) U ?_));refine Ab (Ap U (.no U) U (.tm U) ty3 U U) U ?_;refine Ab (A6 (FnT.fr (specl1In _ _ _)) U (.no U) U (.cons (.tm U) U (.cons (.const U) U (.cons (.const U) U .nil)))) U ?_;refine Ac ?_;refine Ab (Ao U (by exact .yes1 U U U U) U (.tmp U (by exact fun _=>rfl)) fl201_1) U ?_;refine Ab (Ap U (by exact .yes1 U U U U) U (.tmp U (by exact id)) ty3 U U) U ?_;refine Ab (Ar U (by exact .yes1 U U U U) U (.tmp U (by exact fun _=>rfl))) U ?_
 refine Ab (A6 (FnT.fr (specl1In _ _ _)) U (by exact .yes1 U U U U) U (.cons (.tmp U (by exact id)) U (.cons (.const U) U (.cons (.tmp U (by exact id)) U .nil)))) U ?_;refine Ab (Cf U (.no U) U (.tm U) (.tmp U (by exact id))) U ?_;refine Ac ?_;refine Ab (Ao U (by exact .yes1 U U U U) U (.tmp U (by exact fun _=>rfl)) fl201_2) U ?_;refine Ab (Ap U (by exact .yes1 U U U U) U (.tmp U (by exact id)) ty3 U U) U ?_;refine Ab (Ar U (by exact .yes1 U U U U) U (.tmp U (by exact fun _=>rfl))) U ?_;refine Ab (A6 (FnT.fr (specl1In _ _ _)) U (by exact .yes1 U U U U) U (.cons (.tmp U (by exact id)) U (.cons (.const U) U (.cons (.tmp U (by exact id)) U .nil)))) U ?_;refine Ab (Cf U (.no U) U (.tm U) (.tmp U (by exact id))) U ?_;refine Ac ?_;refine Ab (Ao U (by exact .yes1 U U U U) U (.tmp U (by exact fun _=>rfl)) fl201_3) U ?_
 refine Ab (Ap U (by exact .yes1 U U U U) U (.tmp U (by exact id)) ty3 U U) U ?_;refine Ab (A6 (FnT.fr (specl1In _ _ _)) U (by exact .yes1 U U U U) U (.cons (.tmp U (by exact id)) U (.cons (.const U) U (.cons (.const U) U .nil)))) U ?_;refine Ab (Cf U (.no U) U (.tm U) (.tmp U (by exact id))) U ?_;refine Ak ?_;refine Aa (A3 (Bn U U ?_))
 rfl
theorem impledgeOk (e:TEdge) (n:Int) (hn:-1000≤n) (hn':n≤9223372036854775807):FnT Tryz.prog 209 [.agg (cEdge e),.one (.v (.int .i64 n))] (.a (.one (.v (.bool (edgeOk e n))))):=by
 refine Ba Tryz.func209 U (by kernel_rfl) Tryz.ntmps209 U fun hlen w0=>?_
 try simp [cEdge,cGraph] at hlen
 refine Ah (Ab (Bm U U U (.tm U) (ts:=_) (by rfl)) U ?_);refine Av ?_;refine Aa (Ah (Ab (Ao U (.no U) U (.tm U) De) U ?_));refine Ab (Ap U (.no U) U (.tm U) ty3 U U) U ?_;refine Ab (A6 (FnT.fr (implwithin _ _ _)) U (.no U) U (.cons (.tm U) U (.cons (.const U) U (.cons (.const U) U .nil)))) U ?_;refine Ac ?_;refine Ab (Ao U (by exact .yes1 U U U U) U (.tmp U (by exact fun _=>rfl)) fl201_1) U ?_;refine Ab (Ap U (by exact .yes1 U U U U) U (.tmp U (by exact id)) ty3 U U) U ?_;refine Ab (Ar U (by exact .yes1 U U U U) U (.tmp U (by exact fun _=>rfl))) U ?_;refine Ab (Co U (by exact .yes1 U U U U) U (.tmp U (by exact id)) (.const U) fun _=>by omega) U ?_;refine Ab (A6 (FnT.fr (implwithin _ _ _)) U (by exact .yes1 U U U U) U (.cons (.tmp U (by exact id)) U (.cons (.const U) U (.cons (.tmp U (by exact id)) U .nil)))) U ?_;refine Ab (Cf U (.no U) U (.tm U) (.tmp U (by exact id))) U ?_;refine Ac ?_
 refine Ab (Ao U (by exact .yes1 U U U U) U (.tmp U (by exact fun _=>rfl)) fl201_2) U ?_;refine Ab (Ap U (by exact .yes1 U U U U) U (.tmp U (by exact id)) ty3 U U) U ?_;refine Ab (Ar U (by exact .yes1 U U U U) U (.tmp U (by exact fun _=>rfl))) U ?_;refine Ab (Co U (by exact .yes1 U U U U) U (.tmp U (by exact id)) (.const U) fun _=>by omega) U ?_;refine Ab (A6 (FnT.fr (implwithin _ _ _)) U (by exact .yes1 U U U U) U (.cons (.tmp U (by exact id)) U (.cons (.const U) U (.cons (.tmp U (by exact id)) U .nil)))) U ?_;refine Ab (Cf U (.no U) U (.tm U) (.tmp U (by exact id))) U ?_;refine Ac ?_;refine Ab (Ao U (by exact .yes1 U U U U) U (.tmp U (by exact fun _=>rfl)) fl201_3) U ?_;refine Ab (Ap U (by exact .yes1 U U U U) U (.tmp U (by exact id)) ty3 U U) U ?_
 refine Ab (A6 (FnT.fr (implwithin _ _ _)) U (by exact .yes1 U U U U) U (.cons (.tmp U (by exact id)) U (.cons (.const U) U (.cons (.const U) U .nil)))) U ?_;refine Ab (Cf U (.no U) U (.tm U) (.tmp U (by exact id))) U ?_;refine Ak ?_;refine Aa (A3 (Bn U U ?_))
 rfl
theorem specEdgeIndex (g:TGraph) (id:Int):FnT Tryz.prog 184 [.agg (cGraph g),.one (.v (.int .i64 id))] (.a (.one (.v (.int .i64 (edgeIndex g id))))):=by
 refine Ba Tryz.func184 U (by kernel_rfl) Tryz.ntmps184 U fun hlen w0=>?_
 try simp [cEdge,cGraph] at hlen
 skip
 refine Ah (Ab (Bm U U U (.tm U) (ts:=_) (by rfl)) U ?_);refine Av ?_;refine Aa (Af (Ah (Av ?_)));refine Aa (AW.block (Cr (β:=Nat) (fun x=>x≤(g.Edges).length∧∀ j y,j<x→(g.Edges)[j]?=some y→(fun e=>!decide (e.ID=id)) y=true) (fun x=>⟨_,[(5,(true,.a (.one (.t (.v (.int .i64 (x:Nat))))))),(1,_),(2,_)],[]⟩) (fun x=>(g.Edges).length-x) (0) ⟨Nat.zero_le _,fun j y hj=>absurd hj (Nat.not_lt_zero j)⟩ (An U ⟨U,U,U,Y⟩ trivial) ?_));intro k hk;refine Af (Ah (Ac ?_));refine Ab (Ao U (.no U) U (.tm U) Ct) U ?_;refine Ab (Ap U (.no U) U (.tm U) ty43 U U) U ?_;refine Ab (Bd U (.no U) U (.tm U) (by exact .t) Tryz.underlying43) U ?_;refine Ab (Bz U (.no U) U (.tm U) (.tm U)) U ?_;refine Aa (Aq (.tm U) (fun hlt=>?_) (fun hlt=>?_))
 · try simp at hlt
   obtain⟨x,hx⟩:∃ ξ,(g.Edges)[k]?=some ξ:=⟨_,List.getElem?_eq_getElem (by exact hlt)⟩
   refine As (Af (AW.block (Ah (Ab (Ao U (.no U) U (.tm U) Ct) U ?_))));refine Ab (Ap U (.no U) U (.tm U) ty43 U U) U ?_;refine Ac ?_;refine Ab ((Aw U (.no U) U (.tm U) (.tm U) Tryz.underlying43 C3 (fun _=>⟨by omega,(by exact Ax (by assumption))⟩))) U ?_;refine Ab (Ao U (.no U) U (.tm U) De) U ?_;refine Ab (Ap U (.no U) U (.tm U) ty3 U U) U ?_;refine Ac ?_;refine Ab (B7 U (.no U) U (.tm U) (.tm U)) U ?_;refine Aa (Aq (.tm U) (fun h20=>?_) (fun h20=>?_))
   · try simp at h20
     refine Af (A4 (σ':=⟨_,[(1,_),(2,_),(5,_)],[]⟩) (An U ⟨U,U,U,Y⟩ trivial) ?_);refine Ae (Ac ?_);refine Ak ?_;refine Aa (A3 (Bn U U ?_))
     unfold edgeIndex;rw [findI_at (k:=k) hk.2 hx (by simp [h20])];simp
   · try simp at h20
     refine As (A4 (σ':=⟨_,[(1,_),(2,_),(5,_)],[]⟩) (An U ⟨U,U,U,Y⟩ trivial) ?_);refine Ae (Ac ?_);refine Ab (Be U (.no U) U (.tm U) (.const U) (fun _=>by omega)) U ?_;refine Ak ?_;refine Aa ?_;refine Round.next (k+1) ⟨by omega,each_succ hk.2 hx (by simp [h20])⟩ (by omega) (An rfl ⟨rfl,rfl,rfl,Y⟩ trivial)
 · try simp at hlt
   refine Bf (Ah (Av ?_));refine Aa (A3 (Bn U U ?_))
   unfold edgeIndex;rw [findI_none hk.2 (by omega)]
theorem specIsValidGraph (g:TGraph):FnT Tryz.prog 159 [.agg (cGraph g)] (.a (.one (.v (.bool (validG g))))):=by
 refine Ba Tryz.func159 U (by kernel_rfl) Tryz.ntmps159 U fun hlen w0=>?_
 try simp [cEdge,cGraph] at hlen
 skip
 refine Ah (Ab (Bm U U U (.tm U) (ts:=_) (by rfl)) U ?_);refine Av ?_;refine Aa (Af (Ah (Av ?_)));refine Aa (AW.block (Cr (β:=Nat) (fun x=>x≤(g.Values).length∧∀ j y,j<x→(g.Values)[j]?=some y→(fun v=>inB v 0 2) y=true) (fun x=>⟨_,[(3,(true,.a (.one (.t (.v (.int .i64 (x:Nat))))))),(1,_)],[]⟩) (fun x=>(g.Values).length-x) (0) ⟨Nat.zero_le _,fun j y hj=>absurd hj (Nat.not_lt_zero j)⟩ (An U ⟨U,U,Y⟩ trivial) ?_));intro k hk;refine Af (Ah (Ac ?_));refine Ab (Ao U (.no U) U (.tm U) Ck) U ?_;refine Ab (Ap U (.no U) U (.tm U) By U U) U ?_;refine Ab (Bd U (.no U) U (.tm U) (by exact .t) Tryz.underlying40) U ?_;refine Ab (Bz U (.no U) U (.tm U) (.tm U)) U ?_;refine Aa (Aq (.tm U) (fun hlt=>?_) (fun hlt=>?_))
 · try simp at hlt
   obtain⟨x,hx⟩:∃ ξ,(g.Values)[k]?=some ξ:=⟨_,List.getElem?_eq_getElem (by exact hlt)⟩
   refine As (Af (AW.block (Ah (Ab (Ao U (.no U) U (.tm U) Ck) U ?_))));refine Ab (Ap U (.no U) U (.tm U) By U U) U ?_;refine Ac ?_;refine Ab ((Aw U (.no U) U (.tm U) (.tm U) Tryz.underlying40 ty3 (fun _=>⟨by omega,(by exact Ax (by assumption))⟩))) U ?_;refine Ab (Ap U (.no U) U (.tm U) ty3 U U) U ?_;refine Ab (A6 (FnT.fr (specl1In _ _ _)) U (.no U) U (.cons (.tm U) U (.cons (.const U) U (.cons (.const U) U .nil)))) U ?_;refine Ab (Cq U (.no U) U (.tm U)) U ?_;refine Aa (Aq (.tm U) (fun h18=>?_) (fun h18=>?_))
   · try simp at h18
     refine Af (A4 (σ':=⟨_,[(1,_),(3,_)],[]⟩) (An U ⟨U,U,Y⟩ trivial) ?_);refine Ae (Av ?_);refine Aa (A3 (Bn U U ?_))
     unfold validG;rw [not_all hx h18];rfl
   · try simp at h18
     refine As (A4 (σ':=⟨_,[(1,_),(3,_)],[]⟩) (An U ⟨U,U,Y⟩ trivial) ?_);refine Ae (Ac ?_);refine Ab (Be U (.no U) U (.tm U) (.const U) (fun _=>by omega)) U ?_;refine Ak ?_;refine Aa ?_;refine Round.next (k+1) ⟨by omega,each_succ hk.2 hx (h18)⟩ (by omega) (An rfl ⟨rfl,rfl,Y⟩ trivial)
 · try simp at hlt
   refine Bf (Af (Ah (Av ?_)));refine Aa (AW.block (Cr (β:=Nat) (fun x=>x≤g.Edges.length∧∀ j,j<x→edgeAt g.Edges g.Values.length j=true) (fun x=>⟨_,[(4,(true,.a (.one (.t (.v (.int .i64 (x:Nat))))))),(1,_)],[]⟩) (fun x=>g.Edges.length-x) (0) ⟨Nat.zero_le _,fun j hj=>absurd hj (Nat.not_lt_zero j)⟩ (An U ⟨U,U,Y⟩ trivial) ?_));intro k1 hk1;refine Af (Ah (Ac ?_));refine Ab (Ao U (.no U) U (.tm U) Ct) U ?_;refine Ab (Ap U (.no U) U (.tm U) ty43 U U) U ?_;refine Ab (Bd U (.no U) U (.tm U) (by exact .t) Tryz.underlying43) U ?_;refine Ab (Bz U (.no U) U (.tm U) (.tm U)) U ?_;refine Aa (Aq (.tm U) (fun hlt1=>?_) (fun hlt1=>?_))
   · try simp at hlt1
     obtain⟨x1,hx1⟩:∃ x1,g.Edges[k1]?=some x1:=⟨_,List.getElem?_eq_getElem hlt1⟩
     refine As (Af (AW.block (Af (B9 28 (nthB [[],[],[1],[],[1,2,3],[1,2,3,4],[0,1,2,3,4,5],[0,1,2,3,4,5,6],[0,1,2,3,4,5,6,7],[0,1,2,3,4,5,6,7,8],[0,1,2,3,4,5,6,7,8,9],[0,1,2,3,4,5,6,7,8,9,10],[0,1,2,3,4,5,6,7,8,9,10,11],[0,1,2,3,4,5,6,7,8,9,10,11,12],[0,1,2,3,4,5,6,7,8,9,10,11],[0,1,2,3,4,5,6,7,8,9,10,11,14],[0,1,2,3,4,5,6,7,8,9,10,11,12,13,14,15],[0,1,2,3,4,5,6,7,8,9,10,11,12,13,14,15,16],[0,1,2,3,4,5,6,7,8,9,10,11,12,13,14,15,16,17],[0,1,2,3,4,5,6,7,8,9,10,11],[0,1,2,3,4,5,6,7,8,9,10,11,19],[0,1,2,3,4,5,6,7,8,9,10,11],[0,1,2,3,4,5,6,7,8,9,10,11,19,20,21],[0,1,2,3,4,5,6,7,8,9,10,11,19,20,21,22],[0,1,2,3,4,5,6,7,8,9,10,11,19,20,21,22,23],[0,1,2,3,4,5,6,7,8,9,10,11,12,13,14,15,16,17,18,19,20,21,22,23,24],[0,1,2,3,4,5,6,7,8,9,10,11,12,13,14,15,16,17,18,19,20,21,22,23,24,25],[0,1,2,3,4,5,6,7,8,9,10,11,12,13,14,15,16,17,18,19,20,21,22,23,24,25,26]]) (by kernel_rfl) (by kernel_rfl) (by kernel_rfl) ?_))))
     refine Ad U U U (Aj U fun σ' hs=>(by exact Ap U (.no U) (Ag hs U) (.tm (hs.slots _ _ U)) Bu U U)) ?_;refine Ad U U U (Aj U fun σ' hs=>(by exact Ao U (.no U) (Ag hs U) (.tm (hs.slots _ _ U)) Ct)) ?_;refine Ad U U U (Aj U fun σ' hs=>(by exact Ap U (.no U) (Ag hs U) (.tm (hs.slots _ _ U)) ty43 U U)) ?_;refine Ad U U U (Aj U fun σ' hs=>Ar U (.no U) (Ag hs U) (.tm (hs.slots _ _ U))) ?_;refine Ad U U U (Aj U fun σ' hs=>(by exact Aw U (.no U) (Ag hs U) (.tm (hs.slots _ _ U)) (.tm (hs.slots _ _ U)) Tryz.underlying43 C3 (fun _=>⟨by omega,(by exact Ax (by assumption))⟩))) ?_;refine Ad U U U (Aj U fun σ' hs=>(by exact Ap U (.no U) (Ag hs U) (.tm (hs.slots _ _ U)) C3 U U)) ?_;refine Ad U U U (Aj U fun σ' hs=>A6 (FnT.fr (specl3Edge _ _)) U (.no U) (Ag hs U) (.cons (.tm (hs.slots _ _ U)) (readA_sup hs U) (.cons (.tm (hs.slots _ _ U)) (readA_sup hs U) .nil))) ?_
     refine Ad U U U (Aj U fun σ' hs=>Cq U (.no U) (Ag hs U) (.tm (hs.slots _ _ U))) ?_;refine Ad U U U (Aj U fun σ' hs=>Ar U (.no U) (Ag hs U) (.tm (hs.slots _ _ U))) ?_;refine Ad U U U (Aj U fun σ' hs=>Ar U (by exact .not1 U U (hs.slots _ _ U) (by rw [hs.n];rfl)) (Ag hs U) (.tmp (hs.slots _ _ U) (by exact fun _=>rfl))) ?_;refine Ad U U U (Aj U fun σ' hs=>R_gt U (by exact .not1 U U (hs.slots _ _ U) (by rw [hs.n];rfl)) (Ag hs U) (.tmp (hs.slots _ _ U) (by exact id)) (.const U)) ?_;refine Ad U U U (Aj U fun σ' hs=>Ar U (by exact .not1 U U (hs.slots _ _ U) (by rw [hs.n];rfl)) (Ag hs U) (.tmp (hs.slots _ _ U) (by exact id))) ?_;refine Ad U U U (Aj U fun σ' hs=>(by exact Ao U (by exact .yes U U (hs.slots _ _ U) (by rw [hs.n];rfl)) (Ag hs U) (.tmp (hs.slots _ _ U) (by exact fun _=>rfl)) Ct)) ?_
     refine Ad U U U (Aj U fun σ' hs=>(by exact Ap U (by exact .yes U U (hs.slots _ _ U) (by rw [hs.n];rfl)) (Ag hs U) (.tmp (hs.slots _ _ U) (by exact id)) ty43 U U)) ?_;refine Ad U U U (Aj U fun σ' hs=>Ar U (by exact .yes U U (hs.slots _ _ U) (by rw [hs.n];rfl)) (Ag hs U) (.tmp (hs.slots _ _ U) (by exact fun _=>rfl))) ?_;refine Ad U U U (Aj U fun σ' hs=>Co U (by exact .yes U U (hs.slots _ _ U) (by rw [hs.n];rfl)) (Ag hs U) (.tmp (hs.slots _ _ U) (by exact id)) (.const U) (fun hq=>by first|omega|(simp at hq;omega))) ?_;refine Ad U U U (Aj U fun σ' hs=>(by exact Aw U (by exact .yes U U (hs.slots _ _ U) (by rw [hs.n];rfl)) (Ag hs U) (.tmp (hs.slots _ _ U) (by exact id)) (.tmp (hs.slots _ _ U) (by exact id)) Tryz.underlying43 C3 (fun hq=>by simp at hq;exact⟨by omega,Ax (getD_pred (l:=g.Edges) (d:=dE) (by omega) (by omega))⟩))) ?_
     refine Ad U U U (Aj U fun σ' hs=>(by exact Ao U (by exact .yes U U (hs.slots _ _ U) (by rw [hs.n];rfl)) (Ag hs U) (.tmp (hs.slots _ _ U) (by exact id)) De)) ?_;refine Ad U U U (Aj U fun σ' hs=>(by exact Ap U (by exact .yes U U (hs.slots _ _ U) (by rw [hs.n];rfl)) (Ag hs U) (.tmp (hs.slots _ _ U) (by exact id)) ty3 U U)) ?_;refine Ad U U U (Aj U fun σ' hs=>(by exact Ao U (by exact .yes U U (hs.slots _ _ U) (by rw [hs.n];rfl)) (Ag hs U) (.tmp (hs.slots _ _ U) (by exact fun _=>rfl)) Ct)) ?_;refine Ad U U U (Aj U fun σ' hs=>(by exact Ap U (by exact .yes U U (hs.slots _ _ U) (by rw [hs.n];rfl)) (Ag hs U) (.tmp (hs.slots _ _ U) (by exact id)) ty43 U U)) ?_;refine Ad U U U (Aj U fun σ' hs=>Ar U (by exact .yes U U (hs.slots _ _ U) (by rw [hs.n];rfl)) (Ag hs U) (.tmp (hs.slots _ _ U) (by exact fun _=>rfl))) ?_
     refine Ad U U U (Aj U fun σ' hs=>(by exact Aw U (by exact .yes U U (hs.slots _ _ U) (by rw [hs.n];rfl)) (Ag hs U) (.tmp (hs.slots _ _ U) (by exact id)) (.tmp (hs.slots _ _ U) (by exact id)) Tryz.underlying43 C3 (fun hq=>by (try simp at hq);exact⟨by omega,(by exact Ax (by assumption))⟩))) ?_;refine Ad U U U (Aj U fun σ' hs=>(by exact Ao U (by exact .yes U U (hs.slots _ _ U) (by rw [hs.n];rfl)) (Ag hs U) (.tmp (hs.slots _ _ U) (by exact id)) De)) ?_;refine Ad U U U (Aj U fun σ' hs=>(by exact Ap U (by exact .yes U U (hs.slots _ _ U) (by rw [hs.n];rfl)) (Ag hs U) (.tmp (hs.slots _ _ U) (by exact id)) ty3 U U)) ?_;refine Ad U U U (Aj U fun σ' hs=>R_ge U (by exact .yes U U (hs.slots _ _ U) (by rw [hs.n];rfl)) (Ag hs U) (.tmp (hs.slots _ _ U) (by exact id)) (.tmp (hs.slots _ _ U) (by exact id))) ?_
     refine Ad U U U (Aj U fun σ' hs=>Cf U (by exact .not1 U U (hs.slots _ _ U) (by rw [hs.n];rfl)) (Ag hs U) (.tmp (hs.slots _ _ U) (by exact id)) (.tmp (hs.slots _ _ U) (by exact id))) ?_;refine Ad U U U (Aj U fun σ' hs=>R_or U (.no U) (Ag hs U) (.tm (hs.slots _ _ U)) (.tmp (hs.slots _ _ U) (by exact id))) ?_;refine Bx U U ?_;refine Aa (Aq (.tm U) (fun h53=>?_) (fun h53=>?_))
     · try simp at h53
       refine Af (A4 (σ':=⟨_,[(1,_),(4,_)],[]⟩) (An U ⟨U,U,Y⟩ trivial) ?_);refine Ae (Av ?_);refine Aa (A3 (Bn U U ?_))
       unfold validG;rw [range_not hlt1 (by simp only [edgeAt,hx1];grind)];simp
     · try simp at h53
       refine As (A4 (σ':=⟨_,[(1,_),(4,_)],[]⟩) (An U ⟨U,U,Y⟩ trivial) ?_);refine Ae (Ac ?_);refine Ab (Be U (.no U) U (.tm U) (.const U) (fun _=>by omega)) U ?_;refine Ak ?_;refine Aa ?_;refine Round.next (k1+1) ⟨by omega,range_succ hk1.2 (by simp only [edgeAt,hx1];grind)⟩ (by omega) (An rfl ⟨rfl,rfl,Y⟩ trivial)
   · try simp at hlt1
     refine Bf (Ah (Ab (Ao U (.no U) U (.tm U) Ck) U ?_));refine Ab (Ap U (.no U) U (.tm U) By U U) U ?_;refine Ab (Bd U (.no U) U (.tm U) (by exact .t) Tryz.underlying40) U ?_;refine Ab (A6 (FnT.fr (specl1In _ _ _)) U (.no U) U (.cons (.tm U) U (.cons (.const U) U (.cons (.const U) U .nil)))) U ?_;refine Ac ?_;refine Ab (Ao U (by exact .yes1 U U U U) U (.tmp U (by exact fun _=>rfl)) Ct) U ?_;refine Ab (Ap U (by exact .yes1 U U U U) U (.tmp U (by exact id)) ty43 U U) U ?_;refine Ab (Bd U (by exact .yes1 U U U U) U (.tmp U (by exact id)) (by exact .t) Tryz.underlying43) U ?_;refine Ab (R_le U (by exact .yes1 U U U U) U (.tmp U (by exact id)) (.const U)) U ?_;refine Ab (Cf U (.no U) U (.tm U) (.tmp U (by exact id))) U ?_;refine Ak ?_;refine Aa (A3 (Bn U U ?_))
     unfold validG;rw [each_all hk.2 (by omega),range_all hk1.2 (by omega)];simp;grind
theorem implIsValidGraph (g:TGraph):FnT Tryz.prog 148 [.agg (cGraph g)] (.a (.one (.v (.bool (validG g))))):=by
 refine Ba Tryz.func148 U (by kernel_rfl) Tryz.ntmps148 U fun hlen w0=>?_
 try simp [cEdge,cGraph] at hlen
 skip
 refine Ah (Ab (Bm U U U (.tm U) (ts:=_) (by rfl)) U ?_);refine Av ?_;refine Aa (Ah (Ab (Ao U (.no U) U (.tm U) Ck) U ?_));refine Ab (Ap U (.no U) U (.tm U) By U U) U ?_;refine Ab (Bd U (.no U) U (.tm U) (by exact .t) Tryz.underlying40) U ?_;refine Ak ?_;refine Aa (Af (Ah (Ab (Ao U (.no U) U (.tm U) Ck) U ?_)));refine Ab (Ap U (.no U) U (.tm U) By U U) U ?_;refine Ab (Bd U (.no U) U (.tm U) (by exact .t) Tryz.underlying40) U ?_;refine Ab (Ar U (.no U) U (.const U)) U ?_;refine Aa (AW.block (Cr (β:=Nat) (fun x=>x≤(g.Values).length∧∀ j y,j<x→(g.Values)[j]?=some y→(fun v=>inB v 0 2) y=true) (fun x=>⟨_,[(14,(true,.a (.one (.t (.v (.int .i64 (x:Nat))))))),(1,_),(3,_),(12,_),(13,_)],[]⟩) (fun x=>(g.Values).length-x) (0) ⟨Nat.zero_le _,fun j y hj=>absurd hj (Nat.not_lt_zero j)⟩ (An U ⟨U,U,U,U,U,Y⟩ trivial) ?_));intro k hk;refine Ah (Ab (Bz U (.no U) U (.tm U) (.tm U)) U ?_)
 refine Aa (Af (Aq (.tm U) (fun hlt=>?_) (fun hlt=>?_)))
 · try simp at hlt
   obtain⟨x,hx⟩:∃ ξ,(g.Values)[k]?=some ξ:=⟨_,List.getElem?_eq_getElem (by exact hlt)⟩
   refine As (Af (AW.block (Ah (Ab ((Aw U (.no U) U (.tm U) (.tm U) Tryz.underlying40 ty3 (fun _=>⟨by omega,(by exact Ax (by assumption))⟩))) U ?_))));refine Ab (Ap U (.no U) U (.tm U) ty3 U U) U ?_;refine Ak ?_;refine Aa (Ah (Ac ?_));refine Ab (A6 (FnT.fr (implwithin _ _ _)) U (.no U) U (.cons (.tm U) U (.cons (.const U) U (.cons (.const U) U .nil)))) U ?_;refine Ab (Cq U (.no U) U (.tm U)) U ?_;refine Aa (Aq (.tm U) (fun h20=>?_) (fun h20=>?_))
   · try simp at h20
     refine Af (A4 (σ':=⟨_,[(1,_),(3,_),(5,_),(12,_),(13,_),(14,_)],[]⟩) (An U ⟨U,U,U,U,U,U,Y⟩ trivial) ?_);refine Ae (Av ?_);refine Aa (A3 (Bn U U ?_))
     unfold validG;rw [not_all hx h20];rfl
   · try simp at h20
     refine As (A4 (σ':=⟨_,[(1,_),(3,_),(5,_),(12,_),(13,_),(14,_)],[]⟩) (An U ⟨U,U,U,U,U,U,Y⟩ trivial) ?_);refine Ae (Ab (Be U (.no U) U (.tm U) (.const U) (fun _=>by omega)) U ?_);refine Ac ?_;refine Aa ?_;refine Round.next (k+1) ⟨by omega,each_succ hk.2 hx (h20)⟩ (by omega) (An rfl ⟨rfl,rfl,rfl,rfl,rfl,Y⟩ trivial)
 · try simp at hlt
   refine Bf (Af (Ah (Ab (Ao U (.no U) U (.tm U) Ct) U ?_)));refine Ab (Ap U (.no U) U (.tm U) ty43 U U) U ?_;refine Ab (Bd U (.no U) U (.tm U) (by exact .t) Tryz.underlying43) U ?_;refine Ab (Ar U (.no U) U (.const U)) U ?_;refine Aa (AW.block (Cr (β:=Nat) (fun x=>x≤g.Edges.length∧∀ j,j<x→edgeAt g.Edges g.Values.length j=true) (fun x=>⟨_,[(25,(true,.a (.one (.t (.v (.int .i64 (x:Nat))))))),(1,_),(3,_),(23,_),(24,_)],[]⟩) (fun x=>g.Edges.length-x) (0) ⟨Nat.zero_le _,fun j hj=>absurd hj (Nat.not_lt_zero j)⟩ (An U ⟨U,U,U,U,U,Y⟩ trivial) ?_));intro k1 hk1;refine Ah (Ab (Bz U (.no U) U (.tm U) (.tm U)) U ?_);refine Aa (Af (Aq (.tm U) (fun hlt1=>?_) (fun hlt1=>?_)))
   · try simp at hlt1
     obtain⟨x1,hx1⟩:∃ x1,g.Edges[k1]?=some x1:=⟨_,List.getElem?_eq_getElem hlt1⟩
     refine As (Af (AW.block (Ah (Ac ?_))));refine Ab ((Aw U (.no U) U (.tm U) (.tm U) Tryz.underlying43 C3 (fun _=>⟨by omega,(by exact Ax (by assumption))⟩))) U ?_;refine Ab (Ap U (.no U) U (.tm U) C3 U U) U ?_;refine Bh (Bl 7 U U U in201 U U U) U ?_;refine Ak ?_;refine A5 (Au U U U (.tm U) (.tm U) U C3 U U U (by kernel_rfl) U) ?_;refine Aa (Af (B9 20 (nthB [[],[],[0,1],[0,1,2],[0,1,2,3],[0,1,2,3,4],[0,1,2,3,4,5],[0,1,2,3,4,5,6],[0,1,2,3,4,5,6,7],[0,1,2,3,4,5,6,7,8],[0,1,2,3,4,5,6,7],[0,1,2,3,4,5,6,7,10],[0,1,2,3,4,5,6,7,8,9,10,11],[0,1,2,3,4,5,6,7,8,9,10,11,12],[0,1,2,3,4,5,6,7,8,9,10,11,12,13],[0,1,2,3,4,5,6,7],[0,1,2,3,4,5,6,7,15],[0,1,2,3,4,5,6,7,8,9,10,11,12,13,14,15,16],[0,1,2,3,4,5,6,7,8,9,10,11,12,13,14,15,16,17],[0,1,2,3,4,5,6,7,8,9,10,11,12,13,14,15,16,17,18]]) (by kernel_rfl) (by kernel_rfl) (by kernel_rfl) ?_))
     refine Ad U U U (Aj U fun σ' hs=>(by exact Al U (.no U) (Ag hs U) (.tm (hs.slots _ _ U)) (hs.res _ _ U) C3 U U)) ?_;refine Ad U U U (Aj U fun σ' hs=>Ar U (.no U) (Ag hs U) (.tm (hs.slots _ _ U))) ?_;refine Ad U U U (Aj U fun σ' hs=>A6 (FnT.fr (impledgeOk _ _ (by omega) (by omega))) U (.no U) (Ag hs U) (.cons (.tm (hs.slots _ _ U)) (readA_sup hs U) (.cons (.tm (hs.slots _ _ U)) (readA_sup hs U) .nil))) ?_;refine Ad U U U (Aj U fun σ' hs=>Cq U (.no U) (Ag hs U) (.tm (hs.slots _ _ U))) ?_;refine Ad U U U (Aj U fun σ' hs=>Ar U (.no U) (Ag hs U) (.tm (hs.slots _ _ U))) ?_;refine Ad U U U (Aj U fun σ' hs=>Ar U (by exact .not1 U U (hs.slots _ _ U) (by rw [hs.n];rfl)) (Ag hs U) (.tmp (hs.slots _ _ U) (by exact fun _=>rfl))) ?_;refine Ad U U U (Aj U fun σ' hs=>R_gt U (by exact .not1 U U (hs.slots _ _ U) (by rw [hs.n];rfl)) (Ag hs U) (.tmp (hs.slots _ _ U) (by exact id)) (.const U)) ?_
     refine Ad U U U (Aj U fun σ' hs=>Ar U (by exact .not1 U U (hs.slots _ _ U) (by rw [hs.n];rfl)) (Ag hs U) (.tmp (hs.slots _ _ U) (by exact id))) ?_;refine Ad U U U (Aj U fun σ' hs=>(by exact Ao U (by exact .yes U U (hs.slots _ _ U) (by rw [hs.n];rfl)) (Ag hs U) (.tmp (hs.slots _ _ U) (by exact fun _=>rfl)) Ct)) ?_;refine Ad U U U (Aj U fun σ' hs=>(by exact Ap U (by exact .yes U U (hs.slots _ _ U) (by rw [hs.n];rfl)) (Ag hs U) (.tmp (hs.slots _ _ U) (by exact id)) ty43 U U)) ?_;refine Ad U U U (Aj U fun σ' hs=>Ar U (by exact .yes U U (hs.slots _ _ U) (by rw [hs.n];rfl)) (Ag hs U) (.tmp (hs.slots _ _ U) (by exact fun _=>rfl))) ?_;refine Ad U U U (Aj U fun σ' hs=>Co U (by exact .yes U U (hs.slots _ _ U) (by rw [hs.n];rfl)) (Ag hs U) (.tmp (hs.slots _ _ U) (by exact id)) (.const U) (fun hq=>by first|omega|(simp at hq;omega))) ?_
     refine Ad U U U (Aj U fun σ' hs=>(by exact Aw U (by exact .yes U U (hs.slots _ _ U) (by rw [hs.n];rfl)) (Ag hs U) (.tmp (hs.slots _ _ U) (by exact id)) (.tmp (hs.slots _ _ U) (by exact id)) Tryz.underlying43 C3 (fun hq=>by simp at hq;exact⟨by omega,Ax (getD_pred (l:=g.Edges) (d:=dE) (by omega) (by omega))⟩))) ?_;refine Ad U U U (Aj U fun σ' hs=>(by exact Ao U (by exact .yes U U (hs.slots _ _ U) (by rw [hs.n];rfl)) (Ag hs U) (.tmp (hs.slots _ _ U) (by exact id)) De)) ?_;refine Ad U U U (Aj U fun σ' hs=>(by exact Ap U (by exact .yes U U (hs.slots _ _ U) (by rw [hs.n];rfl)) (Ag hs U) (.tmp (hs.slots _ _ U) (by exact id)) ty3 U U)) ?_;refine Ad U U U (Aj U fun σ' hs=>(by exact Am U (by exact .yes U U (hs.slots _ _ U) (by rw [hs.n];rfl)) (Ag hs U) (.tmp (hs.slots _ _ U) (by exact fun _=>rfl)) De)) ?_
     refine Ad U U U (Aj U fun σ' hs=>(by exact Al U (by exact .yes U U (hs.slots _ _ U) (by rw [hs.n];rfl)) (Ag hs U) (.tmp (hs.slots _ _ U) (by exact id)) (hs.res _ _ U) ty3 U U)) ?_;refine Ad U U U (Aj U fun σ' hs=>R_ge U (by exact .yes U U (hs.slots _ _ U) (by rw [hs.n];rfl)) (Ag hs U) (.tmp (hs.slots _ _ U) (by exact id)) (.tmp (hs.slots _ _ U) (by exact id))) ?_;refine Ad U U U (Aj U fun σ' hs=>Cf U (by exact .not1 U U (hs.slots _ _ U) (by rw [hs.n];rfl)) (Ag hs U) (.tmp (hs.slots _ _ U) (by exact id)) (.tmp (hs.slots _ _ U) (by exact id))) ?_;refine Ad U U U (Aj U fun σ' hs=>R_or U (.no U) (Ag hs U) (.tm (hs.slots _ _ U)) (.tmp (hs.slots _ _ U) (by exact id))) ?_;refine Bx U U ?_;refine Aa (Aq (.tm U) (fun h49=>?_) (fun h49=>?_))
     · try simp at h49
       refine Af (A4 (σ':=⟨_,[(1,_),(3,_),(6,_),(7,_),(23,_),(24,_),(25,_)],[(7,_)]⟩) Ai ?_);refine Ae (Av ?_);refine Aa (A3 (Bn U U ?_))
       unfold validG;rw [range_not hlt1 (by simp only [edgeAt,hx1];grind)];simp
     · try simp at h49
       refine As (A4 (σ':=⟨_,[(1,_),(3,_),(6,_),(7,_),(23,_),(24,_),(25,_)],[(7,_)]⟩) Ai ?_);refine Ae (Ab (Be U (.no U) U (.tm U) (.const U) (fun _=>by omega)) U ?_);refine Ac ?_;refine Aa ?_;refine Round.next (k1+1) ⟨by omega,range_succ hk1.2 (by simp only [edgeAt,hx1];grind)⟩ (by omega) (An rfl ⟨rfl,rfl,rfl,rfl,rfl,Y⟩ trivial)
   · try simp at hlt1
     refine Bf (Ah (Ac ?_));refine Ab (A6 (FnT.fr (implwithin _ _ _)) U (.no U) U (.cons (.tm U) U (.cons (.const U) U (.cons (.const U) U .nil)))) U ?_;refine Ac ?_;refine Ab (Ao U (by exact .yes1 U U U U) U (.tmp U (by exact fun _=>rfl)) Ct) U ?_;refine Ab (Ap U (by exact .yes1 U U U U) U (.tmp U (by exact id)) ty43 U U) U ?_;refine Ab (Bd U (by exact .yes1 U U U U) U (.tmp U (by exact id)) (by exact .t) Tryz.underlying43) U ?_;refine Ab (R_le U (by exact .yes1 U U U U) U (.tmp U (by exact id)) (.const U)) U ?_;refine Ab (Cf U (.no U) U (.tm U) (.tmp U (by exact id))) U ?_;refine Ak ?_;refine Aa (A3 (Bn U U ?_))
     unfold validG;rw [each_all hk.2 (by omega),range_all hk1.2 (by omega)];simp;grind
end Go.Proofs.YtbecibmlbiebeaaGreat
namespace Go.Q
open Go.D
def reads (e:TEdge) (b:Bool):Int:=if b then 2*e.Label+1 else 2*e.Label
end Go.Q
namespace Go.Proofs.YtbecibmlbiebeaaGreat
open Go.RowKit Go.Q Go.D
theorem implreads (e:TEdge) (b:Bool) (h:0≤e.Label∧e.Label≤2):FnT Tryz.prog 210 [.agg (cEdge e),.one (.v (.bool b))] (.a (.one (.v (.int .i64 (reads e b))))):=by
 refine Ba Tryz.func210 U (by kernel_rfl) Tryz.ntmps210 U fun hlen w0=>?_
 try simp [cEdge,cGraph] at hlen
 refine Ah (Ab (Bm U U U (.tm U) (ts:=_) (by rfl)) U ?_);refine Av ?_;refine Aa (Af (Ah (Ac ?_)));refine Aa (Aq (.tm U) (fun h5=>?_) (fun h5=>?_))
 · try simp at h5
   refine Ah (Ab (Ao U (.no U) U (.tm U) fl201_3) U ?_);refine Ab (Ap U (.no U) U (.tm U) ty3 U U) U ?_;refine Ab (Dd U (.no U) U (.const U) (.tm U) (fun _=>by omega)) U ?_;refine Ab (Be U (.no U) U (.tm U) (.const U) (fun _=>by omega)) U ?_;refine Ak ?_;refine Aa (A3 (Bn U U ?_))
   simp [reads,h5]
 · try simp at h5
   refine As (Ah (Ab (Ao U (.no U) U (.tm U) fl201_3) U ?_));refine Ab (Ap U (.no U) U (.tm U) ty3 U U) U ?_;refine Ab (Dd U (.no U) U (.const U) (.tm U) (fun _=>by omega)) U ?_;refine Ak ?_;refine Aa (A3 (Bn U U ?_))
   simp [reads,h5]
end Go.Proofs.YtbecibmlbiebeaaGreat
namespace Go.Q
open Go.D
end Go.Q
namespace Go.Proofs.YtbecibmlbiebeaaGreat
open Go.RowKit Go.Q Go.D
end Go.Proofs.YtbecibmlbiebeaaGreat
