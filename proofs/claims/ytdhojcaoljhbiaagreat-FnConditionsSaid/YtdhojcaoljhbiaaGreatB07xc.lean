import Derived.Test.YtdhojcaoljhbiaaGreatB08xc
import Derived.Test.YtdhojcaoljhbiaaGreatAbsHxc
set_option linter.unusedVariables false
set_option linter.unusedSimpArgs false
set_option maxRecDepth 100000
set_option maxHeartbeats 1000000
open Go.Proofs.Tryz renaming underlying40->Z9,underlying43->ZA,prog->ZB,underlying52->ZD,func164->ZL,ntmps164->ZM,func157->ZN,ntmps157->ZO,func165->ZP,ntmps165->ZQ,func182->ZR,ntmps182->ZS,func176->ZT,ntmps176->ZU,func118->ZV,ntmps118->ZW,func107->ZX,ntmps107->ZY,func170->ZZ,ntmps170->Aaa,func158->Aab,ntmps158->Aac,func132->Aad,ntmps132->Aae,func133->Aaf,ntmps133->Aag,func134->Aah,ntmps134->Aai,func72->Aaj,ntmps72->Aak,func131->Aal,ntmps131->Aam,func129->Aan,ntmps129->Aao
open List renaming getElem?_eq_getElem->ZC,range->ZH,mem_range->ZI,all_eq_true->ZJ,drop_eq_nil_of_le->ZK
open Nat renaming zero_le->ZE,not_lt_zero->ZF
open Bool renaming and_eq_true->ZG
namespace Go.Q
open Go.D
def dE:DL:=⟨0,0,0,0⟩
def KC (e:DL) (n:Int):Bool:=inB e.ID 1 99&&inB e.From 0 (n-1)&&inB e.To 0 (n-1)&&inB e.Label 0 2
def Hx (l:List DL) (n:Int) (k:Nat):Bool:=match l[k]? with
 | some e=>KC e n&&!(decide (0<k)&&decide (e.ID≤(l[k-1]?.getD dE).ID))
 | none=>true
def AI (g:AC):Bool:=(g.Values.all fun v=>inB v 0 2)&&((ZH g.Edges.length).all fun k=>Hx g.Edges g.Values.length k)&&(inB g.Values.length 1 5&&decide (g.Edges.length≤12))
def CG (g:AC) (id:Int):Int:=GQ (fun e=>decide (e.ID=id)) g.Edges 0
def CX (g:AC) (s:DK):DL×Bool:=if AI g then (match g.Edges[(CG g s.Edge).toNat]? with|some e=>if 0≤CG g s.Edge then (e,true) else (dE,false)|none=>(dE,false)) else (dE,false)
theorem Ko {g:AC} {id:Int} (h:0≤CG g id):∃ k x,g.Edges[k]?=some x∧CG g id=((k:Nat):Int):=by
 rcases Oe (p:=fun e:DL=>decide (e.ID=id)) (l:=g.Edges) (m:=0) with h1|⟨k,x,h1,_,h3⟩
 · unfold CG at h;omega
 exact⟨k,x,h1,by unfold CG;rw [h3];simp⟩
theorem Mk {g:AC} {s:DK} (h:AI g=false∨CG g s.Edge<0):CX g s=(dE,false):=by
 unfold CX
 rcases h with h|h
 · rw [h];rfl
 split
 · split
   · rw [if_neg (by omega)]
   rfl
 rfl
theorem Fz {g:AC} {s:DK} {k:Nat} {x:DL} (hv:AI g=true) (hx:g.Edges[k]?=some x) (hk:CG g s.Edge=(k:Int)):CX g s=(x,true):=by
 unfold CX
 rw [hv,hk]
 simp [hx]
theorem Pg {p:Nat→Bool} {n k:Nat} (h:∀ j,j<k→p j=true) (hk:n≤k):(ZH n).all p=true:=by
 rw [ZJ]
 intro j hj;exact h j (by have:=ZI.1 hj;omega)
theorem Pe {p:Nat→Bool} {n k:Nat} (hk:k<n) (hp:p k=false):(ZH n).all p=false:=by
 rw [List.all_eq_false]
 exact⟨k,ZI.2 hk,by rw [hp];simp⟩
theorem range_succ {p:Nat→Bool} {k:Nat} (h:∀ j,j<k→p j=true) (hp:p k=true):∀ j,j<k+1→p j=true:=fun j hj=>by
 rcases Nat.lt_or_eq_of_le (Nat.le_of_lt_succ hj) with h1|rfl
 · exact h j h1
 exact hp
theorem Pu {α:Type} {d:α} {l:List α} {k:Nat} (h:0<k) (hk:k≤l.length):l[((k:Int)-1).toNat]?=some (l[k-1]?.getD d):=by
 have e:((k:Int)-1).toNat=k-1:=by omega
 rw [e];exact FN (by omega)
open Go.RowKit
theorem Sy (g:AC) (e:DL):FnT ZB 164 [.agg (AG g),.agg (AP e)] (.a (.one (.v (.bool (KC e g.Values.length))))):=by
 refine A8 ZL U (by kernel_rfl) ZM U fun hlen w0=>?_
 try simp [AP,AG,BG,BO] at hlen
 skip
 refine Af (Ac (Bg U U U (.tm U) (ts:=_) (by rfl)) U ?_);refine Ac (Bg U U U (.tm U) (ts:=_) (by rfl)) U ?_;refine An ?_;refine Aa (Af (A7 Ci ?_));refine Aj Cc ?_;refine Bi (.t) Z9 ?_;refine C9 ?_;refine Ah ?_;refine Aa (Af (A7 D2 ?_));refine Aj ty3 ?_;refine By (DR _ _ _) ?_;refine Ab ?_;refine Eb FO ?_;refine Dy ty3 ?_;refine Cm ?_;refine Ac (Bc (FnT.fr (DR _ _ _)) U (by exact .yes1 U U U U) U (.cons (.tmp U (by exact id)) U (.cons (.const U) U (.cons (.tmp U (by exact id)) U .nil)))) U ?_;refine Cn ?_;refine Ab ?_;refine Eb F7 ?_;refine Dy ty3 ?_;refine Cm ?_;refine Ac (Bc (FnT.fr (DR _ _ _)) U (by exact .yes1 U U U U) U (.cons (.tmp U (by exact id)) U (.cons (.const U) U (.cons (.tmp U (by exact id)) U .nil)))) U ?_;refine Cn ?_;refine Ab ?_;refine Eb JL ?_;refine Dy ty3 ?_
 refine Ac (Bc (FnT.fr (DR _ _ _)) U (by exact .yes1 U U U U) U (.cons (.tmp U (by exact id)) U (.cons (.const U) U (.cons (.const U) U .nil)))) U ?_;refine Cn ?_;refine Ah ?_;refine Aa (Aq (Bl U U ?_))
 rfl
theorem SL (e:DL) (n:Int) (hn:-1000≤n) (hn':n≤9223372036854775807):FnT ZB 157 [.agg (AP e),.one (.v (.int .i64 n))] (.a (.one (.v (.bool (KC e n))))):=by
 refine A8 ZN U (by kernel_rfl) ZO U fun hlen w0=>?_
 try simp [AP,AG,BG,BO] at hlen
 refine Af (Ac (Bg U U U (.tm U) (ts:=_) (by rfl)) U ?_);refine An ?_;refine Aa (Af (A7 D2 ?_));refine Aj ty3 ?_;refine By (CR _ _ _) ?_;refine Ab ?_;refine Eb FO ?_;refine Dy ty3 ?_;refine Cm ?_;refine Ac (D8 U (by exact .yes1 U U U U) U (.tmp U (by exact id)) (.const U) fun _=>by omega) U ?_;refine Ac (Bc (FnT.fr (CR _ _ _)) U (by exact .yes1 U U U U) U (.cons (.tmp U (by exact id)) U (.cons (.const U) U (.cons (.tmp U (by exact id)) U .nil)))) U ?_;refine Cn ?_;refine Ab ?_;refine Eb F7 ?_;refine Dy ty3 ?_;refine Cm ?_;refine Ac (D8 U (by exact .yes1 U U U U) U (.tmp U (by exact id)) (.const U) fun _=>by omega) U ?_;refine Ac (Bc (FnT.fr (CR _ _ _)) U (by exact .yes1 U U U U) U (.cons (.tmp U (by exact id)) U (.cons (.const U) U (.cons (.tmp U (by exact id)) U .nil)))) U ?_;refine Cn ?_;refine Ab ?_;refine Eb JL ?_;refine Dy ty3 ?_
 refine Ac (Bc (FnT.fr (CR _ _ _)) U (by exact .yes1 U U U U) U (.cons (.tmp U (by exact id)) U (.cons (.const U) U (.cons (.const U) U .nil)))) U ?_;refine Cn ?_;refine Ah ?_;refine Aa (Aq (Bl U U ?_))
 rfl
theorem Ht (g:AC) (id:Int):FnT ZB 165 [.agg (AG g),.one (.v (.int .i64 id))] (.a (.one (.v (.int .i64 (CG g id))))):=by
 refine A8 ZP U (by kernel_rfl) ZQ U fun hlen w0=>?_
 try simp [AP,AG,BG,BO] at hlen
 skip
 refine Af (Ac (Bg U U U (.tm U) (ts:=_) (by rfl)) U ?_);refine An ?_;refine Aa (Ae (Af (An ?_)));refine Aa (AW.block (De (β:=Nat) (fun x=>x≤(g.Edges).length∧∀ j y,j<x→(g.Edges)[j]?=some y→(fun e=>!decide (e.ID=id)) y=true) (fun x=>⟨_,[(5,(true,.a (.one (.t (.v (.int .i64 (x:Nat))))))),(1,_),(2,_)],[]⟩) (fun x=>(g.Edges).length-x) (0) ⟨ZE _,fun j y hj=>absurd hj (ZF j)⟩ (Au U ⟨U,U,U,Y⟩ trivial) ?_));intro k hk;refine Ae (Af (Ab ?_));refine A7 Ct ?_;refine Aj D0 ?_;refine Bi (.t) ZA ?_;refine AWl.lt ?_;refine Aa (Ai (.tm U) (fun hlt=>?_) (fun hlt=>?_))
 · try simp at hlt
   obtain⟨x,hx⟩:∃ ξ,(g.Edges)[k]?=some ξ:=⟨_,ZC (by exact hlt)⟩
   refine Am (Ae (AW.block (Af (A7 Ct ?_))));refine Aj D0 ?_;refine Ab ?_;refine Ac ((Ak U (.no U) U (.tm U) (.tm U) ZA Cq (fun _=>⟨by omega,(by exact Ao (by assumption))⟩))) U ?_;refine A7 D2 ?_;refine Aj ty3 ?_;refine Ab ?_;refine AWl.eq ?_;refine Aa (Ai (.tm U) (fun h20=>?_) (fun h20=>?_))
   · try simp at h20
     refine Ae (As (Ay [1,2,5] []) ?_);refine Ad (Ab ?_);refine Ah ?_;refine Aa (Aq (Bl U U ?_))
     unfold CG;rw [Jo (k:=k) hk.2 hx (by simp [h20])];simp
   try simp at h20
   refine Am (As (Ay [1,2,5] []) ?_);refine Ad (Ab ?_);refine A9 ?_;refine Ah ?_;refine Aa ?_;refine EX.next (k+1) ⟨by omega,DN hk.2 hx (by simp [h20])⟩ (by omega) (Au rfl ⟨rfl,rfl,rfl,Y⟩ trivial)
 try simp at hlt
 refine Bf (Af (An ?_));refine Aa (Aq (Bl U U ?_))
 unfold CG;rw [It hk.2 (by omega)]
theorem NZ (e:DL) (id:Int):FnT ZB 182 [.agg (AP e),.one (.ad [.v (.int .i64 id)])] (.a (.one (.v (.bool (decide (e.ID=id)))))):=by
 refine A8 ZR U (by kernel_rfl) ZS U fun hlen w0=>?_
 try simp [AP,AG,BG,BO] at hlen
 refine Af (Ac (Bg U U U (.tm U) (ts:=_) (by rfl)) U ?_);refine An ?_;refine Aa (Af (A7 D2 ?_));refine Aj ty3 ?_;refine Aj ty3 ?_;refine AWl.eq ?_;refine Ah ?_;refine Aa (Aq (Bl U U ?_))
 rfl
theorem OG (g:AC) (id:Int):FnT ZB 176 [.agg (AG g),.one (.v (.int .i64 id))] (.a (.one (.v (.int .i64 (CG g id))))):=by
 refine A8 ZT U (by kernel_rfl) ZU U fun hlen w0=>?_
 try simp [AP,AG,BG,BO] at hlen
 refine Af (Ac (Bg U U U (.tm U) (ts:=_) (by rfl)) U ?_);refine Ac (Bg U U U (.tm U) (ts:=_) (by exact RI _)) U ?_;refine An ?_;refine Aa (Af (A7 Ct ?_));refine Aj D0 ?_;refine Ac (Cb U (.no U) U (.cons (.tm U) .nil)) U ?_;refine By (OM _ _ _ _ fun e=>(NZ e id).fr) ?_;refine Ah ?_;refine Aa (Aq (Bl U U ?_))
 rfl
theorem H2 (g:AC):FnT ZB 118 [.agg (AG g)] (.a (.one (.v (.bool (AI g))))):=by
 refine A8 ZV U (by kernel_rfl) ZW U fun hlen w0=>?_
 try simp [AP,AG,BG,BO] at hlen
 skip
 refine Af (Ac (Bg U U U (.tm U) (ts:=_) (by rfl)) U ?_);refine An ?_;refine Aa (Ae (Af (An ?_)));refine Aa (AW.block (De (β:=Nat) (fun x=>x≤(g.Values).length∧∀ j y,j<x→(g.Values)[j]?=some y→(fun v=>inB v 0 2) y=true) (fun x=>⟨_,[(3,(true,.a (.one (.t (.v (.int .i64 (x:Nat))))))),(1,_)],[]⟩) (fun x=>(g.Values).length-x) (0) ⟨ZE _,fun j y hj=>absurd hj (ZF j)⟩ (Au U ⟨U,U,Y⟩ trivial) ?_));intro k hk;refine Ae (Af (Ab ?_));refine A7 Ci ?_;refine Aj Cc ?_;refine Bi (.t) Z9 ?_;refine AWl.lt ?_;refine Aa (Ai (.tm U) (fun hlt=>?_) (fun hlt=>?_))
 · try simp at hlt
   obtain⟨x,hx⟩:∃ ξ,(g.Values)[k]?=some ξ:=⟨_,ZC (by exact hlt)⟩
   refine Am (Ae (AW.block (Af (A7 Ci ?_))));refine Aj Cc ?_;refine Ab ?_;refine Ac ((Ak U (.no U) U (.tm U) (.tm U) Z9 ty3 (fun _=>⟨by omega,(by exact Ao (by assumption))⟩))) U ?_;refine Aj ty3 ?_;refine By (DR _ _ _) ?_;refine Cy ?_;refine Aa (Ai (.tm U) (fun h18=>?_) (fun h18=>?_))
   · try simp at h18
     refine Ae (As (Ay [1,3] []) ?_);refine Ad (An ?_);refine Aa (Aq (Bl U U ?_))
     unfold AI;rw [Gq hx h18];rfl
   try simp at h18
   refine Am (As (Ay [1,3] []) ?_);refine Ad (Ab ?_);refine A9 ?_;refine Ah ?_;refine Aa ?_;refine EX.next (k+1) ⟨by omega,DN hk.2 hx (h18)⟩ (by omega) (Au rfl ⟨rfl,rfl,Y⟩ trivial)
 try simp at hlt
 refine Bf (Ae (Af (An ?_)));refine Aa (AW.block (De (β:=Nat) (fun x=>x≤g.Edges.length∧∀ j,j<x→Hx g.Edges g.Values.length j=true) (fun x=>⟨_,[(4,(true,.a (.one (.t (.v (.int .i64 (x:Nat))))))),(1,_)],[]⟩) (fun x=>g.Edges.length-x) (0) ⟨ZE _,fun j hj=>absurd hj (ZF j)⟩ (Au U ⟨U,U,Y⟩ trivial) ?_));intro k1 hk1;refine Ae (Af (Ab ?_));refine A7 Ct ?_;refine Aj D0 ?_;refine Bi (.t) ZA ?_;refine AWl.lt ?_;refine Aa (Ai (.tm U) (fun hlt1=>?_) (fun hlt1=>?_))
 · try simp at hlt1
   obtain⟨x1,hx1⟩:∃ x1,g.Edges[k1]?=some x1:=⟨_,ZC hlt1⟩
   refine Am (Ae (AW.block (Ae (Bx 28 (DM [[],[],[1],[],[1,2,3],[1,2,3,4],[0,1,2,3,4,5],[0,1,2,3,4,5,6],[0,1,2,3,4,5,6,7],[0,1,2,3,4,5,6,7,8],[0,1,2,3,4,5,6,7,8,9],[0,1,2,3,4,5,6,7,8,9,10],[0,1,2,3,4,5,6,7,8,9,10,11],[0,1,2,3,4,5,6,7,8,9,10,11,12],[0,1,2,3,4,5,6,7,8,9,10,11],[0,1,2,3,4,5,6,7,8,9,10,11,14],[0,1,2,3,4,5,6,7,8,9,10,11,12,13,14,15],[0,1,2,3,4,5,6,7,8,9,10,11,12,13,14,15,16],[0,1,2,3,4,5,6,7,8,9,10,11,12,13,14,15,16,17],[0,1,2,3,4,5,6,7,8,9,10,11],[0,1,2,3,4,5,6,7,8,9,10,11,19],[0,1,2,3,4,5,6,7,8,9,10,11],[0,1,2,3,4,5,6,7,8,9,10,11,19,20,21],[0,1,2,3,4,5,6,7,8,9,10,11,19,20,21,22],[0,1,2,3,4,5,6,7,8,9,10,11,19,20,21,22,23],[0,1,2,3,4,5,6,7,8,9,10,11,12,13,14,15,16,17,18,19,20,21,22,23,24],[0,1,2,3,4,5,6,7,8,9,10,11,12,13,14,15,16,17,18,19,20,21,22,23,24,25],[0,1,2,3,4,5,6,7,8,9,10,11,12,13,14,15,16,17,18,19,20,21,22,23,24,25,26]]) (by kernel_rfl) (by kernel_rfl) (by kernel_rfl) ?_))))
   refine A5 B7 ?_;refine Bz Ct ?_;refine A5 D0 ?_;refine Az ?_;refine AB.s (fun _ hs=>(by exact Ak U (.no U) (Ag hs U) (hs.tm U) (hs.tm U) ZA Cq (fun _=>⟨by omega,(by exact Ao (by assumption))⟩))) ?_;refine A5 Cq ?_;refine AB.s (fun _ hs=>Bc (FnT.fr (Sy _ _)) U (.no U) (Ag hs U) (.cons (hs.tm U) (AD hs U) (.cons (hs.tm U) (AD hs U) .nil))) ?_;refine AB.s (fun _ hs=>Du U (.no U) (Ag hs U) (hs.tm U)) ?_;refine Az ?_;refine AB.s (fun _ hs=>Bh U (by exact hs.n1) (Ag hs U) (hs.tm U)) ?_;refine AB.s (fun _ hs=>MO U (by exact hs.n1) (Ag hs U) (hs.ti U) (.const U)) ?_;refine AB.s (fun _ hs=>Bh U (by exact hs.n1) (Ag hs U) (hs.ti U)) ?_;refine AB.s (fun _ hs=>(by exact Bu U (by exact .yes U U (hs.slots _ _ U) (by rw [hs.n];rfl)) (Ag hs U) (hs.tm U) Ct)) ?_
   refine AB.s (fun _ hs=>(by exact Br U (by exact .yes U U (hs.slots _ _ U) (by rw [hs.n];rfl)) (Ag hs U) (hs.ti U) D0 U U)) ?_;refine AB.s (fun _ hs=>Bh U (by exact .yes U U (hs.slots _ _ U) (by rw [hs.n];rfl)) (Ag hs U) (hs.tm U)) ?_;refine AB.s (fun _ hs=>D8 U (by exact .yes U U (hs.slots _ _ U) (by rw [hs.n];rfl)) (Ag hs U) (hs.ti U) (.const U) (fun hq=>by first|omega|(simp at hq;omega))) ?_;refine AB.s (fun _ hs=>(by exact Ak U (by exact .yes U U (hs.slots _ _ U) (by rw [hs.n];rfl)) (Ag hs U) (hs.ti U) (hs.ti U) ZA Cq (fun hq=>by simp at hq;exact⟨by omega,Ao (Pu (l:=g.Edges) (d:=dE) (by omega) (by omega))⟩))) ?_;refine AB.s (fun _ hs=>(by exact Bu U (by exact .yes U U (hs.slots _ _ U) (by rw [hs.n];rfl)) (Ag hs U) (hs.ti U) D2)) ?_
   refine AB.s (fun _ hs=>(by exact Br U (by exact .yes U U (hs.slots _ _ U) (by rw [hs.n];rfl)) (Ag hs U) (hs.ti U) ty3 U U)) ?_;refine AB.s (fun _ hs=>(by exact Bu U (by exact .yes U U (hs.slots _ _ U) (by rw [hs.n];rfl)) (Ag hs U) (hs.tm U) Ct)) ?_;refine AB.s (fun _ hs=>(by exact Br U (by exact .yes U U (hs.slots _ _ U) (by rw [hs.n];rfl)) (Ag hs U) (hs.ti U) D0 U U)) ?_;refine AB.s (fun _ hs=>Bh U (by exact .yes U U (hs.slots _ _ U) (by rw [hs.n];rfl)) (Ag hs U) (hs.tm U)) ?_;refine AB.s (fun _ hs=>(by exact Ak U (by exact .yes U U (hs.slots _ _ U) (by rw [hs.n];rfl)) (Ag hs U) (hs.ti U) (hs.ti U) ZA Cq (fun hq=>by (try simp at hq);exact⟨by omega,(by exact Ao (by assumption))⟩))) ?_;refine AB.s (fun _ hs=>(by exact Bu U (by exact .yes U U (hs.slots _ _ U) (by rw [hs.n];rfl)) (Ag hs U) (hs.ti U) D2)) ?_
   refine AB.s (fun _ hs=>(by exact Br U (by exact .yes U U (hs.slots _ _ U) (by rw [hs.n];rfl)) (Ag hs U) (hs.ti U) ty3 U U)) ?_;refine AB.s (fun _ hs=>O0 U (by exact .yes U U (hs.slots _ _ U) (by rw [hs.n];rfl)) (Ag hs U) (hs.ti U) (hs.ti U)) ?_;refine AB.s (fun _ hs=>IJ U (by exact hs.n1) (Ag hs U) (hs.ti U) (hs.ti U)) ?_;refine AB.s (fun _ hs=>OK U (.no U) (Ag hs U) (hs.tm U) (hs.ti U)) ?_;refine Bs U U ?_;refine Aa (Ai (.tm U) (fun h53=>?_) (fun h53=>?_))
   · try simp at h53
     refine Ae (As (Ay [1,4] []) ?_);refine Ad (An ?_);refine Aa (Aq (Bl U U ?_))
     unfold AI;rw [Pe hlt1 (by simp only [Hx,hx1];grind)];simp
   try simp at h53
   refine Am (As (Ay [1,4] []) ?_);refine Ad (Ab ?_);refine A9 ?_;refine Ah ?_;refine Aa ?_;refine EX.next (k1+1) ⟨by omega,range_succ hk1.2 (by simp only [Hx,hx1];grind)⟩ (by omega) (Au rfl ⟨rfl,rfl,Y⟩ trivial)
 try simp at hlt1
 refine Bf (Af (A7 Ci ?_));refine Aj Cc ?_;refine Bi (.t) Z9 ?_;refine By (DR _ _ _) ?_;refine Ab ?_;refine Eb Ct ?_;refine Dy D0 ?_;refine Ac (Di U (by exact .yes1 U U U U) U (.tmp U (by exact id)) (by exact .t) ZA) U ?_;refine Ac (MN U (by exact .yes1 U U U U) U (.tmp U (by exact id)) (.const U)) U ?_;refine Cn ?_;refine Ah ?_;refine Aa (Aq (Bl U U ?_))
 unfold AI;rw [GS hk.2 (by omega),Pg hk1.2 (by omega)];simp;grind
theorem FG (g:AC):FnT ZB 107 [.agg (AG g)] (.a (.one (.v (.bool (AI g))))):=by
 refine A8 ZX U (by kernel_rfl) ZY U fun hlen w0=>?_
 try simp [AP,AG,BG,BO] at hlen
 skip
 refine Af (Ac (Bg U U U (.tm U) (ts:=_) (by rfl)) U ?_);refine An ?_;refine Aa (Af (A7 Ci ?_));refine Aj Cc ?_;refine Bi (.t) Z9 ?_;refine Ah ?_;refine Aa (Ae (Af (A7 Ci ?_)));refine Aj Cc ?_;refine Bi (.t) Z9 ?_;refine Ac (Bh U (.no U) U (.const U)) U ?_;refine Aa (AW.block (De (β:=Nat) (fun x=>x≤(g.Values).length∧∀ j y,j<x→(g.Values)[j]?=some y→(fun v=>inB v 0 2) y=true) (fun x=>⟨_,[(14,(true,.a (.one (.t (.v (.int .i64 (x:Nat))))))),(1,_),(3,_),(12,_),(13,_)],[]⟩) (fun x=>(g.Values).length-x) (0) ⟨ZE _,fun j y hj=>absurd hj (ZF j)⟩ (Au U ⟨U,U,U,U,U,Y⟩ trivial) ?_));intro k hk;refine Af (AWl.lt ?_);refine Aa (Ae (Ai (.tm U) (fun hlt=>?_) (fun hlt=>?_)))
 · try simp at hlt
   obtain⟨x,hx⟩:∃ ξ,(g.Values)[k]?=some ξ:=⟨_,ZC (by exact hlt)⟩
   refine Am (Ae (AW.block (Af (Ac ((Ak U (.no U) U (.tm U) (.tm U) Z9 ty3 (fun _=>⟨by omega,(by exact Ao (by assumption))⟩))) U ?_))));refine Aj ty3 ?_;refine Ah ?_;refine Aa (Af (Ab ?_));refine By (CR _ _ _) ?_;refine Cy ?_;refine Aa (Ai (.tm U) (fun h20=>?_) (fun h20=>?_))
   · try simp at h20
     refine Ae (As (Ay [1,3,5,12,13,14] []) ?_);refine Ad (An ?_);refine Aa (Aq (Bl U U ?_))
     unfold AI;rw [Gq hx h20];rfl
   try simp at h20
   refine Am (As (Ay [1,3,5,12,13,14] []) ?_);refine Ad (A9 ?_);refine Ab ?_;refine Aa ?_;refine EX.next (k+1) ⟨by omega,DN hk.2 hx (h20)⟩ (by omega) (Au rfl ⟨rfl,rfl,rfl,rfl,rfl,Y⟩ trivial)
 try simp at hlt
 refine Bf (Ae (Af (A7 Ct ?_)));refine Aj D0 ?_;refine Bi (.t) ZA ?_;refine Ac (Bh U (.no U) U (.const U)) U ?_;refine Aa (AW.block (De (β:=Nat) (fun x=>x≤g.Edges.length∧∀ j,j<x→Hx g.Edges g.Values.length j=true) (fun x=>⟨_,[(25,(true,.a (.one (.t (.v (.int .i64 (x:Nat))))))),(1,_),(3,_),(23,_),(24,_)],[]⟩) (fun x=>g.Edges.length-x) (0) ⟨ZE _,fun j hj=>absurd hj (ZF j)⟩ (Au U ⟨U,U,U,U,U,Y⟩ trivial) ?_));intro k1 hk1;refine Af (AWl.lt ?_);refine Aa (Ae (Ai (.tm U) (fun hlt1=>?_) (fun hlt1=>?_)))
 · try simp at hlt1
   obtain⟨x1,hx1⟩:∃ x1,g.Edges[k1]?=some x1:=⟨_,ZC hlt1⟩
   refine Am (Ae (AW.block (Af (Ab ?_))));refine Ac ((Ak U (.no U) U (.tm U) (.tm U) ZA Cq (fun _=>⟨by omega,(by exact Ao (by assumption))⟩))) U ?_;refine Aj Cq ?_;refine A6 (Bd 7 U U U HF U U U) U ?_;refine Ah ?_;refine A4 Cq ?_;refine Aa (Ae (Bx 20 (DM [[],[],[0,1],[0,1,2],[0,1,2,3],[0,1,2,3,4],[0,1,2,3,4,5],[0,1,2,3,4,5,6],[0,1,2,3,4,5,6,7],[0,1,2,3,4,5,6,7,8],[0,1,2,3,4,5,6,7],[0,1,2,3,4,5,6,7,10],[0,1,2,3,4,5,6,7,8,9,10,11],[0,1,2,3,4,5,6,7,8,9,10,11,12],[0,1,2,3,4,5,6,7,8,9,10,11,12,13],[0,1,2,3,4,5,6,7],[0,1,2,3,4,5,6,7,15],[0,1,2,3,4,5,6,7,8,9,10,11,12,13,14,15,16],[0,1,2,3,4,5,6,7,8,9,10,11,12,13,14,15,16,17],[0,1,2,3,4,5,6,7,8,9,10,11,12,13,14,15,16,17,18]]) (by kernel_rfl) (by kernel_rfl) (by kernel_rfl) ?_));refine AB.s (fun _ hs=>(by exact Be U (.no U) (Ag hs U) (hs.tm U) (hs.res _ _ U) Cq U U)) ?_;refine Az ?_
   refine AB.s (fun _ hs=>Bc (FnT.fr (SL _ _ (by omega) (by omega))) U (.no U) (Ag hs U) (.cons (hs.tm U) (AD hs U) (.cons (hs.tm U) (AD hs U) .nil))) ?_;refine AB.s (fun _ hs=>Du U (.no U) (Ag hs U) (hs.tm U)) ?_;refine Az ?_;refine AB.s (fun _ hs=>Bh U (by exact hs.n1) (Ag hs U) (hs.tm U)) ?_;refine AB.s (fun _ hs=>MO U (by exact hs.n1) (Ag hs U) (hs.ti U) (.const U)) ?_;refine AB.s (fun _ hs=>Bh U (by exact hs.n1) (Ag hs U) (hs.ti U)) ?_;refine AB.s (fun _ hs=>(by exact Bu U (by exact .yes U U (hs.slots _ _ U) (by rw [hs.n];rfl)) (Ag hs U) (hs.tm U) Ct)) ?_;refine AB.s (fun _ hs=>(by exact Br U (by exact .yes U U (hs.slots _ _ U) (by rw [hs.n];rfl)) (Ag hs U) (hs.ti U) D0 U U)) ?_;refine AB.s (fun _ hs=>Bh U (by exact .yes U U (hs.slots _ _ U) (by rw [hs.n];rfl)) (Ag hs U) (hs.tm U)) ?_
   refine AB.s (fun _ hs=>D8 U (by exact .yes U U (hs.slots _ _ U) (by rw [hs.n];rfl)) (Ag hs U) (hs.ti U) (.const U) (fun hq=>by first|omega|(simp at hq;omega))) ?_;refine AB.s (fun _ hs=>(by exact Ak U (by exact .yes U U (hs.slots _ _ U) (by rw [hs.n];rfl)) (Ag hs U) (hs.ti U) (hs.ti U) ZA Cq (fun hq=>by simp at hq;exact⟨by omega,Ao (Pu (l:=g.Edges) (d:=dE) (by omega) (by omega))⟩))) ?_;refine AB.s (fun _ hs=>(by exact Bu U (by exact .yes U U (hs.slots _ _ U) (by rw [hs.n];rfl)) (Ag hs U) (hs.ti U) D2)) ?_;refine AB.s (fun _ hs=>(by exact Br U (by exact .yes U U (hs.slots _ _ U) (by rw [hs.n];rfl)) (Ag hs U) (hs.ti U) ty3 U U)) ?_;refine AB.s (fun _ hs=>(by exact Bj U (by exact .yes U U (hs.slots _ _ U) (by rw [hs.n];rfl)) (Ag hs U) (hs.tm U) D2)) ?_
   refine AB.s (fun _ hs=>(by exact Be U (by exact .yes U U (hs.slots _ _ U) (by rw [hs.n];rfl)) (Ag hs U) (hs.ti U) (hs.res _ _ U) ty3 U U)) ?_;refine AB.s (fun _ hs=>O0 U (by exact .yes U U (hs.slots _ _ U) (by rw [hs.n];rfl)) (Ag hs U) (hs.ti U) (hs.ti U)) ?_;refine AB.s (fun _ hs=>IJ U (by exact hs.n1) (Ag hs U) (hs.ti U) (hs.ti U)) ?_;refine AB.s (fun _ hs=>OK U (.no U) (Ag hs U) (hs.tm U) (hs.ti U)) ?_;refine Bs U U ?_;refine Aa (Ai (.tm U) (fun h49=>?_) (fun h49=>?_))
   · try simp at h49
     refine Ae (As (Ay [1,3,6,7,23,24,25] [7]) ?_);refine Ad (An ?_);refine Aa (Aq (Bl U U ?_))
     unfold AI;rw [Pe hlt1 (by simp only [Hx,hx1];grind)];simp
   try simp at h49
   refine Am (As (Ay [1,3,6,7,23,24,25] [7]) ?_);refine Ad (A9 ?_);refine Ab ?_;refine Aa ?_;refine EX.next (k1+1) ⟨by omega,range_succ hk1.2 (by simp only [Hx,hx1];grind)⟩ (by omega) (Au rfl ⟨rfl,rfl,rfl,rfl,rfl,Y⟩ trivial)
 try simp at hlt1
 refine Bf (Af (Ab ?_));refine By (CR _ _ _) ?_;refine Ab ?_;refine Eb Ct ?_;refine Dy D0 ?_;refine Ac (Di U (by exact .yes1 U U U U) U (.tmp U (by exact id)) (by exact .t) ZA) U ?_;refine Ac (MN U (by exact .yes1 U U U U) U (.tmp U (by exact id)) (.const U)) U ?_;refine Cn ?_;refine Ah ?_;refine Aa (Aq (Bl U U ?_))
 unfold AI;rw [GS hk.2 (by omega),Pg hk1.2 (by omega)];simp;grind
def FB (e:DL) (b:Bool):Int:=if b then 2*e.Label+1 else 2*e.Label
def Nt (g:AC) (s:DK):Int:=if (CX g s).2 then FB (CX g s).1 s.Inverse else -1
def UV (g:AC) (l:List Int) (s:DK):Int:=if Nt g s<0∨Wh l=false then -1 else l[(Nt g s).toNat]?.getD 0
theorem Mj {g:AC} {s:DK} (h:(CX g s).2=true):KC (CX g s).1 g.Values.length=true:=by
 unfold CX at h ⊢
 split at h
 · rename_i hv
   split at h
   · rename_i e he
     split at h
     · rename_i h0
       rw [hv]
       simp only [if_true,he]
       rw [if_pos h0]
       have hk:(CG g s.Edge).toNat<g.Edges.length:=(List.getElem?_eq_some_iff.1 he).1
       unfold AI at hv
       simp only [ZG,ZJ] at hv
       have:=hv.1.2 _ (ZI.2 hk)
       unfold Hx at this
       rw [he] at this
       simp only [ZG] at this
       exact this.1
     cases h
   cases h
 cases h
theorem Qf (g:AC) (s:DK):FnT ZB 170 [.agg (AG g),.agg (BG s)] (.tup [.agg (AP (CX g s).1),.one (.v (.bool (CX g s).2))]):=by
 refine A8 ZZ U (by kernel_rfl) Aaa U fun hlen w0=>?_
 try simp [AP,AG,BG,BO] at hlen
 refine Af (Ac (Bg U U U (.tm U) (ts:=_) (by rfl)) U ?_);refine Ac (Bg U U U (.tm U) (ts:=_) (by rfl)) U ?_;refine A6 (Bd 4 U U U HF U U U) U ?_;refine An ?_;refine Aa (Af (Aj B7 ?_));refine A7 Io ?_;refine Aj ty3 ?_;refine By (OG _ _) ?_;refine Ah ?_;refine Aa (Ae (Af (Ab ?_)));refine D7 ?_;refine Ab ?_;refine Ac (Br U (by exact .not1 U U U U) U (.tmp U (by exact fun _=>rfl)) B7 U U) U ?_;refine Ac (Bc (FnT.fr (FG _)) U (by exact .not1 U U U U) U (.cons (.tmp U (by exact id)) U .nil)) U ?_;refine Ac (Du U (by exact .not1 U U U U) U (.tmp U (by exact id))) U ?_;refine Co ?_;refine Aa (Ai (.tm U) (fun h17=>?_) (fun h17=>?_))
 · try simp at h17
   refine Ae (As (Ay [0,1,2,3,4,5,6] [4]) ?_);refine Ad (Ac (Bm (ps:=[]) U U U HF U U UW .nil U) U ?_);refine A4 Cq ?_;refine Bv (Ay [0,1,2,3,4,5,6] [4]) ?_;refine An ?_;refine Aa (Aq (Cd U (.cell U U Cq U U (.tmp U .nil)) U ?_ (by simp)))
   rw [Mk (by grind)];rfl
 try simp at h17
 obtain⟨k,x,hx,hid⟩:=Ko (g:=g) (id:=s.Edge) (by grind)
 refine Am (Ae (As (Ay [0,1,2,3,4,5,6] [4]) ?_));refine Ad (A7 Ct ?_);refine Aj D0 ?_;refine Ab ?_;refine Ac (by exact Ak U (.no U) U (.tm U) (.tm U) ZA Cq (fun _=>⟨by omega,Ao (l:=g.Edges) (x:=x) (by rw [hid];exact hx)⟩)) U ?_;refine Aj Cq ?_;refine A4 Cq ?_;refine Bv (Ay [0,1,2,3,4,5,6] [4]) ?_;refine An ?_;refine Aa (Aq (Cd U (.cell U U Cq U U (.tmp U .nil)) U ?_ (by simp)))
 rw [Fz (by grind) hx hid];rfl
theorem Pq (e:DL) (b:Bool) (h:0≤e.Label∧e.Label≤2):FnT ZB 158 [.agg (AP e),.one (.v (.bool b))] (.a (.one (.v (.int .i64 (FB e b))))):=by
 refine A8 Aab U (by kernel_rfl) Aac U fun hlen w0=>?_
 try simp [AP,AG,BG,BO] at hlen
 refine Af (Ac (Bg U U U (.tm U) (ts:=_) (by rfl)) U ?_);refine An ?_;refine Aa (Ae (Af (Ab ?_)));refine Aa (Ai (.tm U) (fun h5=>?_) (fun h5=>?_))
 · try simp at h5
   refine Af (A7 JL ?_);refine Aj ty3 ?_;refine Ac (Ge U (.no U) U (.const U) (.tm U) (fun _=>by omega)) U ?_;refine A9 ?_;refine Ah ?_;refine Aa (Aq (Bl U U ?_))
   simp [FB,h5]
 try simp at h5
 refine Am (Af (A7 JL ?_));refine Aj ty3 ?_;refine Ac (Ge U (.no U) U (.const U) (.tm U) (fun _=>by omega)) U ?_;refine Ah ?_;refine Aa (Aq (Bl U U ?_))
 simp [FB,h5]
def DF (g:AC) (s:DK):Int:=if (CX g s).2 then (if s.Inverse then (CX g s).1.To else (CX g s).1.From) else -1
def EY (g:AC) (s:DK):Int:=DF g ⟨s.Edge,!s.Inverse⟩
def HC (l:List Int):Int:=l[l.length-1]?.getD 0
def E1 (g:AC):List DK→List Int→List Int×Bool
 | [],acc=>(acc,true)
 | s::r,acc=>if DF g s=HC acc then E1 g r (acc++[EY g s]) else ([],false)
def Gg (g:AC) (w:EV):Bool:=AI g&&inB w.Start 0 (g.Values.length-1)&&decide (w.Steps.length≤60)
def BR (g:AC) (w:EV):List Int×Bool:=if Gg g w then E1 g w.Steps [w.Start] else ([],false)
theorem Lf {g:AC} {l:List DK} {k:Nat} {s:DK} {acc:List Int} (h:l[k]?=some s):E1 g (l.drop k) acc=if DF g s=HC acc then E1 g (l.drop (k+1)) (acc++[EY g s]) else ([],false):=by
 rw [MX h,E1]
theorem K5 (l:List Int) (x:Int):HC (l++[x])=x:=by unfold HC;simp
theorem NQ {l:List Int} (h:0<l.length):l[((l.length:Int)-1).toNat]?=some (HC l):=by
 have e:((l.length:Int)-1).toNat=l.length-1:=by omega
 rw [e];exact FN (by omega)
theorem Nu {g:AC} {s:DK} (h:(CX g s).2=true):0≤(CX g s).1.From∧0≤(CX g s).1.To:=by
 have:=Mj h
 unfold KC inB at this
 simp only [ZG,decide_eq_true_eq] at this
 omega
theorem HV {g:AC} {s:DK} {k:Nat} {x:DL} (hv:AI g=true) (hx:g.Edges[k]?=some x) (hk:CG g s.Edge=(k:Int)):DF g s=(if s.Inverse then x.To else x.From)∧EY g s=(if s.Inverse then x.From else x.To):=by
 have h:=Fz hv hx hk
 have h2:CX g ⟨s.Edge,!s.Inverse⟩=(x,true):=h
 unfold EY DF
 rw [h,h2]
 cases s.Inverse<;>simp
theorem QM {g:AC} {s:DK} (hk:CG g s.Edge<0):DF g s=-1:=by
 unfold DF
 rw [Mk (.inr hk)]
 simp
theorem O7 {g:AC} {w:EV} (h:(BR g w).2=true):w.Steps.length≤60:=by
 unfold BR at h
 split at h
 · rename_i h1
   unfold Gg at h1
   simp only [ZG,decide_eq_true_eq] at h1
   exact h1.2
 cases h
theorem Ih (g:AC) (s:DK):FnT ZB 132 [.agg (AG g),.agg (BG s)] (.a (.one (.v (.int .i64 (DF g s))))):=by
 refine A8 Aad U (by kernel_rfl) Aae U fun hlen w0=>?_
 try simp [AP,AG,BG,BO] at hlen
 refine Af (Ac (Bg U U U (.tm U) (ts:=_) (by rfl)) U ?_);refine Ac (Bg U U U (.tm U) (ts:=_) (by rfl)) U ?_;refine An ?_;refine Aa (Af (Aj B7 ?_));refine Aj Ds ?_;refine Cj (Dc 1000 (Qf _ _) U U U (.cons (.tm U) U (.cons (.tm U) U .nil)) U U) U ?_;refine Ac (Dd U (.no U) U U fun _=>rfl) U ?_;refine Ac (Bk U (.no U) U U (fun _=>rfl) U) U ?_;refine Ac (Bk U (.no U) U U (fun _=>rfl) U) U ?_;refine A6 (Bd 5 U U U HF U U U) U ?_;refine A4 Cq ?_;refine Bv (Ay [0,1,2,3,4,5,12] [5]) ?_;refine Ah ?_;refine Aa (Ae (AW.block (Af (Ab ?_))));refine Cy ?_;refine Ah ?_;refine Aa (Ai (.tm U) (fun h13=>?_) (fun h13=>?_))
 · try simp at h13
   refine Af (An ?_);refine Aa (Aq (Bl U U ?_))
   simp [DF,h13]
 try simp at h13
 refine Af (A7 Im ?_);refine Aj ty4 ?_;refine Ah ?_;refine Aa (Ai (.tm U) (fun h16=>?_) (fun h16=>?_))
 · try simp at h16
   refine Ae (As (Ay [0,1,2,3,4,5,6] [5]) ?_);refine Ad (Bq F7 ?_);refine Bb ty3 ?_;refine Ah ?_;refine Aa (Aq (Bl U U ?_))
   simp [DF,h13,h16]
 try simp at h16
 refine Am (Ae (As (Ay [0,1,2,3,4,5,6] [5]) ?_));refine Ad (Bq FO ?_);refine Bb ty3 ?_;refine Ah ?_;refine Aa (Aq (Bl U U ?_))
 simp [DF,h13,h16]
theorem NY (g:AC) (s:DK):FnT ZB 133 [.agg (AG g),.agg (BG s)] (.a (.one (.v (.int .i64 (EY g s))))):=by
 refine A8 Aaf U (by kernel_rfl) Aag U fun hlen w0=>?_
 try simp [AP,AG,BG,BO] at hlen
 refine Af (Ac (Bg U U U (.tm U) (ts:=_) (by rfl)) U ?_);refine Ac (Bg U U U (.tm U) (ts:=_) (by rfl)) U ?_;refine An ?_;refine Aa (Af (Aj B7 ?_));refine A7 Io ?_;refine Aj ty3 ?_;refine A7 Im ?_;refine Aj ty4 ?_;refine Cy ?_;refine Ac (Bm (ps:=[(0,.tmp 7),(1,.tmp 10)]) U U U HE U U Ul (.cons (.tm U) U U LN (.cons (.tm U) U U Qi .nil)) U) U ?_;refine By (Ih g ⟨s.Edge,!s.Inverse⟩) ?_;refine Ah ?_;refine Aa (Aq (Bl U U ?_))
 rfl
theorem Rz (g:AC) (w:EV):FnT ZB 134 [.agg (AG g),.agg (BO w)] (.tup [.one (.sl 1 ((BR g w).1.map AQ)),.one (.v (.bool (BR g w).2))]):=by
 refine A8 Aah U (by kernel_rfl) Aai U fun hlen w0=>?_
 try simp [AP,AG,BG,BO] at hlen
 refine Af (Ac (Bg U U U (.tm U) (ts:=_) (by rfl)) U ?_);refine Ac (Bg U U U (.tm U) (ts:=_) (by rfl)) U ?_;refine An ?_;refine Ch (i:=4) 20001 1 U U ?_;refine An ?_;refine Aa (Ae (Af (Aj B7 ?_)));refine By (FG _) ?_;refine Cy ?_;refine Ab ?_;refine C5 GP ?_;refine C4 ty3 ?_;refine C5 Ci ?_;refine C4 Cc ?_;refine Ac (Di U (by exact .not1 U U U U) U (.tmp U (by exact id)) (by exact .t) Z9) U ?_;refine Ac (D8 U (by exact .not1 U U U U) U (.tmp U (by exact id)) (.const U) (fun hq=>by first|omega|(simp at hq;omega))) U ?_;refine Ac (Bc (FnT.fr (CR _ _ _)) U (by exact .not1 U U U U) U (.cons (.tmp U (by exact id)) U (.cons (.const U) U (.cons (.tmp U (by exact id)) U .nil)))) U ?_;refine Ac (Du U (by exact .not1 U U U U) U (.tmp U (by exact id))) U ?_;refine Co ?_;refine Ab ?_;refine C5 C8 ?_;refine C4 FT ?_
 refine Ac (Di U (by exact .not1 U U U U) U (.tmp U (by exact id)) (by exact .t) ZD) U ?_;refine Ac (MO U (by exact .not1 U U U U) U (.tmp U (by exact id)) (.const U)) U ?_;refine Co ?_;refine Aa (Ai (.tm U) (fun h27=>?_) (fun h27=>?_))
 · try simp at h27
   have hw:Gg g w=false:=by unfold Gg;grind
   refine Ae (As (Ay [0,1,2,3,4,5] [20001]) ?_);refine Ad (An ?_);refine Ch (i:=4) 20002 1 U U ?_;refine An ?_;refine Aa (Aq (Cd U (.tmp U (.tmp U .nil)) U ?_ (by simp)))
   unfold BR;rw [hw];rfl
 try simp at h27
 have hw:Gg g w=true:=by unfold Gg;grind
 refine Am (Ae (As (Ay [0,1,2,3,4,5] [20001]) ?_));refine Ad (A7 GP ?_);refine Aj ty3 ?_;refine Bp (Ce (xs:=[.tmp 29]) 30 U U U (.cons (.tm U) U U .nil) Z9 in3 U U U U) U ?_;refine Ah ?_;refine Aa (Ae (Af (A7 C8 ?_)));refine Aj FT ?_;refine Bi (.t) ZD ?_;refine Ac (Bh U (.no U) U (.const U)) U ?_;refine Aa (AW.block ?_);refine Cp (fun (k:Nat) (acc:List Int)=>(k≤w.Steps.length∧0<acc.length∧acc.length≤k+1)∧E1 g w.Steps [w.Start]=E1 g (w.Steps.drop k) acc) (fun (k:Nat) (acc:List Int)=>⟨_,[(34,(true,.a (.one (.t (.v (.int .i64 (k:Nat))))))),(6,(true,.a (.one (.rf 30)))),(2,_),(32,_),(33,_)],[(30,.row 1 (acc.map AQ))]⟩) (fun (k:Nat) (acc:List Int)=>w.Steps.length-k) (0) ([w.Start]) ⟨by simp,U⟩ Aw ?_
 rintro k acc ⟨hk,he⟩
 refine Af (AWl.lt ?_);refine Aa (Ae (Ai (.tm U) (fun hlt=>?_) (fun hlt=>?_)))
 · try simp at hlt
   obtain⟨s,hst1⟩:∃ s,w.Steps[k]?=some s:=⟨_,ZC hlt⟩
   rw [Lf hst1] at he
   have hrow:=Ao (f:=AQ) (NQ (l:=acc) (by omega))
   refine Am (Ae (AW.block (Af (Ac ((Ak U (.no U) U (.tm U) (.tm U) ZD Ds (fun _=>⟨by omega,(by exact Ao (by assumption))⟩))) U ?_))));refine Aj Ds ?_;refine A6 (Bd 8 U U U HE U U U) U ?_;refine A4 Ds ?_;refine Aa (Ae (Ae (Bx 10 (DM [[],[],[0,1],[],[],[4],[4,5],[3,4,5,6],[3,4,5,6,7],[0,1,2,3,4,5,6,7,8]]) (by kernel_rfl) (by kernel_rfl) (by kernel_rfl) ?_)));refine A5 B7 ?_;refine AB.s (fun _ hs=>(Be U (.no U) (Ag hs U) (hs.tm U) (hs.res _ _ U) Ds U U)) ?_;refine AB.s (fun _ hs=>Bc (FnT.fr (Ih _ _)) U (.no U) (Ag hs U) (.cons (hs.tm U) (AD hs U) (.cons (hs.tm U) (AD hs U) .nil))) ?_;refine Az ?_;refine Az ?_;refine AB.s (fun _ hs=>(by exact Di U (.no U) (Ag hs U) (hs.tm U) (by exact .rf (hs.res _ _ U)) Z9)) ?_;refine AB.s (fun _ hs=>D8 U (.no U) (Ag hs U) (hs.tm U) (.const U) (fun _=>by omega)) ?_
   refine AB.s (fun _ hs=>(by exact A3 U (.no U) (Ag hs U) (hs.tm U) (hs.res _ _ U) (hs.tm U) Z9 ty3 (fun _=>⟨by omega,(by assumption)⟩))) ?_;refine AB.s (fun _ hs=>(by exact Ca U (.no U) (Ag hs U) (hs.tm U) (hs.res _ _ U) (by assumption) ty3 U U)) ?_;refine AB.s (fun _ hs=>GX U (.no U) (Ag hs U) (hs.tm U) (hs.tm U)) ?_;refine Bs U U ?_;refine Aa (Ai (.tm U) (fun h47=>?_) (fun h47=>?_))
   · try simp at h47
     refine Ae (As (Ay [2,6,8,32,33,34] [30,8]) ?_);refine Ad (An ?_);refine Ch (i:=4) 20003 1 U U ?_;refine An ?_;refine Aa (Aq (Cd U (.tmp U (.tmp U .nil)) U ?_ (by simp)))
     unfold BR;rw [hw,if_pos rfl,he,if_neg h47];rfl
   try simp at h47
   refine Am (As (Ay [2,6,8,32,33,34] [30,8]) ?_);refine Ad (Ab ?_);refine Aj B7 ?_;refine Bb Ds ?_;refine By (NY _ _) ?_;refine Bp (Ce (xs:=[.tmp 51]) 52 U U U (.cons (.tm U) U U .nil) Z9 in3 U U U U) U ?_;refine Dv (D4 U U U (.tm U) U (.tm U) U U Z9 in3 U (by (simp [AH];omega)) (by (unfold maxLen;simp [AH];omega))) U ?_;refine Bv (Ay [2,6,8,32,33,34,53] [30,8]) ?_;refine Ah ?_;refine Aa (Ad (A9 ?_));refine Ab ?_;refine Aa ?_
   repeat (with_reducible refine Av ?_)
   refine BV.next (k+1) (acc++[EY g s]) ⟨by simp;omega,by rw [he,if_pos (by simpa using h47)]⟩ (by omega) (Au rfl ⟨rfl,rfl,rfl,rfl,rfl,Y⟩ ⟨congrArg (fun r=>some (R.row 1 r)) (by simp [AQ,AH]),Y⟩)
 try simp at hlt
 refine Bf (Af (Ab ?_));refine Ah ?_;refine An ?_;refine Aa (Aq (Cd U (.tmp U (.tmp U .nil)) U ?_ (by simp)))
 unfold BR;rw [hw,if_pos rfl,he,ZK (by omega)];rfl
theorem MI (g:AC) (w:EV):FnT ZB 72 [.agg (AG g),.agg (BO w)] (.a (.one (.v (.bool (BR g w).2)))):=by
 refine A8 Aaj U (by kernel_rfl) Aak U fun hlen w0=>?_
 try simp [AP,AG,BG,BO] at hlen
 refine Af (Ac (Bg U U U (.tm U) (ts:=_) (by rfl)) U ?_);refine Ac (Bg U U U (.tm U) (ts:=_) (by rfl)) U ?_;refine An ?_;refine Aa (Af (Aj B7 ?_));refine Aj D6 ?_;refine By (Rz _ _) ?_;refine Ac (Dd U (.no U) U U fun _=>rfl) U ?_;refine Ac (Bk U (.no U) U U (fun _=>rfl) U) U ?_;refine Ac (Bk U (.no U) U U (fun _=>rfl) U) U ?_;refine Ah ?_;refine Ah ?_;refine Aa (Ae (As (Ay [0,1,2,3,4,6] []) ?_));refine Ad (Ab ?_);refine Ah ?_;refine Aa (Aq (Bl U U ?_))
 rfl
theorem Mm (g:AC) (w:EV):FnT ZB 131 [.agg (AG g),.agg (BO w)] (.tup [.one (.sl 1 ((BR g w).1.map AQ)),.one (.v (.bool (BR g w).2))]):=by
 refine A8 Aal U (by kernel_rfl) Aam U fun hlen w0=>?_
 try simp [AP,AG,BG,BO] at hlen
 refine Af (Ac (Bg U U U (.tm U) (ts:=_) (by rfl)) U ?_);refine Ac (Bg U U U (.tm U) (ts:=_) (by rfl)) U ?_;refine An ?_;refine Ch (i:=4) 20001 1 U U ?_;refine An ?_;refine Aa (Ae (Af (Aj B7 ?_)));refine By (H2 _) ?_;refine Cy ?_;refine Ab ?_;refine C5 GP ?_;refine C4 ty3 ?_;refine C5 Ci ?_;refine C4 Cc ?_;refine Ac (Di U (by exact .not1 U U U U) U (.tmp U (by exact id)) (by exact .t) Z9) U ?_;refine Ac (D8 U (by exact .not1 U U U U) U (.tmp U (by exact id)) (.const U) (fun hq=>by first|omega|(simp at hq;omega))) U ?_;refine Ac (Bc (FnT.fr (DR _ _ _)) U (by exact .not1 U U U U) U (.cons (.tmp U (by exact id)) U (.cons (.const U) U (.cons (.tmp U (by exact id)) U .nil)))) U ?_;refine Ac (Du U (by exact .not1 U U U U) U (.tmp U (by exact id))) U ?_;refine Co ?_;refine Ab ?_;refine C5 C8 ?_;refine C4 FT ?_
 refine Ac (Di U (by exact .not1 U U U U) U (.tmp U (by exact id)) (by exact .t) ZD) U ?_;refine Ac (MO U (by exact .not1 U U U U) U (.tmp U (by exact id)) (.const U)) U ?_;refine Co ?_;refine Aa (Ai (.tm U) (fun h29=>?_) (fun h29=>?_))
 · try simp at h29
   have hw:Gg g w=false:=by unfold Gg;grind
   refine Ae (As (Ay [0,1,2,3,4,5] [20001]) ?_);refine Ad (A6 (C7 30 U U U Z9 ty3 U) U ?_);refine Ah ?_;refine An ?_;refine Aa (Aq (Cd U (.tmp U (.tmp U .nil)) U ?_ (by simp)))
   unfold BR;rw [hw];rfl
 try simp at h29
 have hw:Gg g w=true:=by unfold Gg;grind
 have hv:AI g=true:=by grind
 have hst:0≤w.Start:=by unfold Gg inB at hw;simp at hw;omega
 refine Am (Ae (As (Ay [0,1,2,3,4,5] [20001]) ?_));refine Ad (A7 GP ?_);refine Aj ty3 ?_;refine Bp (Ce (xs:=[.tmp 32]) 33 U U U (.cons (.tm U) U U .nil) Z9 in3 U U U U) U ?_;refine Ah ?_;refine Aa (Ae (Af (An ?_)));refine Aa (AW.block ?_);refine Cp (fun (k:Nat) (acc:List Int)=>(k≤w.Steps.length∧0<acc.length∧acc.length≤k+1∧0≤HC acc)∧E1 g w.Steps [w.Start]=E1 g (w.Steps.drop k) acc) (fun (k:Nat) (acc:List Int)=>⟨_,[(7,(true,.a (.one (.t (.v (.int .i64 (k:Nat))))))),(6,(true,.a (.one (.rf 33)))),(2,_),(3,_)],[(33,.row 1 (acc.map AQ))]⟩) (fun (k:Nat) (acc:List Int)=>w.Steps.length-k) (0) ([w.Start]) ⟨by simpa [HC] using hst,U⟩ Aw ?_
 rintro k acc ⟨hk,he⟩
 refine Ae (Af (Ab ?_));refine A7 C8 ?_;refine Aj FT ?_;refine Bi (.t) ZD ?_;refine AWl.lt ?_;refine Aa (Ai (.tm U) (fun hlt=>?_) (fun hlt=>?_))
 · try simp at hlt
   obtain⟨s,hst1⟩:∃ s,w.Steps[k]?=some s:=⟨_,ZC hlt⟩
   rw [Lf hst1] at he
   have hrow:=Ao (f:=AQ) (NQ (l:=acc) (by omega))
   refine Am (Ae (AW.block (Ae (Bx 9 (DM [[],[],[1],[],[1,2,3],[1,2,3,4],[1,2,3,4,5],[0,1,2,3,4,5,6],[0,1,2,3,4,5,6,7]]) (by kernel_rfl) (by kernel_rfl) (by kernel_rfl) ?_))));refine A5 B7 ?_;refine Bz C8 ?_;refine A5 FT ?_;refine Az ?_;refine AB.s (fun _ hs=>(Ak U (.no U) (Ag hs U) (hs.tm U) (hs.tm U) ZD Ds (fun _=>⟨by omega,(by exact Ao (by assumption))⟩))) ?_;refine Bz Io ?_;refine A5 ty3 ?_;refine AB.s (fun _ hs=>Bc (FnT.fr (Ht _ _)) U (.no U) (Ag hs U) (.cons (hs.tm U) (AD hs U) (.cons (hs.tm U) (AD hs U) .nil))) ?_;refine AB.s (fun _ hs=>Cl U (.no U) (Ag hs U) (hs.tm U)) ?_;refine Bs U U ?_;refine Aa (Ae (Ae (As (Ay [2,3,6,7,8] [33]) ?_)));refine Ad (Ab ?_);refine D7 ?_;refine Aa (Ai (.tm U) (fun h50=>?_) (fun h50=>?_))
   · try simp at h50
     refine Af (A6 (C7 51 U U U Z9 ty3 U) U ?_);refine Ah ?_;refine An ?_;refine Aa (Aq (Cd U (.tmp U (.tmp U .nil)) U ?_ (by simp)))
     unfold BR;rw [hw,if_pos rfl,he,if_neg (by rw [QM h50];omega)];rfl
   try simp at h50
   obtain⟨q,x,hx,hid⟩:=Ko (g:=g) (id:=s.Edge) (by omega)
   obtain⟨hf,ht⟩:=HV (s:=s) hv hx hid
   have hxx:g.Edges[(CG g s.Edge).toNat]?=some x:=by rw [hid];exact hx
   have hlab:0≤x.From∧0≤x.To:=by have h:=Fz (s:=s) hv hx hid;have:=Nu (g:=g) (s:=s) (by rw [h]);rw [h] at this;exact this
   refine Am (Af (A7 Ct ?_));refine Aj D0 ?_;refine Ab ?_;refine Ac ((Ak U (.no U) U (.tm U) (.tm U) ZA Cq (fun _=>⟨by omega,(by exact Ao (by assumption))⟩))) U ?_;refine A7 FO ?_;refine Aj ty3 ?_;refine Ah ?_;refine Aa (Ae (As (Ay [2,3,6,7,8,9] [33]) ?_));refine Ad (A7 Ct ?_);refine Aj D0 ?_;refine Ab ?_;refine Ac ((Ak U (.no U) U (.tm U) (.tm U) ZA Cq (fun _=>⟨by omega,(by exact Ao (by assumption))⟩))) U ?_;refine A7 F7 ?_;refine Aj ty3 ?_;refine Ah ?_;refine Aa (Ae (Ae (As (Ay [2,3,6,7,8,9,10] [33]) ?_)));refine Ad (A7 C8 ?_);refine Aj FT ?_;refine Ab ?_;refine Ac ((Ak U (.no U) U (.tm U) (.tm U) ZD Ds (fun _=>⟨by omega,(by exact Ao (by assumption))⟩))) U ?_;refine A7 Im ?_;refine Aj ty4 ?_;refine Aa (Ai (.tm U) (fun h69=>?_) (fun h69=>?_))
   · try simp at h69
     refine Ae (As (Ay [2,3,6,7,8,9,10] [33]) ?_);refine Ad (A7 Ct ?_);refine Aj D0 ?_;refine Ab ?_;refine Ac ((Ak U (.no U) U (.tm U) (.tm U) ZA Cq (fun _=>⟨by omega,(by exact Ao (by assumption))⟩))) U ?_;refine A7 F7 ?_;refine Aj ty3 ?_;refine Ah ?_;refine Aa (As (Ay [2,3,6,7,8,9,10] [33]) ?_);refine Ad (A7 Ct ?_);refine Aj D0 ?_;refine Ab ?_;refine Ac ((Ak U (.no U) U (.tm U) (.tm U) ZA Cq (fun _=>⟨by omega,(by exact Ao (by assumption))⟩))) U ?_;refine A7 FO ?_;refine Aj ty3 ?_;refine Ah ?_;refine Aa (Ae (Ae (As (Ay [2,3,6,7,8,9,10] [33]) ?_)));refine Ad (Ab ?_);refine Ab ?_;refine Ab ?_;refine Bi (.rf U) Z9 ?_;refine C9 ?_;refine Ac (A3 U (.no U) U (.tm U) U (.tm U) Z9 ty3 (fun _=>⟨by omega,(by assumption)⟩)) U ?_;refine Ac (Ca U (.no U) U (.tm U) U (by assumption) ty3 U U) U ?_
     refine Ac (GX U (.no U) U (.tm U) (.tm U)) U ?_;refine Aa (Ai (.tm U) (fun h89=>?_) (fun h89=>?_))
     · try simp at h89
       refine Ae (As (Ay [2,3,6,7,8,9,10] [33]) ?_);refine Ad (A6 (C7 90 U U U Z9 ty3 U) U ?_);refine Ah ?_;refine An ?_;refine Aa (Aq (Cd U (.tmp U (.tmp U .nil)) U ?_ (by simp)))
       unfold BR;rw [hw,if_pos rfl,he,if_neg (by rw [hf];grind)];rfl
     try simp at h89
     refine Am (As (Ay [2,3,6,7,8,9,10] [33]) ?_);refine Ad (Ab ?_);refine Ab ?_;refine Bp (Ce (xs:=[.tmp 92]) 93 U U U (.cons (.tm U) U U .nil) Z9 in3 U U U U) U ?_;refine Dv (D4 U U U (.tm U) U (.tm U) U U Z9 in3 U (by (simp [AH];omega)) (by (unfold maxLen;simp [AH];omega))) U ?_;refine Bv (Ay [2,3,6,7,8,9,10,94] [33]) ?_;refine Ah ?_;refine Aa (Ad (Ab ?_));refine A9 ?_;refine Ah ?_;refine Aa ?_
     repeat (with_reducible refine Av ?_)
     refine BV.next (k+1) (acc++[EY g s]) ⟨by rw [K5,ht];simp;grind,by rw [he,if_pos (by rw [hf];grind)]⟩ (by omega) (Au rfl ⟨rfl,rfl,rfl,rfl,Y⟩ ⟨congrArg (fun r=>some (R.row 1 r)) (by rw [ht];simp [AQ,AH,h69]),Y⟩)
   try simp at h69
   refine Am (Ae (Ae (As (Ay [2,3,6,7,8,9,10] [33]) ?_)));refine Ad (Ab ?_);refine Ab ?_;refine Ab ?_;refine Bi (.rf U) Z9 ?_;refine C9 ?_;refine Ac (A3 U (.no U) U (.tm U) U (.tm U) Z9 ty3 (fun _=>⟨by omega,(by assumption)⟩)) U ?_;refine Ac (Ca U (.no U) U (.tm U) U (by assumption) ty3 U U) U ?_;refine Ac (GX U (.no U) U (.tm U) (.tm U)) U ?_;refine Aa (Ai (.tm U) (fun h89=>?_) (fun h89=>?_))
   · try simp at h89
     refine Ae (As (Ay [2,3,6,7,8,9,10] [33]) ?_);refine Ad (A6 (C7 90 U U U Z9 ty3 U) U ?_);refine Ah ?_;refine An ?_;refine Aa (Aq (Cd U (.tmp U (.tmp U .nil)) U ?_ (by simp)))
     unfold BR;rw [hw,if_pos rfl,he,if_neg (by rw [hf];grind)];rfl
   try simp at h89
   refine Am (As (Ay [2,3,6,7,8,9,10] [33]) ?_);refine Ad (Ab ?_);refine Ab ?_;refine Bp (Ce (xs:=[.tmp 92]) 93 U U U (.cons (.tm U) U U .nil) Z9 in3 U U U U) U ?_;refine Dv (D4 U U U (.tm U) U (.tm U) U U Z9 in3 U (by (simp [AH];omega)) (by (unfold maxLen;simp [AH];omega))) U ?_;refine Bv (Ay [2,3,6,7,8,9,10,94] [33]) ?_;refine Ah ?_;refine Aa (Ad (Ab ?_));refine A9 ?_;refine Ah ?_;refine Aa ?_
   repeat (with_reducible refine Av ?_)
   refine BV.next (k+1) (acc++[EY g s]) ⟨by rw [K5,ht];simp;grind,by rw [he,if_pos (by rw [hf];grind)]⟩ (by omega) (Au rfl ⟨rfl,rfl,rfl,rfl,Y⟩ ⟨congrArg (fun r=>some (R.row 1 r)) (by rw [ht];simp [AQ,AH,h69]),Y⟩)
 try simp at hlt
 refine Bf (Af (Ab ?_));refine Ah ?_;refine An ?_;refine Aa (Aq (Cd U (.tmp U (.tmp U .nil)) U ?_ (by simp)))
 unfold BR;rw [hw,if_pos rfl,he,ZK (by omega)];rfl
theorem MA (g:AC) (w:EV):FnT ZB 129 [.agg (AG g),.agg (BO w)] (.a (.one (.v (.bool (BR g w).2)))):=by
 refine A8 Aan U (by kernel_rfl) Aao U fun hlen w0=>?_
 try simp [AP,AG,BG,BO] at hlen
 refine Af (Ac (Bg U U U (.tm U) (ts:=_) (by rfl)) U ?_);refine Ac (Bg U U U (.tm U) (ts:=_) (by rfl)) U ?_;refine An ?_;refine Aa (Af (Aj B7 ?_));refine Aj D6 ?_;refine By (Mm _ _) ?_;refine Ac (Dd U (.no U) U U fun _=>rfl) U ?_;refine Ac (Bk U (.no U) U U (fun _=>rfl) U) U ?_;refine Ac (Bk U (.no U) U U (fun _=>rfl) U) U ?_;refine Ah ?_;refine Ah ?_;refine Aa (Ae (As (Ay [0,1,2,3,4,6] []) ?_));refine Ad (Ab ?_);refine Ah ?_;refine Aa (Aq (Bl U U ?_))
 rfl
end Go.Q
