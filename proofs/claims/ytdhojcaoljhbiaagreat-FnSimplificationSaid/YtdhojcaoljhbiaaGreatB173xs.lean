import Derived.Test.YtdhojcaoljhbiaaGreatB172xs
import Derived.Test.YtdhojcaoljhbiaaGreatB168xs
import Derived.Test.YtdhojcaoljhbiaaGreatB05xs
set_option linter.unusedVariables false
set_option linter.unusedSimpArgs false
set_option maxRecDepth 100000
set_option maxHeartbeats 1000000
set_option maxRecDepth 100000
namespace Go.Q
open Go.RowKit Go.D
theorem validA_r9 {a:TAutomaton} (h:validA a=true):∀ x∈a.Next,x.length=9:=by
 intro x hx
 unfold validA at h
 simp only [Bool.and_eq_true] at h
 have:=List.all_eq_true.1 h.2 x hx
 unfold rowOk at this
 simp only [Bool.and_eq_true,decide_eq_true_eq] at this
 exact this.2
theorem validA_sh {b:TAutomaton} (h:validA b=true):ShA b:=by
 have hl:=validA_len h
 refine⟨hl.2.2.1,validA_r9 h,⟨hl.2.2.2.1,hl.2.2.2.2⟩,fun s k hs hk=>?_⟩
 obtain⟨row,h1,h2,h3,h4,h5⟩:=validA_next h (s:=(s:Int)) (k:=(k:Int)) (by omega) (by omega) (by omega) (by omega)
 exact⟨h4,h5⟩
theorem can_valid {a:TAutomaton} (h:CanA a) (h12:a.Accept.length≤12):validA a=true:=by
 have h1:=h.n1
 unfold validA inB
 simp only [Bool.and_eq_true,decide_eq_true_eq,List.all_eq_true]
 have hst:=h.st
 refine⟨⟨⟨⟨by omega,by omega⟩,⟨by omega,by omega⟩⟩,h.nl⟩,fun r hr=>?_⟩
 have h9:=h.rl r hr
 have ht:∀ t∈r,-1≤t∧t<(a.Accept.length:Int):=fun t ht=>by
  have hm:t∈a.Next.flatten:=List.mem_flatten.2 ⟨r,hr,ht⟩
  obtain⟨p,hp⟩:=List.getElem?_of_mem hm
  exact⟨(h.ok p t hp).1,h.lt hp⟩
 unfold rowOk inB
 simp only [Bool.and_eq_true,decide_eq_true_eq,List.all_eq_true]
 exact⟨fun t hm=>by have:=ht t hm;omega,h9⟩
def shortQ (b:TAutomaton) (z:List Int×Bool):Prop:=shortP b z∧z.1.length≤14
def hasN (L:List TNo) (x:TNo):Bool:=L.any fun y=>decide (y.a=x.a∧y.b=x.b∧y.ap=x.ap)
theorem hasN_yes {L:List TNo} {x y:TNo} (hm:y∈L) (h:y.a=x.a∧y.b=x.b∧y.ap=x.ap):hasN L x=true:=List.any_eq_true.2 ⟨y,hm,decide_eq_true h⟩
theorem hasN_iff {L:List TNo} {x:TNo}:hasN L x=true↔∃ y∈L,y.a=x.a∧y.b=x.b∧y.ap=x.ap:=by
 unfold hasN
 rw [List.any_eq_true]
 exact⟨fun ⟨y,h1,h2⟩=>⟨y,h1,of_decide_eq_true h2⟩,fun ⟨y,h1,h2⟩=>⟨y,h1,decide_eq_true h2⟩⟩
theorem hasN_no {L:List TNo} {x:TNo} (h:∀ j y,j<L.length→L[j]?=some y→¬ (y.a=x.a∧y.b=x.b∧y.ap=x.ap)):hasN L x=false:=by
 cases e:hasN L x with
 | false=>rfl
 | true=>
  obtain⟨y,h1,h2⟩:=hasN_iff.1 e
  obtain⟨j,hj⟩:=List.getElem?_of_mem h1
  exact absurd h2 (h j y (List.getElem?_eq_some_iff.1 hj).1 hj)
section
variable {b:TAutomaton} {L:List TNo} {W:List (List Nat)}
theorem word_step (h:∀ (j:Nat) (x:TNo),L[j]?=some x→∃ w,W[j]?=some w∧NoOk b W j x w) {j:Nat} {x:TNo} {u:List Nat} (hx:L[j]?=some x) (hw:W[j]?=some u) (h0:0<j):∃ (i:Nat) (v:List Nat),x.fr=(i:Int)∧i<j∧W[i]?=some v∧u.length=v.length+1:=by
 obtain⟨w,h1,h2⟩:=h j x hx
 rw [hw] at h1
 cases h1
 rcases h2.2.2.2 with ⟨h3,_⟩|⟨_,i,c,v,h3,h4,_,_,h5,h6⟩
 · omega
 exact⟨i,v,h3,h4,h5,by rw [h6];simp⟩
theorem word_end (h:∀ (j:Nat) (x:TNo),L[j]?=some x→∃ w,W[j]?=some w∧NoOk b W j x w) (hl:0<L.length) {u:List Nat} (hw:W[0]?=some u):u.length=0:=by
 obtain⟨w,h1,h2⟩:=h 0 L[0] (List.getElem?_eq_getElem hl)
 rw [hw] at h1
 cases h1
 rcases h2.2.2.2 with ⟨_,_,_,h3⟩|⟨_,i,c,v,h3,h4,_⟩
 · rw [h3];rfl
 omega
theorem word_len (h:∀ (j:Nat) (x:TNo),L[j]?=some x→∃ w,W[j]?=some w∧NoOk b W j x w):∀ (n j:Nat) (u:List Nat),j<n→j<L.length→W[j]?=some u→u.length≤j
 | 0,_,_,hn,_,_=>absurd hn (Nat.not_lt_zero _)
 | n+1,j,u,hn,hl,hw=>by
  rcases Nat.eq_zero_or_pos j with h0|h0
  · subst h0
    have:=word_end h hl hw
    omega
  obtain⟨i,v,_,h4,h5,h6⟩:=word_step h (List.getElem?_eq_getElem hl) hw h0
  have:=word_len h n i v (by omega) (by omega) h5
  omega
end
theorem get_app {α:Type} {l r:List α} {i:Nat} {x:α} (h:l[i]?=some x):(l++r)[i]?=some x:=by rw [List.getElem?_append_left (List.getElem?_eq_some_iff.1 h).1];exact h
theorem noth_valid:validA nothA=true:=by decide
theorem noth_sh:ShA nothA:=validA_sh noth_valid
theorem noth_next {k:Nat} (hk:k<9):stA nothA 0 k=-1:=by
 have:∀ j:Fin 9,stA nothA 0 (j:Nat)=-1:=by decide
 exact this ⟨k,hk⟩
end Go.Q
namespace Go.Proofs.YtdhojcaoljhbiaaGreat
open Go.RowKit Go.Q Go.D
theorem specl12Accept (a:TAutomaton) (s:Int) (hs:-1≤s∧s<a.Accept.length):FnT Tryz.prog 152 [.agg (cAutomaton a),.one (.v (.int .i64 s))] (.a (.one (.v (.bool (accI a s))))):=by
 refine A6 Tryz.func152 U (by kernel_rfl) Tryz.ntmps152 U fun hlen w0=>?_
 try simp [cPair,cToken,cExpr,cEdge,cGraph,cStep,cWalk,cChange,cBatch,cHistory,cPositions,cAutomaton,cProductStep,cPathAtom,cConjunction,cView,cDelta,cRegistered,cRegistry] at hlen
 refine Af (Ac (Bo U U U (.tm U) (ts:=_) (by rfl)) U ?_);refine AWl.ac ?_;refine Aa (Af (Ab ?_));refine AWl.gd ?_;refine Ab ?_;refine AWl.fy Ct ?_;refine Cu ty33 ?_;refine Cl ?_;refine Ac ((by exact An U (by exact .yes1 U U U U) U (.tmp U (by exact id)) (.tmp U (by exact id)) Tryz.underlying33 ty4 (fun hq=>by (try simp at hq);exact⟨by omega,(Am (acA_get (a:=a) (i:=s.toNat) (by omega)))⟩))) U ?_;refine Cu ty4 ?_;refine Cb ?_;refine Ag ?_;refine Aa (Ai (Bb U U ?_))
 rfl
theorem specl12Next (a:TAutomaton) (hA:ShA a) (s:Int) (hs:-1≤s∧s<a.Accept.length) (k:Nat) (hk:k<9):FnT Tryz.prog 154 [.agg (cAutomaton a),.one (.v (.int .i64 s)),.one (.v (.int .i64 (k:Int)))] (.a (.one (.v (.int .i64 (stA a s k))))):=by
 refine A6 Tryz.func154 U (by kernel_rfl) Tryz.ntmps154 U fun hlen w0=>?_
 try simp [cPair,cToken,cExpr,cEdge,cGraph,cStep,cWalk,cChange,cBatch,cHistory,cPositions,cAutomaton,cProductStep,cPathAtom,cConjunction,cView,cDelta,cRegistered,cRegistry] at hlen
 refine Af (Ac (Bo U U U (.tm U) (ts:=_) (by rfl)) U ?_);refine AWl.ac ?_;refine Aa (Ae (Af (Ab ?_)));refine Cv ?_;refine Aa (Ah (.tm U) (fun h8=>?_) (fun h8=>?_))
 · try simp at h8
   refine Af (AWl.ac ?_);refine Aa (Ai (Bb U U ?_))
   rw [show stA a s k=-1 from if_pos (by omega)]
 try simp at h8
 obtain⟨r,hr,hx⟩:=hA.ent (s:=s.toNat) (k:=k) (by omega) hk
 refine AW.skip (Af (A8 Dc ?_));refine Ak ty34 ?_;refine Ab ?_;refine Ac (An U (.no U) U (.tm U) (.tm U) Tryz.underlying34 C7 (fun _=>⟨by omega,(by exact Am hr)⟩)) U ?_;refine Ak C7 ?_;refine Ab ?_;refine Ac (An U (.no U) U (.tm U) (.tm U) Tryz.underlying40 ty3 (fun _=>⟨by omega,(by exact Am hx)⟩)) U ?_;refine Ak ty3 ?_;refine Ag ?_;refine Aa (Ai (Bb U U ?_))
 rw [show stA a s k=nxA a s.toNat k from if_neg (by omega)]
theorem specl10Has (L:List TNo) (x:TNo) (hz:L.length≤1000):FnT Tryz.prog 155 [.one (.sl 5 (L.map cNo)),.agg (cNo x)] (.a (.one (.v (.bool (hasN L x))))):=by
 refine A6 Tryz.func155 U (by kernel_rfl) Tryz.ntmps155 U fun hlen w0=>?_
 try simp [cPair,cToken,cExpr,cEdge,cGraph,cStep,cWalk,cChange,cBatch,cHistory,cPositions,cAutomaton,cProductStep,cPathAtom,cConjunction,cView,cDelta,cRegistered,cRegistry] at hlen
 refine Af (Ac (Bo U U U (.tm U) (ts:=_) (by rfl)) U ?_);refine AWl.ac ?_;refine Aa (Ae (Af (AWl.ac ?_)));refine Aa (AW.block (Dp (fun (i:Nat)=>(i≤L.length∧∀ j y,j<i→L[j]?=some y→¬ (y.a=x.a∧y.b=x.b∧y.ap=x.ap))∧True) (fun (i:Nat)=>⟨_,[(5,(true,.a (.one (.t (.v (.int .i64 (i:Nat))))))),(0,_),(3,_)],[]⟩) (fun (i:Nat)=>L.length-i) (0) ⟨⟨Nat.zero_le _,fun j y hj=>absurd hj (Nat.not_lt_zero j)⟩,Y⟩ (Az U ⟨U,U,U,Y⟩ trivial) ?_))
 rintro i ⟨hk,he⟩
 refine Ae (Af (Ab ?_));refine Ab ?_;refine Br (.t) Tryz.underlying176 ?_;refine AWl.lt ?_;refine Aa (Ah (.tm U) (fun h9=>?_) (fun h9=>?_))
 · try simp at h9
   obtain⟨y,hy⟩:∃ ξ,L[i]?=some ξ:=⟨_,List.getElem?_eq_getElem (by omega)⟩
   refine AW.skip (Ae (AW.block (Ae (Cc 28 (nthB [[],[],[0,1],[0,1,2],[0,1,2,3],[],[5],[0,1,2,3,4,5,6],[0,1,2,3,4,5,6,7],[0,1,2,3,4,5,6,7,8],[0,1,2,3,4,5,6,7,8],[0,1,2,3,4,5,6,7,8,9,10],[0,1,2,3,4,5,6,7,8,9,10,11],[0,1,2,3,4,5,6,7,8,9,10,11,12],[0,1,2,3,4,5,6,7,8],[0,1,2,3,4,5,6,7,8,14],[0,1,2,3,4,5,6,7,8,9,10,11,12,13,14,15],[0,1,2,3,4,5,6,7,8,9,10,11,12,13,14,15,16],[0,1,2,3,4,5,6,7,8,9,10,11,12,13,14,15,16,17],[0,1,2,3,4,5,6,7,8,9,10,11,12,13,14,15,16,17,18],[0,1,2,3,4,5,6,7,8,9,10,11,12,13,14,15,16,17,18],[0,1,2,3,4,5,6,7,8,9,10,11,12,13,14,15,16,17,18,19,20],[0,1,2,3,4,5,6,7,8,9,10,11,12,13,14,15,16,17,18,19,20,21],[0,1,2,3,4,5,6,7,8,9,10,11,12,13,14,15,16,17,18,19,20,21,22],[0,1,2,3,4,5,6,7,8,9,10,11,12,13,14,15,16,17,18],[0,1,2,3,4,5,6,7,8,9,10,11,12,13,14,15,16,17,18,24],[0,1,2,3,4,5,6,7,8,9,10,11,12,13,14,15,16,17,18,19,20,21,22,23,24,25],[0,1,2,3,4,5,6,7,8,9,10,11,12,13,14,15,16,17,18,19,20,21,22,23,24,25,26]]) (by kernel_rfl) (by kernel_rfl) (by kernel_rfl) ?_))))
   refine Av ?_;refine Av ?_;refine DrawC.s (fun _ hs=>(by exact An U (.no U) (Aj hs U) (hs.tm U) (hs.tm U) Tryz.underlying176 C2 (fun _=>⟨by omega,(Am hy)⟩))) ?_;refine Ck fl175_0 ?_;refine Bp ty3 ?_;refine Ck fl175_0 ?_;refine Bp ty3 ?_;refine DrawC.s (fun _ hs=>R_eq U (.no U) (Aj hs U) (hs.tm U) (hs.tm U)) ?_;refine Av ?_;refine DrawC.s (fun _ hs=>Bf U (by exact hs.y1) (Aj hs U) (hs.tm U)) ?_;refine DrawC.s (fun _ hs=>Bf U (by exact hs.y1) (Aj hs U) (hs.tm U)) ?_;refine DrawC.s (fun _ hs=>(by exact An U (by exact hs.y1) (Aj hs U) (hs.ti U) (hs.ti U) Tryz.underlying176 C2 (fun hq=>by (try simp at hq);exact⟨by omega,(Am hy)⟩))) ?_;refine DrawC.s (fun _ hs=>(by exact B9 U (by exact hs.y1) (Aj hs U) (hs.ti U) De)) ?_;refine DrawC.s (fun _ hs=>(by exact Ca U (by exact hs.y1) (Aj hs U) (hs.ti U) ty3 U U)) ?_
   refine DrawC.s (fun _ hs=>(by exact B9 U (by exact hs.y1) (Aj hs U) (hs.tm U) De)) ?_;refine DrawC.s (fun _ hs=>(by exact Ca U (by exact hs.y1) (Aj hs U) (hs.ti U) ty3 U U)) ?_;refine DrawC.s (fun _ hs=>R_eq U (by exact hs.y1) (Aj hs U) (hs.ti U) (hs.ti U)) ?_;refine DrawC.s (fun _ hs=>R_and U (.no U) (Aj hs U) (hs.tm U) (hs.ti U)) ?_;refine Av ?_;refine DrawC.s (fun _ hs=>Bf U (by exact hs.y1) (Aj hs U) (hs.tm U)) ?_;refine DrawC.s (fun _ hs=>Bf U (by exact hs.y1) (Aj hs U) (hs.tm U)) ?_;refine DrawC.s (fun _ hs=>(by exact An U (by exact hs.y1) (Aj hs U) (hs.ti U) (hs.ti U) Tryz.underlying176 C2 (fun hq=>by (try simp at hq);exact⟨by omega,(Am hy)⟩))) ?_;refine DrawC.s (fun _ hs=>(by exact B9 U (by exact hs.y1) (Aj hs U) (hs.ti U) fl175_2)) ?_;refine DrawC.s (fun _ hs=>(by exact Ca U (by exact hs.y1) (Aj hs U) (hs.ti U) ty4 U U)) ?_
   refine DrawC.s (fun _ hs=>(by exact B9 U (by exact hs.y1) (Aj hs U) (hs.tm U) fl175_2)) ?_;refine DrawC.s (fun _ hs=>(by exact Ca U (by exact hs.y1) (Aj hs U) (hs.ti U) ty4 U U)) ?_;refine DrawC.s (fun _ hs=>R_eqb U (by exact hs.y1) (Aj hs U) (hs.ti U) (hs.ti U) Tryz.underlying4) ?_;refine DrawC.s (fun _ hs=>R_and U (.no U) (Aj hs U) (hs.tm U) (hs.ti U)) ?_;refine DrawC.fin U U ?_;refine Aa (Ah (.tm U) (fun h39=>?_) (fun h39=>?_))
   · try simp at h39
     refine Ae (Al (Ap [0,3,5] []) ?_);refine Ad (AWl.ac ?_);refine Aa (Ai (Bb U U ?_))
     rw [hasN_yes (List.mem_of_getElem? hy) ⟨h39.1.1,h39.1.2,h39.2⟩]
   try simp at h39
   refine AW.skip (Al (Ap [0,3,5] []) ?_);refine Ad (Ab ?_);refine Bk ?_;refine Ag ?_;refine Aa ?_
   repeat (with_reducible refine A7 ?_)
   refine Round1.next (i+1) ⟨⟨by omega,fun j z hj hz'=>by (rcases Nat.lt_or_eq_of_le (Nat.le_of_lt_succ hj) with h1|h1;exact hk.2 j z h1 hz';(rw [h1,hy] at hz';cases hz';exact fun e=>h39 e.1 e.2.1 e.2.2))⟩,Y⟩ (by omega) (Az rfl ⟨rfl,rfl,rfl,Y⟩ trivial)
 try simp at h9
 refine Bz (Af (AWl.ac ?_));refine Aa (Ai (Bb U U ?_))
 rw [hasN_no (L:=L) (x:=x) fun j y hj=>hk.2 j y (by omega)]
theorem specl10WordE {b:TAutomaton} {L:List TNo} {W:List (List Nat)} (hL:L.length≤1000) (h:∀ (j:Nat) (x:TNo),L[j]?=some x→∃ w,W[j]?=some w∧NoOk b W j x w) (k:Nat) (hkl:k<L.length) (w:List Nat) (hw:W[k]?=some w):FnE Tryz.prog 153 [.one (.sl 5 (L.map cNo)),.one (.v (.int .i64 (k:Int)))] (fun o:List Int=>o.length=w.length) (fun o=>.a (.one (.sl 1 (o.map cInt)))):=by
 refine FnE.walk Tryz.func153 rfl (by kernel_rfl) Tryz.ntmps153 rfl fun w0=>?_
 have hwl:=word_len h (k+1) k w (by omega) hkl hw
 refine Af (AWl.ac ?_);refine AWl.nilS (i:=4) 20001 1 U U ?_;refine Aa (Af (Aq (Dj 6 U U U Tryz.underlying40 ty3 U) U ?_));refine Ag ?_;refine Aa (Ae (AW.block ?_));refine AW.loop3 (fun (J:Int) (O:List Int) (u:List Nat)=>((0≤J∧J.toNat<L.length∧O.length+u.length=w.length)∧W[J.toNat]?=some u)∧True) (fun (J:Int) (O:List Int) (u:List Nat)=>⟨_,[(1,(true,.a (.one (.t (.v (.int .i64 J)))))),(5,(true,.a (.one (.rf 6)))),(0,_),(4,_)],[(6,.row 1 (O.map cInt))]⟩) (fun (J:Int) (O:List Int) (u:List Nat)=>J.toNat) ((k:Int)) ([]) (w) ⟨⟨⟨by omega,by omega,by simp⟩,by rw [Int.toNat_natCast];exact hw⟩,Y⟩ Bi ?_
 rintro J O u ⟨hk,he⟩
 refine Ae (Af (Ab ?_));refine AWl.gc ?_;refine Aa (Ah (.tm U) (fun h8=>?_) (fun h8=>?_))
 · try simp at h8
   obtain⟨x,hx⟩:∃ ξ,L[J.toNat]?=some ξ:=⟨_,List.getElem?_eq_getElem (by omega)⟩
   obtain⟨i,v,hfr,hij,hv,huv⟩:=word_step h hx hk.2 (by omega)
   refine AW.skip (AW.block (Af (Ab ?_)));refine Ab ?_;refine Ac (An U (.no U) U (.tm U) (.tm U) Tryz.underlying176 C2 (fun _=>⟨by omega,(Am hx)⟩)) U ?_;refine A8 fl175_4 ?_;refine Ak ty3 ?_;refine Bs (Cn (xs:=[.tmp 13]) 14 U U U (.cons (.tm U) U U .nil) Tryz.underlying40 in3 U U U U) U ?_;refine Ab ?_;refine Bg (By U U U (.tm U) U (.tm U) (by exact .rf U) (by exact isV_map (fun _=>rfl) _) Tryz.underlying40 in3 U (by (simp [chunk];omega)) (by (unfold maxLen;simp [chunk];omega))) U ?_;refine Bm (Ap [0,1,4,5,8,16] [6,14]) ?_;refine Ag ?_;refine Aa (Al (Le.sw 6 14 _) ?_);refine Ad (Ab ?_);refine Ab ?_;refine Ac (An U (.no U) U (.tm U) (.tm U) Tryz.underlying176 C2 (fun _=>⟨by omega,(Am hx)⟩)) U ?_;refine A8 fl175_3 ?_;refine Ak ty3 ?_;refine Ag ?_;refine Aa ?_
   repeat (with_reducible refine A7 ?_)
   refine Round3.next (x.fr) ([x.bl]++O) (v) ⟨⟨⟨by omega,by omega,by simp;omega⟩,by rw [hfr,Int.toNat_natCast];exact hv⟩,Y⟩ (by omega) (Az rfl ⟨rfl,rfl,rfl,rfl,Y⟩ ⟨(by rfl),Y⟩)
 try simp at h8
 refine Bz (Af (Ab ?_));refine Ag ?_;refine Aa (Ai ?_);apply ERes.mk (x:=O)
 case h=>
  refine A4 U (.tmp U .nil) U ?_
  rfl
 case hp=>exact (by (have hJ:J.toNat=0:=by (first|omega|(simp at h8;omega)));(have h2:=hk.2);rw [hJ] at h2;(have h3:=word_end h (by omega) h2);omega)
theorem specl12AcceptN (s:Int) (hs:s=0∨s=-1):FnT Tryz.prog 152 [.agg (cAutomaton nothA),.one (.v (.int .i64 s))] (.a (.one (.v (.bool false)))):=by
 have h:=specl12Accept nothA s (by show -1≤s∧s<1;omega)
 rw [show accI nothA s=false by rcases hs with rfl|rfl<;>decide] at h
 exact h
theorem specl12NextN (s:Int) (hs:s=0∨s=-1) (k:Nat) (hk:k<9):FnT Tryz.prog 154 [.agg (cAutomaton nothA),.one (.v (.int .i64 s)),.one (.v (.int .i64 (k:Int)))] (.a (.one (.v (.int .i64 (-1))))):=by
 have h:=specl12Next nothA noth_sh s (by show -1≤s∧s<1;omega) k hk
 rw [show stA nothA s k=-1 by rcases hs with rfl|rfl;exact noth_next hk;rfl] at h
 exact h
theorem specl12DifferE (b:TAutomaton) (hA:ShA b) (hN:b.Accept.length≤12):FnE Tryz.prog 101 [.agg (cAutomaton nothA),.one (.v (.int .i64 0)),.agg (cAutomaton b),.one (.v (.int .i64 b.Start)),.one (.v (.bool true))] (shortQ b) (fun z:List Int×Bool=>.tup [.one (.sl 1 (z.1.map cInt)),.one (.v (.bool z.2))]):=by
 refine FnE.walk Tryz.func101 rfl (by kernel_rfl) Tryz.ntmps101 rfl fun w0=>?_
 refine Af (Ac (Bo U U U (.tm U) (ts:=_) (by rfl)) U ?_);refine Ac (Bo U U U (.tm U) (ts:=_) (by rfl)) U ?_;refine AWl.ac ?_;refine AWl.nilS (i:=10) 20001 1 U U ?_;refine AWl.ac ?_;refine Aa (Af (Ab ?_));refine Ab ?_;refine Ac (A9 (ps:=[(0,.tmp 18),(1,.tmp 19)]) U U U C3 U U st175 (.cons (.tm U) U U fp175_0 (.cons (.tm U) U U fp175_1 .nil)) U) U ?_;refine Bs (Cn (xs:=[.tmp 20]) 21 U U U (.cons (.tm U) U U .nil) Tryz.underlying176 C3 U U U U) U ?_;refine Ag ?_;refine Aa (Ae (Af (AWl.ac ?_)));refine Aa (AW.block ?_)
 refine AW.loop3 (fun (k:Nat) (L:List TNo) (W:List (List Nat))=>(k≤L.length∧DfI b k 0 L W)∧True) (fun (k:Nat) (L:List TNo) (W:List (List Nat))=>⟨_,[(13,(true,.a (.one (.t (.v (.int .i64 (k:Nat))))))),(12,(true,.a (.one (.rf 21)))),(4,_),(5,_),(7,_)],[(21,.row 5 (L.map cNo))]⟩) (fun (k:Nat) (L:List TNo) (W:List (List Nat))=>14-k) (0) ([⟨0,b.Start,false,0,0⟩]) ([[]]) ⟨⟨by simp,DfI.start⟩,Y⟩ Bi ?_
 rintro k L W ⟨hk,he⟩
 refine Ae (Af (Ab ?_));refine Ab ?_;refine Br (.rf U) Tryz.underlying176 ?_;refine AWl.lt ?_;refine Aa (Ah (.tm U) (fun h25=>?_) (fun h25=>?_))
 · try simp at h25
   have hLl:=hk.2.len hA
   obtain⟨x,w,hx,hw,hok⟩:=hk.2.at (j:=k) (by omega)
   have hxa:=hok.a
   have hxb:=hok.rg hA
   refine AW.skip (Ae (AW.block (Ae (Cc 8 (nthB [[],[],[],[1,2],[1,2,3],[1,2,3,4],[0,1,2,3,4,5],[0,1,2,3,4,5,6]]) (by kernel_rfl) (by kernel_rfl) (by kernel_rfl) ?_))));refine Bp Cm ?_;refine Av ?_;refine Av ?_;refine DrawC.s (fun _ hs=>(Ay U (.no U) (Aj hs U) (hs.tm U) (hs.res _ _ U) (hs.tm U) Tryz.underlying176 C2 (fun _=>⟨by omega,(by exact Am hx)⟩))) ?_;refine DrawC.s (fun _ hs=>(by exact Bh U (.no U) (Aj hs U) (hs.tm U) fl175_0)) ?_;refine DrawC.s (fun _ hs=>(by exact Bt U (.no U) (Aj hs U) (hs.tm U) (hs.res _ _ U) (by exact Am hx) ty3 U U)) ?_;refine DrawC.s (fun _ hs=>Aw (FnT.fr (specl12AcceptN x.a hxa)) U (.no U) (Aj hs U) (.cons (hs.tm U) (readA_sup hs U) (.cons (hs.tm U) (readA_sup hs U) .nil))) ?_;refine DrawC.s (fun _ hs=>C5 U (.no U) (Aj hs U) (hs.tm U)) ?_;refine DrawC.fin U U ?_;refine Aa (Ae (Al (Ap [4,5,7,12,13,14] [21]) ?_))
   refine Cc 8 (nthB [[],[],[],[1,2],[1,2,3],[1,2,3,4],[0,1,2,3,4,5],[0,1,2,3,4,5,6]]) (by kernel_rfl) (by kernel_rfl) (by kernel_rfl) ?_;refine Bp Cm ?_;refine Av ?_;refine Av ?_;refine DrawC.s (fun _ hs=>(by exact Ay U (.no U) (Aj hs U) (hs.tm U) (hs.res _ _ U) (hs.tm U) Tryz.underlying176 C2 (fun _=>⟨by omega,(by exact Am hx)⟩))) ?_;refine DrawC.s (fun _ hs=>(by exact Bh U (.no U) (Aj hs U) (hs.tm U) De)) ?_;refine DrawC.s (fun _ hs=>(by exact Bt U (.no U) (Aj hs U) (hs.tm U) (hs.res _ _ U) (by exact Am hx) ty3 U U)) ?_;refine DrawC.s (fun _ hs=>Aw (FnT.fr (specl12Accept b x.b hxb)) U (.no U) (Aj hs U) (.cons (hs.tm U) (readA_sup hs U) (.cons (hs.tm U) (readA_sup hs U) .nil))) ?_;refine DrawC.s (fun _ hs=>C5 U (.no U) (Aj hs U) (hs.tm U)) ?_;refine DrawC.fin U U ?_;refine Aa (Ae (Ae (Al (Ap [4,5,7,12,13,14,15] [21]) ?_)));refine Ad (Ab ?_);refine Ab ?_;refine Cl ?_
   refine Ac (R_not U (by exact .yes1 U U U U) U (.tmp U (by exact id))) U ?_;refine Cb ?_;refine Ab ?_;refine AWl.mw ?_;refine Ac (Bf U (by exact .not1 U U U U) U (.tmp U (by exact id))) U ?_;refine Ac (Bf U (by exact .yes U U U U) U (.tmp U (by exact fun _=>rfl))) U ?_;refine Ac (R_not U (by exact .yes U U U U) U (.tmp U (by exact id))) U ?_;refine Ac (R_and U (by exact .not1 U U U U) U (.tmp U (by exact id)) (.tmp U (by exact id))) U ?_;refine Ac (Bf U (by exact .not1 U U U U) U (.tmp U (by exact id))) U ?_;refine Ac (Bf U (by exact .yes U U U U) U (.tmp U (by exact fun _=>rfl))) U ?_;refine Ac (R_not U (by exact .yes U U U U) U (.tmp U (by exact id))) U ?_;refine Ac (R_and U (by exact .not1 U U U U) U (.tmp U (by exact id)) (.tmp U (by exact id))) U ?_;refine Cj ?_;refine Aa (Ah (.tm U) (fun h57=>?_) (fun h57=>?_))
   · try simp at h57
     have hya:accI b x.b=true:=(by simpa using h57)
     refine Ae (Al (Ap [4,5,7,12,13,14,15] [21]) ?_);refine Ad (Ab ?_);refine Ab ?_;refine Bl (C8 6000 (specl10WordE (by omega) hk.2.nd k (by omega) w hw) U U U (.cons (.tm U) U (.cons (.tm U) U .nil)) (fun _=>rfl) (fun _=>rfl)) ?_
     rintro _ ⟨z60,hz60,rfl⟩
     try dsimp only at hz60
     refine Ag ?_;refine AWl.ac ?_;refine Aa (Ai ?_);apply ERes.mk (x:=(z60,true))
     case h=>
      refine Cf U (.tmp U (.tmp U .nil)) U ?_ (by simp)
      rfl
     case hp=>exact⟨⟨fun _=>⟨w,hz60,hk.2.found hA hx hw hya⟩,fun h=>by cases h⟩,(by show z60.length≤14;have h1:=word_len hk.2.nd (k+1) k w (by omega) (by omega) hw;omega)⟩
   try simp at h57
   have hna:accI b x.b=false:=(by simpa using h57)
   refine AW.skip (Ae (Al (Ap [4,5,7,12,13,14,15] [21]) ?_));refine Ad (AWl.ac ?_);refine Aa (AW.block ?_);refine AW.loop3 (fun (n:Nat) (L1:List TNo) (W1:List (List Nat))=>((n≤9∧L.length≤L1.length)∧(L1[k]?=some x∧W1[k]?=some w)∧DfI b k n L1 W1)∧True) (fun (n:Nat) (L1:List TNo) (W1:List (List Nat))=>⟨_,[(16,(true,.a (.one (.t (.v (.int .i64 (n:Nat))))))),(12,(true,.a (.one (.rf 21)))),(4,_),(5,_),(7,_),(13,_)],[(21,.row 5 (L1.map cNo))]⟩) (fun (n:Nat) (L1:List TNo) (W1:List (List Nat))=>9-n) (0) (L) (W) ⟨⟨⟨by omega,Nat.le_refl _⟩,⟨hx,hw⟩,hk.2⟩,Y⟩ Bi ?_
   rintro n L1 W1 ⟨hk1,he1⟩
   refine Ae (Af (Ab ?_));refine Cv ?_;refine Aa (Ah (.tm U) (fun h62=>?_) (fun h62=>?_))
   · try simp at h62
     have hLm:=hk1.2.2.len hA
     have hx1:=hk1.2.1.1
     refine AW.skip (Ae (AW.block (Ae (Al (Ap [4,5,7,12,13,16,61,62] [21]) ?_))))
     apply Cz (N:=20) (k:=43) (Hs:=[0,1,2,6,8,9,10,14,16,17]) (ms:=[[],[3],[11],[19],[3,4],[3,11],[3,19],[11,12],[11,19],[3,4,5],[3,4,11],[3,4,19],[3,11,12],[3,11,19],[11,12,13],[11,12,19],[3,4,5,7],[3,4,5,11],[3,4,5,19],[3,4,11,12],[3,4,11,19],[3,11,12,13],[3,11,12,19],[11,12,13,19],[3,4,5,7,11],[3,4,5,7,19],[3,4,5,11,12],[3,4,5,11,19],[3,4,11,12,13],[3,4,11,12,19],[3,11,12,13,19],[3,4,5,7,11,12],[3,4,5,7,11,19],[3,4,5,11,12,13],[3,4,5,11,12,19],[3,4,11,12,13,19],[3,4,5,7,11,12,13],[3,4,5,7,11,12,19],[3,4,5,11,12,13,19],[3,4,5,7,11,12,13,15],[3,4,5,7,11,12,13,19],[3,4,5,7,11,12,13,15,18],[3,4,5,7,11,12,13,15,19],[3,4,5,7,11,12,13,15,18,19]]) (es:=[(0,3,1),(0,11,2),(0,19,3),(1,4,4),(1,11,5),(2,3,5),(1,19,6),(3,3,6),(2,12,7),(2,19,8),(3,11,8),(4,5,9),(4,11,10),(5,4,10),(4,19,11),(6,4,11),(5,12,12),(7,3,12),(5,19,13),(6,11,13),(8,3,13),(7,13,14),(7,19,15),(8,12,15),(9,7,16),(9,11,17),(10,5,17),(9,19,18),(11,5,18),(10,12,19),(12,4,19),(10,19,20),(11,11,20),(13,4,20),(12,13,21),(14,3,21),(12,19,22),(13,12,22),(15,3,22),(14,19,23),(15,13,23),(16,11,24),(17,7,24),(16,19,25),(18,7,25),(17,12,26),(19,5,26),(17,19,27),(18,11,27),(20,5,27),(19,13,28),(21,4,28),(19,19,29),(20,12,29),(22,4,29),(21,19,30),(22,13,30),(23,3,30),(24,12,31),(26,7,31),(24,19,32),(25,11,32),(27,7,32),(26,13,33),(28,5,33),(26,19,34),(27,12,34),(29,5,34),(28,19,35),(29,13,35),(30,4,35),(31,13,36),(33,7,36),(31,19,37),(32,12,37),(34,7,37),(33,19,38),(34,13,38),(35,5,38),(36,15,39),(36,19,40),(37,13,40),(38,7,40),(39,18,41),(39,19,42),(40,15,42),(41,19,43),(42,18,43)]) (σ1:=_) (SM:=⟨_,[(4,_),(5,_),(7,_),(12,_),(13,_),(16,_),(61,_),(62,_),(65,_),(66,_),(67,_),(71,_),(73,_),(74,_),(75,_),(79,_),(81,_),(82,_)],[(21,_)]⟩)
     case hm=>kernel_rfl
     case hB=>kernel_rfl
     case hP=>kernel_rfl
     case hL=>kernel_rfl
     case hN=>rfl
     case hpre=>
      apply As (P:=Tryz.prog) 0 rfl ((Ca rfl (.no rfl) rfl (.tm rfl) Cm rfl rfl)) (by exact HasV.ld (x:=.tmp 5) (.tm rfl) rfl rfl) rfl rfl rfl;apply As (P:=Tryz.prog) 1 rfl (Bf rfl (.no rfl) rfl (.tm rfl)) (by exact HasV.slot (t:=12) rfl) rfl rfl rfl;apply As (P:=Tryz.prog) 2 rfl (Bf rfl (.no rfl) rfl (.tm rfl)) (by exact HasV.slot (t:=13) rfl) rfl rfl rfl;apply As (P:=Tryz.prog) 6 rfl (Bf rfl (.no rfl) rfl (.tm rfl)) (by exact HasV.slot (t:=16) rfl) rfl rfl rfl;apply As (P:=Tryz.prog) 8 rfl ((by exact Ca rfl (.no rfl) rfl (.tm rfl) Cm rfl rfl)) (by exact HasV.ld (x:=.tmp 7) (.tm rfl) rfl rfl) rfl rfl rfl;apply As (P:=Tryz.prog) 9 rfl (Bf rfl (.no rfl) rfl (.tm rfl)) (by exact HasV.slot (t:=12) rfl) rfl rfl rfl;apply As (P:=Tryz.prog) 10 rfl (Bf rfl (.no rfl) rfl (.tm rfl)) (by exact HasV.slot (t:=13) rfl) rfl rfl rfl
      apply As (P:=Tryz.prog) 14 rfl (Bf rfl (.no rfl) rfl (.tm rfl)) (by exact HasV.slot (t:=16) rfl) rfl rfl rfl;apply As (P:=Tryz.prog) 16 rfl (Bf rfl (.no rfl) rfl (.tm rfl)) (by exact HasV.slot (t:=13) rfl) rfl rfl rfl;apply As (P:=Tryz.prog) 17 rfl (Bf rfl (.no rfl) rfl (.tm rfl)) (by exact HasV.slot (t:=16) rfl) rfl rfl rfl;exact PreOk.nil
     case hS=>exact A5
     case hH=>
      refine⟨⟨_,_,_,rfl,rfl,rfl,fun σ' hs=>(by exact Ca rfl (.no rfl) (Aj hs rfl) (.tm (hs.slots _ _ rfl)) Cm rfl rfl)⟩,?_⟩
      refine LocsH.mv ?_;refine LocsH.mv ?_;refine LocsH.mv ?_
      refine⟨⟨_,_,_,rfl,rfl,rfl,fun σ' hs=>(by exact Ca rfl (.no rfl) (Aj hs rfl) (.tm (hs.slots _ _ rfl)) Cm rfl rfl)⟩,?_⟩
      refine LocsH.mv ?_;refine LocsH.mv ?_;refine LocsH.mv ?_;refine LocsH.mv ?_;refine LocsH.mv ?_
      trivial
     apply Dh.new0 (i:=3);rfl;rfl;rfl
     · intro w9 _;refine Ac (by exact Ay U (.no U) U (.tm U) U (.tm U) Tryz.underlying176 C2 (fun _=>⟨by omega,(by exact Am hx1)⟩)) U ?_;exact Ax [4,5,7,12,13,16,61,62,65,66,67,68,71,73,74,75,79,81,82] [21]
     intros;exact A5
     apply Dh.new0 (i:=11);rfl;rfl;rfl
     · intro w9 _;refine Ac (Ay U (.no U) U (.tm U) U (.tm U) Tryz.underlying176 C2 (fun _=>⟨by omega,(by exact Am hx1)⟩)) U ?_;exact Ax [4,5,7,12,13,16,61,62,65,66,67,71,73,74,75,76,79,81,82] [21]
     intros;exact A5
     apply Dh.new0 (i:=19);rfl;rfl;rfl
     · intro w9 _;refine Aq (Au 17 U U U C3 U U U) U ?_;exact Ax [4,5,7,12,13,16,17,61,62,65,66,67,71,73,74,75,79,81,82] [21,17]
     intros;exact A5
     apply Dh.new0 (i:=4);rfl;rfl;rfl
     · intro w9 _;refine Ac (Bh U (.no U) U (.tm U) fl175_0) U ?_;exact Ax [4,5,7,12,13,16,61,62,65,66,67,69,71,73,74,75,79,81,82] [21]
     intros;exact A5
     apply Dh.new0 (i:=11);rfl;rfl;rfl
     · intro w9 _;refine Ac (Ay U (.no U) U (.tm U) U (.tm U) Tryz.underlying176 C2 (fun _=>⟨by omega,(by exact Am hx1)⟩)) U ?_;exact Ax [4,5,7,12,13,16,61,62,65,66,67,68,71,73,74,75,76,79,81,82] [21]
     intros;exact A5
     apply Dh.old0 (i:=3);rfl;rfl;rfl
     · intro w9 _;refine Ac (Ay U (.no U) U (.tm U) U (.tm U) Tryz.underlying176 C2 (fun _=>⟨by omega,(by exact Am hx1)⟩)) U ?_;exact Aa Bi
     apply Dh.new0 (i:=19);rfl;rfl;rfl
     · intro w9 _;refine Aq (Au 17 U U U C3 U U U) U ?_;exact Ax [4,5,7,12,13,16,17,61,62,65,66,67,68,71,73,74,75,79,81,82] [21,17]
     intros;exact A5
     apply Dh.old0 (i:=3);rfl;rfl;rfl
     · intro w9 _;refine Ac (Ay U (.no U) U (.tm U) U (.tm U) Tryz.underlying176 C2 (fun _=>⟨by omega,(by exact Am hx1)⟩)) U ?_;exact Aa Bi
     apply Dh.new0 (i:=12);rfl;rfl;rfl
     · intro w9 _;refine Ac (Bh U (.no U) U (.tm U) De) U ?_;exact Ax [4,5,7,12,13,16,61,62,65,66,67,71,73,74,75,77,79,81,82] [21]
     intros;exact A5
     apply Dh.new0 (i:=19);rfl;rfl;rfl
     · intro w9 _;refine Aq (Au 17 U U U C3 U U U) U ?_;exact Ax [4,5,7,12,13,16,17,61,62,65,66,67,71,73,74,75,76,79,81,82] [21,17]
     intros;exact A5
     apply Dh.old0 (i:=11);rfl;rfl;rfl
     · intro w9 _;refine Ac (Ay U (.no U) U (.tm U) U (.tm U) Tryz.underlying176 C2 (fun _=>⟨by omega,(by exact Am hx1)⟩)) U ?_;exact Aa Bi
     apply Dh.new0 (i:=5);rfl;rfl;rfl
     · intro w9 _;refine Ac (Bt U (.no U) U (.tm U) U (by exact Am hx1) ty3 U U) U ?_;exact Ax [4,5,7,12,13,16,61,62,65,66,67,70,71,73,74,75,79,81,82] [21]
     intros;exact A5
     apply Dh.new0 (i:=11);rfl;rfl;rfl
     · intro w9 _;refine Ac (Ay U (.no U) U (.tm U) U (.tm U) Tryz.underlying176 C2 (fun _=>⟨by omega,(by exact Am hx1)⟩)) U ?_;exact Ax [4,5,7,12,13,16,61,62,65,66,67,69,71,73,74,75,76,79,81,82] [21]
     intros;exact A5
     apply Dh.old0 (i:=4);rfl;rfl;rfl
     · intro w9 _;refine Ac (Bh U (.no U) U (.tm U) fl175_0) U ?_;exact Aa Bi
     apply Dh.new0 (i:=19);rfl;rfl;rfl
     · intro w9 _;refine Aq (Au 17 U U U C3 U U U) U ?_;exact Ax [4,5,7,12,13,16,17,61,62,65,66,67,69,71,73,74,75,79,81,82] [21,17]
     intros;exact A5
     apply Dh.old0 (i:=4);rfl;rfl;rfl
     · intro w9 _;refine Ac (Bh U (.no U) U (.tm U) fl175_0) U ?_;exact Aa Bi
     apply Dh.new0 (i:=12);rfl;rfl;rfl
     · intro w9 _;refine Ac (Bh U (.no U) U (.tm U) De) U ?_;exact Ax [4,5,7,12,13,16,61,62,65,66,67,68,71,73,74,75,77,79,81,82] [21]
     intros;exact A5
     apply Dh.old0 (i:=3);rfl;rfl;rfl
     · intro w9 _;refine Ac (Ay U (.no U) U (.tm U) U (.tm U) Tryz.underlying176 C2 (fun _=>⟨by omega,(by exact Am hx1)⟩)) U ?_;exact Aa Bi
     apply Dh.new0 (i:=19);rfl;rfl;rfl
     · intro w9 _;refine Aq (Au 17 U U U C3 U U U) U ?_;exact Ax [4,5,7,12,13,16,17,61,62,65,66,67,68,71,73,74,75,76,79,81,82] [21,17]
     intros;exact A5
     apply Dh.old0 (i:=11);rfl;rfl;rfl
     · intro w9 _;refine Ac (Ay U (.no U) U (.tm U) U (.tm U) Tryz.underlying176 C2 (fun _=>⟨by omega,(by exact Am hx1)⟩)) U ?_;exact Aa Bi
     apply Dh.old0 (i:=3);rfl;rfl;rfl
     · intro w9 _;refine Ac (Ay U (.no U) U (.tm U) U (.tm U) Tryz.underlying176 C2 (fun _=>⟨by omega,(by exact Am hx1)⟩)) U ?_;exact Aa Bi
     apply Dh.new0 (i:=13);rfl;rfl;rfl
     · intro w9 _;refine Ac (Bt U (.no U) U (.tm U) U (by exact Am hx1) ty3 U U) U ?_;exact Ax [4,5,7,12,13,16,61,62,65,66,67,71,73,74,75,78,79,81,82] [21]
     intros;exact A5
     apply Dh.new0 (i:=19);rfl;rfl;rfl
     · intro w9 _;refine Aq (Au 17 U U U C3 U U U) U ?_;exact Ax [4,5,7,12,13,16,17,61,62,65,66,67,71,73,74,75,77,79,81,82] [21,17]
     intros;exact A5
     apply Dh.old0 (i:=12);rfl;rfl;rfl
     · intro w9 _;refine Ac (Bh U (.no U) U (.tm U) De) U ?_;exact Aa Bi
     apply Dh.new0 (i:=7);rfl;rfl;rfl
     · intro w9 _;refine Ac (Aw (FnT.fr (specl12NextN x.a hxa n (by omega))) U (.no U) U (.cons (.tm U) U (.cons (.tm U) U (.cons (.tm U) U .nil)))) U ?_;exact Ax [4,5,7,12,13,16,61,62,65,66,67,71,72,73,74,75,79,81,82] [21]
     intros;exact A5
     apply Dh.new0 (i:=11);rfl;rfl;rfl
     · intro w9 _;refine Ac (Ay U (.no U) U (.tm U) U (.tm U) Tryz.underlying176 C2 (fun _=>⟨by omega,(by exact Am hx1)⟩)) U ?_;exact Ax [4,5,7,12,13,16,61,62,65,66,67,70,71,73,74,75,76,79,81,82] [21]
     intros;exact A5
     apply Dh.old0 (i:=5);rfl;rfl;rfl
     · intro w9 _;refine Ac (Bt U (.no U) U (.tm U) U (by exact Am hx1) ty3 U U) U ?_;exact Aa Bi
     apply Dh.new0 (i:=19);rfl;rfl;rfl
     · intro w9 _;refine Aq (Au 17 U U U C3 U U U) U ?_;exact Ax [4,5,7,12,13,16,17,61,62,65,66,67,70,71,73,74,75,79,81,82] [21,17]
     intros;exact A5
     apply Dh.old0 (i:=5);rfl;rfl;rfl
     · intro w9 _;refine Ac (Bt U (.no U) U (.tm U) U (by exact Am hx1) ty3 U U) U ?_;exact Aa Bi
     apply Dh.new0 (i:=12);rfl;rfl;rfl
     · intro w9 _;refine Ac (Bh U (.no U) U (.tm U) De) U ?_;exact Ax [4,5,7,12,13,16,61,62,65,66,67,69,71,73,74,75,77,79,81,82] [21]
     intros;exact A5
     apply Dh.old0 (i:=4);rfl;rfl;rfl
     · intro w9 _;refine Ac (Bh U (.no U) U (.tm U) fl175_0) U ?_;exact Aa Bi
     apply Dh.new0 (i:=19);rfl;rfl;rfl
     · intro w9 _;refine Aq (Au 17 U U U C3 U U U) U ?_;exact Ax [4,5,7,12,13,16,17,61,62,65,66,67,69,71,73,74,75,76,79,81,82] [21,17]
     intros;exact A5
     apply Dh.old0 (i:=11);rfl;rfl;rfl
     · intro w9 _;refine Ac (Ay U (.no U) U (.tm U) U (.tm U) Tryz.underlying176 C2 (fun _=>⟨by omega,(by exact Am hx1)⟩)) U ?_;exact Aa Bi
     apply Dh.old0 (i:=4);rfl;rfl;rfl
     · intro w9 _;refine Ac (Bh U (.no U) U (.tm U) fl175_0) U ?_;exact Aa Bi
     apply Dh.new0 (i:=13);rfl;rfl;rfl
     · intro w9 _;refine Ac (Bt U (.no U) U (.tm U) U (by exact Am hx1) ty3 U U) U ?_;exact Ax [4,5,7,12,13,16,61,62,65,66,67,68,71,73,74,75,78,79,81,82] [21]
     intros;exact A5
     apply Dh.old0 (i:=3);rfl;rfl;rfl
     · intro w9 _;refine Ac (Ay U (.no U) U (.tm U) U (.tm U) Tryz.underlying176 C2 (fun _=>⟨by omega,(by exact Am hx1)⟩)) U ?_;exact Aa Bi
     apply Dh.new0 (i:=19);rfl;rfl;rfl
     · intro w9 _;refine Aq (Au 17 U U U C3 U U U) U ?_;exact Ax [4,5,7,12,13,16,17,61,62,65,66,67,68,71,73,74,75,77,79,81,82] [21,17]
     intros;exact A5
     apply Dh.old0 (i:=12);rfl;rfl;rfl
     · intro w9 _;refine Ac (Bh U (.no U) U (.tm U) De) U ?_;exact Aa Bi
     apply Dh.old0 (i:=3);rfl;rfl;rfl
     · intro w9 _;refine Ac (Ay U (.no U) U (.tm U) U (.tm U) Tryz.underlying176 C2 (fun _=>⟨by omega,(by exact Am hx1)⟩)) U ?_;exact Aa Bi
     apply Dh.new0 (i:=19);rfl;rfl;rfl
     · intro w9 _;refine Aq (Au 17 U U U C3 U U U) U ?_;exact Ax [4,5,7,12,13,16,17,61,62,65,66,67,71,73,74,75,78,79,81,82] [21,17]
     intros;exact A5
     apply Dh.old0 (i:=13);rfl;rfl;rfl
     · intro w9 _;refine Ac (Bt U (.no U) U (.tm U) U (by exact Am hx1) ty3 U U) U ?_;exact Aa Bi
     apply Dh.new0 (i:=11);rfl;rfl;rfl
     · intro w9 _;refine Ac (Ay U (.no U) U (.tm U) U (.tm U) Tryz.underlying176 C2 (fun _=>⟨by omega,(by exact Am hx1)⟩)) U ?_;exact Ax [4,5,7,12,13,16,61,62,65,66,67,71,72,73,74,75,76,79,81,82] [21]
     intros;exact A5
     apply Dh.old0 (i:=7);rfl;rfl;rfl
     · intro w9 _;refine Ac (Aw (FnT.fr (specl12NextN x.a hxa n (by omega))) U (.no U) U (.cons (.tm U) U (.cons (.tm U) U (.cons (.tm U) U .nil)))) U ?_;exact Aa Bi
     apply Dh.new0 (i:=19);rfl;rfl;rfl
     · intro w9 _;refine Aq (Au 17 U U U C3 U U U) U ?_;exact Ax [4,5,7,12,13,16,17,61,62,65,66,67,71,72,73,74,75,79,81,82] [21,17]
     intros;exact A5
     apply Dh.old0 (i:=7);rfl;rfl;rfl
     · intro w9 _;refine Ac (Aw (FnT.fr (specl12NextN x.a hxa n (by omega))) U (.no U) U (.cons (.tm U) U (.cons (.tm U) U (.cons (.tm U) U .nil)))) U ?_;exact Aa Bi
     apply Dh.new0 (i:=12);rfl;rfl;rfl
     · intro w9 _;refine Ac (Bh U (.no U) U (.tm U) De) U ?_;exact Ax [4,5,7,12,13,16,61,62,65,66,67,70,71,73,74,75,77,79,81,82] [21]
     intros;exact A5
     apply Dh.old0 (i:=5);rfl;rfl;rfl
     · intro w9 _;refine Ac (Bt U (.no U) U (.tm U) U (by exact Am hx1) ty3 U U) U ?_;exact Aa Bi
     apply Dh.new0 (i:=19);rfl;rfl;rfl
     · intro w9 _;refine Aq (Au 17 U U U C3 U U U) U ?_;exact Ax [4,5,7,12,13,16,17,61,62,65,66,67,70,71,73,74,75,76,79,81,82] [21,17]
     intros;exact A5
     apply Dh.old0 (i:=11);rfl;rfl;rfl
     · intro w9 _;refine Ac (Ay U (.no U) U (.tm U) U (.tm U) Tryz.underlying176 C2 (fun _=>⟨by omega,(by exact Am hx1)⟩)) U ?_;exact Aa Bi
     apply Dh.old0 (i:=5);rfl;rfl;rfl
     · intro w9 _;refine Ac (Bt U (.no U) U (.tm U) U (by exact Am hx1) ty3 U U) U ?_;exact Aa Bi
     apply Dh.new0 (i:=13);rfl;rfl;rfl
     · intro w9 _;refine Ac (Bt U (.no U) U (.tm U) U (by exact Am hx1) ty3 U U) U ?_;exact Ax [4,5,7,12,13,16,61,62,65,66,67,69,71,73,74,75,78,79,81,82] [21]
     intros;exact A5
     apply Dh.old0 (i:=4);rfl;rfl;rfl
     · intro w9 _;refine Ac (Bh U (.no U) U (.tm U) fl175_0) U ?_;exact Aa Bi
     apply Dh.new0 (i:=19);rfl;rfl;rfl
     · intro w9 _;refine Aq (Au 17 U U U C3 U U U) U ?_;exact Ax [4,5,7,12,13,16,17,61,62,65,66,67,69,71,73,74,75,77,79,81,82] [21,17]
     intros;exact A5
     apply Dh.old0 (i:=12);rfl;rfl;rfl
     · intro w9 _;refine Ac (Bh U (.no U) U (.tm U) De) U ?_;exact Aa Bi
     apply Dh.old0 (i:=4);rfl;rfl;rfl
     · intro w9 _;refine Ac (Bh U (.no U) U (.tm U) fl175_0) U ?_;exact Aa Bi
     apply Dh.new0 (i:=19);rfl;rfl;rfl
     · intro w9 _;refine Aq (Au 17 U U U C3 U U U) U ?_;exact Ax [4,5,7,12,13,16,17,61,62,65,66,67,68,71,73,74,75,78,79,81,82] [21,17]
     intros;exact A5
     apply Dh.old0 (i:=13);rfl;rfl;rfl
     · intro w9 _;refine Ac (Bt U (.no U) U (.tm U) U (by exact Am hx1) ty3 U U) U ?_;exact Aa Bi
     apply Dh.old0 (i:=3);rfl;rfl;rfl
     · intro w9 _;refine Ac (Ay U (.no U) U (.tm U) U (.tm U) Tryz.underlying176 C2 (fun _=>⟨by omega,(by exact Am hx1)⟩)) U ?_;exact Aa Bi
     apply Dh.new0 (i:=12);rfl;rfl;rfl
     · intro w9 _;refine Ac (Bh U (.no U) U (.tm U) De) U ?_;exact Ax [4,5,7,12,13,16,61,62,65,66,67,71,72,73,74,75,77,79,81,82] [21]
     intros;exact A5
     apply Dh.old0 (i:=7);rfl;rfl;rfl
     · intro w9 _;refine Ac (Aw (FnT.fr (specl12NextN x.a hxa n (by omega))) U (.no U) U (.cons (.tm U) U (.cons (.tm U) U (.cons (.tm U) U .nil)))) U ?_;exact Aa Bi
     apply Dh.new0 (i:=19);rfl;rfl;rfl
     · intro w9 _;refine Aq (Au 17 U U U C3 U U U) U ?_;exact Ax [4,5,7,12,13,16,17,61,62,65,66,67,71,72,73,74,75,76,79,81,82] [21,17]
     intros;exact A5
     apply Dh.old0 (i:=11);rfl;rfl;rfl
     · intro w9 _;refine Ac (Ay U (.no U) U (.tm U) U (.tm U) Tryz.underlying176 C2 (fun _=>⟨by omega,(by exact Am hx1)⟩)) U ?_;exact Aa Bi
     apply Dh.old0 (i:=7);rfl;rfl;rfl
     · intro w9 _;refine Ac (Aw (FnT.fr (specl12NextN x.a hxa n (by omega))) U (.no U) U (.cons (.tm U) U (.cons (.tm U) U (.cons (.tm U) U .nil)))) U ?_;exact Aa Bi
     apply Dh.new0 (i:=13);rfl;rfl;rfl
     · intro w9 _;refine Ac (Bt U (.no U) U (.tm U) U (by exact Am hx1) ty3 U U) U ?_;exact Ax [4,5,7,12,13,16,61,62,65,66,67,70,71,73,74,75,78,79,81,82] [21]
     intros;exact A5
     apply Dh.old0 (i:=5);rfl;rfl;rfl
     · intro w9 _;refine Ac (Bt U (.no U) U (.tm U) U (by exact Am hx1) ty3 U U) U ?_;exact Aa Bi
     apply Dh.new0 (i:=19);rfl;rfl;rfl
     · intro w9 _;refine Aq (Au 17 U U U C3 U U U) U ?_;exact Ax [4,5,7,12,13,16,17,61,62,65,66,67,70,71,73,74,75,77,79,81,82] [21,17]
     intros;exact A5
     apply Dh.old0 (i:=12);rfl;rfl;rfl
     · intro w9 _;refine Ac (Bh U (.no U) U (.tm U) De) U ?_;exact Aa Bi
     apply Dh.old0 (i:=5);rfl;rfl;rfl
     · intro w9 _;refine Ac (Bt U (.no U) U (.tm U) U (by exact Am hx1) ty3 U U) U ?_;exact Aa Bi
     apply Dh.new0 (i:=19);rfl;rfl;rfl
     · intro w9 _;refine Aq (Au 17 U U U C3 U U U) U ?_;exact Ax [4,5,7,12,13,16,17,61,62,65,66,67,69,71,73,74,75,78,79,81,82] [21,17]
     intros;exact A5
     apply Dh.old0 (i:=13);rfl;rfl;rfl
     · intro w9 _;refine Ac (Bt U (.no U) U (.tm U) U (by exact Am hx1) ty3 U U) U ?_;exact Aa Bi
     apply Dh.old0 (i:=4);rfl;rfl;rfl
     · intro w9 _;refine Ac (Bh U (.no U) U (.tm U) fl175_0) U ?_;exact Aa Bi
     apply Dh.new0 (i:=13);rfl;rfl;rfl
     · intro w9 _;refine Ac (Bt U (.no U) U (.tm U) U (by exact Am hx1) ty3 U U) U ?_;exact Ax [4,5,7,12,13,16,61,62,65,66,67,71,72,73,74,75,78,79,81,82] [21]
     intros;exact A5
     apply Dh.old0 (i:=7);rfl;rfl;rfl
     · intro w9 _;refine Ac (Aw (FnT.fr (specl12NextN x.a hxa n (by omega))) U (.no U) U (.cons (.tm U) U (.cons (.tm U) U (.cons (.tm U) U .nil)))) U ?_;exact Aa Bi
     apply Dh.new0 (i:=19);rfl;rfl;rfl
     · intro w9 _;refine Aq (Au 17 U U U C3 U U U) U ?_;exact Ax [4,5,7,12,13,16,17,61,62,65,66,67,71,72,73,74,75,77,79,81,82] [21,17]
     intros;exact A5
     apply Dh.old0 (i:=12);rfl;rfl;rfl
     · intro w9 _;refine Ac (Bh U (.no U) U (.tm U) De) U ?_;exact Aa Bi
     apply Dh.old0 (i:=7);rfl;rfl;rfl
     · intro w9 _;refine Ac (Aw (FnT.fr (specl12NextN x.a hxa n (by omega))) U (.no U) U (.cons (.tm U) U (.cons (.tm U) U (.cons (.tm U) U .nil)))) U ?_;exact Aa Bi
     apply Dh.new0 (i:=19);rfl;rfl;rfl
     · intro w9 _;refine Aq (Au 17 U U U C3 U U U) U ?_;exact Ax [4,5,7,12,13,16,17,61,62,65,66,67,70,71,73,74,75,78,79,81,82] [21,17]
     intros;exact A5
     apply Dh.old0 (i:=13);rfl;rfl;rfl
     · intro w9 _;refine Ac (Bt U (.no U) U (.tm U) U (by exact Am hx1) ty3 U U) U ?_;exact Aa Bi
     apply Dh.old0 (i:=5);rfl;rfl;rfl
     · intro w9 _;refine Ac (Bt U (.no U) U (.tm U) U (by exact Am hx1) ty3 U U) U ?_;exact Aa Bi
     apply Dh.new0 (i:=15);rfl;rfl;rfl
     · intro w9 _;refine Ac (Aw (FnT.fr (specl12Next b hA x.b hxb n (by omega))) U (.no U) U (.cons (.tm U) U (.cons (.tm U) U (.cons (.tm U) U .nil)))) U ?_;exact Ax [4,5,7,12,13,16,61,62,65,66,67,71,72,73,74,75,79,80,81,82] [21]
     intros;exact A5
     apply Dh.new0 (i:=19);rfl;rfl;rfl
     · intro w9 _;refine Aq (Au 17 U U U C3 U U U) U ?_;exact Ax [4,5,7,12,13,16,17,61,62,65,66,67,71,72,73,74,75,78,79,81,82] [21,17]
     intros;exact A5
     apply Dh.old0 (i:=13);rfl;rfl;rfl
     · intro w9 _;refine Ac (Bt U (.no U) U (.tm U) U (by exact Am hx1) ty3 U U) U ?_;exact Aa Bi
     apply Dh.old0 (i:=7);rfl;rfl;rfl
     · intro w9 _;refine Ac (Aw (FnT.fr (specl12NextN x.a hxa n (by omega))) U (.no U) U (.cons (.tm U) U (.cons (.tm U) U (.cons (.tm U) U .nil)))) U ?_;exact Aa Bi
     apply Dh.new0 (i:=18);rfl;rfl;rfl
     · intro w9 _;refine Ac (A9 (ps:=[(0,.tmp 72),(1,.tmp 80),(3,.tmp 81),(4,.tmp 82)]) U U U C3 U U st175 (.cons (.tm U) U U fp175_0 (.cons (.tm U) U U fp175_1 (.cons (.tm U) U U fp175_3 (.cons (.tm U) U U fp175_4 .nil)))) U) U ?_;exact Ax [4,5,7,12,13,16,61,62,65,66,67,71,73,74,75,79,81,82,83] [21]
     intros;exact A5
     apply Dh.new0 (i:=19);rfl;rfl;rfl
     · intro w9 _;refine Aq (Au 17 U U U C3 U U U) U ?_;exact Ax [4,5,7,12,13,16,17,61,62,65,66,67,71,72,73,74,75,79,80,81,82] [21,17]
     intros;exact A5
     apply Dh.old0 (i:=15);rfl;rfl;rfl
     · intro w9 _;refine Ac (Aw (FnT.fr (specl12Next b hA x.b hxb n (by omega))) U (.no U) U (.cons (.tm U) U (.cons (.tm U) U (.cons (.tm U) U .nil)))) U ?_;exact Aa Bi
     apply Dh.new0 (i:=19);rfl;rfl;rfl
     · intro w9 _;refine Aq (Au 17 U U U C3 U U U) U ?_;exact Ax [4,5,7,12,13,16,17,61,62,65,66,67,71,73,74,75,79,81,82,83] [21,17]
     intros;exact A5
     apply Dh.old0 (i:=18);rfl;rfl;rfl
     · intro w9 _;refine Ac (A9 (ps:=[(0,.tmp 72),(1,.tmp 80),(3,.tmp 81),(4,.tmp 82)]) U U U C3 U U st175 (.cons (.tm U) U U fp175_0 (.cons (.tm U) U U fp175_1 (.cons (.tm U) U U fp175_3 (.cons (.tm U) U U fp175_4 .nil)))) U) U ?_;exact Aa Bi
     refine Dh.fin0 (k:=43) rfl ?_;intro  hp
     obtain _:=hp
     refine Ao C2 ?_;refine Aa (Ae (Al (Ap [4,5,7,12,13,16,17] [21,17]) ?_));refine Ad (Ab ?_);refine A3 C2 ?_;refine Ac (Aw (FnT.fr (specl10Has L1 ⟨-1,stA b x.b n,false,(k:Int),(n:Int)⟩ (by omega))) U (.no U) U (.cons (.tm U) U (.cons (.tm U) U .nil))) U ?_;refine Cw ?_;refine Aa (Ah (.tm U) (fun h87=>?_) (fun h87=>?_))
     · try simp at h87
       have hnew:=hk1.2.2.new hk1.2.1.1 hk1.2.1.2 (by omega) (fun y hy e=>by (have h1:=hasN_yes (x:=⟨-1,stA b x.b n,false,(k:Int),(n:Int)⟩) hy e;rw [h1] at h87;cases h87))
       refine Ad (Ab ?_);refine A3 C2 ?_;refine Ac (Ch (xs:=[.tmp 89]) (rows:=[cNo ⟨-1,stA b x.b n,false,(k:Int),(n:Int)⟩]) U U U (.cons (.tm U) U U .nil) Tryz.underlying176 C3 U U (U)) U ?_;refine Bg (By U U U (.tm U) U (.tm U) (by exact .t) (by rfl) Tryz.underlying176 C3 U (by (simp [chunk];omega)) (by (unfold maxLen;simp [chunk];omega))) U ?_;refine Bm (Ap [4,5,7,12,13,16,17,87,91] [21,17]) ?_;refine Ag ?_;refine Aa (Ad (Ab ?_));refine Bk ?_;refine Ag ?_;refine Aa ?_
       repeat (with_reducible refine A7 ?_)
       refine Round3.next (n+1) (L1++[⟨-1,stA b x.b n,false,(k:Int),(n:Int)⟩]) (W1++[w++[n]]) ⟨⟨⟨by omega,by simp;omega⟩,⟨get_app hk1.2.1.1,get_app hk1.2.1.2⟩,hnew⟩,Y⟩ (by omega) (Az rfl ⟨rfl,rfl,rfl,rfl,rfl,rfl,Y⟩ ⟨(by (refine congrArg (fun r=>some (R.row _ r)) ?_;simp [chunk,List.map_set,cInt,cBool,cIntS,cPair,cToken,cExpr,cEdge,cGraph,cStep,cWalk,cChange,cBatch,cHistory,cPositions,cAutomaton,cProductStep,cPathAtom,cConjunction,cView,cDelta,cRegistered,cRegistry])),Y⟩)
     try simp at h87
     have hold:DfI b k (n+1) L1 W1:=(by obtain⟨y,hy,e⟩:=hasN_iff.1 h87;exact hk1.2.2.old hk1.2.1.1 (by omega) hy e.2.1)
     refine AW.skip (Ad (Ab ?_));refine Bk ?_;refine Ag ?_;refine Aa ?_
     repeat (with_reducible refine A7 ?_)
     refine Round3.next (n+1) (L1) (W1) ⟨⟨⟨by omega,by omega⟩,hk1.2.1,hold⟩,Y⟩ (by omega) (Az rfl ⟨rfl,rfl,rfl,rfl,rfl,rfl,Y⟩ ⟨(by rfl),Y⟩)
   try simp at h62
   refine Bz (Ad (Ab ?_));refine Bk ?_;refine Ag ?_;refine Aa ?_
   repeat (with_reducible refine A7 ?_)
   refine Round3.next (k+1) (L1) (W1) ⟨⟨by omega,hk1.2.2.on (by omega) hk1.2.1.1 hna⟩,Y⟩ (by omega) (Az rfl ⟨rfl,rfl,rfl,rfl,rfl,Y⟩ ⟨(by rfl),Y⟩)
 try simp at h25
 refine Bz (Af (Aq (Dj 92 U U U Tryz.underlying40 ty3 U) U ?_));refine Ag ?_;refine AWl.ac ?_;refine Aa (Ai ?_);apply ERes.mk (x:=([],false))
 case h=>
  refine Cf U (.tmp U (.tmp U .nil)) U ?_ (by simp)
  rfl
 case hp=>exact⟨⟨(fun h=>by cases h),fun _=>hk.2.none hA (by omega)⟩,by simp⟩
theorem specMissingWordE (b:TAutomaton):FnE Tryz.prog 49 [.agg (cAutomaton nothA),.agg (cAutomaton b)] (fun z:List Int×Bool=>validA b=true→shortQ b z) (fun z:List Int×Bool=>.tup [.one (.sl 1 (z.1.map cInt)),.one (.v (.bool z.2))]):=by
 refine FnE.walk Tryz.func49 rfl (by kernel_rfl) Tryz.ntmps49 rfl fun w0=>?_
 refine Af (Ac (Bo U U U (.tm U) (ts:=_) (by rfl)) U ?_);refine Ac (Bo U U U (.tm U) (ts:=_) (by rfl)) U ?_;refine AWl.ac ?_;refine AWl.nilS (i:=4) 20001 1 U U ?_;refine AWl.ac ?_;refine Aa (Ae (Af (Ak Cm ?_)));refine Bu (specIsValidAutomaton nothA) ?_;refine Cw ?_;refine Ab ?_;refine Ac (Ca U (by exact .not1 U U U U) U (.tmp U (by exact fun _=>rfl)) Cm U U) U ?_;refine Ac (Aw (FnT.fr (specIsValidAutomaton b)) U (by exact .not1 U U U U) U (.cons (.tmp U (by exact fun _=>rfl)) U .nil)) U ?_;refine Ac (R_not U (by exact .not1 U U U U) U (.tmp U (by exact fun _=>rfl))) U ?_;refine Ac (R_or U (.no U) U (.tm U) (.tmp U (by exact fun _=>rfl))) U ?_;refine Aa (Ah (.tm U) (fun h15=>?_) (fun h15=>?_))
 · try simp at h15
   have hv:¬ validA b=true:=(by simpa [noth_valid] using h15)
   refine Ae (Al (Ap [0,1,2,3,4,5] [20001]) ?_);refine Ad (Aq (Dj 16 U U U Tryz.underlying40 ty3 U) U ?_);refine Ag ?_;refine AWl.ac ?_;refine Aa (Ai ?_);apply ERes.mk (x:=([],false))
   case h=>
    refine Cf U (.tmp U (.tmp U .nil)) U ?_ (by simp)
    rfl
   case hp=>exact (fun h=>absurd h hv)
 try simp at h15
 have hv:validA b=true:=(by simpa [noth_valid] using h15)
 refine AW.skip (Ae (Al (Ap [0,1,2,3,4,5] [20001]) ?_));refine Ad (Ak Cm ?_);refine A8 fl36_0 ?_;refine Ak ty3 ?_;refine Ak Cm ?_;refine A8 fl36_0 ?_;refine Ak ty3 ?_;refine Bl (C8 2400 (specl12DifferE b (validA_sh hv) (validA_len hv).2.1) U U U (.cons (.tm U) U (.cons (.tm U) U (.cons (.tm U) U (.cons (.tm U) U (.cons (.const U) U .nil))))) (fun _=>rfl) (fun _=>rfl)) ?_
 rintro _ ⟨z24,hz24,rfl⟩
 try dsimp only at hz24
 refine Ac (Dd U (.no U) U U fun _=>rfl) U ?_;refine Ac (Bx U (.no U) U U (fun _=>rfl) U) U ?_;refine Ac (Bx U (.no U) U U (fun _=>rfl) U) U ?_;refine Ag ?_;refine Ag ?_;refine Aa (Ae (Al (Ap [0,1,2,3,4,5,6,7] [20001,2400]) ?_));refine Ad (Ab ?_);refine Ab ?_;refine Ag ?_;refine Ag ?_;refine Aa (Ai ?_);apply ERes.mk (x:=z24)
 case h=>
  refine Cf U (.tmp U (.tmp U .nil)) U ?_ (by simp)
  rfl
 case hp=>exact (fun _=>hz24)
theorem specShortestAcceptedE (b:TAutomaton):FnE Tryz.prog 20 [.agg (cAutomaton b)] (fun z:List Int×Bool=>validA b=true→shortQ b z) (fun z:List Int×Bool=>.tup [.one (.sl 1 (z.1.map cInt)),.one (.v (.bool z.2))]):=by
 refine FnE.walk Tryz.func20 rfl (by kernel_rfl) Tryz.ntmps20 rfl fun w0=>?_
 refine Af (Ac (Bo U U U (.tm U) (ts:=_) (by rfl)) U ?_);refine AWl.ac ?_;refine AWl.nilS (i:=2) 20001 1 U U ?_;refine AWl.ac ?_;refine Aa (Ae (AW.dg0 8 11 [[],[0],[1],[0,1],[0,1,2],[0,1,2,3],[0,1,2,3,4],[0,1,2,3,5],[0,1,2,3,4,5],[0,1,2,3,4,6],[0,1,2,3,4,5,6],[0,1,2,3,4,5,6,7]] [(0,0,1),(0,1,2),(1,1,3),(2,0,3),(3,2,4),(4,3,5),(5,4,6),(5,5,7),(6,5,8),(7,4,8),(6,6,9),(8,6,10),(9,5,10),(10,7,11)] (by kernel_rfl) (by kernel_rfl) (by kernel_rfl) ?_));apply Dg.new0 (i:=0)
 case ha|ho|hb=>rfl
 case hE=>
  intro w9  hp
  obtain _:=hp
  refine Bc (Bq 700 (specl11Nothing) U U U .nil U U) U ?_;exact Ax [0,1,2,3,7] [20001,700,701]
 apply Dg.new0 (i:=1);rfl;rfl;rfl
 · intro w9 _;refine Ak Cm ?_;exact Ax [0,1,2,3,8] [20001]
 apply Dg.new0 (i:=1);rfl;rfl;rfl
 · intro w9 _;refine Ak Cm ?_;exact Ax [0,1,2,3,7,8] [20001,700,701]
 apply Dg.old0 (i:=0);rfl;rfl;rfl
 · intro w9 _;refine Bc (Bq 700 (specl11Nothing) U U U .nil U U) U ?_;exact Aa Bi
 apply Dg.drw0 (i:=2)
 case ha=>rfl
 case ho=>rfl
 case hE=>
  intro  hp
  obtain _:=hp
  exact C8 900 (specMissingWordE b) rfl rfl rfl (.cons (.tm rfl) rfl (.cons (.tm rfl) rfl .nil)) (fun _=>rfl) (fun _=>rfl)
 case hb=>rfl
 case hL=>
  intro  z9 hp hy;exact EndQ.eq (Ap [0,1,2,3,9] [20001,700,701,900]) U
 apply Dg.new1 (i:=3);rfl;rfl;rfl
 · intro w9 z9 hp
   obtain⟨_,hz9⟩:=hp
   refine Ac (Dd U (.no U) U U fun _=>rfl) U ?_;exact Ax [0,1,2,3,6] [20001,700,701,900]
 apply Dg.new1 (i:=4);rfl;rfl;rfl
 · intro w9 z9 hp
   obtain⟨_,hz9⟩:=hp
   refine Ac (Bx U (.no U) U U (fun _=>rfl) U) U ?_;exact Ax [0,1,2,3,6,10] [20001,700,701,900]
 apply Dg.new1 (i:=5);rfl;rfl;rfl
 · intro w9 z9 hp
   obtain⟨_,hz9⟩:=hp
   refine Ac (Bx U (.no U) U U (fun _=>rfl) U) U ?_;exact Ax [0,1,2,3,6,11] [20001,700,701,900]
 apply Dg.new1 (i:=5);rfl;rfl;rfl
 · intro w9 z9 hp
   obtain⟨_,hz9⟩:=hp
   refine Ac (Bx U (.no U) U U (fun _=>rfl) U) U ?_;exact Ax [0,1,2,3,10,11] [20001,700,701,900]
 apply Dg.old1 (i:=4);rfl;rfl;rfl
 · intro w9 z9 hp
   obtain⟨_,hz9⟩:=hp
   refine Ac (Bx U (.no U) U U (fun _=>rfl) U) U ?_;exact Aa Bi
 apply Dg.new1 (i:=6);rfl;rfl;rfl
 · intro w9 z9 hp
   obtain⟨_,hz9⟩:=hp
   refine Ag ?_;exact Ax [0,1,2,3,4,6] [20001,700,701,900]
 apply Dg.new1 (i:=6);rfl;rfl;rfl
 · intro w9 z9 hp
   obtain⟨_,hz9⟩:=hp
   refine Ag ?_;exact Ax [0,1,2,3,4,11] [20001,700,701,900]
 apply Dg.old1 (i:=5);rfl;rfl;rfl
 · intro w9 z9 hp
   obtain⟨_,hz9⟩:=hp
   refine Ac (Bx U (.no U) U U (fun _=>rfl) U) U ?_;exact Aa Bi
 apply Dg.new1 (i:=7);rfl;rfl;rfl
 · intro w9 z9 hp
   obtain⟨_,hz9⟩:=hp
   refine Ag ?_;exact Ax [0,1,2,3,4,5] [20001,700,701,900]
 refine Dg.fin1 (k:=11) U ?_;intro z9 hp
 obtain⟨_,hz9⟩:=hp
 refine Aa (Af (Ab ?_));refine Ab ?_;refine Ag ?_;refine Ag ?_;refine Aa (Ai ?_);apply ERes.mk (x:=z9)
 case h=>
  refine Cf U (.tmp U (.tmp U .nil)) U ?_ (by simp)
  rfl
 case hp=>exact hz9
end Go.Proofs.YtdhojcaoljhbiaaGreat
