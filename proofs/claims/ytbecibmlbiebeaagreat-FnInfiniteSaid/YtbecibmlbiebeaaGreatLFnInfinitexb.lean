import Derived.Test.YtbecibmlbiebeaaGreatRows
import Derived.Test.YtbecibmlbiebeaaGreatOpenBxb
import Derived.Test.YtbecibmlbiebeaaGreatB155xb
set_option linter.unusedVariables false
set_option linter.unusedSimpArgs false
set_option maxRecDepth 100000
namespace Go.Proofs.YtbecibmlbiebeaaGreat
open Go.RowKit Go.Q Go.D Go.ChangeShapes Go.WideShapes Go.ChangeAt Go.Deep
open Go.ChangeMaps (open_string shut_string)
set_option maxHeartbeats 1000000 in
theorem lawFnInfinite (bs:List Int) (hb:∀ n∈bs,0≤n∧n<256):FnT Tryz.prog 5 [.one (.sl 1 (byR bs))] (.a (.one (.v (.bool true)))):=by
 refine A7 Tryz.func5 U (by kernel_rfl) Tryz.ntmps5 U fun hlen w0=>?_
 try simp at hlen
 clear hlen;refine Af (Ak ?_);refine Aa (Ae (Af (Ab ?_)));refine Bv (lawsbig bs) ?_;refine Aa (Ai (.tm U) (fun h10=>?_) (fun h10=>?_))
 · try simp at h10
   refine Af (Ak ?_);refine Aa (Am (Bp U U ?_))
   rfl
 try simp at h10
 refine Aj (Af (Ab ?_));refine Bd (R_calleX ((specDrawHasInfiniteWalks bs hb).fr) U U U (.cons (.tm U) U .nil)) ?_
 rintro _ ⟨z13,hz13,rfl⟩
 try dsimp only at hz13
 refine Ad (R_movet U (.no U) U U fun _=>rfl) U ?_;refine Ad (B6 U (.no U) U U (fun _=>rfl) U) U ?_;refine Ad (B6 U (.no U) U U (fun _=>rfl) U) U ?_;refine Ad (B6 U (.no U) U U (fun _=>rfl) U) U ?_;refine Ad (B6 U (.no U) U U (fun _=>rfl) U) U ?_;refine A6 (Bi 3 U U U in45 U U U) U ?_;refine A6 (Bi 4 U U U in36 U U U) U ?_;refine Az Bx ?_;refine Az Bt ?_;refine Ag ?_;refine Ag ?_;refine Aa (Af (A9 Bx ?_));refine A9 Bt ?_;refine Ab ?_;refine Ab ?_;refine Bv (implHasInfiniteWalks z13.1 z13.2.1 z13.2.2.1 z13.2.2.2) ?_;refine Ag ?_;refine Aa (Ae (Af (Ab ?_)));refine A9 Bx ?_;refine A9 Bt ?_;refine Ab ?_;refine Ab ?_;refine Bv (specHasInfiniteWalks z13.1 z13.2.1 z13.2.2.1 z13.2.2.2) ?_;refine Ad (R_neb U (.no U) U (.tm U) (.tm U) Tryz.underlying4) U ?_;refine Aa (Ai (.tm U) (fun h29=>?_) (fun h29=>?_))
 · exact absurd h29 (by simp)
 try simp at h29
 refine Aj (Af (A9 Bx ?_));refine A9 Bt ?_;refine Ab ?_;refine Ab ?_;refine Bv (implUsefulProduct z13.1 z13.2.1 z13.2.2.1 z13.2.2.2) ?_;refine Ag ?_;refine Aa (Ae (Af (Ab ?_)));refine A9 Bx ?_;refine A9 Bt ?_;refine Ab ?_;refine Ab ?_;refine Bv (specUsefulProduct z13.1 z13.2.1 z13.2.2.1 z13.2.2.2) ?_;refine Bv (lawssameIntsC (usefF z13.1 z13.2.1 z13.2.2.1 z13.2.2.2) (usefF z13.1 z13.2.1 z13.2.2.1 z13.2.2.2)) ?_;refine C1 ?_;refine Aa (Ai (.tm U) (fun h42=>?_) (fun h42=>?_))
 · exact absurd h42 (by simp)
 try simp at h42
 refine Aj (Ae (Af (Ab ?_)));refine Be (.t) Tryz.underlying40 ?_;refine Bs ?_;refine Aa (Ai (.tm U) (fun h45=>?_) (fun h45=>?_))
 · try simp at h45
   have hl0:(usefF z13.1 z13.2.1 z13.2.2.1 z13.2.2.2).length=0:=by (first|omega|(rw [h45];rfl)|simp_all)
   refine Af (Ab ?_);refine C1 ?_;refine Ab ?_;refine Ad (Bk U (by exact .yes1 U U U U) U (.tmp U (by exact fun _=>rfl)) U Bx U U) U ?_;refine Ad (Bk U (by exact .yes1 U U U U) U (.tmp U (by exact fun _=>rfl)) U Bt U U) U ?_;refine Cm ?_;refine Cm ?_;refine Ad (R_callq U (by exact .yes1 U U U U) U (.cons (.tmp U (by exact id)) U (.cons (.tmp U (by exact id)) U (.cons (.tmp U (by exact id)) U (.cons (.tmp U (by exact id)) U .nil)))) fun hq=>FnT.fr (specHasAnswer z13.1 z13.2.1 z13.2.2.1 z13.2.2.2)) U ?_;refine Ad (R_not U (by exact .yes1 U U U U) U (.tmp U (by exact id))) U ?_;refine Ck ?_;refine Ag ?_;refine Aa (Am (Bp U U ?_))
   simp [infW_nil hl0,useful_none hl0]
 try simp at h45
 refine Aj (Af (Ab ?_));refine Ab ?_;refine Ad (Bk U (by exact .not1 U U U U) U (.tmp U (by exact fun _=>rfl)) U Bx U U) U ?_;refine Ad (Bk U (by exact .not1 U U U U) U (.tmp U (by exact fun _=>rfl)) U Bt U U) U ?_;refine AWl.mw ?_;refine AWl.mw ?_;refine AWl.mw ?_;refine Ad (Dp U (by exact .not1 U U U U) U (.tmp U (by exact id)) (by exact .t) Tryz.underlying40) U ?_;refine Ad (R_callq U (by exact .not1 U U U U) U (.cons (.tmp U (by exact id)) U (.cons (.tmp U (by exact id)) U (.cons (.tmp U (by exact id)) U (.cons (.tmp U (by exact id)) U (.cons (.tmp U (by exact id)) U .nil))))) fun hq=>FnT.fr (implCountWalks z13.1 z13.2.1 z13.2.2.1 z13.2.2.2 (usefF z13.1 z13.2.1 z13.2.2.1 z13.2.2.2).length)) U ?_;refine Ad (R_eq U (by exact .not1 U U U U) U (.tmp U (by exact id)) (.const U)) U ?_;refine Cx ?_;refine Ag ?_;refine Aa (Am (Bp U U ?_))
 cases hi:infW z13.1 z13.2.1 z13.2.2.1 z13.2.2.2<;>simp [fin_cnt,hi]
namespace LFnInfinite
theorem opensByte:OpensT cByte Tryz.prog 5:=opensTByte Tryz.underlying5
theorem opensByteS:OpensT (fun (l:List (Fin 256))=>[T.sl 1 (l.map cByte)]) Tryz.prog 22:=opensTSlice (c:=cByte) Tryz.underlying22 (by kernel_rfl) (by decide) (fun _=>rfl) opensByte
theorem ownFnInfinite:ownKnob Tryz.prog.godebug=none:=by kernel_rfl
theorem laidOutFnInfinite:laidOutB Tryz.prog=true:=by kernel_rfl
theorem liftedFnInfinite (os:Os) (started:os.Started) (H:Type) (enc:TypeId×Value→H) :
 ReturnsInHanded {} Tryz.checked os 5 .any (Rows.fnInfiniteSpec.pre6 enc Tryz.prog Tryz.f5 Rows.fnInfiniteRow.domain false) (Rows.fnInfiniteSpec.post enc Tryz.prog Tryz.f5 false true false false):=by
 refine returnsInHanded_of_change_shaped (C:=Tryz.checked) ownFnInfinite started (by kernel_rfl) Tryz.func5
  (ChangeSpec.witness6 (enc:=enc) (C:=Tryz.checked) false ⟨#[],#[.slice none 0 0],[]⟩ 8 (by kernel_rfl) (by kernel_rfl) (by kernel_rfl) (by kernel_rfl)) ?_
 intro W base args ds gs before hval0 hW hcnd _ hsh _
 have hgood:Go.Q.Good W []:=Go.Q.good_of ⟨hsh,trivial,trivial⟩
 have hval:∀ (j:Nat) t v,Tryz.f5.params[j]?=some t→args[j]?=some v→Value.okWide Tryz.prog W .any base t v:=hval0
 have hW':=hW
 obtain⟨p,q,hA0,hV,rfl,hfz,hnd⟩:=hW
 have hA:DataW.TrodAll enc Tryz.prog W 0 (fun _=>true) true Tryz.f5.params.toList args.toList ds p:=hA0
 rw [Tryz.params5] at hA hval
 obtain⟨v0,vs0,d0,ds0,p0,q0,hargs,rfl,rfl,h0,r0⟩:=trodAll_cons hA
 obtain⟨rfl,rfl,rfl⟩:=trodAll_nil r0
 obtain rfl:args=#[v0]:=by cases args;simp_all
 obtain⟨rfl,rfl⟩:=trodVars_none hV
 obtain⟨a0,len0,cap0,rfl⟩:=okWide_slice Tryz.underlying22 (hval 0 22 v0 rfl rfl)
 have k0:=h0
 have lt0:∀ x∈p0,x.block<W.heap.size:=by obtain⟨m,hm⟩:=k0;exact DataW.trod_lt m _ _ _ hm
 obtain⟨x0,F0,hs0⟩:=OpensT.vl opensByteS h0
 clear hA0 hval0;refine ((lawFnInfinite _ (fin_range x0)).2 W _ _ hgood ⟨_,_,_,_,rfl,(show V0r false W (.one _) _ _ from C_fin (Cs_one_inv hs0)),⟨rfl,rfl⟩,rfl⟩).mono fun e W' ⟨v,F,he,hv,_,_,bel⟩=>?_
 have hv2:v=.bool true:=by unfold Vr V0r C at hv;exact hv.1
 subst hv2;subst he
 exact⟨_,rfl,_,_,_,[],_,[],hW',trodAll_mk1 (shut_bool Tryz.underlying4 _),(trodAll_cons_mk (Below.trod laidOutFnInfinite (by kernel_rfl) (of_decide_eq_true (by kernel_rfl)) k0 bel lt0) trodAll_mk0),rfl,Below.frame bel _,fun h=>by cases h⟩
theorem jfa:(Rows.fnInfiniteRow.inPlace == Tryz.prog.inPlace 5)=true:=by kernel_rfl
theorem jfb:(Rows.fnInfiniteRow.unfollowed == Tryz.prog.unfollowed 5)=true:=by kernel_rfl
theorem jfc:(Rows.fnInfiniteRow.recurses == Tryz.prog.recurses 5)=true:=by kernel_rfl
theorem jfd:(Rows.fnInfiniteRow.named == Tryz.prog.varsNamed 5)=true:=by kernel_rfl
theorem jfe:mapsRowed Tryz.prog=true:=by kernel_rfl
theorem jff:joinedFacts Tryz.prog 5 Tryz.f5 Rows.fnInfiniteSpec Rows.fnInfiniteRow=true:=by
 unfold joinedFacts
 rw [laidOutFnInfinite,jfa,jfb,jfc,jfd,jfe]
 kernel_rfl
theorem provedFnInfinite:Rows.FnInfiniteSaid:=
 OpenClaim.holds_of_wide 5 Tryz.f5 rfl rfl rfl rfl rfl rfl rfl ⟨rfl,rfl,rfl,rfl,rfl⟩ rfl rfl rfl rfl rfl (by kernel_rfl) Tryz.func5 jff
  (of_decide_eq_true (by kernel_rfl)) (by unfold Func.isWrapper;first|(rw [if_pos (by decide +kernel)];kernel_rfl)|(rw [if_neg (by decide +kernel)];exact⟨rfl,rfl⟩))
  (fun os started H enc _=>liftedFnInfinite os started H enc)
#print axioms provedFnInfinite
end LFnInfinite
end Go.Proofs.YtbecibmlbiebeaaGreat
