import Derived.Test.YtdhojcaoljhbiaaGreatRows
import Derived.Test.YtdhojcaoljhbiaaGreatBExs
import Derived.Test.YtdhojcaoljhbiaaGreatB176xs
import Derived.Test.YtdhojcaoljhbiaaGreatB177xs
set_option linter.unusedVariables false
set_option linter.unusedSimpArgs false
set_option maxRecDepth 100000
namespace Go.Proofs.YtdhojcaoljhbiaaGreat
open Go.RowKit Go.Q Go.D Go.ChangeShapes Go.WideShapes Go.ChangeAt Go.Deep
open Go.ChangeMaps (open_string shut_string)
set_option maxHeartbeats 1000000 in
theorem lawFnSimplification (bs:List Int) (hb:∀ n∈bs,0≤n∧n<256):FnT Tryz.prog 3 [.one (.sl 1 (byR bs))] (.a (.one (.v (.bool true)))):=by
 refine A6 Tryz.func3 U (by kernel_rfl) Tryz.ntmps3 U fun hlen w0=>?_
 try simp at hlen
 clear hlen;refine Af (AWl.ac ?_);refine Aa (Ae (Af (Ab ?_)));refine Bu (lawsbig bs) ?_;refine Aa (Ah (.tm U) (fun h16=>?_) (fun h16=>?_))
 · try simp at h16
   refine Af (AWl.ac ?_);refine Aa (Ai (Bb U U ?_))
   rfl
 try simp at h16
 refine AW.skip (Af (Ab ?_));refine Bl (R_calleX (specDrawSimplifyExpr bs hb) U U U (.cons (.tm U) U .nil)) ?_
 rintro _ ⟨z18,hz18,rfl⟩
 try dsimp only at hz18
 refine Aq (Au 3 U U U Ce U U U) U ?_;refine Ao Ar ?_;refine Aa (Af (A3 Ar ?_));refine Bu (implSimplifyExpr z18) ?_;refine Ac (Dd U (.no U) U U fun _=>rfl) U ?_;refine Ac (Bx U (.no U) U U (fun _=>rfl) U) U ?_;refine Ac (Bx U (.no U) U U (fun _=>rfl) U) U ?_;refine Aq (Au 4 U U U Ce U U U) U ?_;refine Ao Ar ?_;refine Ag ?_;refine Aa (Af (A3 Ar ?_));refine Bu (specSimplifyExpr z18) ?_;refine Ac (Dd U (.no U) U U fun _=>rfl) U ?_;refine Ac (Bx U (.no U) U U (fun _=>rfl) U) U ?_;refine Ac (Bx U (.no U) U U (fun _=>rfl) U) U ?_;refine Aq (Au 6 U U U Ce U U U) U ?_;refine Ao Ar ?_;refine Ag ?_
 refine Aa (Ae (Ae (Cc 30 (nthB [[],[],[0,1],[0,1,2],[0,1,2,3],[0,1,2,3],[0,1,2,3,4,5],[0,1,2,3,4,5,6],[0,1,2,3,4,5,6,7],[0,1,2,3,4,5,6,7,8],[0,1,2,3,4,5,6,7,8,9],[0,1,2,3,4,5,6,7,8,9,10],[0,1,2,3,4,5,6,7,8,9],[0,1,2,3,4,5,6,7,8,9,10,11,12],[0,1,2,3,4,5,6,7,8,9,10,11,12,13],[0,1,2,3,4,5,6,7,8,9,10,11,12,13,14],[0,1,2,3,4,5,6,7,8,9,10,11,12,13,14,15],[0,1,2,3,4,5,6,7,8,9,10,11,12,13,14,15,16],[0,1,2,3,4,5,6,7,8,9,10,11,12,13,14,15,16,17],[0,1,2,3,4,5,6,7,8,9,10,11,12,13,14,15,16],[0,1,2,3,4,5,6,7,8,9,10,11,12,13,14,15,16,17,18,19],[0,1,2,3,4,5,6,7,8,9,10,11,12,13,14,15,16,17,18,19,20],[0,1,2,3,4,5,6,7,8,9,10,11,12,13,14,15,16,17,18,19,20,21],[0,1,2,3,4,5,6,7,8,9,10,11,12,13,14,15,16,17,18,19,20,21,22],[0,1,2,3,4,5,6,7,8,9,10,11,12,13,14,15,16,17,18,19,20,21,22,23],[0,1,2,3,4,5,6,7,8,9,10,11,12,13,14,15,16,17,18,19,20,21,22,23,24],[0,1,2,3,4,5,6,7,8,9,10,11,12,13,14,15,16,17,18,19,20,21,22,23],[0,1,2,3,4,5,6,7,8,9,10,11,12,13,14,15,16,17,18,19,20,21,22,23,24,25,26],[0,1,2,3,4,5,6,7,8,9,10,11,12,13,14,15,16,17,18,19,20,21,22,23,24,25,26,27],[0,1,2,3,4,5,6,7,8,9,10,11,12,13,14,15,16,17,18,19,20,21,22,23,24,25,26,27,28]]) (by kernel_rfl) (by kernel_rfl) (by kernel_rfl) ?_)))
 refine Av ?_;refine Av ?_;refine DrawC.s (fun _ hs=>R_neb U (.no U) (Aj hs U) (hs.tm U) (hs.tm U) Tryz.underlying4) ?_;refine Av ?_;refine DrawC.s (fun _ hs=>(by exact Bn U (by exact hs.n1) (Aj hs U) (hs.tm U) (hs.res _ _ U) Ar U U)) ?_;refine DrawC.s (fun _ hs=>(by exact Bn U (by exact hs.n1) (Aj hs U) (hs.tm U) (hs.res _ _ U) Ar U U)) ?_;refine DrawC.s (fun _ hs=>Dk U (by exact hs.n1) (Aj hs U) (.cons (hs.ti U) (readA_sup hs U) (.cons (hs.ti U) (readA_sup hs U) .nil)) fun hq=>FnT.fr (implEqualExprs _ _)) ?_;refine DrawC.s (fun _ hs=>R_not U (by exact hs.n1) (Aj hs U) (hs.ti U)) ?_;refine DrawC.s (fun _ hs=>R_or U (.no U) (Aj hs U) (hs.tm U) (hs.ti U)) ?_;refine Av ?_;refine DrawC.s (fun _ hs=>(by exact Bn U (by exact hs.n1) (Aj hs U) (hs.tm U) (hs.res _ _ U) Ar U U)) ?_
 refine DrawC.s (fun _ hs=>Dk U (by exact hs.n1) (Aj hs U) (.cons (hs.ti U) (readA_sup hs U) .nil) fun hq=>FnT.fr (implIsSimplified z18)) ?_;refine DrawC.s (fun _ hs=>(by exact Bn U (by exact hs.n1) (Aj hs U) (hs.tm U) (hs.res _ _ U) Ar U U)) ?_;refine DrawC.s (fun _ hs=>Dk U (by exact hs.n1) (Aj hs U) (.cons (hs.ti U) (readA_sup hs U) .nil) fun hq=>FnT.fr (specIsSimplified z18)) ?_;refine DrawC.s (fun _ hs=>R_neb U (by exact hs.n1) (Aj hs U) (hs.ti U) (hs.ti U) Tryz.underlying4) ?_;refine DrawC.s (fun _ hs=>R_or U (.no U) (Aj hs U) (hs.tm U) (hs.ti U)) ?_;refine Av ?_;refine DrawC.s (fun _ hs=>(by exact Bn U (by exact hs.n1) (Aj hs U) (hs.tm U) (hs.res _ _ U) Ar U U)) ?_;refine DrawC.s (fun _ hs=>Dk U (by exact hs.n1) (Aj hs U) (.cons (hs.ti U) (readA_sup hs U) .nil) fun hq=>FnT.fr (implLetterCountF z18)) ?_
 refine DrawC.s (fun _ hs=>(by exact Bn U (by exact hs.n1) (Aj hs U) (hs.tm U) (hs.res _ _ U) Ar U U)) ?_;refine DrawC.s (fun _ hs=>Dk U (by exact hs.n1) (Aj hs U) (.cons (hs.ti U) (readA_sup hs U) .nil) fun hq=>FnT.fr (specLetterCountF z18)) ?_;refine DrawC.s (fun _ hs=>R_ne U (by exact hs.n1) (Aj hs U) (hs.ti U) (hs.ti U)) ?_;refine DrawC.s (fun _ hs=>R_or U (.no U) (Aj hs U) (hs.tm U) (hs.ti U)) ?_;refine Av ?_;refine DrawC.s (fun _ hs=>(by exact Bn U (by exact hs.n1) (Aj hs U) (hs.tm U) (hs.res _ _ U) Ar U U)) ?_;refine DrawC.s (fun _ hs=>Dk U (by exact hs.n1) (Aj hs U) (.cons (hs.ti U) (readA_sup hs U) .nil) fun hq=>FnT.fr (implStarHeight z18)) ?_;refine DrawC.s (fun _ hs=>(by exact Bn U (by exact hs.n1) (Aj hs U) (hs.tm U) (hs.res _ _ U) Ar U U)) ?_
 refine DrawC.s (fun _ hs=>Dk U (by exact hs.n1) (Aj hs U) (.cons (hs.ti U) (readA_sup hs U) .nil) fun hq=>FnT.fr (specStarHeight z18)) ?_;refine DrawC.s (fun _ hs=>R_ne U (by exact hs.n1) (Aj hs U) (hs.ti U) (hs.ti U)) ?_;refine DrawC.s (fun _ hs=>R_or U (.no U) (Aj hs U) (hs.tm U) (hs.ti U)) ?_;refine DrawC.fin U U ?_;refine Aa (Ah (.tm U) (fun h58=>?_) (fun h58=>?_))
 · exact absurd h58 (by simp)
 try simp at h58
 refine AW.skip (Af (A3 Ar ?_));refine Bu (implShortestWordLength z18) ?_;refine Ag ?_;refine Aa (Ae (Af (Ab ?_)));refine A3 Ar ?_;refine Bu (specShortestWordLength z18) ?_;refine Ac (R_ne U (.no U) U (.tm U) (.tm U)) U ?_;refine Aa (Ah (.tm U) (fun h64=>?_) (fun h64=>?_))
 · exact absurd h64 (by simp)
 try simp at h64
 refine AW.skip (Ae (Af (Ab ?_)));refine Cw ?_;refine Aa (Ah (.tm U) (fun h66=>?_) (fun h66=>?_))
 · try simp at h66
   refine Af (Bd Be ?_);refine A3 Cd ?_;refine Br (.t) Tryz.underlying24 ?_;refine Ba ?_;refine Ag ?_;refine Aa (Ai (Bb U U ?_))
   have h:=simp_none (e:=z18) (by simpa using h66);simp [h]
 try simp at h66
 have hv:=simp_valid (e:=z18) (by simpa using h66)
 refine AW.skip (Af (A3 Ar ?_));refine Bl (R_calleX ((specCompileExprX z18).fs) U U U (.cons (.tm U) U .nil)) ?_
 rintro _ ⟨z73,hz73,rfl⟩
 try dsimp only at hz73
 refine Ac (Dd U (.no U) U U fun _=>rfl) U ?_;refine Ac (Bx U (.no U) U U (fun _=>rfl) U) U ?_;refine Ac (Bx U (.no U) U U (fun _=>rfl) U) U ?_;refine Aq (Au 9 U U U in36 U U U) U ?_;refine Ao Cm ?_;refine Ag ?_;refine Aa (Af (A3 Ar ?_));refine Bl (R_calleX ((specCompileExprX (simplify z18).1).fs) U U U (.cons (.tm U) U .nil)) ?_
 rintro _ ⟨z78,hz78,rfl⟩
 try dsimp only at hz78
 refine Ac (Dd U (.no U) U U fun _=>rfl) U ?_;refine Ac (Bx U (.no U) U U (fun _=>rfl) U) U ?_;refine Ac (Bx U (.no U) U U (fun _=>rfl) U) U ?_;refine Aq (Au 11 U U U in36 U U U) U ?_;refine Ao Cm ?_;refine Ag ?_;refine Aa (Ae (Af (Ab ?_)));refine Ab ?_;refine Cl ?_;refine Cb ?_;refine Ab ?_;refine Ac (Bn U (by exact .yes1 U U U U) U (.tmp U (by exact fun _=>rfl)) U Cm U U) U ?_;refine Ac (Bn U (by exact .yes1 U U U U) U (.tmp U (by exact fun _=>rfl)) U Cm U U) U ?_;refine Ac (Dk U (by exact .yes1 U U U U) U (.cons (.tmp U (by exact id)) U (.cons (.tmp U (by exact id)) U .nil)) fun hq=>FnT.fr (specEqualAutomata z73.1 z78.1)) U ?_;refine Ac (R_not U (by exact .yes1 U U U U) U (.tmp U (by exact id))) U ?_;refine Cb ?_;refine Aa (Ah (.tm U) (fun h90=>?_) (fun h90=>?_))
 · exact absurd h90 (by intro h;simp at h;exact absurd (comp_same hv hz73 hz78 h.1.1 h.1.2) h.2)
 try simp at h90
 refine AW.skip (Af (A3 Cm ?_));refine Bl (R_calleX ((specShortestAcceptedE z73.1).fs) U U U (.cons (.tm U) U .nil)) ?_
 rintro _ ⟨z93,hz93,rfl⟩
 try dsimp only at hz93
 refine Ac (Dd U (.no U) U U fun _=>rfl) U ?_;refine Ac (Bx U (.no U) U U (fun _=>rfl) U) U ?_;refine Ac (Bx U (.no U) U U (fun _=>rfl) U) U ?_;refine Ag ?_;refine Ag ?_;refine Aa (Af (Bd Be ?_));refine A3 Cd ?_;refine Br (.t) Tryz.underlying24 ?_;refine Bd Be ?_;refine A3 Cd ?_;refine Br (.t) Tryz.underlying24 ?_;refine Ac (R_le U (.no U) U (.tm U) (.tm U)) U ?_;refine Ab ?_;refine Ac (Bn U (by exact .yes1 U U U U) U (.tmp U (by exact fun _=>rfl)) U Ar U U) U ?_;refine Ac (Dk U (by exact .yes1 U U U U) U (.cons (.tmp U (by exact id)) U .nil) fun hq=>FnT.fr (implIsSimplified (simplify z18).1)) U ?_;refine Cb ?_;refine Ab ?_;refine Cl ?_;refine Ac (R_not U (by exact .yes1 U U U U) U (.tmp U (by exact id))) U ?_;refine Ac (Bf U (by exact .yes1 U U U U) U (.tmp U (by exact id))) U ?_;refine Ac (Bf U (by exact .not U U U U) U (.tmp U (by exact fun _=>rfl))) U ?_
 refine Ac (Bf U (by exact .not U U U U) U (.tmp U (by exact fun _=>rfl))) U ?_;refine Ac (R_ge U (by exact .not U U U U) U (.tmp U (by exact id)) (.const U)) U ?_;refine Ac (R_eqb U (by exact .not U U U U) U (.tmp U (by exact id)) (.tmp U (by exact id)) Tryz.underlying4) U ?_;refine Ac (Bf U (by exact .not U U U U) U (.tmp U (by exact id))) U ?_;refine Ac (Bf U (by exact .yes U U U U) U (.tmp U (by exact fun _=>rfl))) U ?_;refine Ac (R_not U (by exact .yes U U U U) U (.tmp U (by exact id))) U ?_;refine Ac (Bf U (by exact .yes U U U U) U (.tmp U (by exact id))) U ?_;refine Ac (Bf U (by exact .not U U U U) U (.tmp U (by exact fun _=>rfl))) U ?_;refine Ac (R_lenm U (by exact .not U U U U) U (.tmp U (by exact id)) (by exact .t) Tryz.underlying40) U ?_;refine Ac (Bf U (by exact .not U U U U) U (.tmp U (by exact fun _=>rfl))) U ?_
 refine Ac (R_eq U (by exact .not U U U U) U (.tmp U (by exact id)) (.tmp U (by exact id))) U ?_;refine Ac (R_or U (by exact .yes U U U U) U (.tmp U (by exact id)) (.tmp U (by exact id))) U ?_;refine Ac (R_and U (by exact .not U U U U) U (.tmp U (by exact id)) (.tmp U (by exact id))) U ?_;refine Ac (R_or U (by exact .yes1 U U U U) U (.tmp U (by exact id)) (.tmp U (by exact id))) U ?_;refine Cb ?_;refine Ag ?_;refine Aa (Ai (Bb U U ?_))
 have h1:=simplify_len z18;have h2:=simp_simp hv;cases h3:z73.2<;>simp_all;have hs:=short_same hv hz73 h3 hz93;exact⟨hs.1,(by cases h4:z93.2;exact .inl rfl;exact .inr (hs.2 h4))⟩
namespace LFnSimplification
theorem opensByte:OpensT cByte Tryz.prog 5:=opensTByte Tryz.underlying5
theorem opensByteS:OpensT (fun (l:List (Fin 256))=>[T.sl 1 (l.map cByte)]) Tryz.prog 22:=opensTSlice (c:=cByte) Tryz.underlying22 (by kernel_rfl) (by decide) (fun _=>rfl) opensByte
theorem ownFnSimplification:ownKnob Tryz.prog.godebug=none:=by kernel_rfl
theorem laidOutFnSimplification:laidOutB Tryz.prog=true:=by kernel_rfl
theorem liftedFnSimplification (os:Os) (started:os.Started) (H:Type) (enc:TypeId×Value→H) :
 ReturnsInHanded {} Tryz.checked os 3 .any (Rows.fnSimplificationSpec.pre6 enc Tryz.prog Tryz.f3 Rows.fnSimplificationRow.domain false) (Rows.fnSimplificationSpec.post enc Tryz.prog Tryz.f3 false true false false):=by
 refine returnsInHanded_of_change_shaped (C:=Tryz.checked) ownFnSimplification started (by kernel_rfl) Tryz.func3
  (ChangeSpec.witness6 (enc:=enc) (C:=Tryz.checked) false ⟨#[],#[.slice none 0 0],[]⟩ 8 (by kernel_rfl) (by kernel_rfl) (by kernel_rfl) (by kernel_rfl)) ?_
 intro W base args ds gs before hval0 hW hcnd _ hsh _
 have hgood:Go.Q.Good W []:=Go.Q.good_of ⟨hsh,trivial,trivial⟩
 have hval:∀ (j:Nat) t v,Tryz.f3.params[j]?=some t→args[j]?=some v→Value.okWide Tryz.prog W .any base t v:=hval0
 have hW':=hW
 obtain⟨p,q,hA0,hV,rfl,hfz,hnd⟩:=hW
 have hA:DataW.TrodAll enc Tryz.prog W 0 (fun _=>true) true Tryz.f3.params.toList args.toList ds p:=hA0
 rw [Tryz.params3] at hA hval
 obtain⟨v0,vs0,d0,ds0,p0,q0,hargs,rfl,rfl,h0,r0⟩:=trodAll_cons hA
 obtain⟨rfl,rfl,rfl⟩:=trodAll_nil r0
 obtain rfl:args=#[v0]:=by cases args;simp_all
 obtain⟨rfl,rfl⟩:=trodVars_none hV
 obtain⟨a0,len0,cap0,rfl⟩:=okWide_slice Tryz.underlying22 (hval 0 22 v0 rfl rfl)
 have k0:=h0
 have lt0:∀ x∈p0,x.block<W.heap.size:=by obtain⟨m,hm⟩:=k0;exact DataW.trod_lt m _ _ _ hm
 obtain⟨x0,F0,hs0⟩:=OpensT.vl opensByteS h0
 clear hA0 hval0;refine ((lawFnSimplification _ (fin_range x0)).2 W _ _ hgood ⟨_,_,_,_,rfl,(show V0r false W (.one _) _ _ from C_fin (Cs_one_inv hs0)),⟨rfl,rfl⟩,rfl⟩).mono fun e W' ⟨v,F,he,hv,_,_,bel⟩=>?_
 have hv2:v=.bool true:=by unfold Vr V0r C at hv;exact hv.1
 subst hv2;subst he
 exact⟨_,rfl,_,_,_,[],_,[],hW',trodAll_mk1 (shut_bool Tryz.underlying4 _),(trodAll_cons_mk (Below.trod laidOutFnSimplification (by kernel_rfl) (of_decide_eq_true (by kernel_rfl)) k0 bel lt0) trodAll_mk0),rfl,Below.frame bel _,fun h=>by cases h⟩
theorem jfa:(Rows.fnSimplificationRow.inPlace == Tryz.prog.inPlace 3)=true:=by kernel_rfl
theorem jfb:(Rows.fnSimplificationRow.unfollowed == Tryz.prog.unfollowed 3)=true:=by kernel_rfl
theorem jfc:(Rows.fnSimplificationRow.recurses == Tryz.prog.recurses 3)=true:=by kernel_rfl
theorem jfd:(Rows.fnSimplificationRow.named == Tryz.prog.varsNamed 3)=true:=by kernel_rfl
theorem jfe:mapsRowed Tryz.prog=true:=by kernel_rfl
theorem jff:joinedFacts Tryz.prog 3 Tryz.f3 Rows.fnSimplificationSpec Rows.fnSimplificationRow=true:=by
 unfold joinedFacts
 rw [laidOutFnSimplification,jfa,jfb,jfc,jfd,jfe]
 kernel_rfl
theorem provedFnSimplification:Rows.FnSimplificationSaid:=
 OpenClaim.holds_of_wide 3 Tryz.f3 rfl rfl rfl rfl rfl rfl rfl ⟨rfl,rfl,rfl,rfl,rfl⟩ rfl rfl rfl rfl rfl (by kernel_rfl) Tryz.func3 jff
  (of_decide_eq_true (by kernel_rfl)) (by unfold Func.isWrapper;first|(rw [if_pos (by decide +kernel)];kernel_rfl)|(rw [if_neg (by decide +kernel)];exact⟨rfl,rfl⟩))
  (fun os started H enc _=>liftedFnSimplification os started H enc)
#print axioms provedFnSimplification
end LFnSimplification
end Go.Proofs.YtdhojcaoljhbiaaGreat
