import Derived.Test.YtdhojcaoljhbiaaGreatDoorRows
import Derived.Test.YtdhojcaoljhbiaaGreatDoorTie
import Derived.Test.YtdhojcaoljhbiaaGreatDoorCards
import Derived.Test.YtdhojcaoljhbiaaGreatDoorStdxr
import Derived.Test.YtdhojcaoljhbiaaGreatDoorB181xr
import Derived.WalkKit
import Derived.Handy
import Derived.Lay
import Derived.SevenTiedAt
import Derived.MakeChecks
import Derived.Stop.LaidErr
set_option linter.unusedVariables false
set_option linter.unusedSimpArgs false
set_option maxRecDepth 100000
namespace Go.Proofs.YtdhojcaoljhbiaaGreatDoor
open Go.RowKit Go.Q Go.D Go.ChangeShapes Go.WideShapes Go.ChangeAt Go.Deep
open Go.ChangeMaps (open_string shut_string)
set_option maxHeartbeats 1000000 in
theorem lawFnReplay (bs:List Int) (hb:∀ n∈bs,0≤n∧n<256):FnT Tryz.prog 3 [.one (.sl 1 (byR bs))] (.a (.one (.v (.bool true)))):=by
 refine Bb Tryz.func3 U (by kernel_rfl) Tryz.ntmps3 U fun hlen w0=>?_
 try simp at hlen
 clear hlen;refine Af (Aj ?_);refine Aa (Ae (Af (Ab ?_)));refine Br (lawsbig bs) ?_;refine Aa (Al (.tm U) (fun h12=>?_) (fun h12=>?_))
 · try simp at h12
   refine Af (Aj ?_);refine Aa (Ap (By U U ?_))
   rfl
 try simp at h12
 refine Am (Af (Ab ?_));refine Bi (R_calleX (specDrawReplayLog bs hb) U U U (.cons (.tm U) U .nil)) ?_
 rintro _ ⟨z15,hz15,rfl⟩
 try dsimp only at hz15
 refine Ac (B7 U (.no U) U U fun _=>rfl) U ?_;refine Ac (Ao U (.no U) U U (fun _=>rfl) U) U ?_;refine Ac (Ao U (.no U) U U (fun _=>rfl) U) U ?_;refine Au (Az 3 U U U C9 U U U) U ?_;refine An Be ?_;refine Ah ?_;refine Aa (Af (Ai Be ?_));refine Ab ?_;refine Bi (R_calleX ((implReplayLogS z15.1 z15.2 hz15.1 (by have:=hz15.2;omega)).fr) U U U (.cons (.tm U) U (.cons (.tm U) U .nil))) ?_
 rintro _ ⟨z21,hz21,rfl⟩
 try dsimp only at hz21
 refine Ac (B7 U (.no U) U U fun _=>rfl) U ?_;refine Ac (Ao U (.no U) U U (fun _=>rfl) U) U ?_;refine Ac (Ao U (.no U) U U (fun _=>rfl) U) U ?_;refine Au (Az 5 U U U C9 U U U) U ?_;refine An Be ?_;refine Ah ?_;refine Aa (Af (Ai Be ?_));refine Ab ?_;refine Bi (R_calleX ((specReplayLogS z15.1 z15.2 hz15.1 (by have:=hz15.2;omega)).fr) U U U (.cons (.tm U) U (.cons (.tm U) U .nil))) ?_
 rintro _ ⟨z27,hz27,rfl⟩
 try dsimp only at hz27
 refine Ac (B7 U (.no U) U U fun _=>rfl) U ?_;refine Ac (Ao U (.no U) U U (fun _=>rfl) U) U ?_;refine Ac (Ao U (.no U) U U (fun _=>rfl) U) U ?_;refine Au (Az 7 U U U C9 U U U) U ?_;refine An Be ?_;refine Ah ?_;refine Aa (Ae (Af (Ab ?_)));refine Ab ?_;refine Ac (R_ne U (.no U) U (.tm U) (.tm U)) U ?_;refine Ab ?_;refine Ac (Bm U (by exact .not1 U U U U) U (.tmp U (by exact fun _=>rfl)) U Be U U) U ?_;refine Ac (Bm U (by exact .not1 U U U U) U (.tmp U (by exact fun _=>rfl)) U Be U U) U ?_;refine Ac (R_callq U (by exact .not1 U U U U) U (.cons (.tmp U (by exact id)) U (.cons (.tmp U (by exact id)) U .nil)) fun hq=>FnT.fr (implEqualHistories z21.1 z27.1)) U ?_;refine Ac (Dq U (by exact .not1 U U U U) U (.tmp U (by exact id))) U ?_;refine Ci ?_;refine Aa (Al (.tm U) (fun h38=>?_) (fun h38=>?_))
 · exact absurd h38 (by rw [hz21,hz27];simp)
 try simp at h38
 refine Am (Ae (Af (Ai Be ?_)));refine Br (specIsValidHistory z15.1) ?_;refine Cg ?_;refine Aa (Al (.tm U) (fun h41=>?_) (fun h41=>?_))
 · try simp at h41
   have hv:validH z15.1=false:=(by simpa using h41)
   refine Af (Ab ?_);refine Ck ?_;refine Ah ?_;refine Aa (Ap (By U U ?_))
   rw [hz21,rep_none hv];simp
 try simp at h41
 have hv:validH z15.1=true:=(by simpa using h41)
 have hlaw:=rep_law hv z15.2.data.toList
 have hbd:=rep_bd (h:=z15.1) z15.2.data.toList
 have hl9:=lastV_le9 z15.1
 refine Am (Af (Ai Be ?_));refine Ab ?_;refine Bi (R_calleX ((implReplayLogS z21.1 z15.2 (by rw [hz21];exact rep_ok hz15.1 _) (by have:=hz15.2;omega)).fr) U U U (.cons (.tm U) U (.cons (.tm U) U .nil))) ?_
 rintro _ ⟨z47,hz47,rfl⟩
 try dsimp only at hz47
 refine Ac (B7 U (.no U) U U fun _=>rfl) U ?_;refine Ac (Ao U (.no U) U U (fun _=>rfl) U) U ?_;refine Ac (Ao U (.no U) U U (fun _=>rfl) U) U ?_;refine Au (Az 9 U U U C9 U U U) U ?_;refine An Be ?_;refine Ah ?_;refine Aa (Ae (Cv 17 (nthB [[],[0],[],[0,1,2],[],[0,1,2,3,4],[0,1,2,3,4,5],[0,1,2,3,4,5,6],[0,1,2,3,4,5,6,7],[0,1,2,3,4,5,6,7,8],[0,1,2,3,4,5,6,7,8,9],[0,1,2,3,4,5,6,7,8,9,10],[0,1,2,3,4,5,6,7,8,9,10,11],[0,1,2,3,4,5,6,7,8,9,10,11],[0,1,2,3,4,5,6,7,8,9,10,11,12,13],[0,1,2,3,4,5,6,7,8,9,10,11,12,13,14],[0,1,2,3,4,5,6,7,8,9,10,11,12,13,14,15]]) (by kernel_rfl) (by kernel_rfl) (by kernel_rfl) ?_));refine DrawC.s (fun _ hs=>(by exact Bm U (.no U) (Ag hs U) (hs.tm U) (hs.res _ _ U) Be U U)) ?_;refine DrawC.s (fun _ hs=>Bo (FnT.fr (specLatestVersion z21.1)) U (.no U) (Ag hs U) (.cons (hs.tm U) (readA_sup hs U) .nil)) ?_
 refine DrawC.s (fun _ hs=>(by exact Bm U (.no U) (Ag hs U) (hs.tm U) (hs.res _ _ U) Be U U)) ?_;refine DrawC.s (fun _ hs=>Bo (FnT.fr (specLatestVersion z15.1)) U (.no U) (Ag hs U) (.cons (hs.tm U) (readA_sup hs U) .nil)) ?_;refine Bp ?_;refine DrawC.s (fun _ hs=>C5 U (.no U) (Ag hs U) (hs.tm U) (hs.tm U) (fun _=>by rw [hz21];omega)) ?_;refine DrawC.s (fun _ hs=>R_eq U (.no U) (Ag hs U) (hs.tm U) (hs.tm U)) ?_;refine Bp ?_;refine DrawC.s (fun _ hs=>Bh U (by exact hs.y1) (Ag hs U) (hs.tm U)) ?_;refine DrawC.s (fun _ hs=>R_eq U (by exact hs.y1) (Ag hs U) (hs.ti U) (.const U)) ?_;refine DrawC.s (fun _ hs=>R_and U (.no U) (Ag hs U) (hs.tm U) (hs.ti U)) ?_;refine Bp ?_;refine DrawC.s (fun _ hs=>(by exact Bm U (by exact hs.y1) (Ag hs U) (hs.tm U) (hs.res _ _ U) Be U U)) ?_;refine DrawC.s (fun _ hs=>(by exact Bm U (by exact hs.y1) (Ag hs U) (hs.tm U) (hs.res _ _ U) Be U U)) ?_
 refine DrawC.s (fun _ hs=>R_callq U (by exact hs.y1) (Ag hs U) (.cons (hs.ti U) (readA_sup hs U) (.cons (hs.ti U) (readA_sup hs U) .nil)) fun hq=>FnT.fr (implEqualHistories z47.1 z21.1)) ?_;refine DrawC.s (fun _ hs=>R_and U (.no U) (Ag hs U) (hs.tm U) (hs.ti U)) ?_;refine DrawC.s (fun _ hs=>R_assign U (.no U) (Ag hs U) (hs.tm U)) ?_;refine Cm U U ?_;refine Aa (Ap (By U U ?_))
 rw [hz47,hz21,hlaw.2];simp [hlaw.1]
namespace LFnReplay
theorem opensByte:OpensT cByte Tryz.prog 5:=opensTByte Tryz.underlying5
theorem opensByteS:OpensT (fun (l:List (Fin 256))=>[T.sl 1 (l.map cByte)]) Tryz.prog 22:=opensTSlice (c:=cByte) Tryz.underlying22 (by kernel_rfl) (by decide) (fun _=>rfl) opensByte
theorem ownFnReplay:ownKnob Tryz.prog.godebug=none:=by kernel_rfl
theorem laidOutFnReplay:laidOutB Tryz.prog=true:=by kernel_rfl
theorem liftedFnReplay (os:Os) (started:os.Started) (H:Type) (enc:TypeId×Value→H) :
 ReturnsInHanded {} Tryz.checked os 3 .any (fun w args=>(Rows.fnReplaySpec.pre enc Tryz.prog Tryz.f3 Rows.fnReplayRow.domain false w args∧laidMetH Tryz.prog Rows.fnReplayRow.laid w)∧sizedMet enc Tryz.prog Tryz.f3 (OpenSpec.ofChange Rows.fnReplaySpec) false w args) (Rows.fnReplaySpec.post enc Tryz.prog Tryz.f3 false true false false):=by
 refine frame_laid (C:=Tryz.checked) (X:=fun w=>laidMetH Tryz.prog Rows.fnReplayRow.laid w) (fun _ _ hh h=>h.of_heap hh) ownFnReplay started (by kernel_rfl) Tryz.func3
  (ChangeSpec.witness_shaped (enc:=enc) (C:=Tryz.checked) (os:=os) (X:=fun w _=>laidMetH Tryz.prog Rows.fnReplayRow.laid w) false (World.laidAll Tryz.prog os Rows.fnReplayRow.laid) #[.slice none 0 0] 8 (World.laidAll_os _ _ _)
   (World.shaped_of_ZipB (by kernel_rfl) (by kernel_rfl)) (by kernel_rfl) (by kernel_rfl) (by kernel_rfl)
   (by rw [MakeChecks.laidMetH_plain _ _ _ (by kernel_rfl)];exact laidMet_laidAll _ (by kernel_rfl) (by kernel_rfl))) ?_
 intro W base args ds gs before hval0 hW hX hsh
 rw [MakeChecks.laidMetH_plain _ _ _ (by kernel_rfl)] at hX
 have hes:∃ tp p,W.var? Tryz.prog "strconv.ErrSyntax"=some #[.iface tp p]:=by
  obtain⟨a0,s0,hv0,_⟩:=laid_sentinel (g:=((Tryz.prog).globalNamed "strconv.ErrSyntax").getD 0) (laid_one "strconv.ErrSyntax" (x:=("strconv.ErrSyntax",Rows.laid_strconv_ErrSyntax)) hX (by kernel_rfl)) (by kernel_rfl) (by kernel_rfl) Tryz.underlying150
   (fun u h=>typeName_ptr_named (nm:= "errors.errorString") (tp:=283) (by rw [show "*"++ "errors.errorString"= "*errors.errorString" by decide];kernel_rfl) (by kernel_rfl) (by decide) u (by rw [show "*"++ "errors.errorString"= "*errors.errorString" by decide];exact h)) Tryz.underlying283 Tryz.underlying285 rfl rfl Tryz.underlying9 (by kernel_rfl) (by kernel_rfl)
  exact⟨_,_,hv0⟩
 have hgood:Go.Q.Good W []:=Go.Q.good_of ⟨hsh,Lib.tabIs_of_head (g:=((Tryz.prog).globalNamed "internal/strconv.uint64pow10").getD 0) (t:=(((Tryz.prog).globals[((Tryz.prog).globalNamed "internal/strconv.uint64pow10").getD 0]?).map (·.type)).getD 0) (e:=197) (n:=20) (by kernel_rfl) (by kernel_rfl) (by kernel_rfl) (by kernel_rfl) (by kernel_rfl) (by kernel_rfl) (laid_one "internal/strconv.uint64pow10" (x:=("internal/strconv.uint64pow10",Lib.tabData .u64 Lib.pow10Tab)) hX (by kernel_rfl)),hes⟩
 have hval:∀ (j:Nat) t v,Tryz.f3.params[j]?=some t→args[j]?=some v→Value.okWide Tryz.prog W .any base t v:=hval0
 have hW':=hW
 obtain⟨p,q,hA0,hV,rfl,hfz,hnd⟩:=hW
 have hA:DataW.TrodAll enc Tryz.prog W 0 (fun _=>true) true Tryz.f3.params.toList args.toList ds p:=hA0
 rw [Tryz.params3] at hA hval
 obtain⟨v0,vs0,d0,ds0,p0,q0,hargs,rfl,rfl,h0,r0⟩:=trodAll_cons hA
 obtain⟨rfl,rfl,rfl⟩:=trodAll_nil r0
 obtain rfl:args=#[v0]:=by cases args;simp_all
 obtain⟨rfl,rfl⟩:=trodVars_none hV
 obtain⟨a0,len0,cap0,rfl⟩:=okWide_slice Tryz.underlying22 (hval 0 22 v0 rfl rfl)
 have k0:=h0
 have lt0:∀ x∈p0,x.block<W.heap.size:=by obtain⟨m,hm⟩:=k0;exact DataW.trod_lt m _ _ _ hm
 obtain⟨x0,F0,hs0⟩:=OpensT.vl opensByteS h0
 clear hA0 hval0;refine ((lawFnReplay _ (fin_range x0)).2 W _ _ hgood ⟨_,_,_,_,rfl,(show V0r false W (.one _) _ _ from C_fin (Cs_one_inv hs0)),⟨rfl,rfl⟩,rfl⟩).mono fun e W' ⟨v,F,he,hv,_,_,bel⟩=>?_
 have hv2:v=.bool true:=by unfold Vr V0r C at hv;exact hv.1
 subst hv2;subst he
 exact⟨_,rfl,_,_,_,[],_,[],hW',trodAll_mk1 (shut_bool Tryz.underlying4 _),(trodAll_cons_mk (Below.trod laidOutFnReplay (by kernel_rfl) (of_decide_eq_true (by kernel_rfl)) k0 bel lt0) trodAll_mk0),rfl,Below.frame bel _,fun h=>by cases h⟩
theorem jfa:(Rows.fnReplayRow.inPlace == Tryz.prog.inPlace 3)=true:=by kernel_rfl
theorem jfb:(Rows.fnReplayRow.unfollowed == Tryz.prog.unfollowed 3)=true:=by kernel_rfl
theorem jfc:(Rows.fnReplayRow.recurses == Tryz.prog.recurses 3)=true:=by kernel_rfl
theorem jfd:(Rows.fnReplayRow.named == Tryz.prog.varsNamed 3)=true:=by kernel_rfl
theorem jfe:mapsRowed Tryz.prog=true:=by kernel_rfl
theorem jff:joinedFacts Tryz.prog 3 Tryz.f3 Rows.fnReplaySpec Rows.fnReplayRow=true:=by
 unfold joinedFacts
 rw [laidOutFnReplay,jfa,jfb,jfc,jfd,jfe]
 kernel_rfl
theorem provedFnReplay:Rows.FnReplaySaid:=
 OpenClaim.holds_of_wide 3 Tryz.f3 rfl rfl rfl rfl rfl rfl rfl ⟨rfl,rfl,rfl,rfl,rfl⟩ rfl rfl rfl rfl rfl (by kernel_rfl) Tryz.func3 jff
  (of_decide_eq_true (by kernel_rfl)) (by unfold Func.isWrapper;first|(rw [if_pos (by decide +kernel)];kernel_rfl)|(rw [if_neg (by decide +kernel)];exact⟨rfl,rfl⟩))
  (fun os started H enc _=>liftedFnReplay os started H enc)
theorem cardFnReplay:Rows.FnReplayCardSaid:=
 Claim7.holds_tied_plain_at .later [] [.data,.data,.data,.data,.sentinel,.sentinel,.pinned] true (true,"4b893531fc6f468b3df9ea1337f67a412cc80c76606fb2324e9bf69a106f3e29") true provedFnReplay (fun _ h=>by cases h) (by kernel_rfl) (fun _ h=>by cases h) fnReplay_row_tie rfl ⟨rfl,rfl⟩ (by kernel_rfl) rfl
  (fun f fn hf hfn=>by
   obtain rfl:f=3:=Option.some.inj ((show Tryz.prog.funcNamed "loop.example/g01922/laws.FnReplay"=some 3 by kernel_rfl).symm.trans hf) |>.symm
   obtain rfl:fn=Tryz.f3:=(Option.some.inj (Tryz.func3.symm.trans hfn)).symm
   exact⟨by kernel_rfl,fun j t ht=>by
    rw [Tryz.params3] at ht
    have hm:t∈[22]:=by simpa using Array.mem_of_getElem? ht
    have hall:([22].all fun u=>!Tryz.prog.wantsStandIn u)=true:=by kernel_rfl
    exact (show Tryz.prog.wantsStandIn t=false by simpa using List.all_eq_true.1 hall t hm)⟩)
  (by kernel_rfl)
#print axioms cardFnReplay
#print axioms provedFnReplay
end LFnReplay
end Go.Proofs.YtdhojcaoljhbiaaGreatDoor
