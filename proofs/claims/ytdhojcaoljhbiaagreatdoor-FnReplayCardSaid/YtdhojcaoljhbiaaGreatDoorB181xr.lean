import Derived.Test.YtdhojcaoljhbiaaGreatDoorB179xr
import Derived.Test.YtdhojcaoljhbiaaGreatDoorB180xr
set_option linter.unusedVariables false
set_option linter.unusedSimpArgs false
set_option maxRecDepth 100000
set_option maxHeartbeats 1000000
set_option maxRecDepth 100000
namespace Go.Q
open Go.RowKit Go.D
theorem validH_all {h:THistory} (hv:validH h=true):∀ g∈h.Graphs,validG g=true∧g.Values=(h.Graphs[0]?.getD dGr).Values:=fun g hg=>by
 unfold validH at hv
 simp only [Bool.and_eq_true] at hv
 have:=List.all_eq_true.1 hv.1 g hg
 unfold hgOk at this
 simp only [Bool.and_eq_true,decide_eq_true_eq] at this
 exact this
theorem validH_mk {h:THistory} {V:List Int} (h1:∀ g∈h.Graphs,validG g=true∧g.Values=V) (h2:1≤h.Graphs.length∧h.Graphs.length≤8) (h3:1≤h.First∧h.First≤999-h.Graphs.length+1):validH h=true:=by
 have h0:h.Graphs[0]?=some h.Graphs[0]:=List.getElem?_eq_getElem (by omega)
 unfold validH inB
 simp only [Bool.and_eq_true,decide_eq_true_eq]
 refine⟨List.all_eq_true.2 fun g hg=>?_,⟨by omega,by omega⟩,by omega,by omega⟩
 unfold hgOk
 rw [h0,Option.getD_some,(h1 g hg).1,(h1 g hg).2,(h1 _ (List.getElem_mem _)).2]
 simp
theorem appH_last {h:THistory} {b:TBatch} (h2:(appH h b).2=true):validH (appH h b).1=true∧lastV (appH h b).1=lastV h+1:=by
 by_cases hv:validH h=true∧lastV h≠999
 · obtain⟨x,hx,hxv⟩:=lastH_get hv.1
   have hall:=validH_all hv.1
   have hr:=validH_r hv.1
   have hl:lastV h=h.First+h.Graphs.length-1:=by unfold lastV;rw [if_pos hv.1]
   have hne:=hv.2
   cases ha:(applyB x b).2 with
   | false=>rw [appH_bad hv hx ha] at h2;cases h2
   | true=>
    have hg:=applyB_valid ha
    have hgV:(applyB x b).1.Values=(h.Graphs[0]?.getD dGr).Values:=by rw [hg.2.1];exact (hall x (List.mem_of_getElem? hx)).2
    have hnew:∀ g∈h.Graphs++[(applyB x b).1],validG g=true∧g.Values=(h.Graphs[0]?.getD dGr).Values:=fun g hm=>by
     rcases List.mem_append.1 hm with hm|hm
     · exact hall g hm
     rw [List.mem_singleton.1 hm];exact⟨hg.1,hgV⟩
    by_cases hle:h.Graphs.length+1≤8
    · rw [appH_le hv hx ha hle]
      have hv':validH ⟨h.First,h.Graphs++[(applyB x b).1]⟩=true:=validH_mk (V:=(h.Graphs[0]?.getD dGr).Values) hnew (by simp;omega) (by simp;omega)
      refine⟨hv',?_⟩
      show lastV ⟨h.First,h.Graphs++[(applyB x b).1]⟩=_
      unfold lastV at *
      rw [if_pos hv'] 
      simp
      omega
    rw [appH_gt hv hx ha hle]
    have hv':validH ⟨h.First+1,(h.Graphs++[(applyB x b).1]).drop 1⟩=true:=validH_mk (V:=(h.Graphs[0]?.getD dGr).Values) (fun g hm=>hnew g (List.mem_of_mem_drop hm)) (by simp;omega) (by simp;omega)
    refine⟨hv',?_⟩
    show lastV ⟨h.First+1,(h.Graphs++[(applyB x b).1]).drop 1⟩=_
    unfold lastV at *
    rw [if_pos hv']
    simp
    omega
 rw [appH_no hv] at h2;cases h2
theorem rpl_inv:∀ (L:List (Int×TBatch)) (h:THistory) (n:Int),validH h=true→validH (rplR h n L).1=true∧lastV h≤lastV (rplR h n L).1∧(rplR h n L).2=n+(lastV (rplR h n L).1-lastV h)∧rplR (rplR h n L).1 0 L=((rplR h n L).1,0)
 | [],h,n,hv=>⟨hv,Int.le_refl _,by show n=n+(lastV h-lastV h);omega,rfl⟩
 | (v,b)::r,h,n,hv=>by
  by_cases h1:v≤lastV h
  · have e:rplR h n ((v,b)::r)=rplR h n r:=by rw [rplR,if_pos h1]
    obtain⟨a1,a2,a3,a4⟩:=rpl_inv r h n hv
    rw [e]
    refine⟨a1,a2,a3,?_⟩
    rw [rplR,if_pos (by omega)]
    exact a4
  by_cases h2:v=lastV h+1∧(appH h b).2=true
  · have e:rplR h n ((v,b)::r)=rplR (appH h b).1 (n+1) r:=by rw [rplR,if_neg h1,if_pos h2]
    obtain⟨hv',hl'⟩:=appH_last h2.2
    obtain⟨a1,a2,a3,a4⟩:=rpl_inv r (appH h b).1 (n+1) hv'
    rw [e]
    refine⟨a1,by omega,by omega,?_⟩
    rw [rplR,if_pos (by omega)]
    exact a4
  have e:rplR h n ((v,b)::r)=(h,n):=by rw [rplR,if_neg h1,if_neg h2]
  rw [e]
  refine⟨hv,Int.le_refl _,by show n=n+(lastV h-lastV h);omega,?_⟩
  show rplR h 0 ((v,b)::r)=(h,0)
  rw [rplR,if_neg h1,if_neg h2]
theorem rpl_ok:∀ (L:List (Int×TBatch)) (h:THistory) (n:Int),okHs h→okHs (rplR h n L).1
 | [],_,_,hh=>hh
 | (v,b)::r,h,n,hh=>by
  rw [rplR]
  split
  · exact rpl_ok r h n hh
  split
  · exact rpl_ok r _ _ (appH_ok hh b)
  exact hh
theorem rep_ok {h:THistory} (hh:okHs h) (l:List UInt8):okHs (repH h l).1:=by
 unfold repH
 split
 · exact rpl_ok _ _ _ hh
 exact hh
theorem rep_none {h:THistory} (hv:validH h=false) (l:List UInt8):repH h l=(h,0):=by
 unfold repH
 rw [if_neg (by rw [hv];decide)]
theorem rep_law {h:THistory} (hv:validH h=true) (l:List UInt8):lastV (repH h l).1=lastV h+(repH h l).2∧repH (repH h l).1 l=((repH h l).1,0):=by
 have e:repH h l=rplR h 0 (zipL l):=by unfold repH;rw [if_pos hv]
 obtain⟨a1,a2,a3,a4⟩:=rpl_inv (zipL l) h 0 hv
 rw [e]
 refine⟨by omega,?_⟩
 unfold repH
 rw [if_pos a1]
 exact a4
theorem rep_bd {h:THistory} (l:List UInt8):0≤(repH h l).2∧(repH h l).2≤999:=by
 cases hv:validH h with
 | false=>rw [rep_none hv];exact⟨Int.le_refl _,by show (0:Int)≤999;decide⟩
 | true=>
  have h1:=(rep_law hv l).1
  have e:repH h l=rplR h 0 (zipL l):=by unfold repH;rw [if_pos hv]
  obtain⟨a1,a2,a3,a4⟩:=rpl_inv (zipL l) h 0 hv
  have h2:=lastV_le9 h
  have h3:=lastV_le9 (repH h l).1
  rw [e] at *
  omega
end Go.Q
namespace Go.Proofs.YtdhojcaoljhbiaaGreatDoor
open Go.RowKit Go.Q Go.D
theorem implReplayLogS (h:THistory) (s:ByteArray) (hh:okHs h) (hz:s.size≤1048576):FrX Tryz.prog 7 [.agg (cHistory h),.one (.v (.string s))] (fun z=>z=repH h s.data.toList) rOut:=by
 have:=implReplayLog h s.data.toList hh (by rw [←bs_size,bs_of];omega)
 rw [bs_of] at this;exact this
theorem specReplayLogS (h:THistory) (s:ByteArray) (hh:okHs h) (hz:s.size≤1048576):FrX Tryz.prog 8 [.agg (cHistory h),.one (.v (.string s))] (fun z=>z=repH h s.data.toList) rOut:=by
 have:=specReplayLog h s.data.toList hh (by rw [←bs_size,bs_of];omega)
 rw [bs_of] at this;exact this
theorem specl32LogK (hh:THistory) (hg:okHs hh):FnD Tryz.prog 30 [.agg (cHistory hh)] (fun s:ByteArray=>s.size≤600) (fun s=>.a (.one (.v (.string s)))):=by
 refine FnD.walk Tryz.func30 U (by kernel_rfl) Tryz.ntmps30 U (fun g=>rfl) fun w0 g=>?_
 refine Af (Ac (Bx U U U (.tm U) (ts:=_) (by rfl)) U ?_);refine Aj ?_;refine Aa (Af (Aj ?_));refine Aa (Af (A3 Be ?_));refine Au (Az 6 U U U C9 U U U) U ?_;refine An Be ?_;refine Aa (Af (A3 Be ?_));refine Br (specLatestVersion hh) ?_;refine Ah ?_;refine Aa (Ae (Af (Ab ?_)));refine Bi (Bj 1600 (specl1Below _) U U U (.tm U) U U (.cons (.const U) U .nil) (fun _=>rfl) (fun _=>rfl)) ?_
 rintro _ ⟨z16,hz16,rfl⟩
 try dsimp only at hz16
 refine Ah ?_;refine Aa (AW.block (AW.loop4 (fun (n:Int) (s:ByteArray) (v:Int) (H:THistory)=>((0≤n∧n≤4∧(s.size:Int)≤130*(4-n)∧0≤v∧v≤1003-n)∧okHs H)∧True) (fun (n:Int) (s:ByteArray) (v:Int) (H:THistory)=>⟨_,[(8,(true,.a (.one (.t (.v (.int .i64 n)))))),(7,(true,.a (.one (.t (.v (.int .i64 v)))))),(5,(true,.a (.one (.t (.v (.string s)))))),(0,_),(4,_),(6,_)],[(6,.box [.t (.v (.int .i64 H.First)),.t (.sl 2 (H.Graphs.map cGraph))]),(888888,.cur g)]⟩) (fun (n:Int) (s:ByteArray) (v:Int) (H:THistory)=>n.toNat) (z16) (⟨#[]⟩) (lastV hh) (hh) ⟨⟨by have:=lastV_le hh;(have e0:((⟨#[]⟩:ByteArray).size)=0:=U);omega,hg⟩,Y⟩ Ay ?_))
 rintro n s v H ⟨hk,he⟩
 refine Ae (Af (Ab ?_));refine Db ?_;refine Ab ?_;refine Ac (Bm U (by exact .yes1 U U U U) U (.tmp U (by exact fun _=>rfl)) U Be U U) U ?_;refine Ac (R_callq U (by exact .yes1 U U U U) U (.cons (.tmp U (by exact id)) U .nil) fun hq=>FnT.fr (specIsValidHistory H)) U ?_;refine C1 ?_;refine Aa (Al (.tm U) (fun h22=>?_) (fun h22=>?_))
 · try simp at h22
   have hvH:validH H=true:=(by (have h:=h22);first|exact h.2|(simp at h;exact h.2))
   have hvr:=validH_r hvH
   obtain⟨x,hx⟩:∃ ξ,H.Graphs[((H.Graphs.length:Int)-1).toNat]?=some ξ:=⟨_,List.getElem?_eq_getElem (by omega)⟩
   refine Am (Ae (AW.block (Ae (Ar (Av [0,4,5,6,7,8] [6,888888]) ?_))));refine Ad (Ab ?_);refine A8 Bn ?_;refine Ai Ch ?_;refine A8 Bn ?_;refine Ai Ch ?_;refine Bu (.t) Tryz.underlying24 ?_;refine Cy ?_;refine Ac (Aw U (.no U) U (.tm U) (.tm U) Tryz.underlying24 A9 (fun _=>⟨by omega,A5 hx⟩)) U ?_;refine A3 A9 ?_;refine Bi (Bj 3400 (specl6Batch x 3 (validH_g hvH (List.mem_of_getElem? hx)) (by omega)) U U U (.tm U) U U (.cons (.tm U) U (.cons (.const U) U .nil)) (fun _=>rfl) (fun _=>rfl)) ?_
   rintro _ ⟨z34,hz34,rfl⟩
   try dsimp only at hz34
   refine Au (Az 9 U U U Dk U U U) U ?_;refine An Cf ?_;refine Aa (Ae (Ar (Av [0,4,5,6,7,8,9] [6,888888,3400,9]) ?_));refine Ad (Ai Be ?_);refine Ai Cf ?_;refine Bi (R_calleX ((specAppendBatchK H z34 hk.2).fr) U U U (.cons (.tm U) U (.cons (.tm U) U .nil))) ?_
   rintro _ ⟨z38,hz38,rfl⟩
   try dsimp only at hz38
   refine Ac (B7 U (.no U) U U fun _=>rfl) U ?_;refine Ac (Ao U (.no U) U U (fun _=>rfl) U) U ?_;refine Ac (Ao U (.no U) U U (fun _=>rfl) U) U ?_;refine Au (Az 10 U U U C9 U U U) U ?_;refine An Be ?_;refine Bf (Av [0,4,5,6,7,8,9,10,40] [6,888888,3400,9,10]) ?_;refine Ah ?_;refine Aa (Af (Ab ?_));refine Aa (Al (.tm U) (fun h41=>?_) (fun h41=>?_))
   · try simp at h41
     refine Af (Ai Be ?_);refine An Be ?_;refine Aa (Af (Ab ?_));refine Bs ?_;refine Ah ?_;refine Aa (Ad (Ab ?_));refine Ab ?_;refine Ai Cf ?_;refine Br (specEncodeRecord (v+1) z34) ?_;refine Ac (Cr U (.no U) U (.tm U) (.tm U) (fun _=>by have:=enc_len (v+1) z34;simp only [ByteArray.size_append,bs_size];omega)) U ?_;refine Ah ?_;refine Aa (Ar (Av [0,4,5,6,7,8,9,10,11] [6,888888,3400,9,10]) ?_);refine Ad (Ab ?_);refine Cy ?_;refine Ah ?_;refine Aa ?_
     repeat (with_reducible refine A7 ?_)
     refine Round4.next (n-1) (s++bs (encRec (v+1) z34)) (v+1) (z38.1) ⟨⟨by have:=enc_len (v+1) z34;(try simp at h22);simp only [ByteArray.size_append,bs_size];omega,by rw [hz38];exact appH_ok hk.2 z34⟩,Y⟩ (by (try simp at h22);omega) (A6 rfl ⟨rfl,rfl,rfl,rfl,rfl,rfl,Y⟩ ⟨(by rfl),(by rfl),Y⟩)
   try simp at h41
   refine Am (Ad (Ab ?_));refine Cy ?_;refine Ah ?_;refine Aa ?_
   repeat (with_reducible refine A7 ?_)
   refine Round4.next (n-1) (s) (v) (H) ⟨⟨by (try simp at h22);omega,hk.2⟩,Y⟩ (by (try simp at h22);omega) (A6 rfl ⟨rfl,rfl,rfl,rfl,rfl,rfl,Y⟩ ⟨(by rfl),(by rfl),Y⟩)
 try simp at h22
 refine Bt (Ae (Ae (Ar (Av [0,4,5,6,7,8] [6,888888]) ?_)));refine Ad (Ab ?_);refine Ac (C4 U (.no U) U (.tm U) Tryz.underlying9) U ?_;refine Db ?_;refine Ab ?_;refine Da ?_;refine Bi (R_calldq 5500 (specl1Once _) U (by exact .yes1 U U U U) U (.tmp U (by exact id)) U U (.cons (.const U) U .nil) (fun _=>rfl)) ?_
 rintro _ ⟨z55,hz55,rfl⟩
 try dsimp only at hz55
 refine C1 ?_;refine Aa (Al (.tm U) (fun h56=>?_) (fun h56=>?_))
 · try simp at h56
   have hs0:0<s.size:=Nat.pos_of_ne_zero fun e=>by (have e2:s=ByteArray.empty:=(by simpa using e));subst e2;simp at h56
   refine Ae (Ar (Av [0,4,5,6,7,8] [6,888888]) ?_);refine Ad (Ab ?_);refine Ab ?_;refine Ab ?_;refine Ac (C4 U (.no U) U (.tm U) Tryz.underlying9) U ?_;refine Bi (Bj 6100 (specl1Below _) U U U (.tm U) U U (.cons (.tm U) U .nil) (fun _=>rfl) (fun _=>rfl)) ?_
   rintro _ ⟨z61,hz61,rfl⟩
   try dsimp only at hz61
   refine Ac (Cl (m:=z61.toNat) U (.no U) U (.tm U) .no (.yes (.tm U) (fun _=>by first|omega|(simp<;>omega))) Tryz.underlying9 (fun _=>⟨by omega,by first|omega|(simp;omega)⟩)) U ?_;refine Ah ?_;refine Aa (Ap ?_);apply DRes.mk rfl
   case h=>
    refine Res.one U (.tmp U .nil) U ?_
    rfl
   case hp=>exact (by simp only [ByteArray.size_extract];omega)
 try simp at h56
 refine Am (Ae (Ae (Ar (Av [0,4,5,6,7,8] [6,888888]) ?_)));refine Ad (Ab ?_);refine Bi (Bj 6400 (specl1Once _) U U U (.tm U) U U (.cons (.const U) U .nil) (fun _=>rfl) (fun _=>rfl)) ?_
 rintro _ ⟨z64,hz64,rfl⟩
 try dsimp only at hz64
 refine Aa (Al (.tm U) (fun h64=>?_) (fun h64=>?_))
 · try simp at h64
   refine Af (Ab ?_);refine Ab ?_;refine Bi (Bj 6700 (specl1Spoil s (by omega)) U U U (.tm U) U U (.cons (.tm U) U .nil) (fun _=>rfl) (fun _=>rfl)) ?_
   rintro _ ⟨z67,hz67,rfl⟩
   try dsimp only at hz67
   refine Ah ?_;refine Aa (Ap ?_);apply DRes.mk rfl
   case h=>
    refine Res.one U (.tmp U .nil) U ?_
    rfl
   case hp=>exact (by omega)
 try simp at h64
 refine Am (Af (Ab ?_));refine Ah ?_;refine Aa (Ap ?_);apply DRes.mk rfl
 case h=>
  refine Res.one U (.tmp U .nil) U ?_
  rfl
 case hp=>exact (by omega)
theorem specDrawReplayLog (bs:List Int) (hb:∀ n∈bs,0≤n∧n<256):FrE Tryz.prog 6 [.one (.sl 1 (byR bs))] (fun o=>∃ x:THistory×ByteArray,(okHs x.1∧x.2.size≤600)∧o=repOut x):=by
 refine FrE.walk Tryz.func6 rfl (by kernel_rfl) Tryz.ntmps6 rfl fun w0=>?_
 refine Af (Au (Az 2 U U U C9 U U U) U ?_);refine Aj ?_;refine Aa (Af (Ab ?_));refine Bi (R_calln 888888 (specl1New) U U U (.tm U) (by assumption) U) ?_
 rintro _ ⟨g,rfl⟩
 refine Ah ?_;refine Aa (Af (Ab ?_));refine Bi (R_calldr 1000 (specl7Any) U U U (.tm U) U U .nil U) ?_
 rintro _ ⟨z10,hz10,rfl⟩
 try dsimp only at hz10
 refine Au (Az 5 U U U C9 U U U) U ?_;refine An Be ?_;refine Aa (Af (Ai Be ?_));refine Au (Az 6 U U U C9 U U U) U ?_;refine An Be ?_;refine Aa (Ae (Af (Ai Be ?_)));refine Br (specIsValidHistory z10) ?_;refine Ab ?_;refine Da ?_;refine Bi (R_calldq 1600 (specl1Once _) U (by exact .yes1 U U U U) U (.tmp U (by exact id)) U U (.cons (.const U) U .nil) (fun _=>rfl)) ?_
 rintro _ ⟨z16,hz16,rfl⟩
 try dsimp only at hz16
 refine C1 ?_;refine Aa (Al (.tm U) (fun h17=>?_) (fun h17=>?_))
 · try simp at h17
   have hv:validH z10=true:=(by exact h17.1)
   obtain⟨g0,hg0⟩:∃ ξ,z10.Graphs[0]?=some ξ:=⟨_,List.getElem?_eq_getElem (by have:=validH_r hv;omega)⟩
   have hg0v:=validH_g hv (List.mem_of_getElem? hg0)
   refine Ar (Av [0,2,3,4,5,6] [2,888888,1000,5,6]) ?_;refine Ar (Av [0,2,3,4,5,6] [2,888888,1000,5,6]) ?_;apply C3 (N:=11) (k:=9) (Hs:=[0,1,4,5]) (ms:=[[],[2],[2,3],[2,3,6],[2,3,6,7],[2,3,6,7,8],[2,3,6,7,9],[2,3,6,7,8,9],[2,3,6,7,8,10],[2,3,6,7,8,9,10]]) (es:=[(0,2,1),(1,3,2),(2,6,3),(3,7,4),(4,8,5),(4,9,6),(5,9,7),(6,8,7),(5,10,8),(7,10,9),(8,9,9)]) (σ1:=_) (SM:=⟨_,[(0,_),(2,_),(3,_),(4,_),(5,_),(6,_),(19,_),(20,_),(23,_),(24,_)],[(2,_),(888888,_),(1000,_),(5,_)]⟩)
   case hm=>kernel_rfl
   case hB=>kernel_rfl
   case hP=>kernel_rfl
   case hL=>kernel_rfl
   case hN=>rfl
   case hpre=>
    apply As (P:=Tryz.prog) 0 rfl ((Bk rfl (.no rfl) rfl (.tm rfl) Bn)) (by exact .pp) rfl rfl rfl;apply As (P:=Tryz.prog) 1 rfl ((by exact Bm rfl (.no rfl) rfl (.tm rfl) rfl Ch rfl rfl)) (by exact HasV.load (x:=.tmp 19) (.tm rfl) rfl Ch rfl rfl) rfl rfl rfl;apply As (P:=Tryz.prog) 4 rfl ((by exact Bk rfl (.no rfl) rfl (.tm rfl) Dj)) (by exact .pp) rfl rfl rfl;apply As (P:=Tryz.prog) 5 rfl ((by exact Bm rfl (.no rfl) rfl (.tm rfl) rfl ty3 rfl rfl)) (by exact HasV.load (x:=.tmp 23) (.tm rfl) rfl ty3 rfl rfl) rfl rfl rfl;exact PreOk.nil
   case hS=>exact A4
   case hH=>
    refine LocsH.fq Bn ?_;refine LocsH.lq Ch ?_;refine LocsH.fq Dj ?_;refine LocsH.lq ty3 ?_
    trivial
   apply Dh.new0 (i:=2);rfl;rfl;rfl
   · intro w9 _;refine Ac (by exact R_indexAddr_vw U (.no U) U (.tm U) (.const U) Tryz.underlying24 A9 (fun _=>⟨by omega,A5 hg0⟩)) U ?_;exact Ak [0,2,3,4,5,6,19,20,21,23,24] [2,888888,1000,5,6]
   intros;exact A4
   apply Dh.new0 (i:=3);rfl;rfl;rfl
   · intro w9 _;refine Ac (R_load_vw U (.no U) U (.tm U) A9 U U) U ?_;exact Ak [0,2,3,4,5,6,19,20,22,23,24] [2,888888,1000,5,6]
   intros;exact A4
   apply Dh.drw0 (i:=6)
   case ha=>rfl
   case ho=>rfl
   case hE=>
    intro  hp
    obtain _:=hp
    exact R_callX 2500 (specNewHistoryR g0 z10.First (by have:=validG_z hg0v;omega) (by have:=validG_z hg0v;omega)) rfl rfl rfl (.cons (.tm rfl) rfl (.cons (.tm rfl) rfl .nil)) rfl
   case hb=>rfl
   case hL=>
    intro  z25 hp hy;exact C7 (Av [0,2,3,4,5,6,19,20,23,24,25] [2,888888,1000,5,6,2500]) U
   case hS=>intros;exact A4
   apply Dh.new1 (i:=7);rfl;rfl;rfl
   · intro w9 z25 hp
     obtain⟨_,hz25⟩:=hp
     refine Ac (B7 U (.no U) U U fun _=>rfl) U ?_;exact Ak [0,2,3,4,5,6,18,19,20,23,24] [2,888888,1000,5,6,2500]
   intros;exact A4
   apply Dh.new1 (i:=8);rfl;rfl;rfl
   · intro w9 z25 hp
     obtain⟨_,hz25⟩:=hp
     refine Ac (Ao U (.no U) U U (fun _=>rfl) U) U ?_;exact Ak [0,2,3,4,5,6,18,19,20,23,24,26] [2,888888,1000,5,6,2500]
   intros;exact A4
   apply Dh.new1 (i:=9);rfl;rfl;rfl
   · intro w9 z25 hp
     obtain⟨_,hz25⟩:=hp
     refine Ac (Ao U (.no U) U U (fun _=>rfl) U) U ?_;exact Ak [0,2,3,4,5,6,18,19,20,23,24] [2,888888,1000,5,6,2500]
   intros;exact A4
   apply Dh.new1 (i:=9);rfl;rfl;rfl
   · intro w9 z25 hp
     obtain⟨_,hz25⟩:=hp
     refine Ac (Ao U (.no U) U U (fun _=>rfl) U) U ?_;exact Ak [0,2,3,4,5,6,19,20,23,24,26] [2,888888,1000,5,6,2500]
   intros;exact A4
   apply Dh.old1 (i:=8);rfl;rfl;rfl
   · intro w9 z25 hp
     obtain⟨_,hz25⟩:=hp
     refine Ac (Ao U (.no U) U U (fun _=>rfl) U) U ?_;exact Aa Ay
   apply Dh.new1 (i:=10);rfl;rfl;rfl
   · intro w9 z25 hp
     obtain⟨_,hz25⟩:=hp
     refine An Be ?_;exact Ak [0,2,3,4,5,6,18,19,20,23,24] [2,888888,1000,5,6,2500]
   intros;exact A4
   apply Dh.new1 (i:=10);rfl;rfl;rfl
   · intro w9 z25 hp
     obtain⟨_,hz25⟩:=hp
     refine An Be ?_;exact Ak [0,2,3,4,5,6,19,20,23,24] [2,888888,1000,5,6,2500]
   intros;exact A4
   apply Dh.old1 (i:=9);rfl;rfl;rfl
   · intro w9 z25 hp
     obtain⟨_,hz25⟩:=hp
     refine Ac (Ao U (.no U) U U (fun _=>rfl) U) U ?_;exact Aa Ay
   refine Dh.fin1 (k:=9) rfl ?_;intro z25 hp
   obtain⟨_,hz25⟩:=hp
   refine Aa (Ae (Ar (Av [0,2,3,4,5,6,19,20,23,24] [2,888888,1000,5,6,2500]) ?_));apply C3 (N:=4) (k:=1) (Hs:=[0,1,2]) (ms:=[[],[3]]) (es:=[(0,3,1)]) (σ1:=_) (SM:=⟨_,[(0,_),(2,_),(3,_),(4,_),(5,_),(6,_),(19,_),(20,_),(23,_),(24,_),(28,_),(29,_),(30,_)],[(2,_),(888888,_),(1000,_),(5,_),(6,_),(2500,_)]⟩)
   case hm=>kernel_rfl
   case hB=>kernel_rfl
   case hP=>kernel_rfl
   case hL=>kernel_rfl
   case hN=>rfl
   case hpre=>
    apply As (P:=Tryz.prog) 0 rfl ((by exact Bm rfl (.no rfl) rfl (.tm rfl) rfl Be rfl rfl)) (by exact HasV.load (x:=.tmp 6) (.tm rfl) rfl Be rfl rfl) rfl rfl rfl;apply As (P:=Tryz.prog) 1 rfl (Bh rfl (.no rfl) rfl (.tm rfl)) (by exact HasV.slot (t:=4) rfl) rfl rfl rfl;apply As (P:=Tryz.prog) 2 rfl ((by exact Bm rfl (.no rfl) rfl (.tm rfl) rfl Be rfl rfl)) (by exact HasV.load (x:=.tmp 5) (.tm rfl) rfl Be rfl rfl) rfl rfl rfl;exact PreOk.nil
   case hS=>exact A4
   case hH=>
    refine LocsH.lq Be ?_;refine LocsH.mv ?_;refine LocsH.lq Be ?_
    trivial
   apply Dh.drw0 (i:=3)
   case ha=>rfl
   case ho=>rfl
   case hE=>
    intro  hp
    obtain _:=hp
    exact Bj 3100 (specl32LogK z10 hz10) rfl rfl rfl (.tm rfl) rfl rfl (.cons (.tm rfl) rfl .nil) (fun _=>rfl) (fun _=>rfl)
   case hb=>rfl
   case hL=>
    intro  z31 hp hy;exact C7 (Av [0,2,3,4,5,6,19,20,23,24,28,29,30,31] [2,888888,1000,5,6,2500]) U
   case hS=>intros;exact A4
   refine Dh.fin1 (k:=1) rfl ?_;intro z31 hp
   obtain⟨_,hz31⟩:=hp
   refine An Be ?_;refine Bf (Av [0,2,3,4,5,6,31] [2,888888,1000,5,6,2500]) ?_;refine Ah ?_;refine Aa (Ap ?_);apply ERRes.mk (x:=(z25.1,z31))
   case h=>
    refine ResR.many U (.cell U U Be U U (.tmp U .nil)) U ?_ (by simp)
    rfl
   case hp=>exact⟨hz25,hz31⟩
 try simp at h17
 refine Am (Ae (Ar (Av [0,2,3,4,5,6] [2,888888,1000,5,6]) ?_));refine Ar (Av [0,2,3,4,5,6] [2,888888,1000,5,6]) ?_;apply C3 (N:=4) (k:=1) (Hs:=[0,1,2]) (ms:=[[],[3]]) (es:=[(0,3,1)]) (σ1:=_) (SM:=⟨_,[(0,_),(2,_),(3,_),(4,_),(5,_),(6,_),(28,_),(29,_),(30,_)],[(2,_),(888888,_),(1000,_),(5,_),(6,_)]⟩)
 case hm=>kernel_rfl
 case hB=>kernel_rfl
 case hP=>kernel_rfl
 case hL=>kernel_rfl
 case hN=>rfl
 case hpre=>
  apply As (P:=Tryz.prog) 0 rfl ((by exact Bm rfl (.no rfl) rfl (.tm rfl) rfl Be rfl rfl)) (by exact HasV.load (x:=.tmp 6) (.tm rfl) rfl Be rfl rfl) rfl rfl rfl;apply As (P:=Tryz.prog) 1 rfl (Bh rfl (.no rfl) rfl (.tm rfl)) (by exact HasV.slot (t:=4) rfl) rfl rfl rfl;apply As (P:=Tryz.prog) 2 rfl ((by exact Bm rfl (.no rfl) rfl (.tm rfl) rfl Be rfl rfl)) (by exact HasV.load (x:=.tmp 5) (.tm rfl) rfl Be rfl rfl) rfl rfl rfl;exact PreOk.nil
 case hS=>exact A4
 case hH=>
  refine LocsH.lq Be ?_;refine LocsH.mv ?_;refine LocsH.lq Be ?_
  trivial
 apply Dh.drw0 (i:=3)
 case ha=>rfl
 case ho=>rfl
 case hE=>
  intro  hp
  obtain _:=hp
  exact Bj 3100 (specl32LogK z10 hz10) rfl rfl rfl (.tm rfl) rfl rfl (.cons (.tm rfl) rfl .nil) (fun _=>rfl) (fun _=>rfl)
 case hb=>rfl
 case hL=>
  intro  z31 hp hy;exact C7 (Av [0,2,3,4,5,6,28,29,30,31] [2,888888,1000,5,6]) U
 case hS=>intros;exact A4
 refine Dh.fin1 (k:=1) rfl ?_;intro z31 hp
 obtain⟨_,hz31⟩:=hp
 refine An Be ?_;refine Bf (Av [0,2,3,4,5,6,31] [2,888888,1000,5,6]) ?_;refine Ah ?_;refine Aa (Ap ?_);apply ERRes.mk (x:=(z10,z31))
 case h=>
  refine ResR.many U (.cell U U Be U U (.tmp U .nil)) U ?_ (by simp)
  rfl
 case hp=>exact⟨hz10,hz31⟩
end Go.Proofs.YtdhojcaoljhbiaaGreatDoor
