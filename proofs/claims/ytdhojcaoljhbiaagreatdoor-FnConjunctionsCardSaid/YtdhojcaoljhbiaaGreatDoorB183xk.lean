import Derived.Test.YtdhojcaoljhbiaaGreatDoorB136xk
import Derived.Test.YtdhojcaoljhbiaaGreatDoorB127xk
import Derived.Test.YtdhojcaoljhbiaaGreatDoorB113xk
import Derived.Test.YtdhojcaoljhbiaaGreatDoorB08xk
import Derived.Test.YtdhojcaoljhbiaaGreatDoorPvxk
set_option linter.unusedVariables false
set_option linter.unusedSimpArgs false
set_option maxRecDepth 100000
set_option maxHeartbeats 1000000
set_option maxRecDepth 100000
namespace Go.Q
open Go.RowKit Go.D
theorem validG_z1 {g:TGraph} (h:validG g=true):0<g.Values.length∧g.Values.length≤5∧g.Edges.length≤12:=by
 unfold validG inB at h
 simp only [Bool.and_eq_true,decide_eq_true_eq] at h
 omega
def conjP (q:TConjunction):Prop:=(0≤q.VariableCount∧q.VariableCount≤5)∧q.Atoms.length≤4
theorem rowD {l:List (List Int)} {i:Nat} (h:i<l.length):l[i]?=some (l[i]?.getD []):=by rw [List.getElem?_eq_getElem h];rfl
def rowsV (l:List (List Int)):V:=.a (.one (.sl 1 (l.map cIntS)))
theorem FnT.fe {P:Program} {f:FuncId} {ins:List V0} {τ:Type} {x0:τ} {out:τ→V} (h:FnT P f ins (out x0)):FrX P f ins (fun x=>x=x0) out:=
 ⟨h.1,fun w vs F hg hv=>(h.2 w vs F hg hv).mono fun _ _ ⟨v,G,h1,h2,_,h4,h5⟩=>⟨x0,rfl,v,G,h1,h2.read,h4,h5⟩⟩
def holdOut (z:TGraph×TConjunction×List Int):V:=.tup [.agg (cGraph z.1),.agg (cConjunction z.2.1),.one (.sl 1 (z.2.2.map cInt))]
def projOut (z:List (List Int)×List Int):V:=.tup [.one (.sl 1 (z.1.map cIntS)),.one (.sl 1 (z.2.map cInt))]
theorem evalC_sz (g:TGraph) (q:TConjunction):(evalC g q).length≤1048576∧∀ r∈evalC g q,r.length≤1048576:=by
 unfold evalC
 split
 · rename_i h
   simp only [Bool.and_eq_true] at h
   have h1:=validG_z1 h.1
   have h2:=(conj_atoms h.2).2.1
   refine⟨Nat.le_trans (List.length_filter_le _ _) ?_,fun r hr=>?_⟩
   · rw [wordsN_count]
     exact Nat.le_trans (Nat.pow_le_pow_left h1.2.1 _) (Nat.le_trans (Nat.pow_le_pow_right (by omega) (show q.VariableCount.toNat≤4 by omega)) (by decide))
   have h3:=(List.mem_filter.1 hr).1
   rw [wordsN_eq] at h3
   rw [extN_len h3]
   omega
 exact⟨by simp,fun r hr=>by cases hr⟩
end Go.Q
namespace Go.Proofs.YtdhojcaoljhbiaaGreatDoor
open Go.RowKit Go.Q Go.D
theorem specl3AnyC:FnD Tryz.prog 45 [] (fun g:TGraph=>g.Values.length≤1048576∧g.Edges.length≤1048576) (fun g=>.a (.agg (cGraph g))):=by
 refine FnD.walk Tryz.func45 U (by kernel_rfl) Tryz.ntmps45 U (fun g=>rfl) fun w0 g=>?_
 refine Ae (A6 (Bo 2 U U U in37 U U U) U ?_);refine Aa (Ae (Ab ?_));refine Bf (A9 500 (specl3GraphV) U U U (.tm U) U U .nil (fun _=>rfl) (fun _=>rfl)) ?_
 rintro _ ⟨z5,hz5,rfl⟩
 try dsimp only at hz5
 refine A6 (Bo 3 U U U in37 U U U) U ?_;refine A4 Bz ?_;refine Aa (Ac (Ae (Ab ?_)));refine Bf (A9 700 (specl1Below _) U U U (.tm U) U U (.cons (.const U) U .nil) (fun _=>rfl) (fun _=>rfl)) ?_
 rintro _ ⟨z7,hz7,rfl⟩
 try dsimp only at hz7
 refine Aa (AW.block (Ae (Br ?_)));refine Ah ?_;refine Aa (Ai (.tm U) (fun h8=>?_) (fun h8=>?_))
 · try simp at h8
   have hvz:=validG_z1 hz5
   obtain⟨v0,hv0⟩:∃ ξ,z5.Values[0]?=some ξ:=⟨_,List.getElem?_eq_getElem hvz.1⟩
   refine Am (As [0,2,3,4,5,6,7,8,9] [888888,2,500,501,3]) ?_;apply C5 (N:=5) (k:=2) (Hs:=[0,1,2]) (ms:=[[],[3],[3,4]]) (es:=[(0,3,1),(1,4,2)]) (σ1:=_) (SM:=⟨_,[(0,_),(2,_),(3,_),(4,_),(5,_),(6,_),(7,_),(8,_),(9,_),(10,_),(11,_),(12,_)],[(888888,_),(2,_),(500,_),(501,_),(3,_)]⟩)
   case hm=>kernel_rfl
   case hB=>kernel_rfl
   case hP=>kernel_rfl
   case hL=>kernel_rfl
   case hN=>rfl
   case hpre=>
    apply Aw (P:=Tryz.prog) 0 rfl ((Av rfl (.no rfl) rfl (.tm rfl) Cv)) (by exact .pp) rfl rfl rfl;apply Aw (P:=Tryz.prog) 1 rfl ((by exact Ax rfl (.no rfl) rfl (.tm rfl) rfl Ca rfl rfl)) (by exact HasV.load (x:=.tmp 10) (.tm rfl) rfl Ca rfl rfl) rfl rfl rfl;apply Aw (P:=Tryz.prog) 2 rfl (Az rfl (.no rfl) rfl (.tm rfl)) (by exact HasV.slot (t:=0) rfl) rfl rfl rfl;exact PreOk.nil
   case hS=>exact Bk
   case hH=>
    refine LocsH.fq Cv ?_;refine LocsH.lq Ca ?_;refine LocsH.mv ?_
    trivial
   apply Dh.new0 (i:=3);rfl;rfl;rfl
   · intro w9 _;refine Ag (Di (xs:=[.const (.int .i64 (-1)),.const (.int .i64 (3)),.const (.int .i64 (2))]) (rows:=[cInt (-1),cInt 3,cInt 2]) U U U (.cons (.const U) U U (.cons (.const U) U U (.cons (.const U) U U .nil))) Tryz.underlying34 in3 U U (U)) U ?_;exact Bg [0,2,3,4,5,6,7,8,9,10,11,12,13] [888888,2,500,501,3]
   intros;exact Bk
   apply Dh.drw0 (i:=4)
   case ha=>rfl
   case ho=>rfl
   case hE=>
    intro  hp
    obtain _:=hp
    exact A9 1400 (specl1PickInt [-1,3,2] (by decide)) rfl rfl rfl (.tm rfl) rfl rfl (.cons (.tm rfl) rfl .nil) (fun _=>rfl) (fun _=>rfl)
   case hb=>rfl
   case hL=>
    intro  z14 hp hy;exact C2 (As [0,2,3,4,5,6,7,8,9,10,11,12,14] [888888,2,500,501,3]) U
   case hS=>intros;exact Bk
   refine Dh.fin1 (k:=2) rfl ?_;intro z14 hp
   obtain⟨_,hz14⟩:=hp
   refine Ag (Be U (.no U) U (.tm U) U (.const U) Tryz.underlying34 ty3 (fun _=>⟨by omega,(Ao hv0)⟩)) U ?_;refine C3 (Dc U U U (.tm U) U (.tm U) U (Ao hv0) ty3 U U U U) ?_;refine Aa (Ac (Am (As [0,2,3,7] [888888,2,500,501,3]) ?_));refine Ad (Bp Bz ?_);refine A4 Bz ?_;refine Aa (Al ?_);apply DRes.mk (x:=⟨z5.Values.set 0 z14,z5.Edges⟩) rfl
   case h=>
    refine Res.one U (.cell U U Bz U U .nil) U ?_
    (refine congrArg (fun r=>[V0.agg [.sl 1 r,.sl 4 (z5.Edges.map cEdge)]]) ?_;rw [List.map_set];rfl)
   case hp=>exact (by simp;omega)
 try simp at h8
 have hvz:=validG_z1 hz5
 refine Ae (Br ?_);refine Ah ?_;refine Aa (Ai (.tm U) (fun h16=>?_) (fun h16=>?_))
 · try simp at h16
   refine Am (As [0,2,3,7] [888888,2,500,501,3]) ?_;refine Am (As [0,2,3,7] [888888,2,500,501,3]) ?_;apply C5 (N:=13) (k:=7) (Hs:=[0,1,2,5,7,9]) (ms:=[[],[3],[3,4],[3,4,6],[3,4,6,8],[3,4,6,8,10],[3,4,6,8,10,11],[3,4,6,8,10,11,12]]) (es:=[(0,3,1),(1,4,2),(2,6,3),(3,8,4),(4,10,5),(5,11,6),(6,12,7)]) (σ1:=_) (SM:=⟨_,[(0,_),(2,_),(3,_),(7,_),(18,_),(19,_),(20,_),(23,_),(25,_),(27,_)],[(888888,_),(2,_),(500,_),(501,_),(3,_)]⟩)
   case hm=>kernel_rfl
   case hB=>kernel_rfl
   case hP=>kernel_rfl
   case hL=>kernel_rfl
   case hN=>rfl
   case hpre=>
    apply Aw (P:=Tryz.prog) 0 rfl ((Av rfl (.no rfl) rfl (.tm rfl) Dr)) (by exact .pp) rfl rfl rfl;apply Aw (P:=Tryz.prog) 1 rfl ((by exact Ax rfl (.no rfl) rfl (.tm rfl) rfl ty35 rfl rfl)) (by exact HasV.load (x:=.tmp 18) (.tm rfl) rfl ty35 rfl rfl) rfl rfl rfl;apply Aw (P:=Tryz.prog) 2 rfl (Az rfl (.no rfl) rfl (.tm rfl)) (by exact HasV.slot (t:=0) rfl) rfl rfl rfl;apply Aw (P:=Tryz.prog) 5 rfl (Az rfl (.no rfl) rfl (.tm rfl)) (by exact HasV.slot (t:=0) rfl) rfl rfl rfl;apply Aw (P:=Tryz.prog) 7 rfl (Az rfl (.no rfl) rfl (.tm rfl)) (by exact HasV.slot (t:=0) rfl) rfl rfl rfl;apply Aw (P:=Tryz.prog) 9 rfl (Az rfl (.no rfl) rfl (.tm rfl)) (by exact HasV.slot (t:=0) rfl) rfl rfl rfl;exact PreOk.nil
   case hS=>exact Bk
   case hH=>
    refine LocsH.fq Dr ?_;refine LocsH.lq ty35 ?_;refine LocsH.mv ?_;refine LocsH.mv ?_;refine LocsH.mv ?_;refine LocsH.mv ?_
    trivial
   apply Dh.new0 (i:=3);rfl;rfl;rfl
   · intro w9 _;refine Ag (Di (xs:=[.const (.int .i64 (0)),.const (.int .i64 (1)),.const (.int .i64 (99)),.const (.int .i64 (100))]) (rows:=[cInt 0,cInt 1,cInt 99,cInt 100]) U U U (.cons (.const U) U U (.cons (.const U) U U (.cons (.const U) U U (.cons (.const U) U U .nil)))) Tryz.underlying34 in3 U U (U)) U ?_;exact Bg [0,2,3,7,18,19,20,21,23,25,27] [888888,2,500,501,3]
   intros;exact Bk
   apply Dh.drw0 (i:=4)
   case ha=>rfl
   case ho=>rfl
   case hE=>
    intro  hp
    obtain _:=hp
    exact A9 2200 (specl1PickInt [0,1,99,100] (by decide)) rfl rfl rfl (.tm rfl) rfl rfl (.cons (.tm rfl) rfl .nil) (fun _=>rfl) (fun _=>rfl)
   case hb=>rfl
   case hL=>
    intro  z22 hp hy;exact C2 (As [0,2,3,7,18,19,20,22,23,25,27] [888888,2,500,501,3]) U
   case hS=>intros;exact Bk
   apply Dh.drw1 (i:=6)
   case ha=>rfl
   case ho=>rfl
   case hE=>
    intro z22 hp
    obtain⟨_,hz22⟩:=hp
    exact A9 2400 (specl1Below _) rfl rfl rfl (.tm rfl) rfl rfl (.cons (.const rfl) rfl .nil) (fun _=>rfl) (fun _=>rfl)
   case hb=>rfl
   case hL=>
    intro z22 z24 hp hy;exact C2 (As [0,2,3,7,18,19,20,22,23,24,25,27] [888888,2,500,501,3]) U
   case hS=>intros;exact Bk
   apply Dh.drw2 (i:=8)
   case ha=>rfl
   case ho=>rfl
   case hE=>
    intro z22 z24 hp
    obtain⟨⟨_,hz22⟩,hz24⟩:=hp
    exact A9 2600 (specl1Below _) rfl rfl rfl (.tm rfl) rfl rfl (.cons (.const rfl) rfl .nil) (fun _=>rfl) (fun _=>rfl)
   case hb=>rfl
   case hL=>
    intro z22 z24 z26 hp hy;exact C2 (As [0,2,3,7,18,19,20,22,23,24,25,26,27] [888888,2,500,501,3]) U
   case hS=>intros;exact Bk
   apply Dh.drw3 (i:=10)
   case ha=>rfl
   case ho=>rfl
   case hE=>
    intro z22 z24 z26 hp
    obtain⟨⟨⟨_,hz22⟩,hz24⟩,hz26⟩:=hp
    exact A9 2800 (specl1Below _) rfl rfl rfl (.tm rfl) rfl rfl (.cons (.const rfl) rfl .nil) (fun _=>rfl) (fun _=>rfl)
   case hb=>rfl
   case hL=>
    intro z22 z24 z26 z28 hp hy;exact C2 (As [0,2,3,7,18,19,20,22,23,24,25,26,27,28] [888888,2,500,501,3]) U
   case hS=>intros;exact Bk
   apply Dh.new4 (i:=11);rfl;rfl;rfl
   · intro w9 z22 z24 z26 z28 hp
     obtain⟨⟨⟨⟨_,hz22⟩,hz24⟩,hz26⟩,hz28⟩:=hp
     refine Ag (Bd (ps:=[(0,.tmp 22),(1,.tmp 24),(2,.tmp 26),(3,.tmp 28)]) U U U in101 U U st101 (.cons (.tm U) U U fp101_0 (.cons (.tm U) U U fp101_1 (.cons (.tm U) U U fp101_2 (.cons (.tm U) U U fp101_3 .nil)))) U) U ?_;exact Bg [0,2,3,7,18,19,20,23,25,27,29] [888888,2,500,501,3]
   intros;exact Bk
   apply Dh.new4 (i:=12);rfl;rfl;rfl
   · intro w9 z22 z24 z26 z28 hp
     obtain⟨⟨⟨⟨_,hz22⟩,hz24⟩,hz26⟩,hz28⟩:=hp
     refine Ag (Di (xs:=[.tmp 29]) (rows:=[cEdge ⟨z22,z24,z26,z28⟩]) U U U (.cons (.tm U) U U .nil) Tryz.underlying35 in101 U U (U)) U ?_;exact Bg [0,2,3,7,18,19,20,23,25,27,30] [888888,2,500,501,3]
   intros;exact Bk
   refine Dh.fin4 (k:=7) rfl ?_;intro z22 z24 z26 z28 hp
   obtain⟨⟨⟨⟨_,hz22⟩,hz24⟩,hz26⟩,hz28⟩:=hp
   refine Bu (B7 U U U (.tm U) U (.tm U) (by exact .t) (by rfl) Tryz.underlying35 in101 U (by (simp [chunk];omega)) (by (unfold maxLen;simp [chunk];omega))) U ?_;refine Bt (As [0,2,3,7,31] [888888,2,500,501,3]) ?_;refine B6 Dr ?_;refine A4 ty35 ?_;refine Aa (Ae (Bp Bz ?_));refine A4 Bz ?_;refine Aa (Al ?_);apply DRes.mk (x:=⟨z5.Values,z5.Edges++[⟨z22,z24,z26,z28⟩]⟩) rfl
   case h=>
    refine Res.one U (.cell U U Bz U U .nil) U ?_
    (refine congrArg (fun r=>[V0.agg [.sl 1 (z5.Values.map cInt),.sl 4 r]]) ?_;rw [List.map_append];rfl)
   case hp=>exact (by simp;omega)
 try simp at h16
 refine Ac (Am (As [0,2,3,7] [888888,2,500,501,3]) ?_);refine Ad (Br ?_);refine Ah ?_;refine Aa (Ai (.tm U) (fun h33=>?_) (fun h33=>?_))
 · try simp at h33
   refine Ad (B6 Cv ?_);refine AWl.chgb (R_store_pb U U U (.tm U) (.const U) U Ca U U U (by kernel_rfl) U) ?_;refine AWl.nilB (b:=3) 29001 1 0 U U U ?_;refine Aa (Ae (Bp Bz ?_));refine A4 Bz ?_;refine Aa (Al ?_);apply DRes.mk (x:=⟨[],z5.Edges⟩) rfl
   case h=>
    refine Res.one U (.cell U U Bz U U .nil) U ?_
    rfl
   case hp=>exact (by simp;omega)
 try simp at h33
 refine Aj (Ae (Bp Bz ?_));refine A4 Bz ?_;refine Aa (Al ?_);apply DRes.mk (x:=z5) rfl
 case h=>
  refine Res.one U (.cell U U Bz U U .nil) U ?_
  rfl
 case hp=>exact (by omega)
theorem specl26Made:FnD Tryz.prog 89 [] (fun q:TConjunction=>(2≤q.VariableCount∧q.VariableCount≤3)∧1≤q.Atoms.length∧q.Atoms.length≤3) (fun q=>.a (.agg (cConjunction q))):=by
 refine FnD.walk Tryz.func89 U (by kernel_rfl) Tryz.ntmps89 U (fun g=>rfl) fun w0 g=>?_
 refine Ae (A6 (Bo 2 U U U in40 U U U) U ?_);refine Aa (Ae (Ab ?_));refine Bf (A9 600 (specl1Below _) U U U (.tm U) U U (.cons (.const U) U .nil) (fun _=>rfl) (fun _=>rfl)) ?_
 rintro _ ⟨z6,hz6,rfl⟩
 try dsimp only at hz6
 refine Ag (R_add U (.no U) U (.const U) (.tm U) (fun _=>by omega)) U ?_;refine Ag (Bd (ps:=[(0,.tmp 7)]) U U U in40 U U st40 (.cons (.tm U) U U fp40_0 .nil) U) U ?_;refine Dn (i:=8) 20001 3 1 U U U ?_;refine A6 (Bo 3 U U U in40 U U U) U ?_;refine A4 Cc ?_;refine Aa (Ac (Ae (Ak ?_)));refine Aa (AW.block ?_);refine Dz (fun (i:Nat) (L:List TPathAtom)=>((i:Int)≤1+z6∧L.length=i)∧True) (fun (i:Nat) (L:List TPathAtom)=>⟨_,[(4,(true,.a (.one (.t (.v (.int .i64 (i:Nat))))))),(0,_),(2,_),(3,_)],[(2,.box [.t (.v (.int .i64 0)),.t (.v (.slice none 0 0))]),(3,.box [.t (.v (.int .i64 (2+z6))),.rf 20001]),(20001,.row 3 (L.map cPathAtom)),(888888,.cur g)]⟩) (fun (i:Nat) (L:List TPathAtom)=>3-i) (0) ([]) ⟨⟨by omega,U⟩,Y⟩ Bm ?_
 rintro i L ⟨hk,he⟩
 refine Ac (Ae (Ab ?_));refine B6 C7 ?_;refine Bp ty3 ?_;refine C6 ?_;refine AWl.lt ?_;refine Aa (Ai (.tm U) (fun h13=>?_) (fun h13=>?_))
 · try simp at h13
   refine Aj (Ac (AW.block (Am (As [0,2,3,4,9,10,11,12,13] [2,3,20001,888888]) ?_)));apply C5 (N:=9) (k:=3) (Hs:=[0,1,2,3,4,5]) (ms:=[[],[6],[6,7],[6,7,8]]) (es:=[(0,6,1),(1,7,2),(2,8,3)]) (σ1:=_) (SM:=⟨_,[(0,_),(2,_),(3,_),(4,_),(9,_),(10,_),(11,_),(12,_),(13,_),(16,_),(17,_),(18,_),(19,_),(20,_),(21,_)],[(2,_),(3,_),(20001,_),(888888,_)]⟩)
   case hm=>kernel_rfl
   case hB=>kernel_rfl
   case hP=>kernel_rfl
   case hL=>kernel_rfl
   case hN=>rfl
   case hpre=>
    apply Aw (P:=Tryz.prog) 0 rfl ((by exact Av rfl (.no rfl) rfl (.tm rfl) Cl)) (by exact .pp) rfl rfl rfl;apply Aw (P:=Tryz.prog) 1 rfl ((by exact Ax rfl (.no rfl) rfl (.tm rfl) rfl Dl rfl rfl)) (by exact HasV.load (x:=.tmp 16) (.tm rfl) rfl Dl rfl rfl) rfl rfl rfl;apply Aw (P:=Tryz.prog) 2 rfl (Az rfl (.no rfl) rfl (.tm rfl)) (by exact HasV.slot (t:=4) rfl) rfl rfl rfl;apply Aw (P:=Tryz.prog) 3 rfl (Az rfl (.no rfl) rfl (.tm rfl)) (by exact HasV.slot (t:=4) rfl) rfl rfl rfl;apply Aw (P:=Tryz.prog) 4 rfl (R_add rfl (.no rfl) rfl (.tm rfl) (.const rfl) (fun _=>by omega)) (by exact .val rfl) rfl rfl rfl;apply Aw (P:=Tryz.prog) 5 rfl (Az rfl (.no rfl) rfl (.tm rfl)) (by exact HasV.slot (t:=0) rfl) rfl rfl rfl;exact PreOk.nil
   case hS=>exact Bk
   case hH=>
    refine LocsH.fq Cl ?_;refine LocsH.lq Dl ?_;refine LocsH.mv ?_;refine LocsH.mv ?_
    refine⟨⟨_,_,_,rfl,rfl,rfl,fun σ' hs=>R_add rfl (.no rfl) (Af hs rfl) (.tm (hs.slots _ _ rfl)) (.const rfl) (fun _=>by omega)⟩,?_⟩
    refine LocsH.mv ?_
    trivial
   apply Dh.drw0 (i:=6)
   case ha=>rfl
   case ho=>rfl
   case hE=>
    intro  hp
    obtain _:=hp
    exact A9 2200 (specl8Expr) rfl rfl rfl (.tm rfl) rfl rfl .nil (fun _=>rfl) (fun _=>rfl)
   case hb=>rfl
   case hL=>
    intro  z22 hp hy;exact C2 (As [0,2,3,4,9,10,11,12,13,16,17,18,19,20,21,22] [2,3,20001,888888,2200]) U
   case hS=>intros;exact Bk
   apply Dh.new1 (i:=7);rfl;rfl;rfl
   · intro w9 z22 hp
     obtain⟨_,hz22⟩:=hp
     refine Ag (Bd (ps:=[(0,.tmp 18),(1,.tmp 20),(2,.tmp 22)]) U U U in95 U U st95 (.cons (.tm U) U U fp95_0 (.cons (.tm U) U U fp95_1 (.cons (.tm U) U U fp95_2 .nil))) U) U ?_;exact Bg [0,2,3,4,9,10,11,12,13,16,17,18,19,20,21,23] [2,3,20001,888888,2200]
   intros;exact Bk
   apply Dh.new1 (i:=8);rfl;rfl;rfl
   · intro w9 z22 hp
     obtain⟨_,hz22⟩:=hp
     refine Bh (Ch (xs:=[.tmp 23]) 24 U U U (.cons (.tm U) U U .nil) Tryz.underlying38 in95 U U U U) U ?_;exact Bg [0,2,3,4,9,10,11,12,13,16,17,18,19,20,21,24] [2,3,20001,888888,24]
   intros;exact Bk
   refine Dh.fin1 (k:=3) rfl ?_;intro z22 hp
   obtain⟨_,hz22⟩:=hp
   refine Ct (Cx U U U (.tm U) U (.tm U) U U Tryz.underlying38 in95 U (by (simp [chunk];omega)) (by (unfold maxLen;simp [chunk];omega))) U ?_;refine Bt (As [0,2,3,4,13,25] [2,3,20001,888888]) ?_;refine B6 Cl ?_;refine A4 Dl ?_;refine Aa (Ad (Ab ?_));refine A8 ?_;refine Ah ?_;refine Aa ?_
   repeat (with_reducible refine Au ?_)
   refine Round2.next (i+1) (L++[⟨(i:Int),(i:Int)+1,z22⟩]) ⟨⟨by (try simp at h13);omega,by simp;omega⟩,Y⟩ (by (try simp at h13);omega) (Ar rfl ⟨rfl,rfl,rfl,rfl,Y⟩ ⟨(by rfl),(by rfl),(by (refine congrArg (fun r=>some (R.row _ r)) ?_;simp [chunk,List.map_set,cInt,cBool,cIntS,cPair,cToken,cExpr,cEdge,cGraph,cStep,cWalk,cChange,cBatch,cHistory,cPositions,cAutomaton,cProductStep,cPathAtom,cConjunction,cView,cDelta,cRegistered,cRegistry])),(by rfl),Y⟩)
 try simp at h13
 refine Ba (Ac (Ae (Ab ?_)));refine Bf (A9 2800 (specl1Once _) U U U (.tm U) U U (.cons (.const U) U .nil) (fun _=>rfl) (fun _=>rfl)) ?_
 rintro _ ⟨z28,hz28,rfl⟩
 try dsimp only at hz28
 refine Aa (Ai (.tm U) (fun h28=>?_) (fun h28=>?_))
 · try simp at h28
   refine Am (As [0,2,3,4] [2,3,20001,888888]) ?_;refine Am (As [0,2,3,4] [2,3,20001,888888]) ?_;apply C5 (N:=14) (k:=5) (Hs:=[0,1,2,3,4,6,7,8,10]) (ms:=[[],[5],[5,9],[5,9,11],[5,9,11,12],[5,9,11,12,13]]) (es:=[(0,5,1),(1,9,2),(2,11,3),(3,12,4),(4,13,5)]) (σ1:=_) (SM:=⟨_,[(0,_),(2,_),(3,_),(4,_),(29,_),(30,_),(31,_),(32,_),(33,_),(35,_),(36,_),(37,_),(39,_)],[(2,_),(3,_),(20001,_),(888888,_)]⟩)
   case hm=>kernel_rfl
   case hB=>kernel_rfl
   case hP=>kernel_rfl
   case hL=>kernel_rfl
   case hN=>rfl
   case hpre=>
    apply Aw (P:=Tryz.prog) 0 rfl ((by exact Av rfl (.no rfl) rfl (.tm rfl) Cl)) (by exact .pp) rfl rfl rfl;apply Aw (P:=Tryz.prog) 1 rfl ((by exact Ax rfl (.no rfl) rfl (.tm rfl) rfl Dl rfl rfl)) (by exact HasV.load (x:=.tmp 29) (.tm rfl) rfl Dl rfl rfl) rfl rfl rfl;apply Aw (P:=Tryz.prog) 2 rfl (Az rfl (.no rfl) rfl (.tm rfl)) (by exact HasV.slot (t:=0) rfl) rfl rfl rfl;apply Aw (P:=Tryz.prog) 3 rfl ((by exact Av rfl (.no rfl) rfl (.tm rfl) C7)) (by exact .pp) rfl rfl rfl;apply Aw (P:=Tryz.prog) 4 rfl ((by exact Ax rfl (.no rfl) rfl (.tm rfl) rfl ty3 rfl rfl)) (by exact HasV.load (x:=.tmp 32) (.tm rfl) rfl ty3 rfl rfl) rfl rfl rfl;apply Aw (P:=Tryz.prog) 6 rfl (Az rfl (.no rfl) rfl (.tm rfl)) (by exact HasV.slot (t:=0) rfl) rfl rfl rfl;apply Aw (P:=Tryz.prog) 7 rfl ((by exact Av rfl (.no rfl) rfl (.tm rfl) C7)) (by exact .pp) rfl rfl rfl
    apply Aw (P:=Tryz.prog) 8 rfl ((by exact Ax rfl (.no rfl) rfl (.tm rfl) rfl ty3 rfl rfl)) (by exact HasV.load (x:=.tmp 36) (.tm rfl) rfl ty3 rfl rfl) rfl rfl rfl;apply Aw (P:=Tryz.prog) 10 rfl (Az rfl (.no rfl) rfl (.tm rfl)) (by exact HasV.slot (t:=0) rfl) rfl rfl rfl;exact PreOk.nil
   case hS=>exact Bk
   case hH=>
    refine LocsH.fq Cl ?_;refine LocsH.lq Dl ?_;refine LocsH.mv ?_;refine LocsH.fq C7 ?_;refine LocsH.lq ty3 ?_;refine LocsH.mv ?_;refine LocsH.fq C7 ?_;refine LocsH.lq ty3 ?_;refine LocsH.mv ?_
    trivial
   apply Dh.drw0 (i:=5)
   case ha=>rfl
   case ho=>rfl
   case hE=>
    intro  hp
    obtain _:=hp
    exact A9 3400 (specl1Below _) rfl rfl rfl (.tm rfl) rfl rfl (.cons (.tm rfl) rfl .nil) (fun _=>rfl) (fun _=>rfl)
   case hb=>rfl
   case hL=>
    intro  z34 hp hy;exact C2 (As [0,2,3,4,29,30,31,32,33,34,35,36,37,39] [2,3,20001,888888]) U
   case hS=>intros;exact Bk
   apply Dh.drw1 (i:=9)
   case ha=>rfl
   case ho=>rfl
   case hE=>
    intro z34 hp
    obtain⟨_,hz34⟩:=hp
    exact A9 3800 (specl1Below _) rfl rfl rfl (.tm rfl) rfl rfl (.cons (.tm rfl) rfl .nil) (fun _=>rfl) (fun _=>rfl)
   case hb=>rfl
   case hL=>
    intro z34 z38 hp hy;exact C2 (As [0,2,3,4,29,30,31,32,33,34,35,36,37,38,39] [2,3,20001,888888]) U
   case hS=>intros;exact Bk
   apply Dh.drw2 (i:=11)
   case ha=>rfl
   case ho=>rfl
   case hE=>
    intro z34 z38 hp
    obtain⟨⟨_,hz34⟩,hz38⟩:=hp
    exact A9 4000 (specl8Expr) rfl rfl rfl (.tm rfl) rfl rfl .nil (fun _=>rfl) (fun _=>rfl)
   case hb=>rfl
   case hL=>
    intro z34 z38 z40 hp hy;exact C2 (As [0,2,3,4,29,30,31,32,33,34,35,36,37,38,39,40] [2,3,20001,888888,4000]) U
   case hS=>intros;exact Bk
   apply Dh.new3 (i:=12);rfl;rfl;rfl
   · intro w9 z34 z38 z40 hp
     obtain⟨⟨⟨_,hz34⟩,hz38⟩,hz40⟩:=hp
     refine Ag (Bd (ps:=[(0,.tmp 34),(1,.tmp 38),(2,.tmp 40)]) U U U in95 U U st95 (.cons (.tm U) U U fp95_0 (.cons (.tm U) U U fp95_1 (.cons (.tm U) U U fp95_2 .nil))) U) U ?_;exact Bg [0,2,3,4,29,30,31,32,33,35,36,37,39,41] [2,3,20001,888888,4000]
   intros;exact Bk
   apply Dh.new3 (i:=13);rfl;rfl;rfl
   · intro w9 z34 z38 z40 hp
     obtain⟨⟨⟨_,hz34⟩,hz38⟩,hz40⟩:=hp
     refine Bh (Ch (xs:=[.tmp 41]) 42 U U U (.cons (.tm U) U U .nil) Tryz.underlying38 in95 U U U U) U ?_;exact Bg [0,2,3,4,29,30,31,32,33,35,36,37,39,42] [2,3,20001,888888,42]
   intros;exact Bk
   refine Dh.fin3 (k:=5) rfl ?_;intro z34 z38 z40 hp
   obtain⟨⟨⟨_,hz34⟩,hz38⟩,hz40⟩:=hp
   refine Ct (Cx U U U (.tm U) U (.tm U) U U Tryz.underlying38 in95 U (by (simp [chunk];omega)) (by (unfold maxLen;simp [chunk];omega))) U ?_;refine Bt (As [0,2,3,4,43] [2,3,20001,888888]) ?_;refine B6 Cl ?_;refine A4 Dl ?_;refine Aa (Ae (Bp Cc ?_));refine A4 Cc ?_;refine Aa (Al ?_);apply DRes.mk (x:=⟨2+z6,L++[⟨z34,z38,z40⟩]⟩) rfl
   case h=>
    refine Res.one U (.cell U U Cc U U .nil) U ?_;exact congrArg (fun r=>[V0.agg [T.v (.int .i64 (2+z6)),T.sl 3 r]]) (by simp [chunk,cPathAtom])
   case hp=>exact⟨by show 2≤2+z6∧2+z6≤3;omega,by (try simp at h13);simp;omega⟩
 try simp at h28
 refine Aj (Ac (Am (As [0,2,3,4] [2,3,20001,888888]) ?_));refine Ad (Bp Cc ?_);refine A4 Cc ?_;refine Aa (Al ?_);apply DRes.mk (x:=⟨2+z6,L⟩) rfl
 case h=>
  refine Res.one U (.cell U U Cc U U .nil) U ?_
  rfl
 case hp=>exact⟨by show 2≤2+z6∧2+z6≤3;omega,by show 1≤L.length∧L.length≤3;(try simp at h13);omega⟩
theorem specl26Any:FrD Tryz.prog 46 [] conjP (fun q=>.a (.agg (cConjunction q))):=by
 refine FrD.walk Tryz.func46 rfl (by kernel_rfl) Tryz.ntmps46 rfl (fun g=>rfl) fun w0 g=>?_
 refine Ae (A6 (Bo 2 U U U in40 U U U) U ?_);refine Aa (Ae (Ab ?_));refine Bf (A9 500 (specl26Made) U U U (.tm U) U U .nil (fun _=>rfl) (fun _=>rfl)) ?_
 rintro _ ⟨z5,hz5,rfl⟩
 try dsimp only at hz5
 refine A6 (Bo 3 U U U in40 U U U) U ?_;refine A4 Cc ?_;refine Aa (Ac (Ae (Ab ?_)));refine Bf (A9 700 (specl1Below _) U U U (.tm U) U U (.cons (.const U) U .nil) (fun _=>rfl) (fun _=>rfl)) ?_
 rintro _ ⟨z7,hz7,rfl⟩
 try dsimp only at hz7
 refine Aa (AW.block (Ae (Br ?_)));refine Ah ?_;refine Aa (Ai (.tm U) (fun h8=>?_) (fun h8=>?_))
 · try simp at h8
   refine Ad (Ab ?_);refine Ag (Di (xs:=[.const (.int .i64 (0)),.const (.int .i64 (4)),.const (.int .i64 (5))]) (rows:=[cInt 0,cInt 4,cInt 5]) U U U (.cons (.const U) U U (.cons (.const U) U U (.cons (.const U) U U .nil))) Tryz.underlying34 in3 U U (U)) U ?_;refine Bf (A9 1200 (specl1PickInt [0,4,5] (by decide)) U U U (.tm U) U U (.cons (.tm U) U .nil) (fun _=>rfl) (fun _=>rfl)) ?_
   rintro _ ⟨z12,hz12,rfl⟩
   try dsimp only at hz12
   refine B6 C7 ?_;refine A4 ty3 ?_;refine Aa (Ac (Am (As [0,2,3,7] [888888,2,500,3]) ?_));refine Ad (Bp Cc ?_);refine A4 Cc ?_;refine Aa (Al ?_);apply DRRes.mk (x:=⟨z12,z5.Atoms⟩) rfl
   case h=>
    refine ResR.one U (.cell U U Cc U U .nil) U ?_
    rfl
   case hp=>exact⟨by simp at hz12;show 0≤z12∧z12≤5;omega,by show z5.Atoms.length≤4;omega⟩
 try simp at h8
 obtain⟨a0,ha0⟩:∃ ξ,z5.Atoms[0]?=some ξ:=⟨_,List.getElem?_eq_getElem (by have:=hz5.2.1;omega)⟩
 refine Ae (Br ?_);refine Ah ?_;refine Aa (Ai (.tm U) (fun h14=>?_) (fun h14=>?_))
 · try simp at h14
   refine Am (As [0,2,3,7] [888888,2,500,3]) ?_;refine Am (As [0,2,3,7] [888888,2,500,3]) ?_;apply C5 (N:=5) (k:=2) (Hs:=[0,1,2]) (ms:=[[],[3],[3,4]]) (es:=[(0,3,1),(1,4,2)]) (σ1:=_) (SM:=⟨_,[(0,_),(2,_),(3,_),(7,_),(16,_),(17,_),(18,_)],[(888888,_),(2,_),(500,_),(3,_)]⟩)
   case hm=>kernel_rfl
   case hB=>kernel_rfl
   case hP=>kernel_rfl
   case hL=>kernel_rfl
   case hN=>rfl
   case hpre=>
    apply Aw (P:=Tryz.prog) 0 rfl ((Av rfl (.no rfl) rfl (.tm rfl) Cl)) (by exact .pp) rfl rfl rfl;apply Aw (P:=Tryz.prog) 1 rfl ((by exact Ax rfl (.no rfl) rfl (.tm rfl) rfl Dl rfl rfl)) (by exact HasV.load (x:=.tmp 16) (.tm rfl) rfl Dl rfl rfl) rfl rfl rfl;apply Aw (P:=Tryz.prog) 2 rfl (Az rfl (.no rfl) rfl (.tm rfl)) (by exact HasV.slot (t:=0) rfl) rfl rfl rfl;exact PreOk.nil
   case hS=>exact Bk
   case hH=>
    refine LocsH.fq Cl ?_;refine LocsH.lq Dl ?_;refine LocsH.mv ?_
    trivial
   apply Dh.new0 (i:=3);rfl;rfl;rfl
   · intro w9 _;refine Ag (Di (xs:=[.const (.int .i64 (-1)),.const (.int .i64 (2)),.const (.int .i64 (4))]) (rows:=[cInt (-1),cInt 2,cInt 4]) U U U (.cons (.const U) U U (.cons (.const U) U U (.cons (.const U) U U .nil))) Tryz.underlying34 in3 U U (U)) U ?_;exact Bg [0,2,3,7,16,17,18,19] [888888,2,500,3]
   intros;exact Bk
   apply Dh.drw0 (i:=4)
   case ha=>rfl
   case ho=>rfl
   case hE=>
    intro  hp
    obtain _:=hp
    exact A9 2000 (specl1PickInt [-1,2,4] (by decide)) rfl rfl rfl (.tm rfl) rfl rfl (.cons (.tm rfl) rfl .nil) (fun _=>rfl) (fun _=>rfl)
   case hb=>rfl
   case hL=>
    intro  z20 hp hy;exact C2 (As [0,2,3,7,16,17,18,20] [888888,2,500,3]) U
   case hS=>intros;exact Bk
   refine Dh.fin1 (k:=2) rfl ?_;intro z20 hp
   obtain⟨_,hz20⟩:=hp
   refine Ag (Be U (.no U) U (.tm U) U (.const U) Tryz.underlying38 ty95 (fun _=>⟨by omega,(Ao ha0)⟩)) U ?_;refine Ag (R_fieldAddr_pr U (.no U) U (.tm U) fl95_0) U ?_;refine C3 (Dc U U U (.tm U) U (.tm U) U (Ao ha0) ty3 U U U U) ?_;refine Aa (Ac (Am (As [0,2,3,7] [888888,2,500,3]) ?_));refine Ad (Bp Cc ?_);refine A4 Cc ?_;refine Aa (Al ?_);apply DRRes.mk (x:=⟨z5.VariableCount,z5.Atoms.set 0 ⟨z20,a0.To,a0.Expr⟩⟩) rfl
   case h=>
    refine ResR.one U (.cell U U Cc U U .nil) U ?_;exact congrArg (fun r=>[V0.agg [T.v (.int .i64 z5.VariableCount),T.sl 3 r]]) (by rw [List.map_set];rfl)
   case hp=>exact⟨by show 0≤z5.VariableCount∧z5.VariableCount≤5;omega,by simp;omega⟩
 try simp at h14
 refine Ac (Am (As [0,2,3,7] [888888,2,500,3]) ?_);refine Ad (Br ?_);refine Ah ?_;refine Aa (Ai (.tm U) (fun h23=>?_) (fun h23=>?_))
 · try simp at h23
   refine Am (As [0,2,3,7,23,24] [888888,2,500,3]) ?_;apply C5 (N:=4) (k:=1) (Hs:=[0,1,2]) (ms:=[[],[3]]) (es:=[(0,3,1)]) (σ1:=_) (SM:=⟨_,[(0,_),(2,_),(3,_),(7,_),(23,_),(24,_),(25,_),(26,_),(27,_)],[(888888,_),(2,_),(500,_),(3,_)]⟩)
   case hm=>kernel_rfl
   case hB=>kernel_rfl
   case hP=>kernel_rfl
   case hL=>kernel_rfl
   case hN=>rfl
   case hpre=>
    apply Aw (P:=Tryz.prog) 0 rfl ((by exact Av rfl (.no rfl) rfl (.tm rfl) Cl)) (by exact .pp) rfl rfl rfl;apply Aw (P:=Tryz.prog) 1 rfl ((by exact Ax rfl (.no rfl) rfl (.tm rfl) rfl Dl rfl rfl)) (by exact HasV.load (x:=.tmp 25) (.tm rfl) rfl Dl rfl rfl) rfl rfl rfl;apply Aw (P:=Tryz.prog) 2 rfl (Az rfl (.no rfl) rfl (.tm rfl)) (by exact HasV.slot (t:=0) rfl) rfl rfl rfl;exact PreOk.nil
   case hS=>exact Bk
   case hH=>
    refine LocsH.fq Cl ?_;refine LocsH.lq Dl ?_;refine LocsH.mv ?_
    trivial
   apply Dh.drw0 (i:=3)
   case ha=>rfl
   case ho=>rfl
   case hE=>
    intro  hp
    obtain _:=hp
    exact R_calldr 2800 (specl8Any) rfl rfl rfl (.tm rfl) rfl rfl .nil rfl
   case hb=>rfl
   case hL=>
    intro  z28 hp hy;exact C2 (As [0,2,3,7,23,24,25,26,27,28] [888888,2,500,3,2800]) U
   case hS=>intros;exact Bk
   refine Dh.fin1 (k:=1) rfl ?_;intro z28 hp
   obtain⟨_,hz28⟩:=hp
   refine Ag (Be U (.no U) U (.tm U) U (.const U) Tryz.underlying38 ty95 (fun _=>⟨by omega,(Ao ha0)⟩)) U ?_;refine Ag (R_fieldAddr_pr U (.no U) U (.tm U) fl95_2) U ?_;refine AWl.op (R_store_pv 3 2800 U U U (.tm U) U (.tm U) U U U (by decide) (Ao ha0) Ci U U U U) ?_;refine Aa (Ac (Am (As [0,2,3,7] [888888,2,3,2800]) ?_));refine Ad (Bp Cc ?_);refine A4 Cc ?_;refine Aa (Al ?_);apply DRRes.mk (x:=⟨z5.VariableCount,z5.Atoms.set 0 ⟨a0.From,a0.To,z28⟩⟩) rfl
   case h=>
    refine ResR.one U (.cell U U Cc U U .nil) U ?_;exact congrArg (fun r=>[V0.agg [T.v (.int .i64 z5.VariableCount),T.sl 3 r]]) (by rw [List.map_set];rfl)
   case hp=>exact⟨by show 0≤z5.VariableCount∧z5.VariableCount≤5;omega,by simp;omega⟩
 try simp at h23
 refine Aj (Ae (Bp Cc ?_));refine A4 Cc ?_;refine Aa (Al ?_);apply DRRes.mk (x:=z5) rfl
 case h=>
  refine ResR.one U (.cell U U Cc U U .nil) U ?_
  rfl
 case hp=>exact⟨by omega,by omega⟩
theorem specDrawHoldsBinding (bs:List Int) (hb:∀ n∈bs,0≤n∧n<256):FrE Tryz.prog 12 [.one (.sl 1 (byR bs))] (fun o=>∃ x:TGraph×TConjunction×List Int,x.2.1.Atoms.length≤4∧o=holdOut x):=by
 refine FrE.walk Tryz.func12 rfl (by kernel_rfl) Tryz.ntmps12 rfl fun w0=>?_
 refine Ae (A6 (Bo 2 U U U in37 U U U) U ?_);refine A6 (Bo 3 U U U in40 U U U) U ?_;refine Ak ?_;refine By (i:=4) 20001 1 U U ?_;refine Aa (Ae (Ab ?_));refine Bf (R_calln 888888 (specl1New) U U U (.tm U) (by assumption) U) ?_
 rintro _ ⟨g,rfl⟩
 refine Ah ?_;refine Aa (Ae (Ab ?_));refine Bf (A9 1400 (specl3AnyC) U U U (.tm U) U U .nil (fun _=>rfl) (fun _=>rfl)) ?_
 rintro _ ⟨z14,hz14,rfl⟩
 try dsimp only at hz14
 refine A6 (Bo 6 U U U in37 U U U) U ?_;refine A4 Bz ?_;refine Aa (Ae (Ab ?_));refine Bf (R_calldr 1600 (specl26Any) U U U (.tm U) U U .nil U) ?_
 rintro _ ⟨z16,hz16,rfl⟩
 try dsimp only at hz16
 refine A6 (Bo 7 U U U in40 U U U) U ?_;refine A4 Cc ?_;refine Aa (Ac (Am (As [0,2,3,4,5,6,7] [2,3,20001,888888,1400,1401,6,1600,7]) ?_));refine Ad (Bp Bz ?_);refine Bp Cc ?_;refine Bf (R_callX 1900 (FnT.fe (x0:=evalC z14 z16) (out:=rowsV) (specEvaluateConjunction z14 z16 (by have:=hz16.2;omega))) U U U (.cons (.tm U) U (.cons (.tm U) U .nil)) U) ?_
 rintro _ ⟨z19,hz19,rfl⟩
 try dsimp only at hz19
 refine Ah ?_;refine Aa (Ac (Ae (Ab ?_)));refine Bc (.vw) Tryz.underlying44 ?_;refine AWl.gc ?_;refine Ab ?_;refine Cp ?_;refine Bf (R_calldq 2500 (specl1Once _) U (by exact .yes1 U U U U) U (.tmp U (by exact id)) U U (.cons (.const U) U .nil) (fun _=>rfl)) ?_
 rintro _ ⟨z25,hz25,rfl⟩
 try dsimp only at hz25
 refine Cm ?_;refine Aa (Ai (.tm U) (fun h26=>?_) (fun h26=>?_))
 · try simp at h26
   have hpos:0<z19.length:=(by exact h26.1)
   refine Ac (Am (As [0,2,3,4,5,6,7,8] [2,3,20001,888888,1400,1401,6,1600,7,1900]) ?_);refine Am (As [0,2,3,4,5,6,7,8] [2,3,20001,888888,1400,1401,6,1600,7,1900]) ?_;apply C5 (N:=11) (k:=9) (Hs:=[0,1,2,3,4,5]) (ms:=[[],[6],[6,7],[6,9],[6,7,8],[6,7,9],[6,9,10],[6,7,8,9],[6,7,9,10],[6,7,8,9,10]]) (es:=[(0,6,1),(1,7,2),(1,9,3),(2,8,4),(2,9,5),(3,7,5),(3,10,6),(4,9,7),(5,8,7),(5,10,8),(6,7,8),(7,10,9),(8,8,9)]) (σ1:=_) (SM:=⟨_,[(0,_),(2,_),(3,_),(4,_),(5,_),(6,_),(7,_),(8,_),(27,_),(28,_),(29,_),(30,_),(31,_),(32,_)],[(20001,_),(888888,_),(1400,_),(1401,_),(6,_),(1600,_),(7,_),(1900,_)]⟩)
   case hm=>kernel_rfl
   case hB=>kernel_rfl
   case hP=>kernel_rfl
   case hL=>kernel_rfl
   case hN=>rfl
   case hpre=>
    apply Aw (P:=Tryz.prog) 0 rfl ((by exact Ax rfl (.no rfl) rfl (.tm rfl) rfl Bz rfl rfl)) (by exact HasV.load (x:=.tmp 6) (.tm rfl) rfl Bz rfl rfl) rfl rfl rfl;apply Aw (P:=Tryz.prog) 1 rfl ((by exact Ax rfl (.no rfl) rfl (.tm rfl) rfl Cc rfl rfl)) (by exact HasV.load (x:=.tmp 7) (.tm rfl) rfl Cc rfl rfl) rfl rfl rfl;apply Aw (P:=Tryz.prog) 2 rfl (Az rfl (.no rfl) rfl (.tm rfl)) (by exact HasV.slot (t:=8) rfl) rfl rfl rfl;apply Aw (P:=Tryz.prog) 3 rfl (Az rfl (.no rfl) rfl (.tm rfl)) (by exact HasV.slot (t:=5) rfl) rfl rfl rfl;apply Aw (P:=Tryz.prog) 4 rfl (Az rfl (.no rfl) rfl (.tm rfl)) (by exact HasV.slot (t:=8) rfl) rfl rfl rfl;apply Aw (P:=Tryz.prog) 5 rfl ((by exact C4 rfl (.no rfl) rfl (.tm rfl) (by exact .vw) Tryz.underlying44)) (by exact .val rfl) rfl rfl rfl;exact PreOk.nil
   case hS=>exact Bk
   case hH=>
    refine LocsH.lq Bz ?_;refine LocsH.lq Cc ?_;refine LocsH.mv ?_;refine LocsH.mv ?_;refine LocsH.mv ?_
    refine⟨⟨_,_,_,rfl,rfl,rfl,fun σ' hs=>(by exact C4 rfl (.no rfl) (Af hs rfl) (.tm (hs.slots _ _ rfl)) (by exact .vw) Tryz.underlying44)⟩,?_⟩
    trivial
   apply Dh.drw0 (i:=6)
   case ha=>rfl
   case ho=>rfl
   case hE=>
    intro  hp
    obtain _:=hp
    exact A9 3300 (specl1Below _) rfl rfl rfl (.tm rfl) rfl rfl (.cons (.tm rfl) rfl .nil) (fun _=>rfl) (fun _=>rfl)
   case hb=>rfl
   case hL=>
    intro  z33 hp hy;exact C2 (As [0,2,3,4,5,6,7,8,27,28,29,30,31,32,33] [2,3,20001,888888,1400,1401,6,1600,7,1900]) U
   case hS=>intros;exact Bk
   apply Dh.new1 (i:=7);rfl;rfl;rfl
   · intro w9 z33 hp
     obtain⟨_,hz33⟩:=hp
     refine Ag ((Dt U (.no U) U (.tm U) (.tm U) Tryz.underlying44 Ca (fun _=>⟨by omega,Ao (rowD (l:=z19) (i:=z33.toNat) (by omega))⟩))) U ?_;exact Bg [0,2,3,4,5,6,7,8,27,28,29,30,31,32,34] [2,3,20001,888888,1400,1401,6,1600,7,1900]
   intros;exact Bk
   apply Dh.new1 (i:=9);rfl;rfl;rfl
   · intro w9 z33 hp
     obtain⟨_,hz33⟩:=hp
     refine A4 Bz ?_;exact Bg [0,2,3,4,5,6,7,8,27,28,29,30,31,32,33] [2,3,20001,888888,1400,1401,6,1600,7,1900]
   intros;exact Bk
   apply Dh.new1 (i:=8);rfl;rfl;rfl
   · intro w9 z33 hp
     obtain⟨_,hz33⟩:=hp
     refine Ag (Co U (.no U) U (.tm U) Ca U U) U ?_;exact Bg [0,2,3,4,5,6,7,8,27,28,29,30,31,32,35] [2,3,20001,888888,1400,1401,6,1600,7,1900]
   intros;exact Bk
   apply Dh.new1 (i:=9);rfl;rfl;rfl
   · intro w9 z33 hp
     obtain⟨_,hz33⟩:=hp
     refine A4 Bz ?_;exact Bg [0,2,3,4,5,6,7,8,27,28,29,30,31,32,34] [2,3,20001,888888,1400,1401,6,1600,7,1900]
   intros;exact Bk
   apply Dh.old1 (i:=7);rfl;rfl;rfl
   · intro w9 z33 hp
     obtain⟨_,hz33⟩:=hp
     refine Ag ((Dt U (.no U) U (.tm U) (.tm U) Tryz.underlying44 Ca (fun _=>⟨by omega,Ao (rowD (l:=z19) (i:=z33.toNat) (by omega))⟩))) U ?_;exact Aa Bm
   apply Dh.new1 (i:=10);rfl;rfl;rfl
   · intro w9 z33 hp
     obtain⟨_,hz33⟩:=hp
     refine A4 Cc ?_;exact Bg [0,2,3,4,5,6,7,8,27,28,29,30,31,32,33] [2,3,20001,888888,1400,1401,6,1600,7,1900]
   intros;exact Bk
   apply Dh.new1 (i:=9);rfl;rfl;rfl
   · intro w9 z33 hp
     obtain⟨_,hz33⟩:=hp
     refine A4 Bz ?_;exact Bg [0,2,3,4,5,6,7,8,27,28,29,30,31,32,35] [2,3,20001,888888,1400,1401,6,1600,7,1900]
   intros;exact Bk
   apply Dh.old1 (i:=8);rfl;rfl;rfl
   · intro w9 z33 hp
     obtain⟨_,hz33⟩:=hp
     refine Ag (Co U (.no U) U (.tm U) Ca U U) U ?_;exact Aa Bm
   apply Dh.new1 (i:=10);rfl;rfl;rfl
   · intro w9 z33 hp
     obtain⟨_,hz33⟩:=hp
     refine A4 Cc ?_;exact Bg [0,2,3,4,5,6,7,8,27,28,29,30,31,32,34] [2,3,20001,888888,1400,1401,6,1600,7,1900]
   intros;exact Bk
   apply Dh.old1 (i:=7);rfl;rfl;rfl
   · intro w9 z33 hp
     obtain⟨_,hz33⟩:=hp
     refine Ag ((Dt U (.no U) U (.tm U) (.tm U) Tryz.underlying44 Ca (fun _=>⟨by omega,Ao (rowD (l:=z19) (i:=z33.toNat) (by omega))⟩))) U ?_;exact Aa Bm
   apply Dh.new1 (i:=10);rfl;rfl;rfl
   · intro w9 z33 hp
     obtain⟨_,hz33⟩:=hp
     refine A4 Cc ?_;exact Bg [0,2,3,4,5,6,7,8,27,28,29,30,31,32,35] [2,3,20001,888888,1400,1401,6,1600,7,1900]
   intros;exact Bk
   apply Dh.old1 (i:=8);rfl;rfl;rfl
   · intro w9 z33 hp
     obtain⟨_,hz33⟩:=hp
     refine Ag (Co U (.no U) U (.tm U) Ca U U) U ?_;exact Aa Bm
   refine Dh.fin1 (k:=9) rfl ?_;intro z33 hp
   obtain⟨_,hz33⟩:=hp
   refine Ah ?_;refine Aa (Al ?_);apply ERRes.mk (x:=(z14,z16,z19[z33.toNat]?.getD []))
   case h=>
    refine ResR.many U (.cell U U Bz U U (.cell U U Cc U U (.tmp U .nil))) U ?_ (by simp)
    rfl
   case hp=>exact hz16.2
 try simp at h26
 refine Aj (Ac (Am (As [0,2,3,4,5,6,7,8] [2,3,20001,888888,1400,1401,6,1600,7,1900]) ?_));refine Ad (A6 (Ce 36 U U U Tryz.underlying34 ty3 U) U ?_);refine Ah ?_;refine Aa (Ac (Ae (B6 C7 ?_)));refine Bp ty3 ?_;refine Ah ?_;refine Aa (AW.block ?_)
 refine Dz (fun (n:Int) (b:List Int)=>((0≤n∧(b.length:Int)+n≤5))∧True) (fun (n:Int) (b:List Int)=>⟨_,[(10,(true,.a (.one (.t (.v (.int .i64 n)))))),(9,(true,.a (.one (.rf 36)))),(2,_),(3,_),(4,_),(5,_),(6,_),(7,_)],[(36,.row 1 (b.map cInt)),(2,.box [.t (.v (.slice none 0 0)),.t (.v (.slice none 0 0))]),(3,.box [.t (.v (.int .i64 0)),.t (.v (.slice none 0 0))]),(6,.box [.rf 1400,.rf 1401]),(1400,.row 1 (z14.Values.map cInt)),(1401,.row 4 (z14.Edges.map cEdge)),(7,.box [.t (.v (.int .i64 z16.VariableCount)),.vw 1600 (.sl 3 (z16.Atoms.map cPathAtom))]),(1600,.opq),(888888,.cur g)]⟩) (fun (n:Int) (b:List Int)=>n.toNat) (z16.VariableCount) ([]) ⟨⟨by have:=hz16.1;omega,by have:=hz16.1;simp;omega⟩,Y⟩ Bm ?_
 rintro n b ⟨hk,he⟩
 refine Ac (Ae (Ab ?_));refine AWl.gc ?_;refine Ab ?_;refine Cp ?_;refine Ag (R_lt U (by exact .yes1 U U U U) U (.tmp U (by exact id)) (.const U)) U ?_;refine Cm ?_;refine Aa (Ai (.tm U) (fun h44=>?_) (fun h44=>?_))
 · try simp at h44
   refine Aj (Ac (AW.block (Am (As [2,3,4,5,6,7,9,10] [36,2,3,6,1400,1401,7,1600,888888]) ?_)));refine Ad (Ab ?_);refine Ab ?_;refine Bp Bz ?_;refine Bf (A9 5000 (specl4Node z14) U U U (.tm U) U U (.cons (.tm U) U .nil) (fun _=>rfl) (fun _=>rfl)) ?_
   rintro _ ⟨z50,hz50,rfl⟩
   try dsimp only at hz50
   refine Ag (Di (xs:=[.tmp 50]) (rows:=[cInt z50]) U U U (.cons (.tm U) U U .nil) Tryz.underlying34 in3 U U (U)) U ?_;refine Bu (B7 U U U (.tm U) U (.tm U) (by exact .t) (by rfl) Tryz.underlying34 in3 U (by (simp [chunk];omega)) (by (unfold maxLen;simp [chunk];omega))) U ?_;refine Bt (As [2,3,4,5,6,7,9,10,52] [36,2,3,6,1400,1401,7,1600,888888]) ?_;refine Ah ?_;refine Aa (Ad (Ab ?_));refine C6 ?_;refine Ah ?_;refine Aa ?_
   repeat (with_reducible refine Au ?_)
   refine Round2.next (n-1) (b++[z50]) ⟨⟨by (try simp at h44);omega,by simp;omega⟩,Y⟩ (by (try simp at h44);omega) (Ar rfl ⟨rfl,rfl,rfl,rfl,rfl,rfl,rfl,rfl,Y⟩ ⟨(by (refine congrArg (fun r=>some (R.row _ r)) ?_;simp [chunk,List.map_set,cInt,cBool,cIntS,cPair,cToken,cExpr,cEdge,cGraph,cStep,cWalk,cChange,cBatch,cHistory,cPositions,cAutomaton,cProductStep,cPathAtom,cConjunction,cView,cDelta,cRegistered,cRegistry])),(by rfl),(by rfl),(by rfl),(by rfl),(by rfl),(by rfl),(by rfl),(by rfl),Y⟩)
 try simp at h44
 refine Ba (Ac (Am (As [2,3,4,5,6,7,9,10] [36,2,3,6,1400,1401,7,1600,888888]) ?_));refine Am (As [2,3,4,5,6,7,9,10] [36,2,3,6,1400,1401,7,1600,888888]) ?_;apply C5 (N:=5) (k:=2) (Hs:=[0,1,2]) (ms:=[[],[3],[3,4]]) (es:=[(0,3,1),(1,4,2)]) (σ1:=_) (SM:=⟨_,[(2,_),(3,_),(4,_),(5,_),(6,_),(7,_),(9,_),(10,_),(53,_),(54,_),(55,_)],[(36,_),(6,_),(1400,_),(1401,_),(7,_),(1600,_),(888888,_)]⟩)
 case hm=>kernel_rfl
 case hB=>kernel_rfl
 case hP=>kernel_rfl
 case hL=>kernel_rfl
 case hN=>rfl
 case hpre=>
  apply Aw (P:=Tryz.prog) 0 rfl ((by exact Ax rfl (.no rfl) rfl (.tm rfl) rfl Bz rfl rfl)) (by exact HasV.load (x:=.tmp 6) (.tm rfl) rfl Bz rfl rfl) rfl rfl rfl;apply Aw (P:=Tryz.prog) 1 rfl ((by exact Ax rfl (.no rfl) rfl (.tm rfl) rfl Cc rfl rfl)) (by exact HasV.load (x:=.tmp 7) (.tm rfl) rfl Cc rfl rfl) rfl rfl rfl;apply Aw (P:=Tryz.prog) 2 rfl (Az rfl (.no rfl) rfl (.tm rfl)) (by exact HasV.slot (t:=9) rfl) rfl rfl rfl;exact PreOk.nil
 case hS=>exact Bk
 case hH=>
  refine LocsH.lq Bz ?_;refine LocsH.lq Cc ?_;refine LocsH.mv ?_
  trivial
 apply Dh.new0 (i:=3);rfl;rfl;rfl
 · intro w9 _;refine A4 Bz ?_;exact Bg [2,3,4,5,6,7,9,10,53,54,55] [36,2,3,6,1400,1401,7,1600,888888]
 intros;exact Bk
 apply Dh.new0 (i:=4);rfl;rfl;rfl
 · intro w9 _;refine A4 Cc ?_;exact Bg [2,3,4,5,6,7,9,10,53,54,55] [36,2,3,6,1400,1401,7,1600,888888]
 intros;exact Bk
 refine Dh.fin0 (k:=2) rfl ?_;intro  hp
 obtain _:=hp
 refine Ah ?_;refine Aa (Al ?_);apply ERRes.mk (x:=(z14,z16,b))
 case h=>
  refine ResR.many U (.cell U U Bz U U (.cell U U Cc U U (.tmp U .nil))) U ?_ (by simp)
  rfl
 case hp=>exact hz16.2
theorem specDrawProjectBindings (bs:List Int) (hb:∀ n∈bs,0≤n∧n<256):FrE Tryz.prog 22 [.one (.sl 1 (byR bs))] (fun o=>∃ x:List (List Int)×List Int,((x.1.length≤1048576∧∀ r∈x.1,r.length≤1048576)∧x.2.length≤1048576)∧o=projOut x):=by
 refine FrE.walk Tryz.func22 rfl (by kernel_rfl) Tryz.ntmps22 rfl fun w0=>?_
 refine Ae (Ak ?_);refine By (i:=2) 20001 1 U U ?_;refine Ak ?_;refine By (i:=3) 20002 1 U U ?_;refine Aa (Ae (Ab ?_));refine Bf (R_calln 888888 (specl1New) U U U (.tm U) (by assumption) U) ?_
 rintro _ ⟨g,rfl⟩
 refine Ah ?_;refine Aa (Ae (Ab ?_));refine Bf (A9 1100 (specl3AnyC) U U U (.tm U) U U .nil (fun _=>rfl) (fun _=>rfl)) ?_
 rintro _ ⟨z11,hz11,rfl⟩
 try dsimp only at hz11
 refine Ab ?_;refine Bf (R_calldr 1300 (specl26Any) U U U (.tm U) U U .nil U) ?_
 rintro _ ⟨z13,hz13,rfl⟩
 try dsimp only at hz13
 refine B8 (Cd 1400 (specEvaluateConjunction z11 z13 (by have:=hz13.2;omega)) U U U (.cons (.tm U) U (.cons (.tm U) U .nil)) U U) U ?_;refine Ah ?_;refine Aa (Ac (Am (As [0,2,3,4,5] [20001,20002,888888,1100,1101,1300,1400]) ?_));refine Ad (A6 (Ce 15 U U U Tryz.underlying34 ty3 U) U ?_);refine Ah ?_;refine Aa (Ac (Ae (Ab ?_)));refine Bf (A9 1700 (specl1Below _) U U U (.tm U) U U (.cons (.const U) U .nil) (fun _=>rfl) (fun _=>rfl)) ?_
 rintro _ ⟨z17,hz17,rfl⟩
 try dsimp only at hz17
 refine Ah ?_;refine Aa (AW.block ?_);refine Dz (fun (n:Int) (v:List Int)=>((0≤n∧n≤3∧(v.length:Int)≤3-n))∧True) (fun (n:Int) (v:List Int)=>⟨_,[(7,(true,.a (.one (.t (.v (.int .i64 n)))))),(6,(true,.a (.one (.rf 15)))),(5,(true,.a (.one (.rf 1400)))),(2,_),(3,_),(4,_)],[(15,.row 1 (v.map cInt)),(1400,.row 1 ((evalC z11 z13).map cIntS)),(888888,.cur g)]⟩) (fun (n:Int) (v:List Int)=>n.toNat) (z17) ([]) ⟨⟨by omega,by simp;omega⟩,Y⟩ Bm ?_
 rintro n v ⟨hk,he⟩
 refine Ac (Ae (Ab ?_));refine AWl.gc ?_;refine Aa (Ai (.tm U) (fun h19=>?_) (fun h19=>?_))
 · try simp at h19
   refine Aj (Ac (AW.block (Ad (Ab ?_))));refine Ab ?_;refine Bf (A9 2400 (specl1Below _) U U U (.tm U) U U (.cons (.const U) U .nil) (fun _=>rfl) (fun _=>rfl)) ?_
   rintro _ ⟨z24,hz24,rfl⟩
   try dsimp only at hz24
   refine Ag (Di (xs:=[.tmp 24]) (rows:=[cInt z24]) U U U (.cons (.tm U) U U .nil) Tryz.underlying34 in3 U U (U)) U ?_;refine Bu (B7 U U U (.tm U) U (.tm U) (by exact .t) (by rfl) Tryz.underlying34 in3 U (by (simp [chunk];omega)) (by (unfold maxLen;simp [chunk];omega))) U ?_;refine Bt (As [2,3,4,5,6,7,19,26] [15,1400,888888]) ?_;refine Ah ?_;refine Aa (Ad (Ab ?_));refine C6 ?_;refine Ah ?_;refine Aa ?_
   repeat (with_reducible refine Au ?_)
   refine Round2.next (n-1) (v++[z24]) ⟨⟨by (try simp at h19);omega,by simp;omega⟩,Y⟩ (by (try simp at h19);omega) (Ar rfl ⟨rfl,rfl,rfl,rfl,rfl,rfl,Y⟩ ⟨(by (refine congrArg (fun r=>some (R.row _ r)) ?_;simp [chunk,List.map_set,cInt,cBool,cIntS,cPair,cToken,cExpr,cEdge,cGraph,cStep,cWalk,cChange,cBatch,cHistory,cPositions,cAutomaton,cProductStep,cPathAtom,cConjunction,cView,cDelta,cRegistered,cRegistry])),(by rfl),(by rfl),Y⟩)
 try simp at h19
 refine Ba (Ae (Ab ?_));refine Ab ?_;refine Ah ?_;refine Ah ?_;refine Aa (Al ?_);apply ERRes.mk (x:=(evalC z11 z13,v))
 case h=>
  refine ResR.many U (.tmp U (.tmp U .nil)) U ?_ (by simp)
  rfl
 case hp=>exact⟨evalC_sz z11 z13,by show v.length≤1048576;(try simp at h19);omega⟩
end Go.Proofs.YtdhojcaoljhbiaaGreatDoor
