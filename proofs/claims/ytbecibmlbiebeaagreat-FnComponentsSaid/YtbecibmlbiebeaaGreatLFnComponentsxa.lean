import Derived.Test.YtbecibmlbiebeaaGreatRows
import Derived.Test.YtbecibmlbiebeaaGreatOpenBxa
import Derived.Test.YtbecibmlbiebeaaGreatB152xa
set_option linter.unusedVariables false
set_option linter.unusedSimpArgs false
set_option maxRecDepth 100000
namespace Go.Proofs.YtbecibmlbiebeaaGreat
open Go.RowKit Go.Q Go.D Go.ChangeShapes Go.WideShapes Go.ChangeAt Go.Deep
open Go.ChangeMaps (open_string shut_string)
set_option maxHeartbeats 1000000 in
theorem lawFnComponents (bs:List Int) (hb:∀ n∈bs,0≤n∧n<256):FnT Tryz.prog 6 [.one (.sl 1 (byR bs))] (.a (.one (.v (.bool true)))):=by
 refine Ba Tryz.func6 U (by kernel_rfl) Tryz.ntmps6 U fun hlen w0=>?_
 try simp [cEdge] at hlen
 clear hlen;refine Ah (Av ?_);refine Aa (Af (Ah (Ac ?_)));refine Ab (A6 (FnT.fr (lawsbig bs)) U (.no U) U (.cons (.tm U) U .nil)) U ?_;refine Aa (Aq (.tm U) (fun h15=>?_) (fun h15=>?_))
 · try simp at h15
   refine Ah (Av ?_);refine Aa (A3 (Bn U U ?_))
   rfl
 · try simp at h15
   refine As (Ah (Ac ?_));refine Bi (R_calleX ((specDrawProductComponents bs hb).fr) U U U (.cons (.tm U) U .nil)) ?_
   rintro _ ⟨z18,hz18,rfl⟩
   try dsimp only at hz18
   refine Ab (R_movet U (.no U) U U fun _=>rfl) U ?_;refine Ab (Cn U (.no U) U U (fun _=>rfl) U) U ?_;refine Ab (Cn U (.no U) U U (fun _=>rfl) U) U ?_;refine Bh (Bl 3 U U U in45 U U U) U ?_;refine Bh (Bl 4 U U U in36 U U U) U ?_;refine A5 (Au U U U (.tm U) (.tm U) U Bu U U U (by kernel_rfl) U) ?_;refine A5 (Au U U U (.tm U) (.tm U) U Br U U U (by kernel_rfl) U) ?_;refine Aa (Ah (Ab (Al U (.no U) U (.tm U) U Bu U U) U ?_));refine Ab (Al U (.no U) U (.tm U) U Br U U) U ?_;refine Ab (A6 (FnT.fr (implProductComponents z18.1 z18.2)) U (.no U) U (.cons (.tm U) U (.cons (.tm U) U .nil))) U ?_;refine Ak ?_;refine Aa (Af (Af (A4 (σ':=⟨_,[(0,_),(2,_),(3,_),(4,_),(5,_),(15,_)],[(3,_),(4,_)]⟩) Ai ?_)))
   apply Cd (N:=12) (k:=23) (Hs:=[0,1,2]) (ms:=[[],[3],[3,4],[3,4,5],[3,4,5,6],[3,4,5,6,7],[3,4,5,6,8],[3,4,5,6,10],[3,4,5,6,11],[3,4,5,6,7,8],[3,4,5,6,7,10],[3,4,5,6,7,11],[3,4,5,6,8,10],[3,4,5,6,8,11],[3,4,5,6,10,11],[3,4,5,6,7,8,9],[3,4,5,6,7,8,10],[3,4,5,6,7,8,11],[3,4,5,6,7,10,11],[3,4,5,6,8,10,11],[3,4,5,6,7,8,9,10],[3,4,5,6,7,8,9,11],[3,4,5,6,7,8,10,11],[3,4,5,6,7,8,9,10,11]]) (es:=[(0,3,1),(1,4,2),(2,5,3),(3,6,4),(4,7,5),(4,8,6),(4,10,7),(4,11,8),(5,8,9),(6,7,9),(5,10,10),(7,7,10),(5,11,11),(8,7,11),(6,10,12),(7,8,12),(6,11,13),(8,8,13),(7,11,14),(8,10,14),(9,9,15),(9,10,16),(10,8,16),(12,7,16),(9,11,17),(11,8,17),(13,7,17),(10,11,18),(11,10,18),(14,7,18),(12,11,19),(13,10,19),(14,8,19),(15,10,20),(16,9,20),(15,11,21),(17,9,21),(16,11,22),(17,10,22),(18,8,22),(19,7,22),(20,11,23),(21,10,23),(22,9,23)]) (σ1:=_) (SM:=⟨_,[(0,_),(2,_),(3,_),(4,_),(5,_),(15,_),(24,_),(25,_),(26,_)],[(3,_),(4,_)]⟩)
   case hm=>kernel_rfl
   case hB=>kernel_rfl
   case hP=>kernel_rfl
   case hL=>kernel_rfl
   case hN=>rfl
   case hpre=>
    apply Ay (P:=Tryz.prog) 0 rfl (Ar rfl (.no rfl) rfl (.tm rfl)) (by exact HasV.slot (t:=5) rfl) rfl rfl rfl;apply Ay (P:=Tryz.prog) 1 rfl ((Al rfl (.no rfl) rfl (.tm rfl) rfl Bu rfl rfl)) (by exact HasV.load (x:=.tmp 3) (.tm rfl) rfl Bu rfl rfl) rfl rfl rfl;apply Ay (P:=Tryz.prog) 2 rfl ((by exact Al rfl (.no rfl) rfl (.tm rfl) rfl Br rfl rfl)) (by exact HasV.load (x:=.tmp 4) (.tm rfl) rfl Br rfl rfl) rfl rfl rfl;exact PreOk.nil
   case hS=>exact A8
   case hH=>
    refine⟨⟨_,_,_,rfl,rfl,rfl,fun σ' hs=>Ar rfl (.no rfl) (Ag hs rfl) (.tm (hs.slots _ _ rfl))⟩,?_⟩
    refine⟨⟨_,_,_,rfl,rfl,rfl,fun σ' hs=>(by exact Al rfl (.no rfl) (Ag hs rfl) (.tm (hs.slots _ _ rfl)) (hs.res _ _ rfl) Bu rfl rfl)⟩,?_⟩
    refine⟨⟨_,_,_,rfl,rfl,rfl,fun σ' hs=>(by exact Al rfl (.no rfl) (Ag hs rfl) (.tm (hs.slots _ _ rfl)) (hs.res _ _ rfl) Br rfl rfl)⟩,?_⟩
    trivial
   apply Dh.new0 (i:=3)
   case ha|ho|hb=>rfl
   case hE=>
    intro w9  hp
    obtain _:=hp
    refine Ab (A6 (FnT.fr (specProductComponents z18.1 z18.2)) U (.no U) U (.cons (.tm U) U (.cons (.tm U) U .nil))) U ?_;refine Aa ?_;exact A7 (Ai (σ':=⟨_,[(0,_),(2,_),(3,_),(4,_),(5,_),(15,_),(24,_),(25,_),(26,_),(27,_)],[(3,_),(4,_)]⟩)) U
   case hS=>intros;exact A8
   apply Dh.new0 (i:=4)
   case ha|ho|hb=>rfl
   case hE=>
    intro w9  hp
    obtain _:=hp
    refine Ab (C7 U (.no U) U (.cons (.tm U) U (.cons (.tm U) U .nil)) fun hq=>FnT.fr (lawssameIntsC (compsOf z18.1 z18.2) (compsOf z18.1 z18.2))) U ?_;refine Aa ?_;exact A7 (Ai (σ':=⟨_,[(0,_),(2,_),(3,_),(4,_),(5,_),(15,_),(24,_),(25,_),(26,_),(28,_)],[(3,_),(4,_)]⟩)) U
   case hS=>intros;exact A8
   apply Dh.new0 (i:=5)
   case ha|ho|hb=>rfl
   case hE=>
    intro w9  hp
    obtain _:=hp
    refine Ab (Cq U (.no U) U (.tm U)) U ?_;refine Aa ?_;exact A7 (Ai (σ':=⟨_,[(0,_),(2,_),(3,_),(4,_),(5,_),(15,_),(24,_),(25,_),(26,_),(29,_)],[(3,_),(4,_)]⟩)) U
   case hS=>intros;exact A8
   apply Dh.new0 (i:=6)
   case ha|ho|hb=>rfl
   case hE=>
    intro w9  hp
    obtain _:=hp
    refine Ac ?_;refine Aa ?_;exact A7 (Ai (σ':=⟨_,[(0,_),(2,_),(3,_),(4,_),(5,_),(15,_),(24,_),(25,_),(26,_),(30,_)],[(3,_),(4,_)]⟩)) U
   case hS=>intros;exact A8
   apply Dh.new0 (i:=7)
   case ha|ho|hb=>rfl
   case hE=>
    intro w9  hp
    obtain _:=hp
    refine Ab (Al U (by exact .not1 U U U U) U (.tmp U (by exact fun _=>rfl)) U Bu U U) U ?_;refine Aa ?_;exact A7 (Ai (σ':=⟨_,[(0,_),(2,_),(3,_),(4,_),(5,_),(15,_),(24,_),(25,_),(26,_),(30,_),(31,_)],[(3,_),(4,_)]⟩)) U
   case hS=>intros;exact A8
   apply Dh.new0 (i:=8)
   case ha|ho|hb=>rfl
   case hE=>
    intro w9  hp
    obtain _:=hp
    refine Ab (Al U (by exact .not1 U U U U) U (.tmp U (by exact fun _=>rfl)) U Br U U) U ?_;refine Aa ?_;exact A7 (Ai (σ':=⟨_,[(0,_),(2,_),(3,_),(4,_),(5,_),(15,_),(24,_),(25,_),(26,_),(30,_),(32,_)],[(3,_),(4,_)]⟩)) U
   case hS=>intros;exact A8
   apply Dh.new0 (i:=10)
   case ha|ho|hb=>rfl
   case hE=>
    intro w9  hp
    obtain _:=hp
    refine Ab (Al U (by exact .not1 U U U U) U (.tmp U (by exact fun _=>rfl)) U Bu U U) U ?_;refine Aa ?_;exact A7 (Ai (σ':=⟨_,[(0,_),(2,_),(3,_),(4,_),(5,_),(15,_),(24,_),(25,_),(26,_),(30,_),(34,_)],[(3,_),(4,_)]⟩)) U
   case hS=>intros;exact A8
   apply Dh.new0 (i:=11)
   case ha|ho|hb=>rfl
   case hE=>
    intro w9  hp
    obtain _:=hp
    refine Ab (Al U (by exact .not1 U U U U) U (.tmp U (by exact fun _=>rfl)) U Br U U) U ?_;refine Aa ?_;exact A7 (Ai (σ':=⟨_,[(0,_),(2,_),(3,_),(4,_),(5,_),(15,_),(24,_),(25,_),(26,_),(30,_),(35,_)],[(3,_),(4,_)]⟩)) U
   case hS=>intros;exact A8
   apply Dh.new0 (i:=8)
   case ha|ho|hb=>rfl
   case hE=>
    intro w9  hp
    obtain _:=hp
    refine Ab (Al U (by exact .not1 U U U U) U (.tmp U (by exact fun _=>rfl)) U Br U U) U ?_;refine Aa ?_;exact A7 (Ai (σ':=⟨_,[(0,_),(2,_),(3,_),(4,_),(5,_),(15,_),(24,_),(25,_),(26,_),(30,_),(31,_),(32,_)],[(3,_),(4,_)]⟩)) U
   case hS=>intros;exact A8
   apply Dh.old0 (i:=7)
   case ha|ho|hb=>rfl
   case hE=>
    intro w9  hp
    obtain _:=hp
    refine Ab (Al U (by exact .not1 U U U U) U (.tmp U (by exact fun _=>rfl)) U Bu U U) U ?_;exact Aa Ai
   apply Dh.new0 (i:=10)
   case ha|ho|hb=>rfl
   case hE=>
    intro w9  hp
    obtain _:=hp
    refine Ab (Al U (by exact .not1 U U U U) U (.tmp U (by exact fun _=>rfl)) U Bu U U) U ?_;refine Aa ?_;exact A7 (Ai (σ':=⟨_,[(0,_),(2,_),(3,_),(4,_),(5,_),(15,_),(24,_),(25,_),(26,_),(30,_),(31,_),(34,_)],[(3,_),(4,_)]⟩)) U
   case hS=>intros;exact A8
   apply Dh.old0 (i:=7)
   case ha|ho|hb=>rfl
   case hE=>
    intro w9  hp
    obtain _:=hp
    refine Ab (Al U (by exact .not1 U U U U) U (.tmp U (by exact fun _=>rfl)) U Bu U U) U ?_;exact Aa Ai
   apply Dh.new0 (i:=11)
   case ha|ho|hb=>rfl
   case hE=>
    intro w9  hp
    obtain _:=hp
    refine Ab (Al U (by exact .not1 U U U U) U (.tmp U (by exact fun _=>rfl)) U Br U U) U ?_;refine Aa ?_;exact A7 (Ai (σ':=⟨_,[(0,_),(2,_),(3,_),(4,_),(5,_),(15,_),(24,_),(25,_),(26,_),(30,_),(31,_),(35,_)],[(3,_),(4,_)]⟩)) U
   case hS=>intros;exact A8
   apply Dh.old0 (i:=7)
   case ha|ho|hb=>rfl
   case hE=>
    intro w9  hp
    obtain _:=hp
    refine Ab (Al U (by exact .not1 U U U U) U (.tmp U (by exact fun _=>rfl)) U Bu U U) U ?_;exact Aa Ai
   apply Dh.new0 (i:=10)
   case ha|ho|hb=>rfl
   case hE=>
    intro w9  hp
    obtain _:=hp
    refine Ab (Al U (by exact .not1 U U U U) U (.tmp U (by exact fun _=>rfl)) U Bu U U) U ?_;refine Aa ?_;exact A7 (Ai (σ':=⟨_,[(0,_),(2,_),(3,_),(4,_),(5,_),(15,_),(24,_),(25,_),(26,_),(30,_),(32,_),(34,_)],[(3,_),(4,_)]⟩)) U
   case hS=>intros;exact A8
   apply Dh.old0 (i:=8)
   case ha|ho|hb=>rfl
   case hE=>
    intro w9  hp
    obtain _:=hp
    refine Ab (Al U (by exact .not1 U U U U) U (.tmp U (by exact fun _=>rfl)) U Br U U) U ?_;exact Aa Ai
   apply Dh.new0 (i:=11)
   case ha|ho|hb=>rfl
   case hE=>
    intro w9  hp
    obtain _:=hp
    refine Ab (Al U (by exact .not1 U U U U) U (.tmp U (by exact fun _=>rfl)) U Br U U) U ?_;refine Aa ?_;exact A7 (Ai (σ':=⟨_,[(0,_),(2,_),(3,_),(4,_),(5,_),(15,_),(24,_),(25,_),(26,_),(30,_),(32,_),(35,_)],[(3,_),(4,_)]⟩)) U
   case hS=>intros;exact A8
   apply Dh.old0 (i:=8)
   case ha|ho|hb=>rfl
   case hE=>
    intro w9  hp
    obtain _:=hp
    refine Ab (Al U (by exact .not1 U U U U) U (.tmp U (by exact fun _=>rfl)) U Br U U) U ?_;exact Aa Ai
   apply Dh.new0 (i:=11)
   case ha|ho|hb=>rfl
   case hE=>
    intro w9  hp
    obtain _:=hp
    refine Ab (Al U (by exact .not1 U U U U) U (.tmp U (by exact fun _=>rfl)) U Br U U) U ?_;refine Aa ?_;exact A7 (Ai (σ':=⟨_,[(0,_),(2,_),(3,_),(4,_),(5,_),(15,_),(24,_),(25,_),(26,_),(30,_),(34,_),(35,_)],[(3,_),(4,_)]⟩)) U
   case hS=>intros;exact A8
   apply Dh.old0 (i:=10)
   case ha|ho|hb=>rfl
   case hE=>
    intro w9  hp
    obtain _:=hp
    refine Ab (Al U (by exact .not1 U U U U) U (.tmp U (by exact fun _=>rfl)) U Bu U U) U ?_;exact Aa Ai
   apply Dh.new0 (i:=9)
   case ha|ho|hb=>rfl
   case hE=>
    intro w9  hp
    obtain _:=hp
    refine Ab (C7 U (by exact .not1 U U U U) U (.cons (.tmp U (by exact id)) U (.cons (.tmp U (by exact id)) U .nil)) fun hq=>FnT.fr (implAnswersByComponents z18.1 z18.2)) U ?_;refine Aa ?_;exact A7 (Ai (σ':=⟨_,[(0,_),(2,_),(3,_),(4,_),(5,_),(15,_),(24,_),(25,_),(26,_),(30,_),(33,_)],[(3,_),(4,_)]⟩)) U
   case hS=>intros;exact A8
   apply Dh.new0 (i:=10)
   case ha|ho|hb=>rfl
   case hE=>
    intro w9  hp
    obtain _:=hp
    refine Ab (Al U (by exact .not1 U U U U) U (.tmp U (by exact fun _=>rfl)) U Bu U U) U ?_;refine Aa ?_;exact A7 (Ai (σ':=⟨_,[(0,_),(2,_),(3,_),(4,_),(5,_),(15,_),(24,_),(25,_),(26,_),(30,_),(31,_),(32,_),(34,_)],[(3,_),(4,_)]⟩)) U
   case hS=>intros;exact A8
   apply Dh.old0 (i:=8)
   case ha|ho|hb=>rfl
   case hE=>
    intro w9  hp
    obtain _:=hp
    refine Ab (Al U (by exact .not1 U U U U) U (.tmp U (by exact fun _=>rfl)) U Br U U) U ?_;exact Aa Ai
   apply Dh.old0 (i:=7)
   case ha|ho|hb=>rfl
   case hE=>
    intro w9  hp
    obtain _:=hp
    refine Ab (Al U (by exact .not1 U U U U) U (.tmp U (by exact fun _=>rfl)) U Bu U U) U ?_;exact Aa Ai
   apply Dh.new0 (i:=11)
   case ha|ho|hb=>rfl
   case hE=>
    intro w9  hp
    obtain _:=hp
    refine Ab (Al U (by exact .not1 U U U U) U (.tmp U (by exact fun _=>rfl)) U Br U U) U ?_;refine Aa ?_;exact A7 (Ai (σ':=⟨_,[(0,_),(2,_),(3,_),(4,_),(5,_),(15,_),(24,_),(25,_),(26,_),(30,_),(31,_),(32,_),(35,_)],[(3,_),(4,_)]⟩)) U
   case hS=>intros;exact A8
   apply Dh.old0 (i:=8)
   case ha|ho|hb=>rfl
   case hE=>
    intro w9  hp
    obtain _:=hp
    refine Ab (Al U (by exact .not1 U U U U) U (.tmp U (by exact fun _=>rfl)) U Br U U) U ?_;exact Aa Ai
   apply Dh.old0 (i:=7)
   case ha|ho|hb=>rfl
   case hE=>
    intro w9  hp
    obtain _:=hp
    refine Ab (Al U (by exact .not1 U U U U) U (.tmp U (by exact fun _=>rfl)) U Bu U U) U ?_;exact Aa Ai
   apply Dh.new0 (i:=11)
   case ha|ho|hb=>rfl
   case hE=>
    intro w9  hp
    obtain _:=hp
    refine Ab (Al U (by exact .not1 U U U U) U (.tmp U (by exact fun _=>rfl)) U Br U U) U ?_;refine Aa ?_;exact A7 (Ai (σ':=⟨_,[(0,_),(2,_),(3,_),(4,_),(5,_),(15,_),(24,_),(25,_),(26,_),(30,_),(31,_),(34,_),(35,_)],[(3,_),(4,_)]⟩)) U
   case hS=>intros;exact A8
   apply Dh.old0 (i:=10)
   case ha|ho|hb=>rfl
   case hE=>
    intro w9  hp
    obtain _:=hp
    refine Ab (Al U (by exact .not1 U U U U) U (.tmp U (by exact fun _=>rfl)) U Bu U U) U ?_;exact Aa Ai
   apply Dh.old0 (i:=7)
   case ha|ho|hb=>rfl
   case hE=>
    intro w9  hp
    obtain _:=hp
    refine Ab (Al U (by exact .not1 U U U U) U (.tmp U (by exact fun _=>rfl)) U Bu U U) U ?_;exact Aa Ai
   apply Dh.new0 (i:=11)
   case ha|ho|hb=>rfl
   case hE=>
    intro w9  hp
    obtain _:=hp
    refine Ab (Al U (by exact .not1 U U U U) U (.tmp U (by exact fun _=>rfl)) U Br U U) U ?_;refine Aa ?_;exact A7 (Ai (σ':=⟨_,[(0,_),(2,_),(3,_),(4,_),(5,_),(15,_),(24,_),(25,_),(26,_),(30,_),(32,_),(34,_),(35,_)],[(3,_),(4,_)]⟩)) U
   case hS=>intros;exact A8
   apply Dh.old0 (i:=10)
   case ha|ho|hb=>rfl
   case hE=>
    intro w9  hp
    obtain _:=hp
    refine Ab (Al U (by exact .not1 U U U U) U (.tmp U (by exact fun _=>rfl)) U Bu U U) U ?_;exact Aa Ai
   apply Dh.old0 (i:=8)
   case ha|ho|hb=>rfl
   case hE=>
    intro w9  hp
    obtain _:=hp
    refine Ab (Al U (by exact .not1 U U U U) U (.tmp U (by exact fun _=>rfl)) U Br U U) U ?_;exact Aa Ai
   apply Dh.new0 (i:=10)
   case ha|ho|hb=>rfl
   case hE=>
    intro w9  hp
    obtain _:=hp
    refine Ab (Al U (by exact .not1 U U U U) U (.tmp U (by exact fun _=>rfl)) U Bu U U) U ?_;refine Aa ?_;exact A7 (Ai (σ':=⟨_,[(0,_),(2,_),(3,_),(4,_),(5,_),(15,_),(24,_),(25,_),(26,_),(30,_),(33,_),(34,_)],[(3,_),(4,_)]⟩)) U
   case hS=>intros;exact A8
   apply Dh.old0 (i:=9)
   case ha|ho|hb=>rfl
   case hE=>
    intro w9  hp
    obtain _:=hp
    refine Ab (C7 U (by exact .not1 U U U U) U (.cons (.tmp U (by exact id)) U (.cons (.tmp U (by exact id)) U .nil)) fun hq=>FnT.fr (implAnswersByComponents z18.1 z18.2)) U ?_;exact Aa Ai
   apply Dh.new0 (i:=11)
   case ha|ho|hb=>rfl
   case hE=>
    intro w9  hp
    obtain _:=hp
    refine Ab (Al U (by exact .not1 U U U U) U (.tmp U (by exact fun _=>rfl)) U Br U U) U ?_;refine Aa ?_;exact A7 (Ai (σ':=⟨_,[(0,_),(2,_),(3,_),(4,_),(5,_),(15,_),(24,_),(25,_),(26,_),(30,_),(33,_),(35,_)],[(3,_),(4,_)]⟩)) U
   case hS=>intros;exact A8
   apply Dh.old0 (i:=9)
   case ha|ho|hb=>rfl
   case hE=>
    intro w9  hp
    obtain _:=hp
    refine Ab (C7 U (by exact .not1 U U U U) U (.cons (.tmp U (by exact id)) U (.cons (.tmp U (by exact id)) U .nil)) fun hq=>FnT.fr (implAnswersByComponents z18.1 z18.2)) U ?_;exact Aa Ai
   apply Dh.new0 (i:=11)
   case ha|ho|hb=>rfl
   case hE=>
    intro w9  hp
    obtain _:=hp
    refine Ab (Al U (by exact .not1 U U U U) U (.tmp U (by exact fun _=>rfl)) U Br U U) U ?_;refine Aa ?_;exact A7 (Ai (σ':=⟨_,[(0,_),(2,_),(3,_),(4,_),(5,_),(15,_),(24,_),(25,_),(26,_),(30,_),(31,_),(32,_),(34,_),(35,_)],[(3,_),(4,_)]⟩)) U
   case hS=>intros;exact A8
   apply Dh.old0 (i:=10)
   case ha|ho|hb=>rfl
   case hE=>
    intro w9  hp
    obtain _:=hp
    refine Ab (Al U (by exact .not1 U U U U) U (.tmp U (by exact fun _=>rfl)) U Bu U U) U ?_;exact Aa Ai
   apply Dh.old0 (i:=8)
   case ha|ho|hb=>rfl
   case hE=>
    intro w9  hp
    obtain _:=hp
    refine Ab (Al U (by exact .not1 U U U U) U (.tmp U (by exact fun _=>rfl)) U Br U U) U ?_;exact Aa Ai
   apply Dh.old0 (i:=7)
   case ha|ho|hb=>rfl
   case hE=>
    intro w9  hp
    obtain _:=hp
    refine Ab (Al U (by exact .not1 U U U U) U (.tmp U (by exact fun _=>rfl)) U Bu U U) U ?_;exact Aa Ai
   apply Dh.new0 (i:=11)
   case ha|ho|hb=>rfl
   case hE=>
    intro w9  hp
    obtain _:=hp
    refine Ab (Al U (by exact .not1 U U U U) U (.tmp U (by exact fun _=>rfl)) U Br U U) U ?_;refine Aa ?_;exact A7 (Ai (σ':=⟨_,[(0,_),(2,_),(3,_),(4,_),(5,_),(15,_),(24,_),(25,_),(26,_),(30,_),(33,_),(34,_),(35,_)],[(3,_),(4,_)]⟩)) U
   case hS=>intros;exact A8
   apply Dh.old0 (i:=10)
   case ha|ho|hb=>rfl
   case hE=>
    intro w9  hp
    obtain _:=hp
    refine Ab (Al U (by exact .not1 U U U U) U (.tmp U (by exact fun _=>rfl)) U Bu U U) U ?_;exact Aa Ai
   apply Dh.old0 (i:=9)
   case ha|ho|hb=>rfl
   case hE=>
    intro w9  hp
    obtain _:=hp
    refine Ab (C7 U (by exact .not1 U U U U) U (.cons (.tmp U (by exact id)) U (.cons (.tmp U (by exact id)) U .nil)) fun hq=>FnT.fr (implAnswersByComponents z18.1 z18.2)) U ?_;exact Aa Ai
   refine Dh.fin0 (k:=23) rfl ?_;intro  hp
   obtain _:=hp
   refine Ab (C7 U (by exact .not1 U U U U) U (.cons (.tmp U (by exact id)) U (.cons (.tmp U (by exact id)) U .nil)) fun hq=>FnT.fr (specAllAnswers z18.1 z18.2)) U ?_;refine Ab (C7 U (by exact .not1 U U U U) U (.cons (.tmp U (by exact id)) U (.cons (.tmp U (by exact id)) U .nil)) fun hq=>FnT.fr (specEqualPairsC _ _)) U ?_;refine Ab (Cq U (by exact .not1 U U U U) U (.tmp U (by exact id))) U ?_;refine Ab (R_or U (.no U) U (.tm U) (.tmp U (by exact id))) U ?_;refine Aa (Aq (.tm U) (fun h39=>?_) (fun h39=>?_))
   · exact absurd h39 (by simp)
   · try simp at h39
     refine As (Ah (Ab (Al U (.no U) U (.tm U) U Bu U U) U ?_));refine Ab (Al U (.no U) U (.tm U) U Br U U) U ?_;refine Ab (A6 (FnT.fr (implComponentOrder z18.1 z18.2)) U (.no U) U (.cons (.tm U) U (.cons (.tm U) U .nil))) U ?_;refine Ak ?_;refine Aa (Af (Ah (Ac ?_)));refine Ab (Al U (.no U) U (.tm U) U Bu U U) U ?_;refine Ab (Al U (.no U) U (.tm U) U Br U U) U ?_;refine Ab (A6 (FnT.fr (specComponentOrder z18.1 z18.2)) U (.no U) U (.cons (.tm U) U (.cons (.tm U) U .nil))) U ?_;refine Ab (A6 (FnT.fr (lawssameIntsC (ordOf z18.1 z18.2) (ordOf z18.1 z18.2))) U (.no U) U (.cons (.tm U) U (.cons (.tm U) U .nil))) U ?_;refine Ab (Cq U (.no U) U (.tm U)) U ?_;refine Ac ?_;refine Ab (Ar U (by exact .not1 U U U U) U (.tmp U (by exact fun _=>rfl))) U ?_;refine Ab (Bd U (by exact .not1 U U U U) U (.tmp U (by exact id)) (by exact .t) Tryz.underlying40) U ?_
     refine Ab (Al U (by exact .not1 U U U U) U (.tmp U (by exact fun _=>rfl)) U Bu U U) U ?_;refine Ab (Al U (by exact .not1 U U U U) U (.tmp U (by exact fun _=>rfl)) U Br U U) U ?_;refine Ab (C7 U (by exact .not1 U U U U) U (.cons (.tmp U (by exact id)) U (.cons (.tmp U (by exact id)) U .nil)) fun hq=>FnT.fr (implComponentCount z18.1 z18.2)) U ?_;refine Ab (Da U (by exact .not1 U U U U) U (.tmp U (by exact id)) (.tmp U (by exact id))) U ?_;refine Ab (R_or U (.no U) U (.tm U) (.tmp U (by exact id))) U ?_;refine Aa (Aq (.tm U) (fun h56=>?_) (fun h56=>?_))
     · exact absurd h56 (by simp [ord_len])
     · try simp at h56
       obtain⟨cs,hcs⟩:∃ cs,cs=compsOf z18.1 z18.2:=⟨_,rfl⟩
       refine As (Ah (Ab (Am U (.no U) U (.tm U) Cw) U ?_));refine Ab (Al U (.no U) U (.tm U) U Dc U U) U ?_;refine Ab (Bd U (.no U) U (.tm U) (by exact .t) Tryz.underlying33) U ?_;refine Ak ?_;refine Aa (Af (Ah (Av ?_)));refine Aa (AW.block (Bs (fun (i:Nat)=>(i≤(compsOf z18.1 z18.2).length)∧True) (fun (i:Nat)=>⟨_,[(8,(true,.a (.one (.t (.v (.int .i64 (i:Nat))))))),(3,_),(4,_),(5,_),(6,_),(7,_)],[(3,.box [.t (.sl 1 (z18.1.Values.map cInt)),.t (.sl 4 (z18.1.Edges.map cEdge))]),(4,.box [.t (.v (.int .i64 z18.2.Start)),.t (.sl 1 (z18.2.Accept.map cBool)),.t (.sl 1 (z18.2.Next.map cIntS))])]⟩) (fun (i:Nat)=>(compsOf z18.1 z18.2).length-i) (0) ⟨Nat.zero_le _,Y⟩ Ai ?_))
       rintro i ⟨hk,he⟩
       refine Af (Ah (Ac ?_));refine Ac ?_;refine Ab (Bd U (.no U) U (.tm U) (by exact .t) Tryz.underlying40) U ?_;refine Ab (Bz U (.no U) U (.tm U) (.tm U)) U ?_;refine Aa (Aq (.tm U) (fun h63=>?_) (fun h63=>?_))
       · try simp at h63
         have hgc:goodC z18.1 z18.2=true:=comp_good (show i<_ by omega)
         obtain⟨hg,ha⟩:=good_c2 hgc
         have hN:=prod_le ha hg
         have hiN:i<NP z18.1 z18.2:=by rw [←comp_len hgc];omega
         have hi60:i<60:=Nat.lt_of_lt_of_le hiN hN.2
         have hA:=validA_len ha
         have hG:=validG_len hg
         have hdm:=nd_ok (p:=i) hA.1 (show i<NP z18.1 z18.2 from hiN)
         obtain⟨v,hv⟩:∃ v,z18.1.Values[((i:Int) / (z18.2.Accept.length:Int)).toNat]?=some v:=⟨_,List.getElem?_eq_getElem (by omega)⟩
         refine As (Af (AW.block (Af (A4 (σ':=⟨_,[(3,_),(4,_),(5,_),(6,_),(7,_),(8,_),(63,_)],[(3,_),(4,_)]⟩) Ai ?_))));apply Cd (N:=8) (k:=3) (Hs:=[0,1,2,3,5,6]) (ms:=[[],[4],[7],[4,7]]) (es:=[(0,4,1),(0,7,2),(1,7,3),(2,4,3)]) (σ1:=_) (SM:=⟨_,[(3,_),(4,_),(5,_),(6,_),(7,_),(8,_),(63,_),(66,_),(67,_),(68,_),(69,_),(71,_),(72,_)],[(3,_),(4,_)]⟩)
         case hm=>kernel_rfl
         case hB=>kernel_rfl
         case hP=>kernel_rfl
         case hL=>kernel_rfl
         case hN=>rfl
         case hpre=>
          apply Ay (P:=Tryz.prog) 0 rfl ((Al rfl (.no rfl) rfl (.tm rfl) rfl Bu rfl rfl)) (by exact HasV.load (x:=.tmp 3) (.tm rfl) rfl Bu rfl rfl) rfl rfl rfl;apply Ay (P:=Tryz.prog) 1 rfl ((by exact Al rfl (.no rfl) rfl (.tm rfl) rfl Br rfl rfl)) (by exact HasV.load (x:=.tmp 4) (.tm rfl) rfl Br rfl rfl) rfl rfl rfl;apply Ay (P:=Tryz.prog) 2 rfl (Ar rfl (.no rfl) rfl (.tm rfl)) (by exact HasV.slot (t:=8) rfl) rfl rfl rfl;apply Ay (P:=Tryz.prog) 3 rfl (Ar rfl (.no rfl) rfl (.tm rfl)) (by exact HasV.slot (t:=7) rfl) rfl rfl rfl;apply Ay (P:=Tryz.prog) 5 rfl (Ar rfl (.no rfl) rfl (.tm rfl)) (by exact HasV.slot (t:=8) rfl) rfl rfl rfl;apply Ay (P:=Tryz.prog) 6 rfl (Ar rfl (.no rfl) rfl (.tm rfl)) (by exact HasV.slot (t:=7) rfl) rfl rfl rfl;exact PreOk.nil
         case hS=>exact A8
         case hH=>
          refine⟨⟨_,_,_,rfl,rfl,rfl,fun σ' hs=>(by exact Al rfl (.no rfl) (Ag hs rfl) (.tm (hs.slots _ _ rfl)) (hs.res _ _ rfl) Bu rfl rfl)⟩,?_⟩
          refine⟨⟨_,_,_,rfl,rfl,rfl,fun σ' hs=>(by exact Al rfl (.no rfl) (Ag hs rfl) (.tm (hs.slots _ _ rfl)) (hs.res _ _ rfl) Br rfl rfl)⟩,?_⟩
          refine⟨⟨_,_,_,rfl,rfl,rfl,fun σ' hs=>Ar rfl (.no rfl) (Ag hs rfl) (.tm (hs.slots _ _ rfl))⟩,?_⟩
          refine⟨⟨_,_,_,rfl,rfl,rfl,fun σ' hs=>Ar rfl (.no rfl) (Ag hs rfl) (.tm (hs.slots _ _ rfl))⟩,?_⟩
          refine⟨⟨_,_,_,rfl,rfl,rfl,fun σ' hs=>Ar rfl (.no rfl) (Ag hs rfl) (.tm (hs.slots _ _ rfl))⟩,?_⟩
          refine⟨⟨_,_,_,rfl,rfl,rfl,fun σ' hs=>Ar rfl (.no rfl) (Ag hs rfl) (.tm (hs.slots _ _ rfl))⟩,?_⟩
          trivial
         apply Dh.new0 (i:=4)
         case ha|ho|hb=>rfl
         case hE=>
          intro w9  hp
          obtain _:=hp
          refine Ab (R_quo U (.no U) U (.tm U) (.tm U) (fun _=>by omega)) U ?_;refine Aa ?_;exact A7 (Ai (σ':=⟨_,[(3,_),(4,_),(5,_),(6,_),(7,_),(8,_),(63,_),(66,_),(67,_),(68,_),(69,_),(70,_),(71,_),(72,_)],[(3,_),(4,_)]⟩)) U
         case hS=>intros;exact A8
         apply Dh.new0 (i:=7)
         case ha|ho|hb=>rfl
         case hE=>
          intro w9  hp
          obtain _:=hp
          refine Ab (R_rem U (.no U) U (.tm U) (.tm U) (fun _=>by omega)) U ?_;refine Aa ?_;exact A7 (Ai (σ':=⟨_,[(3,_),(4,_),(5,_),(6,_),(7,_),(8,_),(63,_),(66,_),(67,_),(68,_),(69,_),(71,_),(72,_),(73,_)],[(3,_),(4,_)]⟩)) U
         case hS=>intros;exact A8
         apply Dh.new0 (i:=7)
         case ha|ho|hb=>rfl
         case hE=>
          intro w9  hp
          obtain _:=hp
          refine Ab (R_rem U (.no U) U (.tm U) (.tm U) (fun _=>by omega)) U ?_;refine Aa ?_;exact A7 (Ai (σ':=⟨_,[(3,_),(4,_),(5,_),(6,_),(7,_),(8,_),(63,_),(66,_),(67,_),(68,_),(69,_),(70,_),(71,_),(72,_),(73,_)],[(3,_),(4,_)]⟩)) U
         case hS=>intros;exact A8
         apply Dh.old0 (i:=4)
         case ha|ho|hb=>rfl
         case hE=>
          intro w9  hp
          obtain _:=hp
          refine Ab (R_quo U (.no U) U (.tm U) (.tm U) (fun _=>by omega)) U ?_;exact Aa Ai
         refine Dh.fin0 (k:=3) rfl ?_;intro  hp
         obtain _:=hp
         refine Ab (A6 (FnT.fr (specProductSteps z18.1 z18.2 ha hg ((i:Int) / (z18.2.Accept.length:Int)) ((i:Int)%(z18.2.Accept.length:Int)) v (by omega) hv (by omega))) U (.no U) U (.cons (.tm U) U (.cons (.tm U) U (.cons (.tm U) U (.cons (.tm U) U .nil))))) U ?_;refine Ak ?_;refine Aa (Ah (Av ?_))
         refine Aa (AW.block (Bs (fun (k:Nat)=>(k≤(stepsOf z18.1 z18.2 ((i:Int) / (z18.2.Accept.length:Int)) ((i:Int)%(z18.2.Accept.length:Int))).length)∧True) (fun (k:Nat)=>⟨_,[(10,(true,.a (.one (.t (.v (.int .i64 (k:Nat))))))),(3,_),(4,_),(5,_),(6,_),(7,_),(8,_),(9,_)],[(3,.box [.t (.sl 1 (z18.1.Values.map cInt)),.t (.sl 4 (z18.1.Edges.map cEdge))]),(4,.box [.t (.v (.int .i64 z18.2.Start)),.t (.sl 1 (z18.2.Accept.map cBool)),.t (.sl 1 (z18.2.Next.map cIntS))])]⟩) (fun (k:Nat)=>(stepsOf z18.1 z18.2 ((i:Int) / (z18.2.Accept.length:Int)) ((i:Int)%(z18.2.Accept.length:Int))).length-k) (0) ⟨Nat.zero_le _,Y⟩ Ai ?_))
         rintro k ⟨hk1,he1⟩
         refine Af (Ah (Ac ?_));refine Ac ?_;refine Ab (Bd U (.no U) U (.tm U) (by exact .t) Tryz.underlying72) U ?_;refine Ab (Bz U (.no U) U (.tm U) (.tm U)) U ?_;refine Aa (Aq (.tm U) (fun h78=>?_) (fun h78=>?_))
         · try simp at h78
           obtain⟨z,hz⟩:∃ ξ,(stepsOf z18.1 z18.2 ((i:Int) / (z18.2.Accept.length:Int)) ((i:Int)%(z18.2.Accept.length:Int)))[k]?=some ξ:=⟨_,List.getElem?_eq_getElem (by omega)⟩
           obtain⟨q,hq,hqN,hcy,hor⟩:=comp_edge hgc hiN (List.mem_of_getElem? hz)
           have hzr:=steps_ok ha hg hv hdm.2.2 z (List.mem_of_getElem? hz)
           have hSl:=steps_len z18.1 z18.2 ((i:Int) / (z18.2.Accept.length:Int)) ((i:Int)%(z18.2.Accept.length:Int))
           have hal:(arcsAt z18.1 ((i:Int) / (z18.2.Accept.length:Int))).length≤24:=Nat.le_trans (arcsL_len _ _) (by omega)
           have hci:=comp_at hgc hiN
           have hcq:(compsOf z18.1 z18.2)[(z.Node*(z18.2.Accept.length:Int)+z.State).toNat]?=some (cC z18.1 z18.2 q):=by rw [hq,Int.toNat_natCast];exact comp_at hgc hqN
           have hmn:0≤z.Node*(z18.2.Accept.length:Int):=Int.mul_nonneg hzr.1 (by omega)
           have hq60:q<60:=Nat.lt_of_lt_of_le hqN hN.2
           refine As (Af (AW.block (Ah (Ac ?_))));refine Ac ?_;refine Ab (Aw U (.no U) U (.tm U) (.tm U) Tryz.underlying40 ty3 (fun _=>⟨by omega,(by exact Ax hci)⟩)) U ?_;refine Ab (Ap U (.no U) U (.tm U) ty3 U U) U ?_;refine Ak ?_;refine Aa (Af (A4 (σ':=⟨_,[(3,_),(4,_),(5,_),(6,_),(7,_),(8,_),(9,_),(10,_),(11,_),(78,_)],[(3,_),(4,_)]⟩) Ai ?_));apply Cd (N:=14) (k:=0) (Hs:=[0,1,2,3,4,5,6,7,8,9,10,11,12,13]) (ms:=[[]]) (es:=[]) (σ1:=_) (SM:=⟨_,[(3,_),(4,_),(5,_),(6,_),(7,_),(8,_),(9,_),(10,_),(11,_),(78,_),(85,_),(86,_),(87,_),(88,_),(89,_),(90,_),(91,_),(92,_),(93,_),(94,_),(95,_),(96,_),(97,_),(98,_)],[(3,_),(4,_)]⟩)
           case hm=>kernel_rfl
           case hB=>kernel_rfl
           case hP=>kernel_rfl
           case hL=>kernel_rfl
           case hN=>rfl
           case hpre=>
            apply Ay (P:=Tryz.prog) 0 rfl (Ar rfl (.no rfl) rfl (.tm rfl)) (by exact HasV.slot (t:=5) rfl) rfl rfl rfl;apply Ay (P:=Tryz.prog) 1 rfl (Ar rfl (.no rfl) rfl (.tm rfl)) (by exact HasV.slot (t:=9) rfl) rfl rfl rfl;apply Ay (P:=Tryz.prog) 2 rfl (Ar rfl (.no rfl) rfl (.tm rfl)) (by exact HasV.slot (t:=10) rfl) rfl rfl rfl;apply Ay (P:=Tryz.prog) 3 rfl ((Aw rfl (.no rfl) rfl (.tm rfl) (.tm rfl) Tryz.underlying72 ty77 (fun _=>⟨by omega,(by exact Ax hz)⟩))) (by exact HasV.ix (x:=.tmp 86) (.tm rfl) (y:=.tmp 87) (.tm rfl) Tryz.underlying72 ty77 (fun _=>⟨by omega,(by exact Ax hz)⟩)) rfl rfl rfl;apply Ay (P:=Tryz.prog) 4 rfl ((by exact Ao rfl (.no rfl) rfl (.tm rfl) fl77_1)) (by exact HasV.ad (x:=.tmp 88) (.tm rfl)) rfl rfl rfl;apply Ay (P:=Tryz.prog) 5 rfl ((by exact Ap rfl (.no rfl) rfl (.tm rfl) ty3 rfl rfl)) (by exact HasV.ld (x:=.tmp 89) (.tm rfl) rfl rfl) rfl rfl rfl
            apply Ay (P:=Tryz.prog) 6 rfl (Ar rfl (.no rfl) rfl (.tm rfl)) (by exact HasV.slot (t:=7) rfl) rfl rfl rfl;apply Ay (P:=Tryz.prog) 7 rfl (Dd rfl (.no rfl) rfl (.tm rfl) (.tm rfl) (fun _=>by omega)) (by exact .val rfl) rfl rfl rfl;apply Ay (P:=Tryz.prog) 8 rfl (Ar rfl (.no rfl) rfl (.tm rfl)) (by exact HasV.slot (t:=9) rfl) rfl rfl rfl;apply Ay (P:=Tryz.prog) 9 rfl (Ar rfl (.no rfl) rfl (.tm rfl)) (by exact HasV.slot (t:=10) rfl) rfl rfl rfl;apply Ay (P:=Tryz.prog) 10 rfl ((by exact Aw rfl (.no rfl) rfl (.tm rfl) (.tm rfl) Tryz.underlying72 ty77 (fun _=>⟨by omega,(by exact Ax hz)⟩))) (by exact HasV.ix (x:=.tmp 93) (.tm rfl) (y:=.tmp 94) (.tm rfl) Tryz.underlying72 ty77 (fun _=>⟨by omega,(by exact Ax hz)⟩)) rfl rfl rfl;apply Ay (P:=Tryz.prog) 11 rfl ((by exact Ao rfl (.no rfl) rfl (.tm rfl) fl77_2)) (by exact HasV.ad (x:=.tmp 95) (.tm rfl)) rfl rfl rfl
            apply Ay (P:=Tryz.prog) 12 rfl ((by exact Ap rfl (.no rfl) rfl (.tm rfl) ty3 rfl rfl)) (by exact HasV.ld (x:=.tmp 96) (.tm rfl) rfl rfl) rfl rfl rfl;apply Ay (P:=Tryz.prog) 13 rfl (Be rfl (.no rfl) rfl (.tm rfl) (.tm rfl) (fun _=>by omega)) (by exact .val rfl) rfl rfl rfl;exact PreOk.nil
           case hS=>exact A8
           case hH=>
            refine⟨⟨_,_,_,rfl,rfl,rfl,fun σ' hs=>Ar rfl (.no rfl) (Ag hs rfl) (.tm (hs.slots _ _ rfl))⟩,?_⟩
            refine⟨⟨_,_,_,rfl,rfl,rfl,fun σ' hs=>Ar rfl (.no rfl) (Ag hs rfl) (.tm (hs.slots _ _ rfl))⟩,?_⟩
            refine⟨⟨_,_,_,rfl,rfl,rfl,fun σ' hs=>Ar rfl (.no rfl) (Ag hs rfl) (.tm (hs.slots _ _ rfl))⟩,?_⟩
            refine⟨⟨_,_,_,rfl,rfl,rfl,fun σ' hs=>(by exact Aw rfl (.no rfl) (Ag hs rfl) (.tm (hs.slots _ _ rfl)) (.tm (hs.slots _ _ rfl)) Tryz.underlying72 ty77 (fun _=>⟨by omega,(by exact Ax hz)⟩))⟩,?_⟩
            refine⟨⟨_,_,_,rfl,rfl,rfl,fun σ' hs=>(by exact Ao rfl (.no rfl) (Ag hs rfl) (.tm (hs.slots _ _ rfl)) fl77_1)⟩,?_⟩
            refine⟨⟨_,_,_,rfl,rfl,rfl,fun σ' hs=>(by exact Ap rfl (.no rfl) (Ag hs rfl) (.tm (hs.slots _ _ rfl)) ty3 rfl rfl)⟩,?_⟩
            refine⟨⟨_,_,_,rfl,rfl,rfl,fun σ' hs=>Ar rfl (.no rfl) (Ag hs rfl) (.tm (hs.slots _ _ rfl))⟩,?_⟩
            refine⟨⟨_,_,_,rfl,rfl,rfl,fun σ' hs=>Dd rfl (.no rfl) (Ag hs rfl) (.tm (hs.slots _ _ rfl)) (.tm (hs.slots _ _ rfl)) (fun _=>by omega)⟩,?_⟩
            refine⟨⟨_,_,_,rfl,rfl,rfl,fun σ' hs=>Ar rfl (.no rfl) (Ag hs rfl) (.tm (hs.slots _ _ rfl))⟩,?_⟩
            refine⟨⟨_,_,_,rfl,rfl,rfl,fun σ' hs=>Ar rfl (.no rfl) (Ag hs rfl) (.tm (hs.slots _ _ rfl))⟩,?_⟩
            refine⟨⟨_,_,_,rfl,rfl,rfl,fun σ' hs=>(by exact Aw rfl (.no rfl) (Ag hs rfl) (.tm (hs.slots _ _ rfl)) (.tm (hs.slots _ _ rfl)) Tryz.underlying72 ty77 (fun _=>⟨by omega,(by exact Ax hz)⟩))⟩,?_⟩
            refine⟨⟨_,_,_,rfl,rfl,rfl,fun σ' hs=>(by exact Ao rfl (.no rfl) (Ag hs rfl) (.tm (hs.slots _ _ rfl)) fl77_2)⟩,?_⟩
            refine⟨⟨_,_,_,rfl,rfl,rfl,fun σ' hs=>(by exact Ap rfl (.no rfl) (Ag hs rfl) (.tm (hs.slots _ _ rfl)) ty3 rfl rfl)⟩,?_⟩
            refine⟨⟨_,_,_,rfl,rfl,rfl,fun σ' hs=>Be rfl (.no rfl) (Ag hs rfl) (.tm (hs.slots _ _ rfl)) (.tm (hs.slots _ _ rfl)) (fun _=>by omega)⟩,?_⟩
            trivial
           refine Dh.fin0 (k:=0) rfl ?_;intro  hp
           obtain _:=hp
           refine Ab (by exact Aw U (.no U) U (.tm U) (.tm U) Tryz.underlying40 ty3 (fun _=>⟨by omega,(by exact Ax hcq)⟩)) U ?_;refine Ab (Ap U (.no U) U (.tm U) ty3 U U) U ?_;refine Ak ?_;refine Aa (Af (Ah (Ac ?_)));refine Ac ?_;refine Ab (B7 U (.no U) U (.tm U) (.tm U)) U ?_;refine Ac ?_;refine Ab (Al U (by exact .yes1 U U U U) U (.tmp U (by exact fun _=>rfl)) U Bu U U) U ?_;refine Ab (Al U (by exact .yes1 U U U U) U (.tmp U (by exact fun _=>rfl)) U Br U U) U ?_;refine Ab (Ar U (by exact .yes1 U U U U) U (.tmp U (by exact fun _=>rfl))) U ?_;refine Ab (A6 (FnT.fr (implIsCyclicComponent z18.1 z18.2 (cC z18.1 z18.2 i))) U (by exact .yes1 U U U U) U (.cons (.tmp U (by exact id)) U (.cons (.tmp U (by exact id)) U (.cons (.tmp U (by exact id)) U .nil)))) U ?_;refine Ab (Cq U (by exact .yes1 U U U U) U (.tmp U (by exact id))) U ?_;refine Ab (Cf U (.no U) U (.tm U) (.tmp U (by exact id))) U ?_
           refine Aa (Aq (.tm U) (fun h110=>?_) (fun h110=>?_))
           · exact absurd h110 (by intro h;simp at h;exact absurd (hcy h.1) (by simp [h.2]))
           · try simp at h110
             refine As (Ah (Av ?_));refine Aa (AW.block ?_);refine Bs (fun (j:Nat)=>(j≤(ordOf z18.1 z18.2).length∧∀ x,x<j→(ordOf z18.1 z18.2)[x]?≠some (cC z18.1 z18.2 i))∧True) (fun (j:Nat)=>⟨_,[(13,(true,.a (.one (.t (.v (.int .i64 (j:Nat))))))),(3,_),(4,_),(5,_),(6,_),(7,_),(8,_),(9,_),(10,_),(11,_),(12,_)],[(3,.box [.t (.sl 1 (z18.1.Values.map cInt)),.t (.sl 4 (z18.1.Edges.map cEdge))]),(4,.box [.t (.v (.int .i64 z18.2.Start)),.t (.sl 1 (z18.2.Accept.map cBool)),.t (.sl 1 (z18.2.Next.map cIntS))])]⟩) (fun (j:Nat)=>(ordOf z18.1 z18.2).length-j) (0) ⟨⟨Nat.zero_le _,fun x hx=>by omega⟩,Y⟩ Ai ?_
             rintro j ⟨hk2,he2⟩
             refine Af (Ah (Ac ?_));refine Ac ?_;refine Ab (Bd U (.no U) U (.tm U) (by exact .t) Tryz.underlying40) U ?_;refine Ab (Bz U (.no U) U (.tm U) (.tm U)) U ?_;refine Ac ?_;refine Ab (Ar U (by exact .yes1 U U U U) U (.tmp U (by exact fun _=>rfl))) U ?_;refine Ab (Ar U (by exact .yes1 U U U U) U (.tmp U (by exact fun _=>rfl))) U ?_;refine Ab (Da U (by exact .yes1 U U U U) U (.tmp U (by exact id)) (.tmp U (by exact id))) U ?_;refine Ab (Cf U (.no U) U (.tm U) (.tmp U (by exact id))) U ?_;refine Aa (Aq (.tm U) (fun h119=>?_) (fun h119=>?_))
             · try simp at h119
               have hjl:j<(ordOf z18.1 z18.2).length:=by (have h:=h119;first|exact h.1|(simp at h;omega))
               obtain⟨o,ho⟩:∃ ξ,(ordOf z18.1 z18.2)[j]?=some ξ:=⟨_,List.getElem?_eq_getElem hjl⟩
               have hne:cC z18.1 z18.2 i≠cC z18.1 z18.2 q:=by (have h:=h119;first|exact h.2|(simp at h;exact h.2))
               have hj60:j<60:=Nat.lt_of_lt_of_le hjl (Nat.le_trans (Nat.le_of_eq (ord_len z18.1 z18.2)) (Nat.le_trans (cnt_le z18.1 z18.2) hN.2))
               refine As (Af (AW.block (Af (Ah (Ac ?_)))));refine Ac ?_;refine Ab (Aw U (.no U) U (.tm U) (.tm U) Tryz.underlying40 ty3 (fun _=>⟨by omega,(by exact Ax ho)⟩)) U ?_;refine Ab (Ap U (.no U) U (.tm U) ty3 U U) U ?_;refine Ac ?_;refine Ab (B7 U (.no U) U (.tm U) (.tm U)) U ?_;refine Aa (Aq (.tm U) (fun h127=>?_) (fun h127=>?_))
               · try simp at h127
                 refine Bf (Ae (Ac ?_));refine Ab (Be U (.no U) U (.tm U) (.const U) (fun _=>by omega)) U ?_;refine Ak ?_;refine Aa ?_
                 repeat (with_reducible refine Az ?_)
                 refine Round1.next (k+1) ⟨by omega,Y⟩ (by omega) (An rfl ⟨rfl,rfl,rfl,rfl,rfl,rfl,rfl,rfl,Y⟩ ⟨(by rfl),(by rfl),Y⟩)
               · try simp at h127
                 refine As (Ah (Ac ?_));refine Ac ?_;refine Ab (Aw U (.no U) U (.tm U) (.tm U) Tryz.underlying40 ty3 (fun _=>⟨by omega,(by exact Ax ho)⟩)) U ?_;refine Ab (Ap U (.no U) U (.tm U) ty3 U U) U ?_;refine Ac ?_;refine Ab (B7 U (.no U) U (.tm U) (.tm U)) U ?_;refine Aa (Aq (.tm U) (fun h133=>?_) (fun h133=>?_))
                 · exact absurd h133 (by intro h;obtain⟨x,hx,hx2⟩:=take_hit (hor j (by rw [ho];exact congrArg some (by simpa using h)) hne);exact hk2.2 x hx hx2)
                 · try simp at h133
                   refine As (Ae (Ac ?_));refine Ab (Be U (.no U) U (.tm U) (.const U) (fun _=>by omega)) U ?_;refine Ak ?_;refine Aa ?_
                   repeat (with_reducible refine Az ?_)
                   refine Round1.next (j+1) ⟨⟨by omega,fun x hx=>by rcases Nat.lt_or_eq_of_le (Nat.le_of_lt_succ hx) with h|h;exact hk2.2 x h;rw [h,ho];exact fun e=>h127 (by cases e;rfl)⟩,Y⟩ (by omega) (An rfl ⟨rfl,rfl,rfl,rfl,rfl,rfl,rfl,rfl,rfl,rfl,rfl,Y⟩ ⟨(by rfl),(by rfl),Y⟩)
             · try simp at h119
               refine Bf (Ae (Ac ?_));refine Ab (Be U (.no U) U (.tm U) (.const U) (fun _=>by omega)) U ?_;refine Ak ?_;refine Aa ?_
               repeat (with_reducible refine Az ?_)
               refine Round1.next (k+1) ⟨by omega,Y⟩ (by omega) (An rfl ⟨rfl,rfl,rfl,rfl,rfl,rfl,rfl,rfl,Y⟩ ⟨(by rfl),(by rfl),Y⟩)
         · try simp at h78
           refine Bf (Ae (Ac ?_));refine Ab (Be U (.no U) U (.tm U) (.const U) (fun _=>by omega)) U ?_;refine Ak ?_;refine Aa ?_
           repeat (with_reducible refine Az ?_)
           refine Round1.next (i+1) ⟨by omega,Y⟩ (by omega) (An rfl ⟨rfl,rfl,rfl,rfl,rfl,rfl,Y⟩ ⟨(by rfl),(by rfl),Y⟩)
       · try simp at h63
         refine Bf (Ah (Av ?_));refine Aa (A3 (Bn U U ?_))
         rfl
namespace LFnComponents
theorem opensByte:OpensT cByte Tryz.prog 5:=opensTByte Tryz.underlying5
theorem opensByteS:OpensT (fun (l:List (Fin 256))=>[T.sl 1 (l.map cByte)]) Tryz.prog 22:=opensTSlice (c:=cByte) Tryz.underlying22 (by kernel_rfl) (by decide) (fun _=>rfl) opensByte
theorem ownFnComponents:ownKnob Tryz.prog.godebug=none:=by kernel_rfl
theorem laidOutFnComponents:laidOutB Tryz.prog=true:=by kernel_rfl
theorem liftedFnComponents (os:Os) (started:os.Started) (H:Type) (enc:TypeId×Value→H) :
 ReturnsInHanded {} Tryz.checked os 6 .any (Rows.fnComponentsSpec.pre6 enc Tryz.prog Tryz.f6 Rows.fnComponentsRow.domain false) (Rows.fnComponentsSpec.post enc Tryz.prog Tryz.f6 false true false false):=by
 refine returnsInHanded_of_change_shaped (C:=Tryz.checked) ownFnComponents started (by kernel_rfl) Tryz.func6
  (ChangeSpec.witness6 (enc:=enc) (C:=Tryz.checked) false ⟨#[],#[.slice none 0 0],[]⟩ 8 (by kernel_rfl) (by kernel_rfl) (by kernel_rfl) (by kernel_rfl)) ?_
 intro W base args ds gs before hval0 hW hcnd _ hsh _
 have hgood:Go.Q.Good W []:=Go.Q.good_of ⟨hsh,trivial,trivial⟩
 have hval:∀ (j:Nat) t v,Tryz.f6.params[j]?=some t→args[j]?=some v→Value.okWide Tryz.prog W .any base t v:=hval0
 have hW':=hW
 obtain⟨p,q,hA0,hV,rfl,hfz,hnd⟩:=hW
 have hA:DataW.TrodAll enc Tryz.prog W 0 (fun _=>true) true Tryz.f6.params.toList args.toList ds p:=hA0
 rw [Tryz.params6] at hA hval
 obtain⟨v0,vs0,d0,ds0,p0,q0,hargs,rfl,rfl,h0,r0⟩:=trodAll_cons hA
 obtain⟨rfl,rfl,rfl⟩:=trodAll_nil r0
 obtain rfl:args=#[v0]:=by cases args;simp_all
 obtain⟨rfl,rfl⟩:=trodVars_none hV
 obtain⟨a0,len0,cap0,rfl⟩:=okWide_slice Tryz.underlying22 (hval 0 22 v0 rfl rfl)
 have k0:=h0
 have lt0:∀ x∈p0,x.block<W.heap.size:=by obtain⟨m,hm⟩:=k0;exact DataW.trod_lt m _ _ _ hm
 obtain⟨x0,F0,hs0⟩:=OpensT.vl opensByteS h0
 clear hA0 hval0;refine ((lawFnComponents _ (fin_range x0)).2 W _ _ hgood ⟨_,_,_,_,rfl,(show V0r false W (.one _) _ _ from C_fin (Cs_one_inv hs0)),⟨rfl,rfl⟩,rfl⟩).mono fun e W' ⟨v,F,he,hv,_,_,bel⟩=>?_
 have hv2:v=.bool true:=by unfold Vr V0r C at hv;exact hv.1
 subst hv2;subst he
 exact⟨_,rfl,_,_,_,[],_,[],hW',trodAll_mk1 (shut_bool Tryz.underlying4 _),(trodAll_cons_mk (Below.trod laidOutFnComponents (by kernel_rfl) (of_decide_eq_true (by kernel_rfl)) k0 bel lt0) trodAll_mk0),rfl,Below.frame bel _,fun h=>by cases h⟩
theorem jfa:(Rows.fnComponentsRow.inPlace == Tryz.prog.inPlace 6)=true:=by kernel_rfl
theorem jfb:(Rows.fnComponentsRow.unfollowed == Tryz.prog.unfollowed 6)=true:=by kernel_rfl
theorem jfc:(Rows.fnComponentsRow.recurses == Tryz.prog.recurses 6)=true:=by kernel_rfl
theorem jfd:(Rows.fnComponentsRow.named == Tryz.prog.varsNamed 6)=true:=by kernel_rfl
theorem jfe:mapsRowed Tryz.prog=true:=by kernel_rfl
theorem jff:joinedFacts Tryz.prog 6 Tryz.f6 Rows.fnComponentsSpec Rows.fnComponentsRow=true:=by
 unfold joinedFacts
 rw [laidOutFnComponents,jfa,jfb,jfc,jfd,jfe]
 kernel_rfl
theorem provedFnComponents:Rows.FnComponentsSaid:=
 OpenClaim.holds_of_wide 6 Tryz.f6 rfl rfl rfl rfl rfl rfl rfl ⟨rfl,rfl,rfl,rfl,rfl⟩ rfl rfl rfl rfl rfl (by kernel_rfl) Tryz.func6 jff
  (of_decide_eq_true (by kernel_rfl)) (by unfold Func.isWrapper;first|(rw [if_pos (by decide +kernel)];kernel_rfl)|(rw [if_neg (by decide +kernel)];exact⟨rfl,rfl⟩))
  (fun os started H enc _=>liftedFnComponents os started H enc)
#print axioms provedFnComponents
end LFnComponents
end Go.Proofs.YtbecibmlbiebeaaGreat
