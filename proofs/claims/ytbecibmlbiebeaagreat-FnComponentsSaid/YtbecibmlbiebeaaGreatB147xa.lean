import Derived.Test.YtbecibmlbiebeaaGreatB146xa
import Derived.Test.YtbecibmlbiebeaaGreatPosxa
set_option linter.unusedVariables false
set_option linter.unusedSimpArgs false
set_option maxHeartbeats 1000000
set_option maxRecDepth 100000
namespace Go.Q
open Go.D
def pre147 (n:Nat) (p:Pos):Prop:=p.L.length=p.F.length∧p.L.length+n≤24
structure Prt where
 z:Bool
 a:Int
 b:Int
def post147 (n:Nat) (p p':Pos) (_:Prt):Prop:=p'.L.length=p.L.length+n∧p'.F.length=p.F.length+n
def prtV (t:Prt):List Value:=[.bool t.z,.int .i64 t.a,.int .i64 t.b]
def letsG (t:TToken):List Nat→Nat
 | [a,b]=>a+b
 | [a]=>if t.Kind=6 then a else 0
 | _=>if t.Kind=3 then 1 else 0
def lets:Tr→Nat
 | .leaf t=>letsG t []
 | .un t x=>letsG t [lets x]
 | .bin t x y=>letsG t [lets x,lets y]
theorem lets_eq (x:Tr):lets x=letsG x.tok (x.kids.map lets):=by cases x<;>rfl
def cntK (l:List TToken):Nat:=(l.filter fun t=>decide (t.Kind=3)).length
theorem lets_le:∀ x:Tr,good x→lets x≤cntK (toks x):=
 Tr.ind fun x ih hg=>by
  rw [lets_eq]
  rcases (good_cases hg).2.2 with ⟨hk,_⟩|⟨y,hk,hk4⟩|⟨y,z,hk,hk4⟩
  · rw [toks_eq,hk]
    simp only [List.map,letsG,toksL,List.flatMap_nil,List.nil_append,cntK]
    split<;>simp_all
  · have hy:=ih y (by rw [hk];simp) (good_kids hg y (by rw [hk];simp))
    rw [toks_eq,hk]
    simp only [List.map,letsG,toksL_one,cntK,List.filter_append,List.length_append] at hy ⊢
    split<;>omega
  · have hy:=ih y (by rw [hk];simp) (good_kids hg y (by rw [hk];simp))
    have hz:=ih z (by rw [hk];simp) (good_kids hg z (by rw [hk];simp))
    rw [toks_eq,hk]
    simp only [List.map,letsG,toksL,List.flatMap_cons,List.flatMap_nil,List.append_nil,cntK,List.filter_append,List.length_append] at hy hz ⊢
    omega
end Go.Q
namespace Go.Proofs.YtbecibmlbiebeaaGreat
open Go.RowKit Go.Q Go.D
theorem specl10Link (fr tz:Int):FnP Tryz.prog 201 [.one (.v (.int .i64 fr)),.one (.v (.int .i64 tz))] (fun p=>p.F.length≤24) (fun p p' (_:Unit)=>p'.L=p.L∧p'.F.length=p.F.length) (fun _=>[]):=by
 refine FnP.walk Tryz.func201 rfl (by kernel_rfl) Tryz.ntmps201 rfl (fun b p=>rfl) fun w0 b p hp=>?_
 refine Ah (Av ?_);refine Aa (AW.block (Cj (fun (i:Nat) (F1:List Int)=>(i≤F1.length∧F1.length=p.F.length)∧True) (fun (i:Nat) (F1:List Int)=>⟨_,[(6,(true,.a (.one (.t (.v (.int .i64 (i:Nat))))))),(0,_),(1,_),(2,_)],[(700,(boxP 701 702 p)),(701,(rowI p.L)),(702,(rowI F1)),(703,.blk (some 700) b)]⟩) (fun (i:Nat) (F1:List Int)=>F1.length-i) (0) (p.F) ⟨⟨Nat.zero_le _,U⟩,Y⟩ Ai ?_))
 rintro i F1 ⟨hk,he⟩
 refine Af (Ah (Ac ?_));refine Ac ?_;refine Ab (Cg U (.no U) U (.tm U)) U ?_;refine Ab (Am U (.no U) U (.tm U) fl92_3) U ?_;refine Ab (Al U (.no U) U (.tm U) U By U U) U ?_;refine Ab (Bd U (.no U) U (.tm U) (by exact .rf U) Tryz.underlying40) U ?_;refine Ab (Bz U (.no U) U (.tm U) (.tm U)) U ?_;refine Aa (Aq (.tm U) (fun h13=>?_) (fun h13=>?_))
 · try simp only [bit_at,bit_zero,shr_zero] at h13
   try simp only [Int.toNat_natCast] at h13
   try simp at h13
   obtain⟨f1,hf1⟩:∃ ξ,F1[i]?=some ξ:=⟨_,List.getElem?_eq_getElem (by omega)⟩
   refine As (Af (AW.block (Af (A4 (σ':=⟨_,[(0,_),(1,_),(2,_),(6,_)],[(700,_),(701,_),(702,_),(703,_)]⟩) Ai ?_))));refine Ae (Ac ?_);refine Ac ?_;refine Ab (R_shrI U (.no U) U (.tm U) (.tm U) (fun _=>by omega)) U ?_;refine Ab (R_andI U (.no U) U (.tm U) (.const U)) U ?_;refine Ab (B7 U (.no U) U (.tm U) (.const U)) U ?_;refine Aa (Aq (.tm U) (fun h20=>?_) (fun h20=>?_))
   · try simp only [bit_at,bit_zero,shr_zero] at h20
     try simp only [Int.toNat_natCast] at h20
     try simp at h20
     refine A4 (σ':=⟨_,[(0,_),(1,_),(2,_),(6,_),(16,_),(17,_),(18,_),(19,_),(20,_)],[(700,_),(701,_),(702,_),(703,_)]⟩) Ai ?_;apply Cd (N:=14) (k:=9) (Hs:=[0,1,2,4,5,6,7,9,12]) (ms:=[[],[3],[8],[3,8],[8,10],[3,8,10],[8,10,11],[3,8,10,11],[8,10,11,13],[3,8,10,11,13]]) (es:=[(0,3,1),(0,8,2),(1,8,3),(2,3,3),(2,10,4),(3,10,5),(4,3,5),(4,11,6),(5,11,7),(6,3,7),(6,13,8),(7,13,9),(8,3,9)]) (σ1:=_) (SM:=⟨_,[(0,_),(1,_),(2,_),(6,_),(16,_),(17,_),(18,_),(19,_),(20,_),(21,_),(22,_),(23,_),(25,_),(26,_),(27,_),(28,_),(30,_),(33,_)],[(700,_),(701,_),(702,_),(703,_)]⟩)
     case hm=>kernel_rfl
     case hB=>kernel_rfl
     case hP=>kernel_rfl
     case hL=>kernel_rfl
     case hN=>rfl
     case hpre=>
      apply Ay (P:=Tryz.prog) 0 rfl (Ar rfl (.no rfl) rfl (.tm rfl)) (by exact HasV.slot (t:=0) rfl) rfl rfl rfl;apply Ay (P:=Tryz.prog) 1 rfl ((Cg rfl (.no rfl) rfl (.tm rfl))) (by exact .pp) rfl rfl rfl;apply Ay (P:=Tryz.prog) 2 rfl ((by exact Am rfl (.no rfl) rfl (.tm rfl) fl92_3)) (by exact .pp) rfl rfl rfl;apply Ay (P:=Tryz.prog) 4 rfl (Ar rfl (.no rfl) rfl (.tm rfl)) (by exact HasV.slot (t:=6) rfl) rfl rfl rfl;apply Ay (P:=Tryz.prog) 5 rfl (Ar rfl (.no rfl) rfl (.tm rfl)) (by exact HasV.slot (t:=0) rfl) rfl rfl rfl;apply Ay (P:=Tryz.prog) 6 rfl ((by exact Cg rfl (.no rfl) rfl (.tm rfl))) (by exact .pp) rfl rfl rfl;apply Ay (P:=Tryz.prog) 7 rfl ((by exact Am rfl (.no rfl) rfl (.tm rfl) fl92_3)) (by exact .pp) rfl rfl rfl;apply Ay (P:=Tryz.prog) 9 rfl (Ar rfl (.no rfl) rfl (.tm rfl)) (by exact HasV.slot (t:=6) rfl) rfl rfl rfl
      apply Ay (P:=Tryz.prog) 12 rfl (Ar rfl (.no rfl) rfl (.tm rfl)) (by exact HasV.slot (t:=2) rfl) rfl rfl rfl;exact PreOk.nil
     case hS=>exact A8
     case hH=>
      refine⟨⟨_,_,_,rfl,rfl,rfl,fun σ' hs=>Ar rfl (.no rfl) (Ag hs rfl) (.tm (hs.slots _ _ rfl))⟩,?_⟩
      refine⟨⟨_,_,_,rfl,rfl,rfl,fun σ' hs=>(by exact Cg rfl (.no rfl) (Ag hs rfl) (.tm (hs.slots _ _ rfl)))⟩,?_⟩
      refine⟨⟨_,_,_,rfl,rfl,rfl,fun σ' hs=>(by exact Am rfl (.no rfl) (Ag hs rfl) (.tm (hs.slots _ _ rfl)) fl92_3)⟩,?_⟩
      refine⟨⟨_,_,_,rfl,rfl,rfl,fun σ' hs=>Ar rfl (.no rfl) (Ag hs rfl) (.tm (hs.slots _ _ rfl))⟩,?_⟩
      refine⟨⟨_,_,_,rfl,rfl,rfl,fun σ' hs=>Ar rfl (.no rfl) (Ag hs rfl) (.tm (hs.slots _ _ rfl))⟩,?_⟩
      refine⟨⟨_,_,_,rfl,rfl,rfl,fun σ' hs=>(by exact Cg rfl (.no rfl) (Ag hs rfl) (.tm (hs.slots _ _ rfl)))⟩,?_⟩
      refine⟨⟨_,_,_,rfl,rfl,rfl,fun σ' hs=>(by exact Am rfl (.no rfl) (Ag hs rfl) (.tm (hs.slots _ _ rfl)) fl92_3)⟩,?_⟩
      refine⟨⟨_,_,_,rfl,rfl,rfl,fun σ' hs=>Ar rfl (.no rfl) (Ag hs rfl) (.tm (hs.slots _ _ rfl))⟩,?_⟩
      refine⟨⟨_,_,_,rfl,rfl,rfl,fun σ' hs=>Ar rfl (.no rfl) (Ag hs rfl) (.tm (hs.slots _ _ rfl))⟩,?_⟩
      trivial
     apply Dh.new0 (i:=3)
     case ha|ho|hb=>rfl
     case hE=>
      intro w9  hp
      obtain _:=hp
      refine Ab (by exact Al U (.no U) U (.tm U) U By U U) U ?_;refine Aa ?_;exact A7 (Ai (σ':=⟨_,[(0,_),(1,_),(2,_),(6,_),(16,_),(17,_),(18,_),(19,_),(20,_),(21,_),(22,_),(23,_),(24,_),(25,_),(26,_),(27,_),(28,_),(30,_),(33,_)],[(700,_),(701,_),(702,_),(703,_)]⟩)) U
     case hS=>intros;exact A8
     apply Dh.new0 (i:=8)
     case ha|ho|hb=>rfl
     case hE=>
      intro w9  hp
      obtain _:=hp
      refine Ab (Al U (.no U) U (.tm U) U By U U) U ?_;refine Aa ?_;exact A7 (Ai (σ':=⟨_,[(0,_),(1,_),(2,_),(6,_),(16,_),(17,_),(18,_),(19,_),(20,_),(21,_),(22,_),(23,_),(25,_),(26,_),(27,_),(28,_),(29,_),(30,_),(33,_)],[(700,_),(701,_),(702,_),(703,_)]⟩)) U
     case hS=>intros;exact A8
     apply Dh.new0 (i:=8)
     case ha|ho|hb=>rfl
     case hE=>
      intro w9  hp
      obtain _:=hp
      refine Ab (Al U (.no U) U (.tm U) U By U U) U ?_;refine Aa ?_;exact A7 (Ai (σ':=⟨_,[(0,_),(1,_),(2,_),(6,_),(16,_),(17,_),(18,_),(19,_),(20,_),(21,_),(22,_),(23,_),(24,_),(25,_),(26,_),(27,_),(28,_),(29,_),(30,_),(33,_)],[(700,_),(701,_),(702,_),(703,_)]⟩)) U
     case hS=>intros;exact A8
     apply Dh.old0 (i:=3)
     case ha|ho|hb=>rfl
     case hE=>
      intro w9  hp
      obtain _:=hp
      refine Ab (Al U (.no U) U (.tm U) U By U U) U ?_;exact Aa Ai
     apply Dh.new0 (i:=10)
     case ha|ho|hb=>rfl
     case hE=>
      intro w9  hp
      obtain _:=hp
      refine Ab (A9 U (.no U) U (.tm U) U (.tm U) Tryz.underlying40 ty3 (fun _=>⟨by omega,(by exact Ax hf1)⟩)) U ?_;refine Aa ?_;exact A7 (Ai (σ':=⟨_,[(0,_),(1,_),(2,_),(6,_),(16,_),(17,_),(18,_),(19,_),(20,_),(21,_),(22,_),(23,_),(25,_),(26,_),(27,_),(28,_),(30,_),(31,_),(33,_)],[(700,_),(701,_),(702,_),(703,_)]⟩)) U
     case hS=>intros;exact A8
     apply Dh.new0 (i:=10)
     case ha|ho|hb=>rfl
     case hE=>
      intro w9  hp
      obtain _:=hp
      refine Ab (A9 U (.no U) U (.tm U) U (.tm U) Tryz.underlying40 ty3 (fun _=>⟨by omega,(by exact Ax hf1)⟩)) U ?_;refine Aa ?_;exact A7 (Ai (σ':=⟨_,[(0,_),(1,_),(2,_),(6,_),(16,_),(17,_),(18,_),(19,_),(20,_),(21,_),(22,_),(23,_),(24,_),(25,_),(26,_),(27,_),(28,_),(30,_),(31,_),(33,_)],[(700,_),(701,_),(702,_),(703,_)]⟩)) U
     case hS=>intros;exact A8
     apply Dh.old0 (i:=3)
     case ha|ho|hb=>rfl
     case hE=>
      intro w9  hp
      obtain _:=hp
      refine Ab (Al U (.no U) U (.tm U) U By U U) U ?_;exact Aa Ai
     apply Dh.new0 (i:=11)
     case ha|ho|hb=>rfl
     case hE=>
      intro w9  hp
      obtain _:=hp
      refine Ab (Bv U (.no U) U (.tm U) U (by exact Ax hf1) ty3 U U) U ?_;refine Aa ?_;exact A7 (Ai (σ':=⟨_,[(0,_),(1,_),(2,_),(6,_),(16,_),(17,_),(18,_),(19,_),(20,_),(21,_),(22,_),(23,_),(25,_),(26,_),(27,_),(28,_),(30,_),(32,_),(33,_)],[(700,_),(701,_),(702,_),(703,_)]⟩)) U
     case hS=>intros;exact A8
     apply Dh.new0 (i:=11)
     case ha|ho|hb=>rfl
     case hE=>
      intro w9  hp
      obtain _:=hp
      refine Ab (Bv U (.no U) U (.tm U) U (by exact Ax hf1) ty3 U U) U ?_;refine Aa ?_;exact A7 (Ai (σ':=⟨_,[(0,_),(1,_),(2,_),(6,_),(16,_),(17,_),(18,_),(19,_),(20,_),(21,_),(22,_),(23,_),(24,_),(25,_),(26,_),(27,_),(28,_),(30,_),(32,_),(33,_)],[(700,_),(701,_),(702,_),(703,_)]⟩)) U
     case hS=>intros;exact A8
     apply Dh.old0 (i:=3)
     case ha|ho|hb=>rfl
     case hE=>
      intro w9  hp
      obtain _:=hp
      refine Ab (Al U (.no U) U (.tm U) U By U U) U ?_;exact Aa Ai
     apply Dh.new0 (i:=13)
     case ha|ho|hb=>rfl
     case hE=>
      intro w9  hp
      obtain _:=hp
      refine Ab (R_orI U (.no U) U (.tm U) (.tm U)) U ?_;refine Aa ?_;exact A7 (Ai (σ':=⟨_,[(0,_),(1,_),(2,_),(6,_),(16,_),(17,_),(18,_),(19,_),(20,_),(21,_),(22,_),(23,_),(25,_),(26,_),(27,_),(28,_),(30,_),(33,_),(34,_)],[(700,_),(701,_),(702,_),(703,_)]⟩)) U
     case hS=>intros;exact A8
     apply Dh.new0 (i:=13)
     case ha|ho|hb=>rfl
     case hE=>
      intro w9  hp
      obtain _:=hp
      refine Ab (R_orI U (.no U) U (.tm U) (.tm U)) U ?_;refine Aa ?_;exact A7 (Ai (σ':=⟨_,[(0,_),(1,_),(2,_),(6,_),(16,_),(17,_),(18,_),(19,_),(20,_),(21,_),(22,_),(23,_),(24,_),(25,_),(26,_),(27,_),(28,_),(30,_),(33,_),(34,_)],[(700,_),(701,_),(702,_),(703,_)]⟩)) U
     case hS=>intros;exact A8
     apply Dh.old0 (i:=3)
     case ha|ho|hb=>rfl
     case hE=>
      intro w9  hp
      obtain _:=hp
      refine Ab (Al U (.no U) U (.tm U) U By U U) U ?_;exact Aa Ai
     refine Dh.fin0 (k:=9) rfl ?_;intro  hp
     obtain _:=hp
     refine Ab (A9 U (.no U) U (.tm U) U (.tm U) Tryz.underlying40 ty3 (fun _=>⟨by omega,(by exact Ax hf1)⟩)) U ?_;refine Ci (Cm U U U (.tm U) U (.tm U) U (by exact Ax hf1) ty3 U U U U) ?_;refine Aa (A4 (σ':=⟨_,[(0,_),(1,_),(2,_),(6,_)],[(700,_),(701,_),(702,_),(703,_)]⟩) Ai ?_);refine Ae (Ac ?_);refine Ab (Be U (.no U) U (.tm U) (.const U) (fun _=>by omega)) U ?_;refine Ak ?_;refine Aa ?_
     repeat (with_reducible refine Az ?_)
     refine Round2.next (i+1) (F1.set i (bits .or .i64 f1 tz)) ⟨⟨by simp;omega,by simp;exact hk.2⟩,Y⟩ (by simp;omega) (An rfl ⟨rfl,rfl,rfl,rfl,Y⟩ ⟨(by rfl),(by rfl),(by refine congrArg (fun r=>some (R.row 1 r)) ?_;first|rfl|(simp [List.map_set];done)),(by rfl),Y⟩)
   · try simp only [bit_at,bit_zero,shr_zero] at h20
     try simp only [Int.toNat_natCast] at h20
     try simp at h20
     refine As (Ae (Ac ?_));refine Ab (Be U (.no U) U (.tm U) (.const U) (fun _=>by omega)) U ?_;refine Ak ?_;refine Aa ?_
     repeat (with_reducible refine Az ?_)
     refine Round2.next (i+1) (F1) ⟨⟨by omega,hk.2⟩,Y⟩ (by omega) (An rfl ⟨rfl,rfl,rfl,rfl,Y⟩ ⟨(by rfl),(by rfl),(by refine congrArg (fun r=>some (R.row 1 r)) ?_;first|rfl|(simp [List.map_set];done)),(by rfl),Y⟩)
 · try simp only [bit_at,bit_zero,shr_zero] at h13
   try simp only [Int.toNat_natCast] at h13
   try simp at h13
   refine Bf ?_
   show PRes _ _ _ _ _ _
   refine⟨⟨p.L,F1,p.x,p.y,p.z⟩,(),_,_,?_,rfl,(by rfl),(by rfl),rfl,rfl,.nil,.inl ⟨rfl,rfl⟩⟩
   · exact⟨rfl,hk.2⟩
theorem specl10Build1 (x:Tr) (hg:good x) (hz:(toks x).length≤1048576) (ih:∀ y∈x.kids,∀ L,L=(toks y).map cToken→FnP Tryz.prog 135 [.one (.sl 4 L)] (pre147 (lets y)) (post147 (lets y)) prtV):FnP Tryz.prog 135 [.one (.sl 4 ((toks x).map cToken))] (pre147 (lets x)) (post147 (lets x)) prtV:=by
 refine FnP.walk Tryz.func135 rfl (by kernel_rfl) Tryz.ntmps135 rfl (fun b p=>rfl) fun w0 b p hp=>?_
 have hlast:=tok_last x
 have hpos:=toks_pos x
 have hp1:=hp.1
 have hp2:=hp.2
 refine Ah (Bh (Bl 4 U U U in160 U U U) U ?_);refine Aa (Ah (Ac ?_));refine Ab (Bd U (.no U) U (.tm U) (by exact .t) Tryz.underlying24) U ?_;refine Ab (Co U (.no U) U (.tm U) (.const U) (fun _=>by omega)) U ?_;refine Ak ?_;refine Aa (Ah (Ac ?_));refine Ac ?_;refine Ab (Aw U (.no U) U (.tm U) (.tm U) Tryz.underlying24 Ch (fun _=>⟨by omega,Ax hlast⟩)) U ?_;refine Ab (Ap U (.no U) U (.tm U) Ch U U) U ?_;refine Bh (Bl 6 U U U C9 U U U) U ?_;refine A5 (Au U U U (.tm U) (.tm U) U Ch U U U (by kernel_rfl) U) ?_;refine Aa (Af (Af (A4 (σ':=⟨_,[(0,_),(1,_),(4,_),(5,_),(6,_)],[(700,_),(701,_),(702,_),(703,_),(4,_),(6,_)]⟩) Ai ?_)));refine Ae (Ab (Am U (.no U) U (.tm U) fl88_0) U ?_);refine Ab (Al U (.no U) U (.tm U) U ty3 U U) U ?_;refine Aa (AW.block (Ah (Ab (B7 U (.no U) U (.tm U) (.const U)) U ?_)));refine Ak ?_;refine Aa (Aq (.tm U) (fun h25=>?_) (fun h25=>?_))
 · try simp at h25
   have hle:lets x=0:=by (rw [lets_eq,kind_no' hg (by omega)];simp only [List.map,letsG];rw [if_neg (by omega)])
   refine Ah (Ab (Bo (ps:=[(0,.const (.bool true))]) U U U in160 U U st160 (.cons (.const U) U U fp160_0 .nil) U) U ?_);refine A5 (Au U U U (.tm U) (.tm U) U C0 U U U (by kernel_rfl) U) ?_;refine Aa (A3 ?_)
   show PRes _ _ _ _ _ _
   refine⟨p,⟨_,_,_⟩,_,_,?_,rfl,(by rfl),(by rfl),rfl,rfl,(.cell rfl rfl C0 rfl rfl .nil),.inr ⟨?_,rfl⟩⟩
   · exact⟨by omega,by omega⟩
   · simp [prtV]
 · try simp at h25
   refine Ah (Ab (B7 U (.no U) U (.tm U) (.const U)) U ?_);refine Ak ?_;refine Aa (Aq (.tm U) (fun h28=>?_) (fun h28=>?_))
   · try simp at h28
     have hle:lets x=1:=by (rw [lets_eq,kind_no' hg (by omega)];simp only [List.map,letsG];rw [if_pos (by omega)])
     refine Ah (Ac ?_);refine Ab (Cg U (.no U) U (.tm U)) U ?_;refine Ab (Am U (.no U) U (.tm U) fl92_0) U ?_;refine Ab (Al U (.no U) U (.tm U) U By U U) U ?_;refine Ab (Bd U (.no U) U (.tm U) (by exact .rf U) Tryz.underlying40) U ?_;refine Ab (R_shlN U (.no U) U (.const U) (.tm U) (fun _=>by omega)) U ?_;refine Ak ?_;refine Aa (Af (A4 (σ':=⟨_,[(0,_),(1,_),(4,_),(5,_),(6,_),(7,_),(24,_)],[(700,_),(701,_),(702,_),(703,_),(4,_),(6,_)]⟩) Ai ?_));refine A4 (σ':=⟨_,[(0,_),(1,_),(4,_),(5,_),(6,_),(7,_),(24,_)],[(700,_),(701,_),(702,_),(703,_),(4,_),(6,_)]⟩) Ai ?_;apply Cd (N:=9) (k:=4) (Hs:=[0,1,2,3,5,6]) (ms:=[[],[4],[7],[4,7],[4,7,8]]) (es:=[(0,4,1),(0,7,2),(1,7,3),(2,4,3),(3,8,4)]) (σ1:=_) (SM:=⟨_,[(0,_),(1,_),(4,_),(5,_),(6,_),(7,_),(24,_),(36,_),(37,_),(38,_),(39,_),(41,_),(42,_)],[(702,_),(703,_),(4,_),(6,_)]⟩)
     case hm=>kernel_rfl
     case hB=>kernel_rfl
     case hP=>kernel_rfl
     case hL=>kernel_rfl
     case hN=>rfl
     case hpre=>
      apply Ay (P:=Tryz.prog) 0 rfl (Ar rfl (.no rfl) rfl (.tm rfl)) (by exact HasV.slot (t:=0) rfl) rfl rfl rfl;apply Ay (P:=Tryz.prog) 1 rfl (Ar rfl (.no rfl) rfl (.tm rfl)) (by exact HasV.slot (t:=0) rfl) rfl rfl rfl;apply Ay (P:=Tryz.prog) 2 rfl ((Cg rfl (.no rfl) rfl (.tm rfl))) (by exact .pp) rfl rfl rfl;apply Ay (P:=Tryz.prog) 3 rfl ((by exact Am rfl (.no rfl) rfl (.tm rfl) fl92_0)) (by exact .pp) rfl rfl rfl;apply Ay (P:=Tryz.prog) 5 rfl ((by exact Am rfl (.no rfl) rfl (.tm rfl) fl88_1)) (by exact .pp) rfl rfl rfl;apply Ay (P:=Tryz.prog) 6 rfl ((by exact Al rfl (.no rfl) rfl (.tm rfl) rfl ty3 rfl rfl)) (by exact HasV.load (x:=.tmp 41) (.tm rfl) rfl ty3 rfl rfl) rfl rfl rfl;exact PreOk.nil
     case hS=>exact A8
     case hH=>
      refine⟨⟨_,_,_,rfl,rfl,rfl,fun σ' hs=>Ar rfl (.no rfl) (Ag hs rfl) (.tm (hs.slots _ _ rfl))⟩,?_⟩
      refine⟨⟨_,_,_,rfl,rfl,rfl,fun σ' hs=>Ar rfl (.no rfl) (Ag hs rfl) (.tm (hs.slots _ _ rfl))⟩,?_⟩
      refine⟨⟨_,_,_,rfl,rfl,rfl,fun σ' hs=>(by exact Cg rfl (.no rfl) (Ag hs rfl) (.tm (hs.slots _ _ rfl)))⟩,?_⟩
      refine⟨⟨_,_,_,rfl,rfl,rfl,fun σ' hs=>(by exact Am rfl (.no rfl) (Ag hs rfl) (.tm (hs.slots _ _ rfl)) fl92_0)⟩,?_⟩
      refine⟨⟨_,_,_,rfl,rfl,rfl,fun σ' hs=>(by exact Am rfl (.no rfl) (Ag hs rfl) (.tm (hs.slots _ _ rfl)) fl88_1)⟩,?_⟩
      refine⟨⟨_,_,_,rfl,rfl,rfl,fun σ' hs=>(by exact Al rfl (.no rfl) (Ag hs rfl) (.tm (hs.slots _ _ rfl)) (hs.res _ _ rfl) ty3 rfl rfl)⟩,?_⟩
      trivial
     apply Dh.new0 (i:=4)
     case ha|ho|hb=>rfl
     case hE=>
      intro w9  hp
      obtain _:=hp
      refine Ab (by exact Al U (.no U) U (.tm U) U By U U) U ?_;refine Aa ?_;exact A7 (Ai (σ':=⟨_,[(0,_),(1,_),(4,_),(5,_),(6,_),(7,_),(24,_),(36,_),(37,_),(38,_),(39,_),(40,_),(41,_),(42,_)],[(700,_),(701,_),(702,_),(703,_),(4,_),(6,_)]⟩)) U
     case hS=>intros;exact A8
     apply Dh.new0 (i:=7)
     case ha|ho|hb=>rfl
     case hE=>
      intro w9  hp
      obtain _:=hp
      refine Ab (B6 (xs:=[.tmp 42]) (rows:=[cInt x.tok.Letter]) U U U (.cons (.tm U) U U .nil) Tryz.underlying40 in3 U U (U)) U ?_;refine Aa ?_;exact A7 (Ai (σ':=⟨_,[(0,_),(1,_),(4,_),(5,_),(6,_),(7,_),(24,_),(36,_),(37,_),(38,_),(39,_),(41,_),(42,_),(43,_)],[(700,_),(701,_),(702,_),(703,_),(4,_),(6,_)]⟩)) U
     case hS=>intros;exact A8
     apply Dh.new0 (i:=7)
     case ha|ho|hb=>rfl
     case hE=>
      intro w9  hp
      obtain _:=hp
      refine Ab (B6 (xs:=[.tmp 42]) (rows:=[cInt x.tok.Letter]) U U U (.cons (.tm U) U U .nil) Tryz.underlying40 in3 U U (U)) U ?_;refine Aa ?_;exact A7 (Ai (σ':=⟨_,[(0,_),(1,_),(4,_),(5,_),(6,_),(7,_),(24,_),(36,_),(37,_),(38,_),(39,_),(40,_),(41,_),(42,_),(43,_)],[(700,_),(701,_),(702,_),(703,_),(4,_),(6,_)]⟩)) U
     case hS=>intros;exact A8
     apply Dh.old0 (i:=4)
     case ha|ho|hb=>rfl
     case hE=>
      intro w9  hp
      obtain _:=hp
      refine Ab (Al U (.no U) U (.tm U) U By U U) U ?_;exact Aa Ai
     apply Dh.new0 (i:=8)
     case ha|ho|hb=>rfl
     case hE=>
      intro w9  hp
      obtain _:=hp
      refine Bk (Bt U U U (.tm U) U (.tm U) (by exact .t) (by rfl) Tryz.underlying40 in3 U (by (simp [chunk];omega)) (by (unfold maxLen;simp [chunk];omega))) U ?_;refine Aa ?_;exact A7 (Ai (σ':=⟨_,[(0,_),(1,_),(4,_),(5,_),(6,_),(7,_),(24,_),(36,_),(37,_),(38,_),(39,_),(41,_),(42,_),(44,_)],[(700,_),(701,_),(702,_),(703,_),(4,_),(6,_)]⟩)) U
     case hS=>intros;exact A8
     refine Dh.fin0 (k:=4) rfl ?_;intro  hp
     obtain _:=hp
     refine Ab (Cg U (.no U) U (.tm U)) U ?_;refine Ab (Am U (.no U) U (.tm U) fl92_0) U ?_;refine A5 (Au U U U (.tm U) (.tm U) U By U U U (by kernel_rfl) U) ?_;refine Aa (Af (A4 (σ':=⟨_,[(0,_),(1,_),(4,_),(5,_),(6,_),(7,_),(24,_)],[(700,_),(701,_),(702,_),(703,_),(4,_),(6,_)]⟩) Ai ?_));refine Ae (Ac ?_);refine Ac ?_;refine Ab (Cg U (.no U) U (.tm U)) U ?_;refine Ab (Am U (.no U) U (.tm U) fl92_3) U ?_;refine Ab (Al U (.no U) U (.tm U) U By U U) U ?_;refine Ab (B6 (xs:=[.const (.int .i64 (0))]) (rows:=[cInt 0]) U U U (.cons (.const U) U U .nil) Tryz.underlying40 in3 U U (U)) U ?_;refine Bk (Bt U U U (.tm U) U (.tm U) (by exact .t) (by rfl) Tryz.underlying40 in3 U (by (simp [chunk];omega)) (by (unfold maxLen;simp [chunk];omega))) U ?_;refine Bq (σ':=⟨_,[(0,_),(1,_),(4,_),(5,_),(6,_),(7,_),(24,_),(47,_),(53,_)],[(700,_),(701,_),(702,_),(703,_),(4,_),(6,_)]⟩) Ai ?_
     refine Ab (Cg U (.no U) U (.tm U)) U ?_;refine Ab (Am U (.no U) U (.tm U) fl92_3) U ?_;refine A5 (Au U U U (.tm U) (.tm U) U By U U U (by kernel_rfl) U) ?_;refine Aa (Ah (Ac ?_));refine Ac ?_;refine Ab (Bo (ps:=[(1,.tmp 56),(2,.tmp 57)]) U U U in160 U U st160 (.cons (.tm U) U U fp160_1 (.cons (.tm U) U U fp160_2 .nil)) U) U ?_;refine A5 (Au U U U (.tm U) (.tm U) U C0 U U U (by kernel_rfl) U) ?_;refine Aa (A3 ?_)
     show PRes _ _ _ _ _ _
     refine⟨⟨p.L++[x.tok.Letter],p.F++[0],p.x,p.y,p.z⟩,⟨_,_,_⟩,_,_,?_,rfl,(by (refine congrArg (fun r=>some (R.row 1 r)) ?_;simp [cInt];done)),(by (refine congrArg (fun r=>some (R.row 1 r)) ?_;simp [cInt];done)),rfl,rfl,(.cell rfl rfl C0 rfl rfl .nil),.inr ⟨?_,rfl⟩⟩
     · exact⟨by simp;omega,by simp;omega⟩
     · simp [prtV]
   · try simp at h28
     refine Ah (Ab (B7 U (.no U) U (.tm U) (.const U)) U ?_);refine Ak ?_;refine Aa (Aq (.tm U) (fun h59=>?_) (fun h59=>?_))
     · try simp at h59
       obtain⟨y,z,hk2,hte,hgy,hgz⟩:=kind_two' hg (by omega)
       have hle:lets x=lets y+lets z:=by (rw [lets_eq,hk2];rfl)
       have hln:(toks x).length=(toks y).length+(toks z).length+1:=by rw [hte];simp;omega
       refine Af (A4 (σ':=⟨_,[(0,_),(1,_),(4,_),(5,_),(6,_),(24,_)],[(700,_),(701,_),(702,_),(703,_),(4,_),(6,_)]⟩) Ai ?_);refine Ae (Ac ?_);refine Ac ?_;refine Ab (Cb (m:=(toks y).length+(toks z).length) U (.no U) U (.tm U) .no (.yes (.tm U) (fun _=>by first|omega|(simp<;>omega))) Tryz.underlying24 Ch (fun _=>⟨by omega,by first|omega|(simp;omega)⟩)) U ?_;refine Ab (A6 (FnT.fr (l8Start_at hgz (pre:=toks y) (by simp;omega) _ (sl_pre2 hte))) U (.no U) U (.cons (.tm U) U .nil)) U ?_;refine Ak ?_;refine Aa (Ah (Ac ?_));refine Ac ?_;refine Ac ?_;refine Ab (Cb (m:=(toks y).length) U (.no U) U (.tm U) .no (.yes (.tm U) (fun _=>by first|omega|(simp<;>omega))) Tryz.underlying24 Ch (fun _=>⟨by omega,by first|omega|(simp;omega)⟩)) U ?_
       refine Bi (R_callP (u:=700) (i1:=701) (i2:=702) (p:=p) (ih y (by rw [hk2];simp) _ (sl_pre (by rw [hte,List.append_assoc]))) U U U (.tm U) U (by rfl) (by rfl) ⟨by decide,by decide,by decide⟩ U (.cons (.tm U) U .nil) ⟨hp1,by omega⟩ (fun _=>rfl)) ?_
       rintro _ ⟨z69,hz69,rfl⟩
       try dsimp only at hz69
       refine Bh (Bl 9 U U U in160 U U U) U ?_;refine A5 (Au U U U (.tm U) (.tm U) U C0 U U U (by kernel_rfl) U) ?_;refine Aa (Af (A4 (σ':=⟨_,[(0,_),(1,_),(4,_),(5,_),(6,_),(8,_),(9,_),(24,_)],[(700,_),(701,_),(702,_),(703,_),(4,_),(6,_),(9,_)]⟩) Ai ?_));refine Ae (Ac ?_);refine Ac ?_;refine Ac ?_;refine Ac ?_;refine Ab (Cb (n:=(toks y).length) (m:=(toks y).length+(toks z).length) U (.no U) U (.tm U) (.yes (.tm U) (fun _=>by first|omega|(simp<;>omega))) (.yes (.tm U) (fun _=>by first|omega|(simp<;>omega))) Tryz.underlying24 Ch (fun _=>⟨by omega,by first|omega|(simp;omega)⟩)) U ?_;refine Bi (R_callP (u:=700) (i1:=701) (i2:=702) (p:=z69.1) (ih z (by rw [hk2];simp) _ (sl_mid hte)) U U U (.tm U) U (by rfl) (by rfl) ⟨by decide,by decide,by decide⟩ U (.cons (.tm U) U .nil) (by obtain⟨h3,h4⟩:=hz69;exact⟨by omega,by omega⟩) (fun _=>rfl)) ?_
       rintro _ ⟨z75,hz75,rfl⟩
       try dsimp only at hz75
       refine Bh (Bl 10 U U U in160 U U U) U ?_;refine A5 (Au U U U (.tm U) (.tm U) U C0 U U U (by kernel_rfl) U) ?_;refine Aa (Af (A4 (σ':=⟨_,[(0,_),(1,_),(4,_),(5,_),(6,_),(8,_),(9,_),(10,_),(24,_)],[(700,_),(701,_),(702,_),(703,_),(4,_),(6,_),(9,_),(10,_)]⟩) Ai ?_));refine Ae (Ac ?_);refine Ab (Am U (.no U) U (.tm U) Db) U ?_;refine Ab (Al U (.no U) U (.tm U) U ty3 U U) U ?_;refine Ab (Am U (.no U) U (.tm U) fl160_1) U ?_;refine Ab (Al U (.no U) U (.tm U) U ty3 U U) U ?_;refine Bi (R_callP (u:=700) (i1:=701) (i2:=702) (p:=z75.1) (specl10Link _ _) U U U (.tm U) U (by rfl) (by rfl) ⟨by decide,by decide,by decide⟩ U (.cons (.tm U) U (.cons (.tm U) U .nil)) (by obtain⟨h3,h4⟩:=hz69;obtain⟨h5,h6⟩:=hz75;show z75.1.F.length≤24;omega) (fun _=>rfl)) ?_
       rintro _ ⟨z81,hz81,rfl⟩
       try dsimp only at hz81
       refine Aa (Af (A4 (σ':=⟨_,[(0,_),(1,_),(4,_),(5,_),(6,_),(8,_),(9,_),(10,_),(24,_)],[(700,_),(701,_),(702,_),(703,_),(4,_),(6,_),(9,_),(10,_)]⟩) Ai ?_));refine Ae (Ab (Am U (.no U) U (.tm U) fl160_0) U ?_);refine Ab (Al U (.no U) U (.tm U) U ty4 U U) U ?_;refine Ac ?_;refine Ab (Am U (by exact .yes1 U U U U) U (.tmp U (by exact fun _=>rfl)) fl160_0) U ?_;refine Ab (Al U (by exact .yes1 U U U U) U (.tmp U (by exact id)) U ty4 U U) U ?_;refine Ab (Cf U (.no U) U (.tm U) (.tmp U (by exact id))) U ?_;refine Ab (Am U (.no U) U (.tm U) fl160_1) U ?_;refine Ab (Al U (.no U) U (.tm U) U ty3 U U) U ?_;refine Ab (Am U (.no U) U (.tm U) Db) U ?_;refine Ab (Al U (.no U) U (.tm U) U ty3 U U) U ?_;refine Ab (Bo (ps:=[(0,.tmp 87),(1,.tmp 89),(2,.tmp 91)]) U U U in160 U U st160 (.cons (.tm U) U U fp160_0 (.cons (.tm U) U U fp160_1 (.cons (.tm U) U U fp160_2 .nil))) U) U ?_
       refine Bh (Bl 11 U U U in160 U U U) U ?_;refine A5 (Au U U U (.tm U) (.tm U) U C0 U U U (by kernel_rfl) U) ?_;refine Aa (Af (Af (A4 (σ':=⟨_,[(0,_),(1,_),(4,_),(5,_),(6,_),(8,_),(9,_),(10,_),(11,_),(24,_)],[(700,_),(701,_),(702,_),(703,_),(4,_),(6,_),(9,_),(10,_),(11,_)]⟩) Ai ?_)));refine Ae (Ab (Am U (.no U) U (.tm U) fl160_0) U ?_);refine Ab (Al U (.no U) U (.tm U) U ty4 U U) U ?_;refine Aa (Aq (.tm U) (fun h94=>?_) (fun h94=>?_))
       · try simp at h94
         refine Ae (Ab (Am U (.no U) U (.tm U) fl160_1) U ?_);refine Ab (Al U (.no U) U (.tm U) U ty3 U U) U ?_;refine Ab (Am U (.no U) U (.tm U) fl160_1) U ?_;refine Ab (Al U (.no U) U (.tm U) U ty3 U U) U ?_;refine Ab (R_orI U (.no U) U (.tm U) (.tm U)) U ?_;refine Ab (Am U (.no U) U (.tm U) fl160_1) U ?_;refine A5 (Au U U U (.tm U) (.tm U) U ty3 U U U (by kernel_rfl) U) ?_;refine Aa (Af (Af (A4 (σ':=⟨_,[(0,_),(1,_),(4,_),(5,_),(6,_),(8,_),(9,_),(10,_),(11,_),(24,_)],[(700,_),(701,_),(702,_),(703,_),(4,_),(6,_),(9,_),(10,_),(11,_)]⟩) Ai ?_)));refine Ae (Ab (Am U (.no U) U (.tm U) fl160_0) U ?_);refine Ab (Al U (.no U) U (.tm U) U ty4 U U) U ?_;refine Aa (Aq (.tm U) (fun h102=>?_) (fun h102=>?_))
         · try simp at h102
           refine Ae (Ab (Am U (.no U) U (.tm U) Db) U ?_);refine Ab (Al U (.no U) U (.tm U) U ty3 U U) U ?_;refine Ab (Am U (.no U) U (.tm U) Db) U ?_;refine Ab (Al U (.no U) U (.tm U) U ty3 U U) U ?_;refine Ab (R_orI U (.no U) U (.tm U) (.tm U)) U ?_;refine Ab (Am U (.no U) U (.tm U) Db) U ?_;refine A5 (Au U U U (.tm U) (.tm U) U ty3 U U U (by kernel_rfl) U) ?_;refine Aa (Af (A4 (σ':=⟨_,[(0,_),(1,_),(4,_),(5,_),(6,_),(8,_),(9,_),(10,_),(11,_),(24,_)],[(700,_),(701,_),(702,_),(703,_),(4,_),(6,_),(9,_),(10,_),(11,_)]⟩) Ai ?_));refine Ae (Ab (Al U (.no U) U (.tm U) U C0 U U) U ?_);refine A5 (Au U U U (.tm U) (.tm U) U C0 U U U (by kernel_rfl) U) ?_;refine Aa (A3 ?_)
           show PRes _ _ _ _ _ _
           refine⟨z81.1,⟨_,_,_⟩,_,_,?_,rfl,(by rfl),(by rfl),rfl,rfl,(.cell rfl rfl C0 rfl rfl .nil),.inr ⟨?_,rfl⟩⟩
           · exact (by obtain⟨h3,h4⟩:=hz69;obtain⟨h5,h6⟩:=hz75;obtain⟨h7,h8⟩:=hz81;exact⟨by rw [h7];omega,by omega⟩)
           · simp [prtV]
         · try simp at h102
           refine As (Ah (Ab (Al U (.no U) U (.tm U) U C0 U U) U ?_));refine A5 (Au U U U (.tm U) (.tm U) U C0 U U U (by kernel_rfl) U) ?_;refine Aa (A3 ?_)
           show PRes _ _ _ _ _ _
           refine⟨z81.1,⟨_,_,_⟩,_,_,?_,rfl,(by rfl),(by rfl),rfl,rfl,(.cell rfl rfl C0 rfl rfl .nil),.inr ⟨?_,rfl⟩⟩
           · exact (by obtain⟨h3,h4⟩:=hz69;obtain⟨h5,h6⟩:=hz75;obtain⟨h7,h8⟩:=hz81;exact⟨by rw [h7];omega,by omega⟩)
           · simp [prtV]
       · try simp at h94
         refine As (Af (Ah (Ab (Am U (.no U) U (.tm U) fl160_0) U ?_)));refine Ab (Al U (.no U) U (.tm U) U ty4 U U) U ?_;refine Aa (Aq (.tm U) (fun h102=>?_) (fun h102=>?_))
         · try simp at h102
           refine Ae (Ab (Am U (.no U) U (.tm U) Db) U ?_);refine Ab (Al U (.no U) U (.tm U) U ty3 U U) U ?_;refine Ab (Am U (.no U) U (.tm U) Db) U ?_;refine Ab (Al U (.no U) U (.tm U) U ty3 U U) U ?_;refine Ab (R_orI U (.no U) U (.tm U) (.tm U)) U ?_;refine Ab (Am U (.no U) U (.tm U) Db) U ?_;refine A5 (Au U U U (.tm U) (.tm U) U ty3 U U U (by kernel_rfl) U) ?_;refine Aa (Af (A4 (σ':=⟨_,[(0,_),(1,_),(4,_),(5,_),(6,_),(8,_),(9,_),(10,_),(11,_),(24,_)],[(700,_),(701,_),(702,_),(703,_),(4,_),(6,_),(9,_),(10,_),(11,_)]⟩) Ai ?_));refine Ae (Ab (Al U (.no U) U (.tm U) U C0 U U) U ?_);refine A5 (Au U U U (.tm U) (.tm U) U C0 U U U (by kernel_rfl) U) ?_;refine Aa (A3 ?_)
           show PRes _ _ _ _ _ _
           refine⟨z81.1,⟨_,_,_⟩,_,_,?_,rfl,(by rfl),(by rfl),rfl,rfl,(.cell rfl rfl C0 rfl rfl .nil),.inr ⟨?_,rfl⟩⟩
           · exact (by obtain⟨h3,h4⟩:=hz69;obtain⟨h5,h6⟩:=hz75;obtain⟨h7,h8⟩:=hz81;exact⟨by rw [h7];omega,by omega⟩)
           · simp [prtV]
         · try simp at h102
           refine As (Ah (Ab (Al U (.no U) U (.tm U) U C0 U U) U ?_));refine A5 (Au U U U (.tm U) (.tm U) U C0 U U U (by kernel_rfl) U) ?_;refine Aa (A3 ?_)
           show PRes _ _ _ _ _ _
           refine⟨z81.1,⟨_,_,_⟩,_,_,?_,rfl,(by rfl),(by rfl),rfl,rfl,(.cell rfl rfl C0 rfl rfl .nil),.inr ⟨?_,rfl⟩⟩
           · exact (by obtain⟨h3,h4⟩:=hz69;obtain⟨h5,h6⟩:=hz75;obtain⟨h7,h8⟩:=hz81;exact⟨by rw [h7];omega,by omega⟩)
           · simp [prtV]
     · try simp at h59
       refine Af (A4 (σ':=⟨_,[(0,_),(1,_),(4,_),(5,_),(6,_),(24,_)],[(700,_),(701,_),(702,_),(703,_),(4,_),(6,_)]⟩) Ai ?_);refine Ae (Ab (B7 U (.no U) U (.tm U) (.const U)) U ?_);refine Ak ?_;refine Aa (Aq (.tm U) (fun h110=>?_) (fun h110=>?_))
       · try simp at h110
         obtain⟨y,z,hk2,hte,hgy,hgz⟩:=kind_two' hg (by omega)
         have hle:lets x=lets y+lets z:=by (rw [lets_eq,hk2];rfl)
         have hln:(toks x).length=(toks y).length+(toks z).length+1:=by rw [hte];simp;omega
         refine Ah (Ac ?_);refine Ac ?_;refine Ab (Cb (m:=(toks y).length+(toks z).length) U (.no U) U (.tm U) .no (.yes (.tm U) (fun _=>by first|omega|(simp<;>omega))) Tryz.underlying24 Ch (fun _=>⟨by omega,by first|omega|(simp;omega)⟩)) U ?_;refine Ab (A6 (FnT.fr (l8Start_at hgz (pre:=toks y) (by simp;omega) _ (sl_pre2 hte))) U (.no U) U (.cons (.tm U) U .nil)) U ?_;refine Ak ?_;refine Aa (Af (A4 (σ':=⟨_,[(0,_),(1,_),(4,_),(5,_),(6,_),(12,_),(24,_)],[(700,_),(701,_),(702,_),(703,_),(4,_),(6,_)]⟩) Ai ?_));refine Ae (Ac ?_);refine Ac ?_;refine Ac ?_;refine Ab (Cb (m:=(toks y).length) U (.no U) U (.tm U) .no (.yes (.tm U) (fun _=>by first|omega|(simp<;>omega))) Tryz.underlying24 Ch (fun _=>⟨by omega,by first|omega|(simp;omega)⟩)) U ?_
         refine Bi (R_callP (u:=700) (i1:=701) (i2:=702) (p:=p) (ih y (by rw [hk2];simp) _ (sl_pre (by rw [hte,List.append_assoc]))) U U U (.tm U) U (by rfl) (by rfl) ⟨by decide,by decide,by decide⟩ U (.cons (.tm U) U .nil) ⟨hp1,by omega⟩ (fun _=>rfl)) ?_
         rintro _ ⟨z120,hz120,rfl⟩
         try dsimp only at hz120
         refine Bh (Bl 13 U U U in160 U U U) U ?_;refine A5 (Au U U U (.tm U) (.tm U) U C0 U U U (by kernel_rfl) U) ?_;refine Aa (Ah (Ac ?_));refine Ac ?_;refine Ac ?_;refine Ac ?_;refine Ab (Cb (n:=(toks y).length) (m:=(toks y).length+(toks z).length) U (.no U) U (.tm U) (.yes (.tm U) (fun _=>by first|omega|(simp<;>omega))) (.yes (.tm U) (fun _=>by first|omega|(simp<;>omega))) Tryz.underlying24 Ch (fun _=>⟨by omega,by first|omega|(simp;omega)⟩)) U ?_;refine Bi (R_callP (u:=700) (i1:=701) (i2:=702) (p:=z120.1) (ih z (by rw [hk2];simp) _ (sl_mid hte)) U U U (.tm U) U (by rfl) (by rfl) ⟨by decide,by decide,by decide⟩ U (.cons (.tm U) U .nil) (by obtain⟨h3,h4⟩:=hz120;exact⟨by omega,by omega⟩) (fun _=>rfl)) ?_
         rintro _ ⟨z126,hz126,rfl⟩
         try dsimp only at hz126
         refine Bh (Bl 14 U U U in160 U U U) U ?_;refine A5 (Au U U U (.tm U) (.tm U) U C0 U U U (by kernel_rfl) U) ?_;refine Aa (Af (A4 (σ':=⟨_,[(0,_),(1,_),(4,_),(5,_),(6,_),(12,_),(13,_),(14,_),(24,_)],[(700,_),(701,_),(702,_),(703,_),(4,_),(6,_),(13,_),(14,_)]⟩) Ai ?_));refine Ae (Ab (Am U (.no U) U (.tm U) fl160_0) U ?_);refine Ab (Al U (.no U) U (.tm U) U ty4 U U) U ?_;refine Ac ?_;refine Ab (Am U (by exact .not1 U U U U) U (.tmp U (by exact fun _=>rfl)) fl160_0) U ?_;refine Ab (Al U (by exact .not1 U U U U) U (.tmp U (by exact id)) U ty4 U U) U ?_;refine Ab (R_or U (.no U) U (.tm U) (.tmp U (by exact id))) U ?_;refine Ab (Am U (.no U) U (.tm U) fl160_1) U ?_;refine Ab (Al U (.no U) U (.tm U) U ty3 U U) U ?_;refine Ab (Am U (.no U) U (.tm U) fl160_1) U ?_;refine Ab (Al U (.no U) U (.tm U) U ty3 U U) U ?_;refine Ab (R_orI U (.no U) U (.tm U) (.tm U)) U ?_
         refine Ab (Am U (.no U) U (.tm U) Db) U ?_;refine Ab (Al U (.no U) U (.tm U) U ty3 U U) U ?_;refine Ab (Am U (.no U) U (.tm U) Db) U ?_;refine Ab (Al U (.no U) U (.tm U) U ty3 U U) U ?_;refine Ab (R_orI U (.no U) U (.tm U) (.tm U)) U ?_;refine Ab (Bo (ps:=[(0,.tmp 132),(1,.tmp 137),(2,.tmp 142)]) U U U in160 U U st160 (.cons (.tm U) U U fp160_0 (.cons (.tm U) U U fp160_1 (.cons (.tm U) U U fp160_2 .nil))) U) U ?_;refine A5 (Au U U U (.tm U) (.tm U) U C0 U U U (by kernel_rfl) U) ?_;refine Aa (A3 ?_)
         show PRes _ _ _ _ _ _
         refine⟨z126.1,⟨_,_,_⟩,_,_,?_,rfl,(by rfl),(by rfl),rfl,rfl,(.cell rfl rfl C0 rfl rfl .nil),.inr ⟨?_,rfl⟩⟩
         · exact (by obtain⟨h3,h4⟩:=hz120;obtain⟨h5,h6⟩:=hz126;exact⟨by omega,by omega⟩)
         · simp [prtV]
       · try simp at h110
         refine Ah (Ab (B7 U (.no U) U (.tm U) (.const U)) U ?_);refine Ak ?_;refine Aa (Aq (.tm U) (fun h144=>?_) (fun h144=>?_))
         · try simp at h144
           obtain⟨y,hk2,hte,hgy⟩:=kind_one' hg (by omega)
           have hle:lets x=lets y:=by (rw [lets_eq,hk2];simp only [List.map,letsG];rw [if_pos (by omega)])
           have hln:(toks x).length=(toks y).length+1:=by rw [hte];simp
           refine Ah (Ac ?_);refine Ac ?_;refine Ac ?_;refine Ab (Cb (m:=(toks y).length) U (.no U) U (.tm U) .no (.yes (.tm U) (fun _=>by first|omega|(simp<;>omega))) Tryz.underlying24 Ch (fun _=>⟨by omega,by first|omega|(simp;omega)⟩)) U ?_;refine Bi (R_callP (u:=700) (i1:=701) (i2:=702) (p:=p) (ih y (by rw [hk2];simp) _ (sl_pre hte)) U U U (.tm U) U (by rfl) (by rfl) ⟨by decide,by decide,by decide⟩ U (.cons (.tm U) U .nil) ⟨hp1,by omega⟩ (fun _=>rfl)) ?_
           rintro _ ⟨z150,hz150,rfl⟩
           try dsimp only at hz150
           refine Bh (Bl 15 U U U in160 U U U) U ?_;refine A5 (Au U U U (.tm U) (.tm U) U C0 U U U (by kernel_rfl) U) ?_;refine Aa (Af (A4 (σ':=⟨_,[(0,_),(1,_),(4,_),(5,_),(6,_),(15,_),(24,_)],[(700,_),(701,_),(702,_),(703,_),(4,_),(6,_),(15,_)]⟩) Ai ?_));refine Ae (Ac ?_);refine Ab (Am U (.no U) U (.tm U) Db) U ?_;refine Ab (Al U (.no U) U (.tm U) U ty3 U U) U ?_;refine Ab (Am U (.no U) U (.tm U) fl160_1) U ?_;refine Ab (Al U (.no U) U (.tm U) U ty3 U U) U ?_;refine Bi (R_callP (u:=700) (i1:=701) (i2:=702) (p:=z150.1) (specl10Link _ _) U U U (.tm U) U (by rfl) (by rfl) ⟨by decide,by decide,by decide⟩ U (.cons (.tm U) U (.cons (.tm U) U .nil)) (by obtain⟨h3,h4⟩:=hz150;show z150.1.F.length≤24;omega) (fun _=>rfl)) ?_
           rintro _ ⟨z156,hz156,rfl⟩
           try dsimp only at hz156
           refine Aa (Af (A4 (σ':=⟨_,[(0,_),(1,_),(4,_),(5,_),(6,_),(15,_),(24,_)],[(700,_),(701,_),(702,_),(703,_),(4,_),(6,_),(15,_)]⟩) Ai ?_));refine Ae (Ab (Am U (.no U) U (.tm U) fl160_1) U ?_);refine Ab (Al U (.no U) U (.tm U) U ty3 U U) U ?_;refine Ab (Am U (.no U) U (.tm U) Db) U ?_;refine Ab (Al U (.no U) U (.tm U) U ty3 U U) U ?_;refine Ab (Bo (ps:=[(0,.const (.bool true)),(1,.tmp 158),(2,.tmp 160)]) U U U in160 U U st160 (.cons (.const U) U U fp160_0 (.cons (.tm U) U U fp160_1 (.cons (.tm U) U U fp160_2 .nil))) U) U ?_;refine A5 (Au U U U (.tm U) (.tm U) U C0 U U U (by kernel_rfl) U) ?_;refine Aa (A3 ?_)
           show PRes _ _ _ _ _ _
           refine⟨z156.1,⟨_,_,_⟩,_,_,?_,rfl,(by rfl),(by rfl),rfl,rfl,(.cell rfl rfl C0 rfl rfl .nil),.inr ⟨?_,rfl⟩⟩
           · exact (by obtain⟨h3,h4⟩:=hz150;obtain⟨h7,h8⟩:=hz156;exact⟨by rw [h7];omega,by omega⟩)
           · simp [prtV]
         · try simp at h144
           have hle:lets x=0:=by (rw [lets_eq];rcases (good_cases hg).2.2 with ⟨hk,_⟩|⟨y,hk,hk4⟩|⟨y,z,hk,hk4⟩<;>rw [hk]<;>simp only [List.map,letsG]<;>first|omega|(rw [if_neg (by omega)]))
           refine As (Ah (Ab (Bo (ps:=[]) U U U in160 U U st160 .nil U) U ?_));refine A5 (Au U U U (.tm U) (.tm U) U C0 U U U (by kernel_rfl) U) ?_;refine Aa (A3 ?_)
           show PRes _ _ _ _ _ _
           refine⟨p,⟨_,_,_⟩,_,_,?_,rfl,(by rfl),(by rfl),rfl,rfl,(.cell rfl rfl C0 rfl rfl .nil),.inr ⟨?_,rfl⟩⟩
           · exact⟨by omega,by omega⟩
           · simp [prtV]
theorem specl10Build:∀ x:Tr,good x→(toks x).length≤1048576→FnP Tryz.prog 135 [.one (.sl 4 ((toks x).map cToken))] (pre147 (lets x)) (post147 (lets x)) prtV:=
 Tr.ind fun x ih hg hz=>specl10Build1 x hg hz fun y hy L hL=>by subst hL;exact ih y hy (good_kids hg y hy) (by have:=kids_toks hy;omega)
end Go.Proofs.YtbecibmlbiebeaaGreat
