import Derived.Test.YtdhojcaoljhbiaaGreatB147xc
import Derived.Test.YtdhojcaoljhbiaaGreatDraw5xc
set_option linter.unusedVariables false
set_option linter.unusedSimpArgs false
set_option maxRecDepth 100000
set_option maxHeartbeats 1000000
open Go.Proofs.Tryz renaming underlying40->Z9,prog->ZA,underlying33->ZF,underlying34->ZG,underlying43->ZH,func94->ZI,ntmps94->ZJ,func96->ZK,ntmps96->ZL,func95->ZM,ntmps95->ZN,func156->ZO,ntmps156->ZP,func102->ZQ,ntmps102->ZR
open Int renaming toNat_natCast->ZB
open List renaming map_set->ZC,getElem?_eq_getElem->ZE
open Nat renaming zero_le->ZD
namespace Go.Q
open Go.RowKit Go.D Go.Proofs.YtdhojcaoljhbiaaGreat
def Vt (p:Fl):Prop:=p.Letters.length=p.Follow.length∧p.Letters.length≤24
def YB (a:AA):Prop:=1≤a.Next.length∧(∀ r∈a.Next,r.length=9)∧a.Accept.length≤1000
theorem PT (p:Fl) (h:Vt p) (s k:Int):FnE ZA 94 [.agg (BA p),.one (.v (.int .i64 s)),.one (.v (.int .i64 k))] (fun _:Int=>True) (fun n=>.a (.one (.v (.int .i64 n)))):=by
 refine FnE.walk ZI rfl (by kernel_rfl) ZJ rfl fun w0=>?_
 obtain⟨hp1,hp2⟩:=h
 refine Af (Ac (Bg U U U (.tm U) (ts:=_) (by rfl)) U ?_);refine An ?_;refine Aa (Af (An ?_));refine Aa (Ae (Af (Ab ?_)));refine Ac (J5 U (.no U) U (.tm U) (.const U)) U ?_;refine Bw ?_;refine Aa (Ai (.tm U) (fun h13=>?_) (fun h13=>?_))
 · try simp only [BE,AN,AM] at h13
   try simp only [ZB] at h13
   try simp at h13
   refine Ad (A7 VO ?_);refine Aj ty3 ?_;refine Ah ?_;refine Aa (Ae (Af (An ?_)));refine Aa (AW.block (Cp (fun (i:Nat) (M:Int)=>(i≤p.Letters.length)∧True) (fun (i:Nat) (M:Int)=>⟨_,[(8,(true,.a (.one (.t (.v (.int .i64 (i:Nat))))))),(7,(true,.a (.one (.t (.v (.int .i64 M)))))),(1,_),(2,_),(3,_),(6,_)],[]⟩) (fun (i:Nat) (M:Int)=>p.Letters.length-i) (0) (_) ⟨ZD _,Y⟩ (Au U ⟨U,U,U,U,U,U,Y⟩ trivial) ?_))
   rintro i M ⟨hk,he⟩
   refine Ae (Af (Ab ?_));refine A7 Hv ?_;refine Aj Cc ?_;refine Bi (.t) Z9 ?_;refine AWl.lt ?_;refine Aa (Ai (.tm U) (fun h20=>?_) (fun h20=>?_))
   · try simp only [BE,AN,AM] at h20
     try simp only [ZB] at h20
     try simp at h20
     obtain⟨f,hf⟩:∃ ξ,p.Follow[i]?=some ξ:=⟨_,ZE (by omega)⟩
     refine Am (Ae (AW.block (Af (Ab ?_))));refine Ab ?_;refine A9 ?_;refine Ac (Ma U (.no U) U (.tm U) (.tm U) (fun _=>by omega)) U ?_;refine Ac (J5 U (.no U) U (.tm U) (.const U)) U ?_;refine Bw ?_;refine Aa (Ai (.tm U) (fun h28=>?_) (fun h28=>?_))
     · try simp only [BE,AN,AM] at h28
       try simp only [ZB] at h28
       try simp at h28
       refine As (Ay [1,2,3,6,7,8] []) ?_;refine Ad (Ab ?_);refine A7 K8 ?_;refine Aj Cc ?_;refine Ab ?_;refine Ac (Ak U (.no U) U (.tm U) (.tm U) Z9 ty3 (fun _=>⟨by omega,(by exact Ao hf)⟩)) U ?_;refine Aj ty3 ?_;refine Ac (Kr U (.no U) U (.tm U) (.tm U)) U ?_;refine Ah ?_;refine Aa (As (Ay [1,2,3,6,7,8] []) ?_);refine Ad (Ab ?_);refine A9 ?_;refine Ah ?_;refine Aa ?_
       repeat (with_reducible refine Av ?_)
       refine BV.next (i+1) (bits .or .i64 M f) ⟨by omega,Y⟩ (by omega) (Au rfl ⟨rfl,rfl,rfl,rfl,rfl,rfl,Y⟩ trivial)
     try simp only [BE,AN,AM] at h28
     try simp only [ZB] at h28
     try simp at h28
     refine Am (As (Ay [1,2,3,6,7,8] []) ?_);refine Ad (Ab ?_);refine A9 ?_;refine Ah ?_;refine Aa ?_
     repeat (with_reducible refine Av ?_)
     refine BV.next (i+1) (M) ⟨by omega,Y⟩ (by omega) (Au rfl ⟨rfl,rfl,rfl,rfl,rfl,rfl,Y⟩ trivial)
   try simp only [BE,AN,AM] at h20
   try simp only [ZB] at h20
   try simp at h20
   refine Bf (Af (An ?_));refine Aa (Ae (Af (An ?_)));refine Aa (AW.block (Cp (fun (j:Nat) (N:Int)=>(j≤p.Letters.length)∧True) (fun (j:Nat) (N:Int)=>⟨_,[(10,(true,.a (.one (.t (.v (.int .i64 (j:Nat))))))),(9,(true,.a (.one (.t (.v (.int .i64 N)))))),(2,_),(3,_),(6,_),(7,_)],[]⟩) (fun (j:Nat) (N:Int)=>p.Letters.length-j) (0) (0) ⟨ZD _,Y⟩ (Au U ⟨U,U,U,U,U,U,Y⟩ trivial) ?_))
   rintro j N ⟨hk1,he1⟩
   refine Ae (Af (Ab ?_));refine A7 Hv ?_;refine Aj Cc ?_;refine Bi (.t) Z9 ?_;refine AWl.lt ?_;refine Aa (Ai (.tm U) (fun h40=>?_) (fun h40=>?_))
   · try simp only [BE,AN,AM] at h40
     try simp only [ZB] at h40
     try simp at h40
     obtain⟨l1,hl1⟩:∃ ξ,p.Letters[j]?=some ξ:=⟨_,ZE (by omega)⟩
     refine Am (Ae (AW.block (Af (Ab ?_))));refine Ab ?_;refine Ac (Ma U (.no U) U (.tm U) (.tm U) (fun _=>by omega)) U ?_;refine Ac (J5 U (.no U) U (.tm U) (.const U)) U ?_;refine Bw ?_;refine Ab ?_;refine Eb Hv ?_;refine Dy Cc ?_;refine Cm ?_;refine Ac (by exact Ak U (by exact .yes1 U U U U) U (.tmp U (by exact id)) (.tmp U (by exact id)) Z9 ty3 (fun hq=>by (try simp at hq);exact⟨by omega,(by exact Ao hl1)⟩)) U ?_;refine Dy ty3 ?_;refine Cm ?_;refine Ac (Kc U (by exact .yes1 U U U U) U (.tmp U (by exact id)) (.tmp U (by exact id))) U ?_;refine Cn ?_;refine Aa (Ai (.tm U) (fun h56=>?_) (fun h56=>?_))
     · try simp only [BE,AN,AM] at h56
       try simp only [ZB] at h56
       try simp at h56
       refine As (Ay [2,3,6,7,9,10] []) ?_;refine Ad (Ab ?_);refine Ab ?_;refine A9 ?_;refine Ac (F9 U (.no U) U (.const U) (.tm U) (fun _=>by omega)) U ?_;refine Ac (Kr U (.no U) U (.tm U) (.tm U)) U ?_;refine Ah ?_;refine Aa (Ad (Ab ?_));refine A9 ?_;refine Ah ?_;refine Aa ?_
       repeat (with_reducible refine Av ?_)
       refine BV.next (j+1) (bits .or .i64 N ((2^((j:Int)+1).toNat:Nat):Int)) ⟨by omega,Y⟩ (by omega) (Au rfl ⟨rfl,rfl,rfl,rfl,rfl,rfl,Y⟩ trivial)
     try simp only [BE,AN,AM] at h56
     try simp only [ZB] at h56
     try simp at h56
     refine Am (As (Ay [2,3,6,7,9,10] []) ?_);refine Ad (Ab ?_);refine A9 ?_;refine Ah ?_;refine Aa ?_
     repeat (with_reducible refine Av ?_)
     refine BV.next (j+1) (N) ⟨by omega,Y⟩ (by omega) (Au rfl ⟨rfl,rfl,rfl,rfl,rfl,rfl,Y⟩ trivial)
   try simp only [BE,AN,AM] at h40
   try simp only [ZB] at h40
   try simp at h40
   refine Bf (Af (Ab ?_));refine Ah ?_;refine Aa (Aq ?_);apply ERes.mk
   case h=>
    refine Res.one U (.tmp U .nil) U ?_
    rfl
   case hp=>exact trivial
 try simp only [BE,AN,AM] at h13
 try simp only [ZB] at h13
 try simp at h13
 refine Am (Ae (Af (An ?_)));refine Aa (AW.block (Cp (fun (i:Nat) (M:Int)=>(i≤p.Letters.length)∧True) (fun (i:Nat) (M:Int)=>⟨_,[(8,(true,.a (.one (.t (.v (.int .i64 (i:Nat))))))),(7,(true,.a (.one (.t (.v (.int .i64 M)))))),(1,_),(2,_),(3,_),(6,_)],[]⟩) (fun (i:Nat) (M:Int)=>p.Letters.length-i) (0) (_) ⟨ZD _,Y⟩ (Au U ⟨U,U,U,U,U,U,Y⟩ trivial) ?_))
 rintro i M ⟨hk,he⟩
 refine Ae (Af (Ab ?_));refine A7 Hv ?_;refine Aj Cc ?_;refine Bi (.t) Z9 ?_;refine AWl.lt ?_;refine Aa (Ai (.tm U) (fun h20=>?_) (fun h20=>?_))
 · try simp only [BE,AN,AM] at h20
   try simp only [ZB] at h20
   try simp at h20
   obtain⟨f,hf⟩:∃ ξ,p.Follow[i]?=some ξ:=⟨_,ZE (by omega)⟩
   refine Am (Ae (AW.block (Af (Ab ?_))));refine Ab ?_;refine A9 ?_;refine Ac (Ma U (.no U) U (.tm U) (.tm U) (fun _=>by omega)) U ?_;refine Ac (J5 U (.no U) U (.tm U) (.const U)) U ?_;refine Bw ?_;refine Aa (Ai (.tm U) (fun h28=>?_) (fun h28=>?_))
   · try simp only [BE,AN,AM] at h28
     try simp only [ZB] at h28
     try simp at h28
     refine As (Ay [1,2,3,6,7,8] []) ?_;refine Ad (Ab ?_);refine A7 K8 ?_;refine Aj Cc ?_;refine Ab ?_;refine Ac (Ak U (.no U) U (.tm U) (.tm U) Z9 ty3 (fun _=>⟨by omega,(by exact Ao hf)⟩)) U ?_;refine Aj ty3 ?_;refine Ac (Kr U (.no U) U (.tm U) (.tm U)) U ?_;refine Ah ?_;refine Aa (As (Ay [1,2,3,6,7,8] []) ?_);refine Ad (Ab ?_);refine A9 ?_;refine Ah ?_;refine Aa ?_
     repeat (with_reducible refine Av ?_)
     refine BV.next (i+1) (bits .or .i64 M f) ⟨by omega,Y⟩ (by omega) (Au rfl ⟨rfl,rfl,rfl,rfl,rfl,rfl,Y⟩ trivial)
   try simp only [BE,AN,AM] at h28
   try simp only [ZB] at h28
   try simp at h28
   refine Am (As (Ay [1,2,3,6,7,8] []) ?_);refine Ad (Ab ?_);refine A9 ?_;refine Ah ?_;refine Aa ?_
   repeat (with_reducible refine Av ?_)
   refine BV.next (i+1) (M) ⟨by omega,Y⟩ (by omega) (Au rfl ⟨rfl,rfl,rfl,rfl,rfl,rfl,Y⟩ trivial)
 try simp only [BE,AN,AM] at h20
 try simp only [ZB] at h20
 try simp at h20
 refine Bf (Af (An ?_));refine Aa (Ae (Af (An ?_)));refine Aa (AW.block (Cp (fun (j:Nat) (N:Int)=>(j≤p.Letters.length)∧True) (fun (j:Nat) (N:Int)=>⟨_,[(10,(true,.a (.one (.t (.v (.int .i64 (j:Nat))))))),(9,(true,.a (.one (.t (.v (.int .i64 N)))))),(2,_),(3,_),(6,_),(7,_)],[]⟩) (fun (j:Nat) (N:Int)=>p.Letters.length-j) (0) (0) ⟨ZD _,Y⟩ (Au U ⟨U,U,U,U,U,U,Y⟩ trivial) ?_))
 rintro j N ⟨hk1,he1⟩
 refine Ae (Af (Ab ?_));refine A7 Hv ?_;refine Aj Cc ?_;refine Bi (.t) Z9 ?_;refine AWl.lt ?_;refine Aa (Ai (.tm U) (fun h40=>?_) (fun h40=>?_))
 · try simp only [BE,AN,AM] at h40
   try simp only [ZB] at h40
   try simp at h40
   obtain⟨l1,hl1⟩:∃ ξ,p.Letters[j]?=some ξ:=⟨_,ZE (by omega)⟩
   refine Am (Ae (AW.block (Af (Ab ?_))));refine Ab ?_;refine Ac (Ma U (.no U) U (.tm U) (.tm U) (fun _=>by omega)) U ?_;refine Ac (J5 U (.no U) U (.tm U) (.const U)) U ?_;refine Bw ?_;refine Ab ?_;refine Eb Hv ?_;refine Dy Cc ?_;refine Cm ?_;refine Ac (by exact Ak U (by exact .yes1 U U U U) U (.tmp U (by exact id)) (.tmp U (by exact id)) Z9 ty3 (fun hq=>by (try simp at hq);exact⟨by omega,(by exact Ao hl1)⟩)) U ?_;refine Dy ty3 ?_;refine Cm ?_;refine Ac (Kc U (by exact .yes1 U U U U) U (.tmp U (by exact id)) (.tmp U (by exact id))) U ?_;refine Cn ?_;refine Aa (Ai (.tm U) (fun h56=>?_) (fun h56=>?_))
   · try simp only [BE,AN,AM] at h56
     try simp only [ZB] at h56
     try simp at h56
     refine As (Ay [2,3,6,7,9,10] []) ?_;refine Ad (Ab ?_);refine Ab ?_;refine A9 ?_;refine Ac (F9 U (.no U) U (.const U) (.tm U) (fun _=>by omega)) U ?_;refine Ac (Kr U (.no U) U (.tm U) (.tm U)) U ?_;refine Ah ?_;refine Aa (Ad (Ab ?_));refine A9 ?_;refine Ah ?_;refine Aa ?_
     repeat (with_reducible refine Av ?_)
     refine BV.next (j+1) (bits .or .i64 N ((2^((j:Int)+1).toNat:Nat):Int)) ⟨by omega,Y⟩ (by omega) (Au rfl ⟨rfl,rfl,rfl,rfl,rfl,rfl,Y⟩ trivial)
   try simp only [BE,AN,AM] at h56
   try simp only [ZB] at h56
   try simp at h56
   refine Am (As (Ay [2,3,6,7,9,10] []) ?_);refine Ad (Ab ?_);refine A9 ?_;refine Ah ?_;refine Aa ?_
   repeat (with_reducible refine Av ?_)
   refine BV.next (j+1) (N) ⟨by omega,Y⟩ (by omega) (Au rfl ⟨rfl,rfl,rfl,rfl,rfl,rfl,Y⟩ trivial)
 try simp only [BE,AN,AM] at h40
 try simp only [ZB] at h40
 try simp at h40
 refine Bf (Af (Ab ?_));refine Ah ?_;refine Aa (Aq ?_);apply ERes.mk
 case h=>
  refine Res.one U (.tmp U .nil) U ?_
  rfl
 case hp=>exact trivial
theorem N0 (p:Fl) (s:Int):FnE ZA 96 [.agg (BA p),.one (.v (.int .i64 s))] (fun _:Bool=>True) (fun n=>.a (.one (.v (.bool n)))):=by
 refine FnE.walk ZK rfl (by kernel_rfl) ZL rfl fun w0=>?_
 refine Af (Ac (Bg U U U (.tm U) (ts:=_) (by rfl)) U ?_);refine An ?_;refine Aa (Af (Ab ?_));refine Ac (J5 U (.no U) U (.tm U) (.const U)) U ?_;refine Bw ?_;refine Ab ?_;refine Eb VM ?_;refine Dy ty4 ?_;refine Cn ?_;refine Ab ?_;refine AWl.mw ?_;refine Ac (Ma U (by exact .not1 U U U U) U (.tmp U (by exact id)) (.const U) (fun _=>by omega)) U ?_;refine C5 VN ?_;refine C4 ty3 ?_;refine Ac (J5 U (by exact .not1 U U U U) U (.tmp U (by exact id)) (.tmp U (by exact id))) U ?_;refine Ac (GX U (by exact .not1 U U U U) U (.tmp U (by exact id)) (.const U)) U ?_;refine Co ?_;refine Ah ?_;refine Aa (Aq ?_);apply ERes.mk
 case h=>
  refine Res.one U (.tmp U .nil) U ?_
  rfl
 case hp=>exact trivial
theorem PP (l:List Int) (x:Int) (hl:l.length≤100000):FnE ZA 95 [.one (.sl 1 (l.map AQ)),.one (.v (.int .i64 x))] (fun _:Int=>True) (fun n=>.a (.one (.v (.int .i64 n)))):=by
 refine FnE.walk ZM rfl (by kernel_rfl) ZN rfl fun w0=>?_
 refine Af (An ?_);refine Aa (Ae (Af (An ?_)));refine Aa (AW.block (B9 (fun (i:Nat)=>(i≤l.length)∧True) (fun (i:Nat)=>⟨_,[(5,(true,.a (.one (.t (.v (.int .i64 (i:Nat))))))),(0,_),(1,_)],[]⟩) (fun (i:Nat)=>l.length-i) (0) ⟨ZD _,Y⟩ (Au U ⟨U,U,U,Y⟩ trivial) ?_))
 rintro i ⟨hk,he⟩
 refine Ae (Af (Ab ?_));refine Ab ?_;refine Bi (.t) Z9 ?_;refine AWl.lt ?_;refine Aa (Ai (.tm U) (fun h9=>?_) (fun h9=>?_))
 · try simp at h9
   obtain⟨y,hy⟩:∃ ξ,l[i]?=some ξ:=⟨_,ZE (by omega)⟩
   refine Am (Ae (AW.block (Af (Ab ?_))));refine Ab ?_;refine Ac (Ak U (.no U) U (.tm U) (.tm U) Z9 ty3 (fun _=>⟨by omega,(Ao hy)⟩)) U ?_;refine Aj ty3 ?_;refine Ab ?_;refine AWl.eq ?_;refine Aa (Ai (.tm U) (fun h17=>?_) (fun h17=>?_))
   · try simp at h17
     refine Ae (As (Ay [0,1,5] []) ?_);refine Ad (Ab ?_);refine Ah ?_;refine Aa (Aq ?_);apply ERes.mk
     case h=>
      refine Res.one U (.tmp U .nil) U ?_
      rfl
     case hp=>exact trivial
   try simp at h17
   refine Am (As (Ay [0,1,5] []) ?_);refine Ad (Ab ?_);refine A9 ?_;refine Ah ?_;refine Aa ?_
   repeat (with_reducible refine Av ?_)
   refine BF.next (i+1) ⟨by omega,Y⟩ (by omega) (Au rfl ⟨rfl,rfl,rfl,Y⟩ trivial)
 try simp at h9
 refine Bf (Af (An ?_));refine Aa (Aq ?_);apply ERes.mk
 case h=>
  refine Res.one U (.tmp U .nil) U ?_
  rfl
 case hp=>exact trivial
theorem Kf:FnD ZA 156 [] YB (fun a=>.a (.agg (AE a))):=by
 refine FnD.walk ZO U (by kernel_rfl) ZP U (fun g=>rfl) fun w0 g=>?_
 refine Af (A6 (Bd 2 U U U JZ U U U) U ?_);refine Aa (Af (Ab ?_));refine Bn (Bo 1000 (BL _) U U U (.tm U) U U (.cons (.const U) U .nil) (fun _=>rfl) (fun _=>rfl)) ?_
 rintro _ ⟨z10,hz10,rfl⟩
 try dsimp only at hz10
 refine Ac (Dn U (.no U) U (.const U) (.tm U) (fun _=>by omega)) U ?_;refine Ah ?_;refine Aa (Af (Ab ?_));refine Ab ?_;refine Bn (Bo 1400 (BL _) U U U (.tm U) U U (.cons (.tm U) U .nil) (fun _=>rfl) (fun _=>rfl)) ?_
 rintro _ ⟨z14,hz14,rfl⟩
 try dsimp only at hz14
 refine Ac (Bm (ps:=[(0,.tmp 14)]) U U U JZ U U Yv (.cons (.tm U) U U Y3 .nil) U) U ?_;refine Cg (i:=15) 20001 1 1 U U U ?_;refine Cg (i:=15) 20002 1 2 U U U ?_;refine A6 (Bd 4 U U U JZ U U U) U ?_;refine A4 B6 ?_;refine Aa (Ae (Ae (As (Ay [0,2,3,4] [888888,2,20001,20002,4]) ?_)));refine Ad (An ?_);refine Aa (AW.block ?_)
 refine Dz (fun (s:Int) (B:List Bool) (N:List (List Int))=>((0≤s∧s≤1+z10∧(N.length:Int)=s∧B.length=N.length)∧∀ r∈N,r.length=9)∧True) (fun (s:Int) (B:List Bool) (N:List (List Int))=>⟨_,[(5,(true,.a (.one (.t (.v (.int .i64 s)))))),(3,(true,.a (.one (.t (.v (.int .i64 (1+z10))))))),(0,_),(2,_),(4,_)],[(2,.box [.t (.v (.int .i64 0)),.t (.v (.slice none 0 0)),.t (.v (.slice none 0 0))]),(4,.box [.t (.v (.int .i64 z14)),.rf 20001,.rf 20002]),(20001,.row 1 (B.map Ey)),(20002,.row 1 (N.map DV)),(888888,.cur g)]⟩) (fun (s:Int) (B:List Bool) (N:List (List Int))=>(1+z10-s).toNat) (0) ([]) ([]) ⟨⟨⟨by omega,by omega,by simp,by simp⟩,by simp⟩,Y⟩ Aw ?_
 rintro s B N ⟨hk,he⟩
 refine Ae (Af (Ab ?_));refine Ab ?_;refine AWl.lt ?_;refine Aa (Ai (.tm U) (fun h18=>?_) (fun h18=>?_))
 · try simp at h18
   refine Am (Ae (AW.block (Af (A6 (C7 21 U U U Z9 ty3 U) U ?_))));refine Ah ?_;refine Aa (Ae (Af (An ?_)));refine Aa (AW.block ?_);refine Cp (fun (k:Nat) (ro:List Int)=>(k≤9∧ro.length=k)∧True) (fun (k:Nat) (ro:List Int)=>⟨_,[(7,(true,.a (.one (.t (.v (.int .i64 (k:Nat))))))),(3,(true,.a (.one (.t (.v (.int .i64 (1+z10))))))),(6,(true,.a (.one (.rf 21)))),(0,_),(2,_),(4,_),(5,_)],[(21,.row 1 (ro.map AQ)),(2,.box [.t (.v (.int .i64 0)),.t (.v (.slice none 0 0)),.t (.v (.slice none 0 0))]),(4,.box [.t (.v (.int .i64 z14)),.rf 20001,.rf 20002]),(20001,.row 1 (B.map Ey)),(20002,.row 1 (N.map DV)),(888888,.cur g)]⟩) (fun (k:Nat) (ro:List Int)=>9-k) (0) ([]) ⟨⟨by omega,U⟩,Y⟩ Aw ?_
   rintro k ro ⟨hk1,he1⟩
   refine Ae (Af (Ab ?_));refine D7 ?_;refine Aa (Ai (.tm U) (fun h23=>?_) (fun h23=>?_))
   · try simp at h23
     refine Am (Ae (AW.block (Af (An ?_))));refine Aa (Ae (Af (Ab ?_)));refine Bn (Bo 2700 (EF _) U U U (.tm U) U U (.cons (.const U) U .nil) (fun _=>rfl) (fun _=>rfl)) ?_
     rintro _ ⟨z27,hz27,rfl⟩
     try dsimp only at hz27
     refine Cy ?_;refine Aa (Ai (.tm U) (fun h28=>?_) (fun h28=>?_))
     · try simp at h28
       refine Ad (Ab ?_);refine Ab ?_;refine Bn (Bo 3100 (BL _) U U U (.tm U) U U (.cons (.tm U) U .nil) (fun _=>rfl) (fun _=>rfl)) ?_
       rintro _ ⟨z31,hz31,rfl⟩
       try dsimp only at hz31
       refine Ah ?_;refine Aa (Ae (Ae (As (Ay [0,2,3,4,5,6,7,8] [21,2,4,20001,20002,888888]) ?_)));refine Ad (Ab ?_);refine AWl.gc ?_;refine Aa (Ai (.tm U) (fun h33=>?_) (fun h33=>?_))
       · try simp at h33
         refine Ad (An ?_);refine Aa (Ad (Ab ?_));refine Ab ?_;refine Ac (Cf (xs:=[.tmp 35]) (rows:=[AQ _]) U U U (.cons (.tm U) U U .nil) Z9 in3 U U (U)) U ?_;refine Bt (B8 U U U (.tm U) U (.tm U) (by exact .t) (by rfl) Z9 in3 U (by (simp [AH];omega)) (by (unfold maxLen;simp [AH];omega))) U ?_;refine Bv (Ay [0,2,3,4,5,6,7,8,33,37] [21,2,4,20001,20002,888888]) ?_;refine Ah ?_;refine Aa (Ad (Ab ?_));refine A9 ?_;refine Ah ?_;refine Aa ?_
         repeat (with_reducible refine Av ?_)
         refine BV.next (k+1) (ro++[-1]) ⟨⟨by omega,by simp;omega⟩,Y⟩ (by omega) (Au rfl ⟨rfl,rfl,rfl,rfl,rfl,rfl,rfl,Y⟩ ⟨(by (refine congrArg (fun r=>some (R.row _ r)) ?_;simp [AH,ZC,AQ,Ey,DV,BC,AS,BH,AP,AG,BG,BO,CF,DE,BW,BA,AE,AK,BJ,AT,Em,DD,AZ,BN])),(by rfl),(by rfl),(by rfl),(by rfl),(by rfl),Y⟩)
       try simp at h33
       refine Am (Ad (Ab ?_));refine Ab ?_;refine Ac (Cf (xs:=[.tmp 35]) (rows:=[AQ _]) U U U (.cons (.tm U) U U .nil) Z9 in3 U U (U)) U ?_;refine Bt (B8 U U U (.tm U) U (.tm U) (by exact .t) (by rfl) Z9 in3 U (by (simp [AH];omega)) (by (unfold maxLen;simp [AH];omega))) U ?_;refine Bv (Ay [0,2,3,4,5,6,7,8,33,37] [21,2,4,20001,20002,888888]) ?_;refine Ah ?_;refine Aa (Ad (Ab ?_));refine A9 ?_;refine Ah ?_;refine Aa ?_
       repeat (with_reducible refine Av ?_)
       refine BV.next (k+1) (ro++[z31]) ⟨⟨by omega,by simp;omega⟩,Y⟩ (by omega) (Au rfl ⟨rfl,rfl,rfl,rfl,rfl,rfl,rfl,Y⟩ ⟨(by (refine congrArg (fun r=>some (R.row _ r)) ?_;simp [AH,ZC,AQ,Ey,DV,BC,AS,BH,AP,AG,BG,BO,CF,DE,BW,BA,AE,AK,BJ,AT,Em,DD,AZ,BN])),(by rfl),(by rfl),(by rfl),(by rfl),(by rfl),Y⟩)
     try simp at h28
     refine Am (Ae (Af (Ab ?_)));refine AWl.gc ?_;refine Aa (Ai (.tm U) (fun h33=>?_) (fun h33=>?_))
     · try simp at h33
       refine As (Ay [0,2,3,4,5,6,7,8] [21,2,4,20001,20002,888888]) ?_;refine Ad (An ?_);refine Aa (Ad (Ab ?_));refine Ab ?_;refine Ac (Cf (xs:=[.tmp 35]) (rows:=[AQ _]) U U U (.cons (.tm U) U U .nil) Z9 in3 U U (U)) U ?_;refine Bt (B8 U U U (.tm U) U (.tm U) (by exact .t) (by rfl) Z9 in3 U (by (simp [AH];omega)) (by (unfold maxLen;simp [AH];omega))) U ?_;refine Bv (Ay [0,2,3,4,5,6,7,8,37] [21,2,4,20001,20002,888888]) ?_;refine Ah ?_;refine Aa (Ad (Ab ?_));refine A9 ?_;refine Ah ?_;refine Aa ?_
       repeat (with_reducible refine Av ?_)
       refine BV.next (k+1) (ro++[-1]) ⟨⟨by omega,by simp;omega⟩,Y⟩ (by omega) (Au rfl ⟨rfl,rfl,rfl,rfl,rfl,rfl,rfl,Y⟩ ⟨(by (refine congrArg (fun r=>some (R.row _ r)) ?_;simp [AH,ZC,AQ,Ey,DV,BC,AS,BH,AP,AG,BG,BO,CF,DE,BW,BA,AE,AK,BJ,AT,Em,DD,AZ,BN])),(by rfl),(by rfl),(by rfl),(by rfl),(by rfl),Y⟩)
     try simp at h33
     refine Am (As (Ay [0,2,3,4,5,6,7,8] [21,2,4,20001,20002,888888]) ?_);refine Ad (Ab ?_);refine Ab ?_;refine Ac (Cf (xs:=[.tmp 35]) (rows:=[AQ _]) U U U (.cons (.tm U) U U .nil) Z9 in3 U U (U)) U ?_;refine Bt (B8 U U U (.tm U) U (.tm U) (by exact .t) (by rfl) Z9 in3 U (by (simp [AH];omega)) (by (unfold maxLen;simp [AH];omega))) U ?_;refine Bv (Ay [0,2,3,4,5,6,7,8,37] [21,2,4,20001,20002,888888]) ?_;refine Ah ?_;refine Aa (Ad (Ab ?_));refine A9 ?_;refine Ah ?_;refine Aa ?_
     repeat (with_reducible refine Av ?_)
     refine BV.next (k+1) (ro++[-1]) ⟨⟨by omega,by simp;omega⟩,Y⟩ (by omega) (Au rfl ⟨rfl,rfl,rfl,rfl,rfl,rfl,rfl,Y⟩ ⟨(by (refine congrArg (fun r=>some (R.row _ r)) ?_;simp [AH,ZC,AQ,Ey,DV,BC,AS,BH,AP,AG,BG,BO,CF,DE,BW,BA,AE,AK,BJ,AT,Em,DD,AZ,BN])),(by rfl),(by rfl),(by rfl),(by rfl),(by rfl),Y⟩)
   try simp at h23
   refine Bf (Ae (As (Ay [0,2,3,4,5,6,7,22,23] [21,2,4,20001,20002,888888]) ?_));apply Cr (N:=5) (k:=2) (Hs:=[0,1,2]) (ms:=[[],[3],[3,4]]) (es:=[(0,3,1),(1,4,2)]) (σ1:=_) (SM:=⟨_,[(0,_),(2,_),(3,_),(4,_),(5,_),(6,_),(7,_),(22,_),(23,_),(38,_),(39,_),(40,_)],[(21,_),(2,_),(4,_),(20001,_),(20002,_),(888888,_)]⟩)
   case hm=>kernel_rfl
   case hB=>kernel_rfl
   case hP=>kernel_rfl
   case hL=>kernel_rfl
   case hN=>rfl
   case hpre=>
    apply Ax (P:=ZA) 0 rfl ((by exact Bj rfl (.no rfl) rfl (.tm rfl) Db)) (by exact .pp) rfl rfl rfl;apply Ax (P:=ZA) 1 rfl ((by exact Be rfl (.no rfl) rfl (.tm rfl) rfl FU rfl rfl)) (by exact BM.load (x:=.tmp 38) (.tm rfl) rfl FU rfl rfl) rfl rfl rfl;apply Ax (P:=ZA) 2 rfl (Bh rfl (.no rfl) rfl (.tm rfl)) (by exact BM.slot (t:=0) rfl) rfl rfl rfl;exact EC.nil
   case hS=>exact Ba
   case hH=>
    refine AX.fq Db ?_;refine AX.lq FU ?_;refine AX.mv ?_
    trivial
   apply Dh.drw0 (i:=3)
   case ha=>rfl
   case ho=>rfl
   case hE=>
    intro  hp
    obtain _:=hp
    exact Bo 4100 (EF _) rfl rfl rfl (.tm rfl) rfl rfl (.cons (.const rfl) rfl .nil) (fun _=>rfl) (fun _=>rfl)
   case hb=>rfl
   case hL=>
    intro  z41 hp hy;exact CV.eq (Ay [0,2,3,4,5,6,7,22,23,38,39,40,41] [21,2,4,20001,20002,888888]) U
   case hS=>intros;exact Ba
   apply Dh.new1 (i:=4);rfl;rfl;rfl
   · intro w9 z41 hp
     obtain⟨_,hz41⟩:=hp
     refine Bp (Ce (xs:=[.tmp 41]) 42 U U U (.cons (.tm U) U U .nil) ZF in4 U U U U) U ?_;exact Al [0,2,3,4,5,6,7,22,23,38,39,40,42] [21,2,4,20001,20002,888888,42]
   intros;exact Ba
   refine Dh.fin1 (k:=2) rfl ?_;intro z41 hp
   obtain⟨_,hz41⟩:=hp
   refine Bt (B8 U U U (.tm U) U (.tm U) (by exact .rf U) (by rfl) ZF in4 U (by (simp [AH];omega)) (by (unfold maxLen;simp [AH];omega))) U ?_;refine Bv (Ay [0,2,3,4,5,6,7,23,43] [21,2,4,20001,20002,888888,42]) ?_;refine Bq Db ?_;refine A4 FU ?_;refine Aa (Ad (Bq Da ?_));refine Bb Gh ?_;refine Ab ?_;refine Bp (Ce (xs:=[.tmp 47]) 48 U U U (.cons (.tm U) U U .nil) ZG U5 U U U U) U ?_;refine Dv (D4 U U U (.tm U) U (.tm U) U U ZG U5 U (by (simp [AH];omega)) (by (unfold maxLen;simp [AH];omega))) U ?_;refine Bv (Ay [0,2,3,4,5,6,7,23,49] [2,4,20001,20002,888888,42]) ?_;refine Bq Da ?_;refine A4 Gh ?_;refine Aa (Ad (Ab ?_));refine A9 ?_;refine Ah ?_;refine Aa ?_
   repeat (with_reducible refine Av ?_)
   refine Ef.next (s+1) (B++[z41]) (N++[ro]) ⟨by (refine⟨⟨by omega,by omega,by simp;omega,by simp;omega⟩,fun r hr=>?_⟩;rcases List.mem_append.1 hr with hr|hr;exact hk.2 r hr;rw [List.mem_singleton.1 hr];omega),Y⟩ (by omega) (Au rfl ⟨rfl,rfl,rfl,rfl,rfl,Y⟩ ⟨(by rfl),(by rfl),(by (refine congrArg (fun r=>some (R.row _ r)) ?_;simp [AH,ZC,AQ,Ey,DV,BC,AS,BH,AP,AG,BG,BO,CF,DE,BW,BA,AE,AK,BJ,AT,Em,DD,AZ,BN])),(by (refine congrArg (fun r=>some (R.row _ r)) ?_;simp [AH,ZC,AQ,Ey,DV,BC,AS,BH,AP,AG,BG,BO,CF,DE,BW,BA,AE,AK,BJ,AT,Em,DD,AZ,BN])),(by rfl),Y⟩)
 try simp at h18
 refine Bf (Af (Bb B6 ?_));refine A4 B6 ?_;refine Aa (Aq ?_);apply Ev.mk (x:=⟨z14,B,N⟩) rfl
 case h=>
  refine Res.one U (.cell U U B6 U U .nil) U ?_
  rfl
 case hp=>exact⟨by show 1≤N.length;(try simp at h18);omega,hk.2,by show B.length≤1000;omega⟩
theorem KR:FnD ZA 102 [] (fun g:AC=>1≤g.Values.length∧g.Values.length≤5∧g.Edges.length≤11) (fun g=>.a (.agg (AG g))):=by
 refine FnD.walk ZQ U (by kernel_rfl) ZR U (fun g=>rfl) fun w0 g=>?_
 refine Af (A6 (Bd 2 U U U OF U U U) U ?_);refine Aa (Af (Ac (Bm (ps:=[]) U U U OF U U Z0 .nil U) U ?_));refine Cg (i:=7) 20001 1 0 U U U ?_;refine Cg (i:=7) 20002 4 1 U U U ?_;refine A6 (Bd 3 U U U OF U U U) U ?_;refine A4 B7 ?_;refine Aa (Ae (Af (Ab ?_)));refine Bp (Ce (xs:=[.const (.int .i64 (2)),.const (.int .i64 (3)),.const (.int .i64 (4)),.const (.int .i64 (4)),.const (.int .i64 (5))]) 9 U U U (.cons (.const U) U U (.cons (.const U) U U (.cons (.const U) U U (.cons (.const U) U U (.cons (.const U) U U .nil))))) Z9 in3 U U U U) U ?_;refine Bn (Bo 1000 (CL [2,3,4,4,5] (by decide)) U U U (.tm U) U U (.cons (.tm U) U .nil) (fun _=>rfl) (fun _=>rfl)) ?_
 rintro _ ⟨z10,hz10,rfl⟩
 try dsimp only at hz10
 refine Ah ?_;refine Aa (AW.block ?_);refine Cp (fun (n:Int) (vs:List Int)=>((n≤5-vs.length∧vs.length≤5)∧(0<vs.length∨0<n))∧True) (fun (n:Int) (vs:List Int)=>⟨_,[(4,(true,.a (.one (.t (.v (.int .i64 n)))))),(0,_),(2,_),(3,_)],[(2,.box [.t (.v (.slice none 0 0)),.t (.v (.slice none 0 0))]),(3,.box [.rf 20001,.rf 20002]),(20001,.row 1 (vs.map AQ)),(20002,.row 4 []),(888888,.cur g)]⟩) (fun (n:Int) (vs:List Int)=>n.toNat) (z10) ([]) ⟨by simp at hz10;simp;omega,Y⟩ Aw ?_
 rintro n vs ⟨hk,he⟩
 refine Ae (Af (Ab ?_));refine AWl.gc ?_;refine Aa (Ai (.tm U) (fun h12=>?_) (fun h12=>?_))
 · try simp at h12
   refine Am (Ae (AW.block (As (Ay [0,2,3,4,11,12] [2,3,20001,20002,888888]) ?_)));apply Cr (N:=5) (k:=2) (Hs:=[0,1,2]) (ms:=[[],[3],[3,4]]) (es:=[(0,3,1),(1,4,2)]) (σ1:=_) (SM:=⟨_,[(0,_),(2,_),(3,_),(4,_),(11,_),(12,_),(15,_),(16,_),(17,_)],[(2,_),(3,_),(20001,_),(20002,_),(888888,_)]⟩)
   case hm=>kernel_rfl
   case hB=>kernel_rfl
   case hP=>kernel_rfl
   case hL=>kernel_rfl
   case hN=>rfl
   case hpre=>
    apply Ax (P:=ZA) 0 rfl ((by exact Bj rfl (.no rfl) rfl (.tm rfl) Ci)) (by exact .pp) rfl rfl rfl;apply Ax (P:=ZA) 1 rfl ((by exact Be rfl (.no rfl) rfl (.tm rfl) rfl Cc rfl rfl)) (by exact BM.load (x:=.tmp 15) (.tm rfl) rfl Cc rfl rfl) rfl rfl rfl;apply Ax (P:=ZA) 2 rfl (Bh rfl (.no rfl) rfl (.tm rfl)) (by exact BM.slot (t:=0) rfl) rfl rfl rfl;exact EC.nil
   case hS=>exact Ba
   case hH=>
    refine AX.fq Ci ?_;refine AX.lq Cc ?_;refine AX.mv ?_
    trivial
   apply Dh.drw0 (i:=3)
   case ha=>rfl
   case ho=>rfl
   case hE=>
    intro  hp
    obtain _:=hp
    exact Bo 1800 (BL _) rfl rfl rfl (.tm rfl) rfl rfl (.cons (.const rfl) rfl .nil) (fun _=>rfl) (fun _=>rfl)
   case hb=>rfl
   case hL=>
    intro  z18 hp hy;exact CV.eq (Ay [0,2,3,4,11,12,15,16,17,18] [2,3,20001,20002,888888]) U
   case hS=>intros;exact Ba
   apply Dh.new1 (i:=4);rfl;rfl;rfl
   · intro w9 z18 hp
     obtain⟨_,hz18⟩:=hp
     refine Bp (Ce (xs:=[.tmp 18]) 19 U U U (.cons (.tm U) U U .nil) Z9 in3 U U U U) U ?_;exact Al [0,2,3,4,11,12,15,16,17,19] [2,3,20001,20002,888888,19]
   intros;exact Ba
   refine Dh.fin1 (k:=2) rfl ?_;intro z18 hp
   obtain⟨_,hz18⟩:=hp
   refine Bt (B8 U U U (.tm U) U (.tm U) (by exact .rf U) (by rfl) Z9 in3 U (by (simp [AH];omega)) (by (unfold maxLen;simp [AH];omega))) U ?_;refine Bv (Ay [0,2,3,4,12,20] [2,3,20001,20002,888888,19]) ?_;refine Bq Ci ?_;refine A4 Cc ?_;refine Aa (Ad (Ab ?_));refine C9 ?_;refine Ah ?_;refine Aa ?_
   repeat (with_reducible refine Av ?_)
   refine BV.next (n-1) (vs++[z18]) ⟨by (try simp at h12);refine⟨by simp;omega,by simp⟩,Y⟩ (by (try simp at h12);omega) (Au rfl ⟨rfl,rfl,rfl,rfl,Y⟩ ⟨(by rfl),(by rfl),(by (refine congrArg (fun r=>some (R.row _ r)) ?_;simp [AH,ZC,AQ,Ey,DV,BC,AS,BH,AP,AG,BG,BO,CF,DE,BW,BA,AE,AK,BJ,AT,Em,DD,AZ,BN])),(by rfl),(by rfl),Y⟩)
 try simp at h12
 refine Bf (Af (An ?_));refine Aa (Ae (Af (Ab ?_)));refine Ab ?_;refine Bp (Ce (xs:=[.const (.int .i64 (4)),.const (.int .i64 (8)),.const (.int .i64 (11))]) 24 U U U (.cons (.const U) U U (.cons (.const U) U U (.cons (.const U) U U .nil))) Z9 in3 U U U U) U ?_;refine Bn (Bo 2500 (CL [4,8,11] (by decide)) U U U (.tm U) U U (.cons (.tm U) U .nil) (fun _=>rfl) (fun _=>rfl)) ?_
 rintro _ ⟨z25,hz25,rfl⟩
 try dsimp only at hz25
 refine Bn (Bo 2600 (BL _) U U U (.tm U) U U (.cons (.tm U) U .nil) (fun _=>rfl) (fun _=>rfl)) ?_
 rintro _ ⟨z26,hz26,rfl⟩
 try dsimp only at hz26
 refine Ah ?_;refine Aa (AW.block ?_);refine Dz (fun (n2:Int) (id:Int) (es:List DL)=>((n2≤11-es.length∧es.length≤11∧0≤id∧id≤3*es.length))∧True) (fun (n2:Int) (id:Int) (es:List DL)=>⟨_,[(6,(true,.a (.one (.t (.v (.int .i64 n2)))))),(5,(true,.a (.one (.t (.v (.int .i64 id)))))),(0,_),(2,_),(3,_)],[(2,.box [.t (.v (.slice none 0 0)),.t (.v (.slice none 0 0))]),(3,.box [.rf 20001,.rf 20002]),(20001,.row 1 (vs.map AQ)),(20002,.row 4 (es.map AP)),(888888,.cur g)]⟩) (fun (n2:Int) (id:Int) (es:List DL)=>n2.toNat) (z26) (0) ([]) ⟨by simp at hz25;exact⟨by simp;omega,by simp,by omega,by omega⟩,Y⟩ Aw ?_
 rintro n2 id es ⟨hk2,he2⟩
 refine Ae (Af (Ab ?_));refine AWl.gc ?_;refine Aa (Ai (.tm U) (fun h28=>?_) (fun h28=>?_))
 · try simp at h28
   refine Am (Ae (AW.block (Af (Ab ?_))));refine A9 ?_;refine Ab ?_;refine Bn (Bo 3400 (BL _) U U U (.tm U) U U (.cons (.const U) U .nil) (fun _=>rfl) (fun _=>rfl)) ?_
   rintro _ ⟨z34,hz34,rfl⟩
   try dsimp only at hz34
   refine Ac (Dn U (.no U) U (.tm U) (.tm U) (fun _=>by omega)) U ?_;refine Ah ?_;refine Aa (As (Ay [0,2,3,5,6] [2,3,20001,20002,888888]) ?_);refine As (Ay [0,2,3,5,6] [2,3,20001,20002,888888]) ?_;apply Cr (N:=18) (k:=8) (Hs:=[0,1,2,3,4,5,6,8,9,10,11,13]) (ms:=[[],[7],[14],[7,12],[7,14],[7,12,14],[7,12,14,15],[7,12,14,15,16],[7,12,14,15,16,17]]) (es:=[(0,7,1),(0,14,2),(1,12,3),(1,14,4),(2,7,4),(3,14,5),(4,12,5),(5,15,6),(6,16,7),(7,17,8)]) (σ1:=_) (SM:=⟨_,[(0,_),(2,_),(3,_),(5,_),(6,_),(36,_),(37,_),(38,_),(39,_),(40,_),(41,_),(42,_),(44,_),(45,_),(46,_),(47,_),(49,_)],[(2,_),(3,_),(20001,_),(20002,_),(888888,_)]⟩)
   case hm=>kernel_rfl
   case hB=>kernel_rfl
   case hP=>kernel_rfl
   case hL=>kernel_rfl
   case hN=>rfl
   case hpre=>
    apply Ax (P:=ZA) 0 rfl ((by exact Bj rfl (.no rfl) rfl (.tm rfl) Ct)) (by exact .pp) rfl rfl rfl;apply Ax (P:=ZA) 1 rfl ((by exact Be rfl (.no rfl) rfl (.tm rfl) rfl D0 rfl rfl)) (by exact BM.load (x:=.tmp 36) (.tm rfl) rfl D0 rfl rfl) rfl rfl rfl;apply Ax (P:=ZA) 2 rfl (Bh rfl (.no rfl) rfl (.tm rfl)) (by exact BM.slot (t:=5) rfl) rfl rfl rfl;apply Ax (P:=ZA) 3 rfl (Bh rfl (.no rfl) rfl (.tm rfl)) (by exact BM.slot (t:=0) rfl) rfl rfl rfl;apply Ax (P:=ZA) 4 rfl ((by exact Bj rfl (.no rfl) rfl (.tm rfl) Ci)) (by exact .pp) rfl rfl rfl;apply Ax (P:=ZA) 5 rfl ((by exact Be rfl (.no rfl) rfl (.tm rfl) rfl Cc rfl rfl)) (by exact BM.load (x:=.tmp 40) (.tm rfl) rfl Cc rfl rfl) rfl rfl rfl;apply Ax (P:=ZA) 6 rfl ((by exact Di rfl (.no rfl) rfl (.tm rfl) (by exact .rf rfl) Z9)) (by exact .val rfl) rfl rfl rfl
    apply Ax (P:=ZA) 8 rfl (Bh rfl (.no rfl) rfl (.tm rfl)) (by exact BM.slot (t:=0) rfl) rfl rfl rfl;apply Ax (P:=ZA) 9 rfl ((by exact Bj rfl (.no rfl) rfl (.tm rfl) Ci)) (by exact .pp) rfl rfl rfl;apply Ax (P:=ZA) 10 rfl ((by exact Be rfl (.no rfl) rfl (.tm rfl) rfl Cc rfl rfl)) (by exact BM.load (x:=.tmp 45) (.tm rfl) rfl Cc rfl rfl) rfl rfl rfl;apply Ax (P:=ZA) 11 rfl ((by exact Di rfl (.no rfl) rfl (.tm rfl) (by exact .rf rfl) Z9)) (by exact .val rfl) rfl rfl rfl;apply Ax (P:=ZA) 13 rfl (Bh rfl (.no rfl) rfl (.tm rfl)) (by exact BM.slot (t:=0) rfl) rfl rfl rfl;exact EC.nil
   case hS=>exact Ba
   case hH=>
    refine AX.fq Ct ?_;refine AX.lq D0 ?_;refine AX.mv ?_;refine AX.mv ?_;refine AX.fq Ci ?_;refine AX.lq Cc ?_
    refine⟨⟨_,_,_,rfl,rfl,rfl,fun σ' hs=>(by exact Di rfl (.no rfl) (Ag hs rfl) (.tm (hs.slots _ _ rfl)) (by exact .rf (hs.res _ _ rfl)) Z9)⟩,?_⟩
    refine AX.mv ?_;refine AX.fq Ci ?_;refine AX.lq Cc ?_
    refine⟨⟨_,_,_,rfl,rfl,rfl,fun σ' hs=>(by exact Di rfl (.no rfl) (Ag hs rfl) (.tm (hs.slots _ _ rfl)) (by exact .rf (hs.res _ _ rfl)) Z9)⟩,?_⟩
    refine AX.mv ?_
    trivial
   apply Dh.drw0 (i:=7)
   case ha=>rfl
   case ho=>rfl
   case hE=>
    intro  hp
    obtain _:=hp
    exact Bo 4300 (BL _) rfl rfl rfl (.tm rfl) rfl rfl (.cons (.tm rfl) rfl .nil) (fun _=>rfl) (fun _=>rfl)
   case hb=>rfl
   case hL=>
    intro  z43 hp hy;exact CV.eq (Ay [0,2,3,5,6,36,37,38,39,40,41,42,43,44,45,46,47,49] [2,3,20001,20002,888888]) U
   case hS=>intros;exact Ba
   apply Dh.new0 (i:=14);rfl;rfl;rfl
   · intro w9 _;refine Bp (Ce (xs:=[.const (.int .i64 (0)),.const (.int .i64 (0)),.const (.int .i64 (1)),.const (.int .i64 (2))]) 50 U U U (.cons (.const U) U U (.cons (.const U) U U (.cons (.const U) U U (.cons (.const U) U U .nil)))) Z9 in3 U U U U) U ?_;exact Al [0,2,3,5,6,36,37,38,39,40,41,42,44,45,46,47,49,50] [2,3,20001,20002,888888,50]
   intros;exact Ba
   apply Dh.drw1 (i:=12)
   case ha=>rfl
   case ho=>rfl
   case hE=>
    intro z43 hp
    obtain⟨_,hz43⟩:=hp
    exact Bo 4800 (BL _) rfl rfl rfl (.tm rfl) rfl rfl (.cons (.tm rfl) rfl .nil) (fun _=>rfl) (fun _=>rfl)
   case hb=>rfl
   case hL=>
    intro z43 z48 hp hy;exact CV.eq (Ay [0,2,3,5,6,36,37,38,39,40,41,42,43,44,45,46,47,48,49] [2,3,20001,20002,888888]) U
   case hS=>intros;exact Ba
   apply Dh.new1 (i:=14);rfl;rfl;rfl
   · intro w9 z43 hp
     obtain⟨_,hz43⟩:=hp
     refine Bp (Ce (xs:=[.const (.int .i64 (0)),.const (.int .i64 (0)),.const (.int .i64 (1)),.const (.int .i64 (2))]) 50 U U U (.cons (.const U) U U (.cons (.const U) U U (.cons (.const U) U U (.cons (.const U) U U .nil)))) Z9 in3 U U U U) U ?_;exact Al [0,2,3,5,6,36,37,38,39,40,41,42,43,44,45,46,47,49,50] [2,3,20001,20002,888888,50]
   intros;exact Ba
   apply Dh.odr0 (i:=7)
   case ha=>rfl
   case ho=>rfl
   case hE=>
    intro  hp
    obtain _:=hp
    exact Bo 4300 (BL _) rfl rfl rfl (.tm rfl) rfl rfl (.cons (.tm rfl) rfl .nil) (fun _=>rfl) (fun _=>rfl)
   case hb=>rfl
   case hL=>
    intro  z43 hp hy;exact Aw
   apply Dh.new2 (i:=14);rfl;rfl;rfl
   · intro w9 z43 z48 hp
     obtain⟨⟨_,hz43⟩,hz48⟩:=hp
     refine Bp (Ce (xs:=[.const (.int .i64 (0)),.const (.int .i64 (0)),.const (.int .i64 (1)),.const (.int .i64 (2))]) 50 U U U (.cons (.const U) U U (.cons (.const U) U U (.cons (.const U) U U (.cons (.const U) U U .nil)))) Z9 in3 U U U U) U ?_;exact Al [0,2,3,5,6,36,37,38,39,40,41,42,43,44,45,46,47,48,49,50] [2,3,20001,20002,888888,50]
   intros;exact Ba
   apply Dh.odr1 (i:=12)
   case ha=>rfl
   case ho=>rfl
   case hE=>
    intro z43 hp
    obtain⟨_,hz43⟩:=hp
    exact Bo 4800 (BL _) rfl rfl rfl (.tm rfl) rfl rfl (.cons (.tm rfl) rfl .nil) (fun _=>rfl) (fun _=>rfl)
   case hb=>rfl
   case hL=>
    intro z43 z48 hp hy;exact Aw
   apply Dh.drw2 (i:=15)
   case ha=>rfl
   case ho=>rfl
   case hE=>
    intro z43 z48 hp
    obtain⟨⟨_,hz43⟩,hz48⟩:=hp
    exact Bo 5100 (CL [0,0,1,2] (by decide)) rfl rfl rfl (.tm rfl) rfl rfl (.cons (.tm rfl) rfl .nil) (fun _=>rfl) (fun _=>rfl)
   case hb=>rfl
   case hL=>
    intro z43 z48 z51 hp hy;exact CV.eq (Ay [0,2,3,5,6,36,37,38,39,40,41,42,43,44,45,46,47,48,49,51] [2,3,20001,20002,888888,50]) U
   case hS=>intros;exact Ba
   apply Dh.new3 (i:=16);rfl;rfl;rfl
   · intro w9 z43 z48 z51 hp
     obtain⟨⟨⟨_,hz43⟩,hz48⟩,hz51⟩:=hp
     refine Ac (Bm (ps:=[(0,.tmp 38),(1,.tmp 43),(2,.tmp 48),(3,.tmp 51)]) U U U HF U U UW (.cons (.tm U) U U TG (.cons (.tm U) U U TF (.cons (.tm U) U U TE (.cons (.tm U) U U TD .nil)))) U) U ?_;exact Al [0,2,3,5,6,36,37,38,39,40,41,42,44,45,46,47,49,52] [2,3,20001,20002,888888,50]
   intros;exact Ba
   apply Dh.new3 (i:=17);rfl;rfl;rfl
   · intro w9 z43 z48 z51 hp
     obtain⟨⟨⟨_,hz43⟩,hz48⟩,hz51⟩:=hp
     refine Bp (Ce (xs:=[.tmp 52]) 53 U U U (.cons (.tm U) U U .nil) ZH HF U U U U) U ?_;exact Al [0,2,3,5,6,36,37,38,39,40,41,42,44,45,46,47,49,53] [2,3,20001,20002,888888,50,53]
   intros;exact Ba
   refine Dh.fin3 (k:=8) rfl ?_;intro z43 z48 z51 hp
   obtain⟨⟨⟨_,hz43⟩,hz48⟩,hz51⟩:=hp
   refine Bt (B8 U U U (.tm U) U (.tm U) (by exact .rf U) (by rfl) ZH HF U (by (simp [AH];omega)) (by (unfold maxLen;simp [AH];omega))) U ?_;refine Bv (Ay [0,2,3,5,6,54] [2,3,20001,20002,888888,50,53]) ?_;refine Bq Ct ?_;refine A4 D0 ?_;refine Aa (Ad (Ab ?_));refine C9 ?_;refine Ah ?_;refine Aa ?_
   repeat (with_reducible refine Av ?_)
   refine Ef.next (n2-1) (id+1+z34) (es++[⟨id+1+z34,z43,z48,z51⟩]) ⟨by (try simp at h28);exact⟨by simp;omega,by simp;omega,by omega,by simp;omega⟩,Y⟩ (by (try simp at h28);omega) (Au rfl ⟨rfl,rfl,rfl,rfl,rfl,Y⟩ ⟨(by rfl),(by rfl),(by rfl),(by (refine congrArg (fun r=>some (R.row _ r)) ?_;simp [AH,ZC,AQ,Ey,DV,BC,AS,BH,AP,AG,BG,BO,CF,DE,BW,BA,AE,AK,BJ,AT,Em,DD,AZ,BN])),(by rfl),Y⟩)
 try simp at h28
 refine Bf (Af (Bb B7 ?_));refine A4 B7 ?_;refine Aa (Aq ?_);apply Ev.mk (x:=⟨vs,es⟩) rfl
 case h=>
  refine Res.one U (.cell U U B7 U U .nil) U ?_
  rfl
 case hp=>exact⟨by show 1≤vs.length;(try simp at h12);omega,by show vs.length≤5;omega,hk2.2.1⟩
end Go.Q
