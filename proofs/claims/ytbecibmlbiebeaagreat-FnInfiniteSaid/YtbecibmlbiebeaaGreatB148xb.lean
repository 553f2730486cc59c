import Derived.Test.YtbecibmlbiebeaaGreatB147xb
import Derived.Test.YtbecibmlbiebeaaGreatB98xb
set_option linter.unusedVariables false
set_option linter.unusedSimpArgs false
set_option maxRecDepth 100000
set_option maxHeartbeats 1000000
set_option maxRecDepth 100000
namespace Go.Q
open Go.RowKit Go.D
def posOk (p:TPositions):Prop:=p.Letters.length=p.Follow.length∧p.Letters.length≤24
def autD (a:TAutomaton):Prop:=1≤a.Next.length∧(∀ r∈a.Next,r.length=9)∧a.Accept.length≤1000
end Go.Q
namespace Go.Proofs.YtbecibmlbiebeaaGreat
open Go.RowKit Go.Q Go.D
theorem specl10After (p:TPositions) (h:posOk p) (s k:Int):FnE Tryz.prog 136 [.agg (cPositions p),.one (.v (.int .i64 s)),.one (.v (.int .i64 k))] (fun _:Int=>True) (fun n=>.a (.one (.v (.int .i64 n)))):=by
 refine FnE.walk Tryz.func136 rfl (by kernel_rfl) Tryz.ntmps136 rfl fun w0=>?_
 obtain⟨hp1,hp2⟩:=h
 refine Af (Ad (Bm U U U (.tm U) (ts:=_) (by rfl)) U ?_);refine Ak ?_;refine Aa (Af (Ak ?_));refine Aa (Ae (Af (Ab ?_)));refine Ad (R_andI U (.no U) U (.tm U) (.const U)) U ?_;refine Bs ?_;refine Aa (Ai (.tm U) (fun h13=>?_) (fun h13=>?_))
 · try simp only [bit_at,bit_zero,shr_zero] at h13
   try simp only [Int.toNat_natCast] at h13
   try simp at h13
   refine Ac (Bg fl92_1 ?_);refine Aq ty3 ?_;refine Ag ?_;refine Aa (Ae (Af (Ak ?_)));refine Aa (AW.block (Cz (fun (i:Nat) (M:Int)=>(i≤p.Letters.length)∧True) (fun (i:Nat) (M:Int)=>⟨_,[(8,(true,.a (.one (.t (.v (.int .i64 (i:Nat))))))),(7,(true,.a (.one (.t (.v (.int .i64 M)))))),(1,_),(2,_),(3,_),(6,_)],[]⟩) (fun (i:Nat) (M:Int)=>p.Letters.length-i) (0) (_) ⟨Nat.zero_le _,Y⟩ (Ap U ⟨U,U,U,U,U,U,Y⟩ trivial) ?_))
   rintro i M ⟨hk,he⟩
   refine Ae (Af (Ab ?_));refine Bg fl92_0 ?_;refine Aq Bz ?_;refine Be (.t) Tryz.underlying40 ?_;refine AWl.lt ?_;refine Aa (Ai (.tm U) (fun h20=>?_) (fun h20=>?_))
   · try simp only [bit_at,bit_zero,shr_zero] at h20
     try simp only [Int.toNat_natCast] at h20
     try simp at h20
     obtain⟨f,hf⟩:∃ ξ,p.Follow[i]?=some ξ:=⟨_,List.getElem?_eq_getElem (by omega)⟩
     refine Aj (Ae (AW.block (Af (Ab ?_))));refine Ab ?_;refine A8 ?_;refine Ad (R_shrI U (.no U) U (.tm U) (.tm U) (fun _=>by omega)) U ?_;refine Ad (R_andI U (.no U) U (.tm U) (.const U)) U ?_;refine Bs ?_;refine Aa (Ai (.tm U) (fun h28=>?_) (fun h28=>?_))
     · try simp only [bit_at,bit_zero,shr_zero] at h28
       try simp only [Int.toNat_natCast] at h28
       try simp at h28
       refine Ar (Av [1,2,3,6,7,8] []) ?_;refine Ac (Ab ?_);refine Bg fl92_3 ?_;refine Aq Bz ?_;refine Ab ?_;refine Ad (As U (.no U) U (.tm U) (.tm U) Tryz.underlying40 ty3 (fun _=>⟨by omega,(by exact Al hf)⟩)) U ?_;refine Aq ty3 ?_;refine Ad (R_orI U (.no U) U (.tm U) (.tm U)) U ?_;refine Ag ?_;refine Aa (Ar (Av [1,2,3,6,7,8] []) ?_);refine Ac (Ab ?_);refine A8 ?_;refine Ag ?_;refine Aa ?_
       repeat (with_reducible refine Au ?_)
       refine Round2.next (i+1) (bits .or .i64 M f) ⟨by omega,Y⟩ (by omega) (Ap rfl ⟨rfl,rfl,rfl,rfl,rfl,rfl,Y⟩ trivial)
     try simp only [bit_at,bit_zero,shr_zero] at h28
     try simp only [Int.toNat_natCast] at h28
     try simp at h28
     refine Aj (Ar (Av [1,2,3,6,7,8] []) ?_);refine Ac (Ab ?_);refine A8 ?_;refine Ag ?_;refine Aa ?_
     repeat (with_reducible refine Au ?_)
     refine Round2.next (i+1) (M) ⟨by omega,Y⟩ (by omega) (Ap rfl ⟨rfl,rfl,rfl,rfl,rfl,rfl,Y⟩ trivial)
   try simp only [bit_at,bit_zero,shr_zero] at h20
   try simp only [Int.toNat_natCast] at h20
   try simp at h20
   refine Bb (Af (Ak ?_));refine Aa (Ae (Af (Ak ?_)));refine Aa (AW.block (Cz (fun (j:Nat) (N:Int)=>(j≤p.Letters.length)∧True) (fun (j:Nat) (N:Int)=>⟨_,[(10,(true,.a (.one (.t (.v (.int .i64 (j:Nat))))))),(9,(true,.a (.one (.t (.v (.int .i64 N)))))),(2,_),(3,_),(6,_),(7,_)],[]⟩) (fun (j:Nat) (N:Int)=>p.Letters.length-j) (0) (0) ⟨Nat.zero_le _,Y⟩ (Ap U ⟨U,U,U,U,U,U,Y⟩ trivial) ?_))
   rintro j N ⟨hk1,he1⟩
   refine Ae (Af (Ab ?_));refine Bg fl92_0 ?_;refine Aq Bz ?_;refine Be (.t) Tryz.underlying40 ?_;refine AWl.lt ?_;refine Aa (Ai (.tm U) (fun h40=>?_) (fun h40=>?_))
   · try simp only [bit_at,bit_zero,shr_zero] at h40
     try simp only [Int.toNat_natCast] at h40
     try simp at h40
     obtain⟨l1,hl1⟩:∃ ξ,p.Letters[j]?=some ξ:=⟨_,List.getElem?_eq_getElem (by omega)⟩
     refine Aj (Ae (AW.block (Af (Ab ?_))));refine Ab ?_;refine Ad (R_shrI U (.no U) U (.tm U) (.tm U) (fun _=>by omega)) U ?_;refine Ad (R_andI U (.no U) U (.tm U) (.const U)) U ?_;refine Bs ?_;refine Ab ?_;refine AWl.fy fl92_0 ?_;refine Dj Bz ?_;refine Cm ?_;refine Ad (by exact As U (by exact .yes1 U U U U) U (.tmp U (by exact id)) (.tmp U (by exact id)) Tryz.underlying40 ty3 (fun hq=>by (try simp at hq);exact⟨by omega,(by exact Al hl1)⟩)) U ?_;refine Dj ty3 ?_;refine Cm ?_;refine Ad (R_eq U (by exact .yes1 U U U U) U (.tmp U (by exact id)) (.tmp U (by exact id))) U ?_;refine Ck ?_;refine Aa (Ai (.tm U) (fun h56=>?_) (fun h56=>?_))
     · try simp only [bit_at,bit_zero,shr_zero] at h56
       try simp only [Int.toNat_natCast] at h56
       try simp at h56
       refine Ar (Av [2,3,6,7,9,10] []) ?_;refine Ac (Ab ?_);refine Ab ?_;refine A8 ?_;refine Ad (R_shlN U (.no U) U (.const U) (.tm U) (fun _=>by omega)) U ?_;refine Ad (R_orI U (.no U) U (.tm U) (.tm U)) U ?_;refine Ag ?_;refine Aa (Ac (Ab ?_));refine A8 ?_;refine Ag ?_;refine Aa ?_
       repeat (with_reducible refine Au ?_)
       refine Round2.next (j+1) (bits .or .i64 N ((2^((j:Int)+1).toNat:Nat):Int)) ⟨by omega,Y⟩ (by omega) (Ap rfl ⟨rfl,rfl,rfl,rfl,rfl,rfl,Y⟩ trivial)
     try simp only [bit_at,bit_zero,shr_zero] at h56
     try simp only [Int.toNat_natCast] at h56
     try simp at h56
     refine Aj (Ar (Av [2,3,6,7,9,10] []) ?_);refine Ac (Ab ?_);refine A8 ?_;refine Ag ?_;refine Aa ?_
     repeat (with_reducible refine Au ?_)
     refine Round2.next (j+1) (N) ⟨by omega,Y⟩ (by omega) (Ap rfl ⟨rfl,rfl,rfl,rfl,rfl,rfl,Y⟩ trivial)
   try simp only [bit_at,bit_zero,shr_zero] at h40
   try simp only [Int.toNat_natCast] at h40
   try simp at h40
   refine Bb (Af (Ab ?_));refine Ag ?_;refine Aa (Am ?_);apply ERes.mk
   case h=>
    refine Res.one U (.tmp U .nil) U ?_
    rfl
   case hp=>exact trivial
 try simp only [bit_at,bit_zero,shr_zero] at h13
 try simp only [Int.toNat_natCast] at h13
 try simp at h13
 refine Aj (Ae (Af (Ak ?_)));refine Aa (AW.block (Cz (fun (i:Nat) (M:Int)=>(i≤p.Letters.length)∧True) (fun (i:Nat) (M:Int)=>⟨_,[(8,(true,.a (.one (.t (.v (.int .i64 (i:Nat))))))),(7,(true,.a (.one (.t (.v (.int .i64 M)))))),(1,_),(2,_),(3,_),(6,_)],[]⟩) (fun (i:Nat) (M:Int)=>p.Letters.length-i) (0) (_) ⟨Nat.zero_le _,Y⟩ (Ap U ⟨U,U,U,U,U,U,Y⟩ trivial) ?_))
 rintro i M ⟨hk,he⟩
 refine Ae (Af (Ab ?_));refine Bg fl92_0 ?_;refine Aq Bz ?_;refine Be (.t) Tryz.underlying40 ?_;refine AWl.lt ?_;refine Aa (Ai (.tm U) (fun h20=>?_) (fun h20=>?_))
 · try simp only [bit_at,bit_zero,shr_zero] at h20
   try simp only [Int.toNat_natCast] at h20
   try simp at h20
   obtain⟨f,hf⟩:∃ ξ,p.Follow[i]?=some ξ:=⟨_,List.getElem?_eq_getElem (by omega)⟩
   refine Aj (Ae (AW.block (Af (Ab ?_))));refine Ab ?_;refine A8 ?_;refine Ad (R_shrI U (.no U) U (.tm U) (.tm U) (fun _=>by omega)) U ?_;refine Ad (R_andI U (.no U) U (.tm U) (.const U)) U ?_;refine Bs ?_;refine Aa (Ai (.tm U) (fun h28=>?_) (fun h28=>?_))
   · try simp only [bit_at,bit_zero,shr_zero] at h28
     try simp only [Int.toNat_natCast] at h28
     try simp at h28
     refine Ar (Av [1,2,3,6,7,8] []) ?_;refine Ac (Ab ?_);refine Bg fl92_3 ?_;refine Aq Bz ?_;refine Ab ?_;refine Ad (As U (.no U) U (.tm U) (.tm U) Tryz.underlying40 ty3 (fun _=>⟨by omega,(by exact Al hf)⟩)) U ?_;refine Aq ty3 ?_;refine Ad (R_orI U (.no U) U (.tm U) (.tm U)) U ?_;refine Ag ?_;refine Aa (Ar (Av [1,2,3,6,7,8] []) ?_);refine Ac (Ab ?_);refine A8 ?_;refine Ag ?_;refine Aa ?_
     repeat (with_reducible refine Au ?_)
     refine Round2.next (i+1) (bits .or .i64 M f) ⟨by omega,Y⟩ (by omega) (Ap rfl ⟨rfl,rfl,rfl,rfl,rfl,rfl,Y⟩ trivial)
   try simp only [bit_at,bit_zero,shr_zero] at h28
   try simp only [Int.toNat_natCast] at h28
   try simp at h28
   refine Aj (Ar (Av [1,2,3,6,7,8] []) ?_);refine Ac (Ab ?_);refine A8 ?_;refine Ag ?_;refine Aa ?_
   repeat (with_reducible refine Au ?_)
   refine Round2.next (i+1) (M) ⟨by omega,Y⟩ (by omega) (Ap rfl ⟨rfl,rfl,rfl,rfl,rfl,rfl,Y⟩ trivial)
 try simp only [bit_at,bit_zero,shr_zero] at h20
 try simp only [Int.toNat_natCast] at h20
 try simp at h20
 refine Bb (Af (Ak ?_));refine Aa (Ae (Af (Ak ?_)));refine Aa (AW.block (Cz (fun (j:Nat) (N:Int)=>(j≤p.Letters.length)∧True) (fun (j:Nat) (N:Int)=>⟨_,[(10,(true,.a (.one (.t (.v (.int .i64 (j:Nat))))))),(9,(true,.a (.one (.t (.v (.int .i64 N)))))),(2,_),(3,_),(6,_),(7,_)],[]⟩) (fun (j:Nat) (N:Int)=>p.Letters.length-j) (0) (0) ⟨Nat.zero_le _,Y⟩ (Ap U ⟨U,U,U,U,U,U,Y⟩ trivial) ?_))
 rintro j N ⟨hk1,he1⟩
 refine Ae (Af (Ab ?_));refine Bg fl92_0 ?_;refine Aq Bz ?_;refine Be (.t) Tryz.underlying40 ?_;refine AWl.lt ?_;refine Aa (Ai (.tm U) (fun h40=>?_) (fun h40=>?_))
 · try simp only [bit_at,bit_zero,shr_zero] at h40
   try simp only [Int.toNat_natCast] at h40
   try simp at h40
   obtain⟨l1,hl1⟩:∃ ξ,p.Letters[j]?=some ξ:=⟨_,List.getElem?_eq_getElem (by omega)⟩
   refine Aj (Ae (AW.block (Af (Ab ?_))));refine Ab ?_;refine Ad (R_shrI U (.no U) U (.tm U) (.tm U) (fun _=>by omega)) U ?_;refine Ad (R_andI U (.no U) U (.tm U) (.const U)) U ?_;refine Bs ?_;refine Ab ?_;refine AWl.fy fl92_0 ?_;refine Dj Bz ?_;refine Cm ?_;refine Ad (by exact As U (by exact .yes1 U U U U) U (.tmp U (by exact id)) (.tmp U (by exact id)) Tryz.underlying40 ty3 (fun hq=>by (try simp at hq);exact⟨by omega,(by exact Al hl1)⟩)) U ?_;refine Dj ty3 ?_;refine Cm ?_;refine Ad (R_eq U (by exact .yes1 U U U U) U (.tmp U (by exact id)) (.tmp U (by exact id))) U ?_;refine Ck ?_;refine Aa (Ai (.tm U) (fun h56=>?_) (fun h56=>?_))
   · try simp only [bit_at,bit_zero,shr_zero] at h56
     try simp only [Int.toNat_natCast] at h56
     try simp at h56
     refine Ar (Av [2,3,6,7,9,10] []) ?_;refine Ac (Ab ?_);refine Ab ?_;refine A8 ?_;refine Ad (R_shlN U (.no U) U (.const U) (.tm U) (fun _=>by omega)) U ?_;refine Ad (R_orI U (.no U) U (.tm U) (.tm U)) U ?_;refine Ag ?_;refine Aa (Ac (Ab ?_));refine A8 ?_;refine Ag ?_;refine Aa ?_
     repeat (with_reducible refine Au ?_)
     refine Round2.next (j+1) (bits .or .i64 N ((2^((j:Int)+1).toNat:Nat):Int)) ⟨by omega,Y⟩ (by omega) (Ap rfl ⟨rfl,rfl,rfl,rfl,rfl,rfl,Y⟩ trivial)
   try simp only [bit_at,bit_zero,shr_zero] at h56
   try simp only [Int.toNat_natCast] at h56
   try simp at h56
   refine Aj (Ar (Av [2,3,6,7,9,10] []) ?_);refine Ac (Ab ?_);refine A8 ?_;refine Ag ?_;refine Aa ?_
   repeat (with_reducible refine Au ?_)
   refine Round2.next (j+1) (N) ⟨by omega,Y⟩ (by omega) (Ap rfl ⟨rfl,rfl,rfl,rfl,rfl,rfl,Y⟩ trivial)
 try simp only [bit_at,bit_zero,shr_zero] at h40
 try simp only [Int.toNat_natCast] at h40
 try simp at h40
 refine Bb (Af (Ab ?_));refine Ag ?_;refine Aa (Am ?_);apply ERes.mk
 case h=>
  refine Res.one U (.tmp U .nil) U ?_
  rfl
 case hp=>exact trivial
theorem specl10Accepts (p:TPositions) (s:Int):FnE Tryz.prog 137 [.agg (cPositions p),.one (.v (.int .i64 s))] (fun _:Bool=>True) (fun n=>.a (.one (.v (.bool n)))):=by
 refine FnE.walk Tryz.func137 rfl (by kernel_rfl) Tryz.ntmps137 rfl fun w0=>?_
 refine Af (Ad (Bm U U U (.tm U) (ts:=_) (by rfl)) U ?_);refine Ak ?_;refine Aa (Af (Ab ?_));refine Ad (R_andI U (.no U) U (.tm U) (.const U)) U ?_;refine Bs ?_;refine Ab ?_;refine AWl.fy fl92_4 ?_;refine Dj ty4 ?_;refine Ck ?_;refine Ab ?_;refine AWl.mw ?_;refine Ad (R_shrI U (by exact .not1 U U U U) U (.tmp U (by exact id)) (.const U) (fun _=>by omega)) U ?_;refine Dc fl92_2 ?_;refine Db ty3 ?_;refine Ad (R_andI U (by exact .not1 U U U U) U (.tmp U (by exact id)) (.tmp U (by exact id))) U ?_;refine Ad (R_ne U (by exact .not1 U U U U) U (.tmp U (by exact id)) (.const U)) U ?_;refine Cx ?_;refine Ag ?_;refine Aa (Am ?_);apply ERes.mk
 case h=>
  refine Res.one U (.tmp U .nil) U ?_
  rfl
 case hp=>exact trivial
theorem specl11FindD (l:List Int) (x:Int) (hl:l.length≤100000):FnE Tryz.prog 104 [.one (.sl 1 (l.map cInt)),.one (.v (.int .i64 x))] (fun _:Int=>True) (fun n=>.a (.one (.v (.int .i64 n)))):=by
 refine FnE.walk Tryz.func104 rfl (by kernel_rfl) Tryz.ntmps104 rfl fun w0=>?_
 refine Af (Ak ?_);refine Aa (Ae (Af (Ak ?_)));refine Aa (AW.block (By (fun (i:Nat)=>(i≤l.length)∧True) (fun (i:Nat)=>⟨_,[(5,(true,.a (.one (.t (.v (.int .i64 (i:Nat))))))),(0,_),(1,_)],[]⟩) (fun (i:Nat)=>l.length-i) (0) ⟨Nat.zero_le _,Y⟩ (Ap U ⟨U,U,U,Y⟩ trivial) ?_))
 rintro i ⟨hk,he⟩
 refine Ae (Af (Ab ?_));refine Ab ?_;refine Be (.t) Tryz.underlying40 ?_;refine AWl.lt ?_;refine Aa (Ai (.tm U) (fun h9=>?_) (fun h9=>?_))
 · try simp at h9
   obtain⟨y,hy⟩:∃ ξ,l[i]?=some ξ:=⟨_,List.getElem?_eq_getElem (by omega)⟩
   refine Aj (Ae (AW.block (Af (Ab ?_))));refine Ab ?_;refine Ad (As U (.no U) U (.tm U) (.tm U) Tryz.underlying40 ty3 (fun _=>⟨by omega,(Al hy)⟩)) U ?_;refine Aq ty3 ?_;refine Ab ?_;refine AWl.eq ?_;refine Aa (Ai (.tm U) (fun h17=>?_) (fun h17=>?_))
   · try simp at h17
     refine Ae (Ar (Av [0,1,5] []) ?_);refine Ac (Ab ?_);refine Ag ?_;refine Aa (Am ?_);apply ERes.mk
     case h=>
      refine Res.one U (.tmp U .nil) U ?_
      rfl
     case hp=>exact trivial
   try simp at h17
   refine Aj (Ar (Av [0,1,5] []) ?_);refine Ac (Ab ?_);refine A8 ?_;refine Ag ?_;refine Aa ?_
   repeat (with_reducible refine Au ?_)
   refine Round1.next (i+1) ⟨by omega,Y⟩ (by omega) (Ap rfl ⟨rfl,rfl,rfl,Y⟩ trivial)
 try simp at h9
 refine Bb (Af (Ak ?_));refine Aa (Am ?_);apply ERes.mk
 case h=>
  refine Res.one U (.tmp U .nil) U ?_
  rfl
 case hp=>exact trivial
theorem specl11Random:FnD Tryz.prog 208 [] autD (fun a=>.a (.agg (cAutomaton a))):=by
 refine FnD.walk Tryz.func208 U (by kernel_rfl) Tryz.ntmps208 U (fun g=>rfl) fun w0 g=>?_
 refine Af (A6 (Bi 2 U U U in36 U U U) U ?_);refine Aa (Af (Ab ?_));refine Bd (Bf 1000 (specl1Below _) U U U (.tm U) U U (.cons (.const U) U .nil) (fun _=>rfl) (fun _=>rfl)) ?_
 rintro _ ⟨z10,hz10,rfl⟩
 try dsimp only at hz10
 refine Ad (C7 U (.no U) U (.const U) (.tm U) (fun _=>by omega)) U ?_;refine Ag ?_;refine Aa (Af (Ab ?_));refine Ab ?_;refine Bd (Bf 1400 (specl1Below _) U U U (.tm U) U U (.cons (.tm U) U .nil) (fun _=>rfl) (fun _=>rfl)) ?_
 rintro _ ⟨z14,hz14,rfl⟩
 try dsimp only at hz14
 refine Ad (Bo (ps:=[(0,.tmp 14)]) U U U in36 U U st36 (.cons (.tm U) U U fp36_0 .nil) U) U ?_;refine Ci (i:=15) 20001 1 1 U U U ?_;refine Ci (i:=15) 20002 1 2 U U U ?_;refine A6 (Bi 4 U U U in36 U U U) U ?_;refine Az Bt ?_;refine Aa (Ae (Ae (Ar (Av [0,2,3,4] [888888,2,20001,20002,4]) ?_)));refine Ac (Ak ?_);refine Aa (AW.block ?_)
 refine C6 (fun (s:Int) (B:List Bool) (N:List (List Int))=>((0≤s∧s≤1+z10∧(N.length:Int)=s∧B.length=N.length)∧∀ r∈N,r.length=9)∧True) (fun (s:Int) (B:List Bool) (N:List (List Int))=>⟨_,[(5,(true,.a (.one (.t (.v (.int .i64 s)))))),(3,(true,.a (.one (.t (.v (.int .i64 (1+z10))))))),(0,_),(2,_),(4,_)],[(2,.box [.t (.v (.int .i64 0)),.t (.v (.slice none 0 0)),.t (.v (.slice none 0 0))]),(4,.box [.t (.v (.int .i64 z14)),.rf 20001,.rf 20002]),(20001,.row 1 (B.map cBool)),(20002,.row 1 (N.map cIntS)),(888888,.cur g)]⟩) (fun (s:Int) (B:List Bool) (N:List (List Int))=>(1+z10-s).toNat) (0) ([]) ([]) ⟨⟨⟨by omega,by omega,by simp,by simp⟩,by simp⟩,Y⟩ A4 ?_
 rintro s B N ⟨hk,he⟩
 refine Ae (Af (Ab ?_));refine Ab ?_;refine AWl.lt ?_;refine Aa (Ai (.tm U) (fun h18=>?_) (fun h18=>?_))
 · try simp at h18
   refine Aj (Ae (AW.block (Af (A6 (Cu 21 U U U Tryz.underlying40 ty3 U) U ?_))));refine Ag ?_;refine Aa (Ae (Af (Ak ?_)));refine Aa (AW.block ?_);refine Cz (fun (k:Nat) (ro:List Int)=>(k≤9∧ro.length=k)∧True) (fun (k:Nat) (ro:List Int)=>⟨_,[(7,(true,.a (.one (.t (.v (.int .i64 (k:Nat))))))),(3,(true,.a (.one (.t (.v (.int .i64 (1+z10))))))),(6,(true,.a (.one (.rf 21)))),(0,_),(2,_),(4,_),(5,_)],[(21,.row 1 (ro.map cInt)),(2,.box [.t (.v (.int .i64 0)),.t (.v (.slice none 0 0)),.t (.v (.slice none 0 0))]),(4,.box [.t (.v (.int .i64 z14)),.rf 20001,.rf 20002]),(20001,.row 1 (B.map cBool)),(20002,.row 1 (N.map cIntS)),(888888,.cur g)]⟩) (fun (k:Nat) (ro:List Int)=>9-k) (0) ([]) ⟨⟨by omega,U⟩,Y⟩ A4 ?_
   rintro k ro ⟨hk1,he1⟩
   refine Ae (Af (Ab ?_));refine Du ?_;refine Aa (Ai (.tm U) (fun h23=>?_) (fun h23=>?_))
   · try simp at h23
     refine Aj (Ae (AW.block (Af (Ak ?_))));refine Aa (Ae (Af (Ab ?_)));refine Bd (Bf 2700 (specl1Once _) U U U (.tm U) U U (.cons (.const U) U .nil) (fun _=>rfl) (fun _=>rfl)) ?_
     rintro _ ⟨z27,hz27,rfl⟩
     try dsimp only at hz27
     refine C1 ?_;refine Aa (Ai (.tm U) (fun h28=>?_) (fun h28=>?_))
     · try simp at h28
       refine Ac (Ab ?_);refine Ab ?_;refine Bd (Bf 3100 (specl1Below _) U U U (.tm U) U U (.cons (.tm U) U .nil) (fun _=>rfl) (fun _=>rfl)) ?_
       rintro _ ⟨z31,hz31,rfl⟩
       try dsimp only at hz31
       refine Ag ?_;refine Aa (Ae (Ae (Ar (Av [0,2,3,4,5,6,7,8] [21,2,4,20001,20002,888888]) ?_)));refine Ac (Ab ?_);refine AWl.gc ?_;refine Aa (Ai (.tm U) (fun h33=>?_) (fun h33=>?_))
       · try simp at h33
         refine Ac (Ak ?_);refine Aa (Ac (Ab ?_));refine Ab ?_;refine Ad (B7 (xs:=[.tmp 35]) (rows:=[cInt _]) U U U (.cons (.tm U) U U .nil) Tryz.underlying40 in3 U U (U)) U ?_;refine Bl (Bw U U U (.tm U) U (.tm U) (by exact .t) (by rfl) Tryz.underlying40 in3 U (by (simp [chunk];omega)) (by (unfold maxLen;simp [chunk];omega))) U ?_;refine Bq (Av [0,2,3,4,5,6,7,8,33,37] [21,2,4,20001,20002,888888]) ?_;refine Ag ?_;refine Aa (Ac (Ab ?_));refine A8 ?_;refine Ag ?_;refine Aa ?_
         repeat (with_reducible refine Au ?_)
         refine Round2.next (k+1) (ro++[-1]) ⟨⟨by omega,by simp;omega⟩,Y⟩ (by omega) (Ap rfl ⟨rfl,rfl,rfl,rfl,rfl,rfl,rfl,Y⟩ ⟨(by (refine congrArg (fun r=>some (R.row _ r)) ?_;simp [chunk,List.map_set,cInt,cBool,cIntS,cPair,cToken,cExpr,cEdge,cGraph,cStep,cWalk,cChange,cBatch,cHistory,cPositions,cAutomaton,cProductStep,cPathAtom,cConjunction,cView,cDelta,cRegistered,cRegistry])),(by rfl),(by rfl),(by rfl),(by rfl),(by rfl),Y⟩)
       try simp at h33
       refine Aj (Ac (Ab ?_));refine Ab ?_;refine Ad (B7 (xs:=[.tmp 35]) (rows:=[cInt _]) U U U (.cons (.tm U) U U .nil) Tryz.underlying40 in3 U U (U)) U ?_;refine Bl (Bw U U U (.tm U) U (.tm U) (by exact .t) (by rfl) Tryz.underlying40 in3 U (by (simp [chunk];omega)) (by (unfold maxLen;simp [chunk];omega))) U ?_;refine Bq (Av [0,2,3,4,5,6,7,8,33,37] [21,2,4,20001,20002,888888]) ?_;refine Ag ?_;refine Aa (Ac (Ab ?_));refine A8 ?_;refine Ag ?_;refine Aa ?_
       repeat (with_reducible refine Au ?_)
       refine Round2.next (k+1) (ro++[z31]) ⟨⟨by omega,by simp;omega⟩,Y⟩ (by omega) (Ap rfl ⟨rfl,rfl,rfl,rfl,rfl,rfl,rfl,Y⟩ ⟨(by (refine congrArg (fun r=>some (R.row _ r)) ?_;simp [chunk,List.map_set,cInt,cBool,cIntS,cPair,cToken,cExpr,cEdge,cGraph,cStep,cWalk,cChange,cBatch,cHistory,cPositions,cAutomaton,cProductStep,cPathAtom,cConjunction,cView,cDelta,cRegistered,cRegistry])),(by rfl),(by rfl),(by rfl),(by rfl),(by rfl),Y⟩)
     try simp at h28
     refine Aj (Ae (Af (Ab ?_)));refine AWl.gc ?_;refine Aa (Ai (.tm U) (fun h33=>?_) (fun h33=>?_))
     · try simp at h33
       refine Ar (Av [0,2,3,4,5,6,7,8] [21,2,4,20001,20002,888888]) ?_;refine Ac (Ak ?_);refine Aa (Ac (Ab ?_));refine Ab ?_;refine Ad (B7 (xs:=[.tmp 35]) (rows:=[cInt _]) U U U (.cons (.tm U) U U .nil) Tryz.underlying40 in3 U U (U)) U ?_;refine Bl (Bw U U U (.tm U) U (.tm U) (by exact .t) (by rfl) Tryz.underlying40 in3 U (by (simp [chunk];omega)) (by (unfold maxLen;simp [chunk];omega))) U ?_;refine Bq (Av [0,2,3,4,5,6,7,8,37] [21,2,4,20001,20002,888888]) ?_;refine Ag ?_;refine Aa (Ac (Ab ?_));refine A8 ?_;refine Ag ?_;refine Aa ?_
       repeat (with_reducible refine Au ?_)
       refine Round2.next (k+1) (ro++[-1]) ⟨⟨by omega,by simp;omega⟩,Y⟩ (by omega) (Ap rfl ⟨rfl,rfl,rfl,rfl,rfl,rfl,rfl,Y⟩ ⟨(by (refine congrArg (fun r=>some (R.row _ r)) ?_;simp [chunk,List.map_set,cInt,cBool,cIntS,cPair,cToken,cExpr,cEdge,cGraph,cStep,cWalk,cChange,cBatch,cHistory,cPositions,cAutomaton,cProductStep,cPathAtom,cConjunction,cView,cDelta,cRegistered,cRegistry])),(by rfl),(by rfl),(by rfl),(by rfl),(by rfl),Y⟩)
     try simp at h33
     refine Aj (Ar (Av [0,2,3,4,5,6,7,8] [21,2,4,20001,20002,888888]) ?_);refine Ac (Ab ?_);refine Ab ?_;refine Ad (B7 (xs:=[.tmp 35]) (rows:=[cInt _]) U U U (.cons (.tm U) U U .nil) Tryz.underlying40 in3 U U (U)) U ?_;refine Bl (Bw U U U (.tm U) U (.tm U) (by exact .t) (by rfl) Tryz.underlying40 in3 U (by (simp [chunk];omega)) (by (unfold maxLen;simp [chunk];omega))) U ?_;refine Bq (Av [0,2,3,4,5,6,7,8,37] [21,2,4,20001,20002,888888]) ?_;refine Ag ?_;refine Aa (Ac (Ab ?_));refine A8 ?_;refine Ag ?_;refine Aa ?_
     repeat (with_reducible refine Au ?_)
     refine Round2.next (k+1) (ro++[-1]) ⟨⟨by omega,by simp;omega⟩,Y⟩ (by omega) (Ap rfl ⟨rfl,rfl,rfl,rfl,rfl,rfl,rfl,Y⟩ ⟨(by (refine congrArg (fun r=>some (R.row _ r)) ?_;simp [chunk,List.map_set,cInt,cBool,cIntS,cPair,cToken,cExpr,cEdge,cGraph,cStep,cWalk,cChange,cBatch,cHistory,cPositions,cAutomaton,cProductStep,cPathAtom,cConjunction,cView,cDelta,cRegistered,cRegistry])),(by rfl),(by rfl),(by rfl),(by rfl),(by rfl),Y⟩)
   try simp at h23
   refine Bb (Ae (Ar (Av [0,2,3,4,5,6,7,22,23] [21,2,4,20001,20002,888888]) ?_));apply Cg (N:=5) (k:=2) (Hs:=[0,1,2]) (ms:=[[],[3],[3,4]]) (es:=[(0,3,1),(1,4,2)]) (σ1:=_) (SM:=⟨_,[(0,_),(2,_),(3,_),(4,_),(5,_),(6,_),(7,_),(22,_),(23,_),(38,_),(39,_),(40,_)],[(21,_),(2,_),(4,_),(20001,_),(20002,_),(888888,_)]⟩)
   case hm=>kernel_rfl
   case hB=>kernel_rfl
   case hP=>kernel_rfl
   case hL=>kernel_rfl
   case hN=>rfl
   case hpre=>
    apply Ao (P:=Tryz.prog) 0 rfl ((by exact Ba rfl (.no rfl) rfl (.tm rfl) C0)) (by exact .pp) rfl rfl rfl;apply Ao (P:=Tryz.prog) 1 rfl ((by exact Bk rfl (.no rfl) rfl (.tm rfl) rfl ty33 rfl rfl)) (by exact HasV.load (x:=.tmp 38) (.tm rfl) rfl ty33 rfl rfl) rfl rfl rfl;apply Ao (P:=Tryz.prog) 2 rfl (Bh rfl (.no rfl) rfl (.tm rfl)) (by exact HasV.slot (t:=0) rfl) rfl rfl rfl;exact PreOk.nil
   case hS=>exact A5
   case hH=>
    refine LocsH.fq C0 ?_;refine LocsH.lq ty33 ?_;refine LocsH.mv ?_
    trivial
   apply Dh.drw0 (i:=3)
   case ha=>rfl
   case ho=>rfl
   case hE=>
    intro  hp
    obtain _:=hp
    exact Bf 4100 (specl1Once _) rfl rfl rfl (.tm rfl) rfl rfl (.cons (.const rfl) rfl .nil) (fun _=>rfl) (fun _=>rfl)
   case hb=>rfl
   case hL=>
    intro  z41 hp hy;exact EndQ.eq (Av [0,2,3,4,5,6,7,22,23,38,39,40,41] [21,2,4,20001,20002,888888]) U
   case hS=>intros;exact A5
   apply Dh.new1 (i:=4);rfl;rfl;rfl
   · intro w9 z41 hp
     obtain⟨_,hz41⟩:=hp
     refine Bn (Ce (xs:=[.tmp 41]) 42 U U U (.cons (.tm U) U U .nil) Tryz.underlying33 in4 U U U U) U ?_;exact An [0,2,3,4,5,6,7,22,23,38,39,40,42] [21,2,4,20001,20002,888888,42]
   intros;exact A5
   refine Dh.fin1 (k:=2) rfl ?_;intro z41 hp
   obtain⟨_,hz41⟩:=hp
   refine Bl (Bw U U U (.tm U) U (.tm U) (by exact .rf U) (by rfl) Tryz.underlying33 in4 U (by (simp [chunk];omega)) (by (unfold maxLen;simp [chunk];omega))) U ?_;refine Bq (Av [0,2,3,4,5,6,7,23,43] [21,2,4,20001,20002,888888,42]) ?_;refine Br C0 ?_;refine Az ty33 ?_;refine Aa (Ac (Br C4 ?_));refine A9 ty34 ?_;refine Ab ?_;refine Bn (Ce (xs:=[.tmp 47]) 48 U U U (.cons (.tm U) U U .nil) Tryz.underlying34 in40 U U U U) U ?_;refine Dr (R_append_own U U U (.tm U) U (.tm U) U U Tryz.underlying34 in40 U (by (simp [chunk];omega)) (by (unfold maxLen;simp [chunk];omega))) U ?_;refine Bq (Av [0,2,3,4,5,6,7,23,49] [2,4,20001,20002,888888,42]) ?_;refine Br C4 ?_;refine Az ty34 ?_;refine Aa (Ac (Ab ?_));refine A8 ?_;refine Ag ?_;refine Aa ?_
   repeat (with_reducible refine Au ?_)
   refine Round3.next (s+1) (B++[z41]) (N++[ro]) ⟨by (refine⟨⟨by omega,by omega,by simp;omega,by simp;omega⟩,fun r hr=>?_⟩;rcases List.mem_append.1 hr with hr|hr;exact hk.2 r hr;rw [List.mem_singleton.1 hr];omega),Y⟩ (by omega) (Ap rfl ⟨rfl,rfl,rfl,rfl,rfl,Y⟩ ⟨(by rfl),(by rfl),(by (refine congrArg (fun r=>some (R.row _ r)) ?_;simp [chunk,List.map_set,cInt,cBool,cIntS,cPair,cToken,cExpr,cEdge,cGraph,cStep,cWalk,cChange,cBatch,cHistory,cPositions,cAutomaton,cProductStep,cPathAtom,cConjunction,cView,cDelta,cRegistered,cRegistry])),(by (refine congrArg (fun r=>some (R.row _ r)) ?_;simp [chunk,List.map_set,cInt,cBool,cIntS,cPair,cToken,cExpr,cEdge,cGraph,cStep,cWalk,cChange,cBatch,cHistory,cPositions,cAutomaton,cProductStep,cPathAtom,cConjunction,cView,cDelta,cRegistered,cRegistry])),(by rfl),Y⟩)
 try simp at h18
 refine Bb (Af (A9 Bt ?_));refine Az Bt ?_;refine Aa (Am ?_);apply DRes.mk (x:=⟨z14,B,N⟩) rfl
 case h=>
  refine Res.one U (.cell U U Bt U U .nil) U ?_
  rfl
 case hp=>exact⟨by show 1≤N.length;(try simp at h18);omega,hk.2,by show B.length≤1000;omega⟩
theorem specl3GraphN:FnD Tryz.prog 143 [] (fun g:TGraph=>1≤g.Values.length∧g.Values.length≤5∧g.Edges.length≤11) (fun g=>.a (.agg (cGraph g))):=by
 refine FnD.walk Tryz.func143 U (by kernel_rfl) Tryz.ntmps143 U (fun g=>rfl) fun w0 g=>?_
 refine Af (A6 (Bi 2 U U U in45 U U U) U ?_);refine Aa (Af (Ad (Bo (ps:=[]) U U U in45 U U st45 .nil U) U ?_));refine Ci (i:=7) 20001 1 0 U U U ?_;refine Ci (i:=7) 20002 4 1 U U U ?_;refine A6 (Bi 3 U U U in45 U U U) U ?_;refine Az Bx ?_;refine Aa (Ae (Af (Ab ?_)));refine Bn (Ce (xs:=[.const (.int .i64 (2)),.const (.int .i64 (3)),.const (.int .i64 (4)),.const (.int .i64 (4)),.const (.int .i64 (5))]) 9 U U U (.cons (.const U) U U (.cons (.const U) U U (.cons (.const U) U U (.cons (.const U) U U (.cons (.const U) U U .nil))))) Tryz.underlying40 in3 U U U U) U ?_;refine Bd (Bf 1000 (specl1PickInt [2,3,4,4,5] (by decide)) U U U (.tm U) U U (.cons (.tm U) U .nil) (fun _=>rfl) (fun _=>rfl)) ?_
 rintro _ ⟨z10,hz10,rfl⟩
 try dsimp only at hz10
 refine Ag ?_;refine Aa (AW.block ?_);refine Cz (fun (n:Int) (vs:List Int)=>((n≤5-vs.length∧vs.length≤5)∧(0<vs.length∨0<n))∧True) (fun (n:Int) (vs:List Int)=>⟨_,[(4,(true,.a (.one (.t (.v (.int .i64 n)))))),(0,_),(2,_),(3,_)],[(2,.box [.t (.v (.slice none 0 0)),.t (.v (.slice none 0 0))]),(3,.box [.rf 20001,.rf 20002]),(20001,.row 1 (vs.map cInt)),(20002,.row 4 []),(888888,.cur g)]⟩) (fun (n:Int) (vs:List Int)=>n.toNat) (z10) ([]) ⟨by simp at hz10;simp;omega,Y⟩ A4 ?_
 rintro n vs ⟨hk,he⟩
 refine Ae (Af (Ab ?_));refine AWl.gc ?_;refine Aa (Ai (.tm U) (fun h12=>?_) (fun h12=>?_))
 · try simp at h12
   refine Aj (Ae (AW.block (Ar (Av [0,2,3,4,11,12] [2,3,20001,20002,888888]) ?_)));apply Cg (N:=5) (k:=2) (Hs:=[0,1,2]) (ms:=[[],[3],[3,4]]) (es:=[(0,3,1),(1,4,2)]) (σ1:=_) (SM:=⟨_,[(0,_),(2,_),(3,_),(4,_),(11,_),(12,_),(15,_),(16,_),(17,_)],[(2,_),(3,_),(20001,_),(20002,_),(888888,_)]⟩)
   case hm=>kernel_rfl
   case hB=>kernel_rfl
   case hP=>kernel_rfl
   case hL=>kernel_rfl
   case hN=>rfl
   case hpre=>
    apply Ao (P:=Tryz.prog) 0 rfl ((by exact Ba rfl (.no rfl) rfl (.tm rfl) Cl)) (by exact .pp) rfl rfl rfl;apply Ao (P:=Tryz.prog) 1 rfl ((by exact Bk rfl (.no rfl) rfl (.tm rfl) rfl Bz rfl rfl)) (by exact HasV.load (x:=.tmp 15) (.tm rfl) rfl Bz rfl rfl) rfl rfl rfl;apply Ao (P:=Tryz.prog) 2 rfl (Bh rfl (.no rfl) rfl (.tm rfl)) (by exact HasV.slot (t:=0) rfl) rfl rfl rfl;exact PreOk.nil
   case hS=>exact A5
   case hH=>
    refine LocsH.fq Cl ?_;refine LocsH.lq Bz ?_;refine LocsH.mv ?_
    trivial
   apply Dh.drw0 (i:=3)
   case ha=>rfl
   case ho=>rfl
   case hE=>
    intro  hp
    obtain _:=hp
    exact Bf 1800 (specl1Below _) rfl rfl rfl (.tm rfl) rfl rfl (.cons (.const rfl) rfl .nil) (fun _=>rfl) (fun _=>rfl)
   case hb=>rfl
   case hL=>
    intro  z18 hp hy;exact EndQ.eq (Av [0,2,3,4,11,12,15,16,17,18] [2,3,20001,20002,888888]) U
   case hS=>intros;exact A5
   apply Dh.new1 (i:=4);rfl;rfl;rfl
   · intro w9 z18 hp
     obtain⟨_,hz18⟩:=hp
     refine Bn (Ce (xs:=[.tmp 18]) 19 U U U (.cons (.tm U) U U .nil) Tryz.underlying40 in3 U U U U) U ?_;exact An [0,2,3,4,11,12,15,16,17,19] [2,3,20001,20002,888888,19]
   intros;exact A5
   refine Dh.fin1 (k:=2) rfl ?_;intro z18 hp
   obtain⟨_,hz18⟩:=hp
   refine Bl (Bw U U U (.tm U) U (.tm U) (by exact .rf U) (by rfl) Tryz.underlying40 in3 U (by (simp [chunk];omega)) (by (unfold maxLen;simp [chunk];omega))) U ?_;refine Bq (Av [0,2,3,4,12,20] [2,3,20001,20002,888888,19]) ?_;refine Br Cl ?_;refine Az Bz ?_;refine Aa (Ac (Ab ?_));refine C8 ?_;refine Ag ?_;refine Aa ?_
   repeat (with_reducible refine Au ?_)
   refine Round2.next (n-1) (vs++[z18]) ⟨by (try simp at h12);refine⟨by simp;omega,by simp⟩,Y⟩ (by (try simp at h12);omega) (Ap rfl ⟨rfl,rfl,rfl,rfl,Y⟩ ⟨(by rfl),(by rfl),(by (refine congrArg (fun r=>some (R.row _ r)) ?_;simp [chunk,List.map_set,cInt,cBool,cIntS,cPair,cToken,cExpr,cEdge,cGraph,cStep,cWalk,cChange,cBatch,cHistory,cPositions,cAutomaton,cProductStep,cPathAtom,cConjunction,cView,cDelta,cRegistered,cRegistry])),(by rfl),(by rfl),Y⟩)
 try simp at h12
 refine Bb (Af (Ak ?_));refine Aa (Ae (Af (Ab ?_)));refine Ab ?_;refine Bn (Ce (xs:=[.const (.int .i64 (4)),.const (.int .i64 (8)),.const (.int .i64 (11))]) 24 U U U (.cons (.const U) U U (.cons (.const U) U U (.cons (.const U) U U .nil))) Tryz.underlying40 in3 U U U U) U ?_;refine Bd (Bf 2500 (specl1PickInt [4,8,11] (by decide)) U U U (.tm U) U U (.cons (.tm U) U .nil) (fun _=>rfl) (fun _=>rfl)) ?_
 rintro _ ⟨z25,hz25,rfl⟩
 try dsimp only at hz25
 refine Bd (Bf 2600 (specl1Below _) U U U (.tm U) U U (.cons (.tm U) U .nil) (fun _=>rfl) (fun _=>rfl)) ?_
 rintro _ ⟨z26,hz26,rfl⟩
 try dsimp only at hz26
 refine Ag ?_;refine Aa (AW.block ?_);refine C6 (fun (n2:Int) (id:Int) (es:List TEdge)=>((n2≤11-es.length∧es.length≤11∧0≤id∧id≤3*es.length))∧True) (fun (n2:Int) (id:Int) (es:List TEdge)=>⟨_,[(6,(true,.a (.one (.t (.v (.int .i64 n2)))))),(5,(true,.a (.one (.t (.v (.int .i64 id)))))),(0,_),(2,_),(3,_)],[(2,.box [.t (.v (.slice none 0 0)),.t (.v (.slice none 0 0))]),(3,.box [.rf 20001,.rf 20002]),(20001,.row 1 (vs.map cInt)),(20002,.row 4 (es.map cEdge)),(888888,.cur g)]⟩) (fun (n2:Int) (id:Int) (es:List TEdge)=>n2.toNat) (z26) (0) ([]) ⟨by simp at hz25;exact⟨by simp;omega,by simp,by omega,by omega⟩,Y⟩ A4 ?_
 rintro n2 id es ⟨hk2,he2⟩
 refine Ae (Af (Ab ?_));refine AWl.gc ?_;refine Aa (Ai (.tm U) (fun h28=>?_) (fun h28=>?_))
 · try simp at h28
   refine Aj (Ae (AW.block (Af (Ab ?_))));refine A8 ?_;refine Ab ?_;refine Bd (Bf 3400 (specl1Below _) U U U (.tm U) U U (.cons (.const U) U .nil) (fun _=>rfl) (fun _=>rfl)) ?_
   rintro _ ⟨z34,hz34,rfl⟩
   try dsimp only at hz34
   refine Ad (C7 U (.no U) U (.tm U) (.tm U) (fun _=>by omega)) U ?_;refine Ag ?_;refine Aa (Ar (Av [0,2,3,5,6] [2,3,20001,20002,888888]) ?_);refine Ar (Av [0,2,3,5,6] [2,3,20001,20002,888888]) ?_;apply Cg (N:=18) (k:=8) (Hs:=[0,1,2,3,4,5,6,8,9,10,11,13]) (ms:=[[],[7],[14],[7,12],[7,14],[7,12,14],[7,12,14,15],[7,12,14,15,16],[7,12,14,15,16,17]]) (es:=[(0,7,1),(0,14,2),(1,12,3),(1,14,4),(2,7,4),(3,14,5),(4,12,5),(5,15,6),(6,16,7),(7,17,8)]) (σ1:=_) (SM:=⟨_,[(0,_),(2,_),(3,_),(5,_),(6,_),(36,_),(37,_),(38,_),(39,_),(40,_),(41,_),(42,_),(44,_),(45,_),(46,_),(47,_),(49,_)],[(2,_),(3,_),(20001,_),(20002,_),(888888,_)]⟩)
   case hm=>kernel_rfl
   case hB=>kernel_rfl
   case hP=>kernel_rfl
   case hL=>kernel_rfl
   case hN=>rfl
   case hpre=>
    apply Ao (P:=Tryz.prog) 0 rfl ((by exact Ba rfl (.no rfl) rfl (.tm rfl) Cw)) (by exact .pp) rfl rfl rfl;apply Ao (P:=Tryz.prog) 1 rfl ((by exact Bk rfl (.no rfl) rfl (.tm rfl) rfl ty43 rfl rfl)) (by exact HasV.load (x:=.tmp 36) (.tm rfl) rfl ty43 rfl rfl) rfl rfl rfl;apply Ao (P:=Tryz.prog) 2 rfl (Bh rfl (.no rfl) rfl (.tm rfl)) (by exact HasV.slot (t:=5) rfl) rfl rfl rfl;apply Ao (P:=Tryz.prog) 3 rfl (Bh rfl (.no rfl) rfl (.tm rfl)) (by exact HasV.slot (t:=0) rfl) rfl rfl rfl;apply Ao (P:=Tryz.prog) 4 rfl ((by exact Ba rfl (.no rfl) rfl (.tm rfl) Cl)) (by exact .pp) rfl rfl rfl;apply Ao (P:=Tryz.prog) 5 rfl ((by exact Bk rfl (.no rfl) rfl (.tm rfl) rfl Bz rfl rfl)) (by exact HasV.load (x:=.tmp 40) (.tm rfl) rfl Bz rfl rfl) rfl rfl rfl;apply Ao (P:=Tryz.prog) 6 rfl ((by exact Dp rfl (.no rfl) rfl (.tm rfl) (by exact .rf rfl) Tryz.underlying40)) (by exact .val rfl) rfl rfl rfl
    apply Ao (P:=Tryz.prog) 8 rfl (Bh rfl (.no rfl) rfl (.tm rfl)) (by exact HasV.slot (t:=0) rfl) rfl rfl rfl;apply Ao (P:=Tryz.prog) 9 rfl ((by exact Ba rfl (.no rfl) rfl (.tm rfl) Cl)) (by exact .pp) rfl rfl rfl;apply Ao (P:=Tryz.prog) 10 rfl ((by exact Bk rfl (.no rfl) rfl (.tm rfl) rfl Bz rfl rfl)) (by exact HasV.load (x:=.tmp 45) (.tm rfl) rfl Bz rfl rfl) rfl rfl rfl;apply Ao (P:=Tryz.prog) 11 rfl ((by exact Dp rfl (.no rfl) rfl (.tm rfl) (by exact .rf rfl) Tryz.underlying40)) (by exact .val rfl) rfl rfl rfl;apply Ao (P:=Tryz.prog) 13 rfl (Bh rfl (.no rfl) rfl (.tm rfl)) (by exact HasV.slot (t:=0) rfl) rfl rfl rfl;exact PreOk.nil
   case hS=>exact A5
   case hH=>
    refine LocsH.fq Cw ?_;refine LocsH.lq ty43 ?_;refine LocsH.mv ?_;refine LocsH.mv ?_;refine LocsH.fq Cl ?_;refine LocsH.lq Bz ?_
    refine⟨⟨_,_,_,rfl,rfl,rfl,fun σ' hs=>(by exact Dp rfl (.no rfl) (Ah hs rfl) (.tm (hs.slots _ _ rfl)) (by exact .rf (hs.res _ _ rfl)) Tryz.underlying40)⟩,?_⟩
    refine LocsH.mv ?_;refine LocsH.fq Cl ?_;refine LocsH.lq Bz ?_
    refine⟨⟨_,_,_,rfl,rfl,rfl,fun σ' hs=>(by exact Dp rfl (.no rfl) (Ah hs rfl) (.tm (hs.slots _ _ rfl)) (by exact .rf (hs.res _ _ rfl)) Tryz.underlying40)⟩,?_⟩
    refine LocsH.mv ?_
    trivial
   apply Dh.drw0 (i:=7)
   case ha=>rfl
   case ho=>rfl
   case hE=>
    intro  hp
    obtain _:=hp
    exact Bf 4300 (specl1Below _) rfl rfl rfl (.tm rfl) rfl rfl (.cons (.tm rfl) rfl .nil) (fun _=>rfl) (fun _=>rfl)
   case hb=>rfl
   case hL=>
    intro  z43 hp hy;exact EndQ.eq (Av [0,2,3,5,6,36,37,38,39,40,41,42,43,44,45,46,47,49] [2,3,20001,20002,888888]) U
   case hS=>intros;exact A5
   apply Dh.new0 (i:=14);rfl;rfl;rfl
   · intro w9 _;refine Bn (Ce (xs:=[.const (.int .i64 (0)),.const (.int .i64 (0)),.const (.int .i64 (1)),.const (.int .i64 (2))]) 50 U U U (.cons (.const U) U U (.cons (.const U) U U (.cons (.const U) U U (.cons (.const U) U U .nil)))) Tryz.underlying40 in3 U U U U) U ?_;exact An [0,2,3,5,6,36,37,38,39,40,41,42,44,45,46,47,49,50] [2,3,20001,20002,888888,50]
   intros;exact A5
   apply Dh.drw1 (i:=12)
   case ha=>rfl
   case ho=>rfl
   case hE=>
    intro z43 hp
    obtain⟨_,hz43⟩:=hp
    exact Bf 4800 (specl1Below _) rfl rfl rfl (.tm rfl) rfl rfl (.cons (.tm rfl) rfl .nil) (fun _=>rfl) (fun _=>rfl)
   case hb=>rfl
   case hL=>
    intro z43 z48 hp hy;exact EndQ.eq (Av [0,2,3,5,6,36,37,38,39,40,41,42,43,44,45,46,47,48,49] [2,3,20001,20002,888888]) U
   case hS=>intros;exact A5
   apply Dh.new1 (i:=14);rfl;rfl;rfl
   · intro w9 z43 hp
     obtain⟨_,hz43⟩:=hp
     refine Bn (Ce (xs:=[.const (.int .i64 (0)),.const (.int .i64 (0)),.const (.int .i64 (1)),.const (.int .i64 (2))]) 50 U U U (.cons (.const U) U U (.cons (.const U) U U (.cons (.const U) U U (.cons (.const U) U U .nil)))) Tryz.underlying40 in3 U U U U) U ?_;exact An [0,2,3,5,6,36,37,38,39,40,41,42,43,44,45,46,47,49,50] [2,3,20001,20002,888888,50]
   intros;exact A5
   apply Dh.odr0 (i:=7)
   case ha=>rfl
   case ho=>rfl
   case hE=>
    intro  hp
    obtain _:=hp
    exact Bf 4300 (specl1Below _) rfl rfl rfl (.tm rfl) rfl rfl (.cons (.tm rfl) rfl .nil) (fun _=>rfl) (fun _=>rfl)
   case hb=>rfl
   case hL=>
    intro  z43 hp hy;exact A4
   apply Dh.new2 (i:=14);rfl;rfl;rfl
   · intro w9 z43 z48 hp
     obtain⟨⟨_,hz43⟩,hz48⟩:=hp
     refine Bn (Ce (xs:=[.const (.int .i64 (0)),.const (.int .i64 (0)),.const (.int .i64 (1)),.const (.int .i64 (2))]) 50 U U U (.cons (.const U) U U (.cons (.const U) U U (.cons (.const U) U U (.cons (.const U) U U .nil)))) Tryz.underlying40 in3 U U U U) U ?_;exact An [0,2,3,5,6,36,37,38,39,40,41,42,43,44,45,46,47,48,49,50] [2,3,20001,20002,888888,50]
   intros;exact A5
   apply Dh.odr1 (i:=12)
   case ha=>rfl
   case ho=>rfl
   case hE=>
    intro z43 hp
    obtain⟨_,hz43⟩:=hp
    exact Bf 4800 (specl1Below _) rfl rfl rfl (.tm rfl) rfl rfl (.cons (.tm rfl) rfl .nil) (fun _=>rfl) (fun _=>rfl)
   case hb=>rfl
   case hL=>
    intro z43 z48 hp hy;exact A4
   apply Dh.drw2 (i:=15)
   case ha=>rfl
   case ho=>rfl
   case hE=>
    intro z43 z48 hp
    obtain⟨⟨_,hz43⟩,hz48⟩:=hp
    exact Bf 5100 (specl1PickInt [0,0,1,2] (by decide)) rfl rfl rfl (.tm rfl) rfl rfl (.cons (.tm rfl) rfl .nil) (fun _=>rfl) (fun _=>rfl)
   case hb=>rfl
   case hL=>
    intro z43 z48 z51 hp hy;exact EndQ.eq (Av [0,2,3,5,6,36,37,38,39,40,41,42,43,44,45,46,47,48,49,51] [2,3,20001,20002,888888,50]) U
   case hS=>intros;exact A5
   apply Dh.new3 (i:=16);rfl;rfl;rfl
   · intro w9 z43 z48 z51 hp
     obtain⟨⟨⟨_,hz43⟩,hz48⟩,hz51⟩:=hp
     refine Ad (Bo (ps:=[(0,.tmp 38),(1,.tmp 43),(2,.tmp 48),(3,.tmp 51)]) U U U in201 U U st201 (.cons (.tm U) U U fp201_0 (.cons (.tm U) U U fp201_1 (.cons (.tm U) U U fp201_2 (.cons (.tm U) U U fp201_3 .nil)))) U) U ?_;exact An [0,2,3,5,6,36,37,38,39,40,41,42,44,45,46,47,49,52] [2,3,20001,20002,888888,50]
   intros;exact A5
   apply Dh.new3 (i:=17);rfl;rfl;rfl
   · intro w9 z43 z48 z51 hp
     obtain⟨⟨⟨_,hz43⟩,hz48⟩,hz51⟩:=hp
     refine Bn (Ce (xs:=[.tmp 52]) 53 U U U (.cons (.tm U) U U .nil) Tryz.underlying43 in201 U U U U) U ?_;exact An [0,2,3,5,6,36,37,38,39,40,41,42,44,45,46,47,49,53] [2,3,20001,20002,888888,50,53]
   intros;exact A5
   refine Dh.fin3 (k:=8) rfl ?_;intro z43 z48 z51 hp
   obtain⟨⟨⟨_,hz43⟩,hz48⟩,hz51⟩:=hp
   refine Bl (Bw U U U (.tm U) U (.tm U) (by exact .rf U) (by rfl) Tryz.underlying43 in201 U (by (simp [chunk];omega)) (by (unfold maxLen;simp [chunk];omega))) U ?_;refine Bq (Av [0,2,3,5,6,54] [2,3,20001,20002,888888,50,53]) ?_;refine Br Cw ?_;refine Az ty43 ?_;refine Aa (Ac (Ab ?_));refine C8 ?_;refine Ag ?_;refine Aa ?_
   repeat (with_reducible refine Au ?_)
   refine Round3.next (n2-1) (id+1+z34) (es++[⟨id+1+z34,z43,z48,z51⟩]) ⟨by (try simp at h28);exact⟨by simp;omega,by simp;omega,by omega,by simp;omega⟩,Y⟩ (by (try simp at h28);omega) (Ap rfl ⟨rfl,rfl,rfl,rfl,rfl,Y⟩ ⟨(by rfl),(by rfl),(by rfl),(by (refine congrArg (fun r=>some (R.row _ r)) ?_;simp [chunk,List.map_set,cInt,cBool,cIntS,cPair,cToken,cExpr,cEdge,cGraph,cStep,cWalk,cChange,cBatch,cHistory,cPositions,cAutomaton,cProductStep,cPathAtom,cConjunction,cView,cDelta,cRegistered,cRegistry])),(by rfl),Y⟩)
 try simp at h28
 refine Bb (Af (A9 Bx ?_));refine Az Bx ?_;refine Aa (Am ?_);apply DRes.mk (x:=⟨vs,es⟩) rfl
 case h=>
  refine Res.one U (.cell U U Bx U U .nil) U ?_
  rfl
 case hp=>exact⟨by show 1≤vs.length;(try simp at h12);omega,by show vs.length≤5;omega,hk2.2.1⟩
end Go.Proofs.YtbecibmlbiebeaaGreat
