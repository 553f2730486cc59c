import Derived.Test.YtdhojcaoljhbiaaGreatAbsOxc
import Derived.Shelf.Bits.Mul64
import Derived.Shelf.Abstract
import Derived.Ground.NamesProg
import Derived.Test.YtdhojcaoljhbiaaGreatAbsHxc
import Derived.Test.YtdhojcaoljhbiaaGreatB18xc
import Derived.Test.YtdhojcaoljhbiaaGreatB07xc
set_option linter.unusedVariables false
set_option linter.unusedSimpArgs false
set_option maxHeartbeats 1000000
set_option maxRecDepth 100000
open Go.Proofs.Tryz renaming underlying40->Z9,prog->ZJ,underlying3->ZN,underlying172->ZO,underlying34->Aab
open List renaming replicate->ZA,mem_of_getElem?->ZB,map_set->ZD,take_of_length_le->ZF,mem_or_eq_of_mem_set->ZH,getElem?_eq_getElem->ZK,any_eq_true->ZL,getElem?_eq_none->ZM,length->ZR,length_cons->ZS,getElem?_set->ZT,length_set->ZU,ext_getElem?->ZV,set_cons_succ->ZW,map_cons->ZX,sum_cons->ZY,drop_replicate->ZZ,length_replicate->Aaa,getElem?_drop->Aac,getElem?_map->Aad
open Int renaming lt_or_le->ZC,toNat_of_nonneg->ZG,toNat_natCast->ZI
open Nat renaming beq->ZE,le_refl->ZP,zero_le->ZQ,succ_mul->Aae
namespace Go.Q
open Go.D
def nxL (next:List (List Int)) (i:Nat):List Int:=next[i]?.getD []
theorem Qb {next:List (List Int)} {i:Nat} {l:List Int} (h:next[i]?=some l):nxL next i=l:=by
 unfold nxL;rw [h];rfl
theorem Vi {α:Type} (x z:α) (k n:Nat) (h:k≤n):(ZA k x++ZA (n-k) z).take k++((ZA k x++ZA (n-k) z).take k).take (min k (n-k))++(ZA k x++ZA (n-k) z).drop (k+min k (n-k))=ZA (k+min k (n-k)) x++ZA (n-(k+min k (n-k))) z:=by
 have h1:(ZA k x++ZA (n-k) z).take k=ZA k x:=by
  rw [List.take_append_of_le_length (by simp)];simp
 rw [h1,List.take_replicate,List.drop_append,ZZ,ZZ,Aaa,List.replicate_append_replicate]
 have e1:k-(k+min k (n-k))=0:=by omega
 have e2:min (min k (n-k)) k=min k (n-k):=by omega
 have e3:n-k-(k+min k (n-k)-k)=n-(k+min k (n-k)):=by omega
 rw [e1,e2,e3];simp
end Go.Q
namespace Go.Proofs.YtdhojcaoljhbiaaGreat
open Go.RowKit Go.Q Go.D
def Tryz.lays212_ren:Go.Shelf.Ren:=⟨fun|212=>175|263=>179|264=>180|n=>n,fun|46=>172|51=>206|146=>207|53=>209|148=>210|n=>n,fun|n=>n⟩
theorem Tryz.lays212:Go.Proofs.Lays.n212 Tryz.prog Tryz.lays212_ren:={
 mixed:=by kernel_rfl
 f212:=Tryz.func175.trans (congrArg some (by kernel_rfl))
 f263:=Tryz.func179.trans (congrArg some (by kernel_rfl))
 f264:=Tryz.func180.trans (congrArg some (by kernel_rfl))
 t46:=Tryz.underlying172
 a46:=Tryz.isAgg172
 z46:=Tryz.sizeOf172
 v46:=Tryz.zeroValue172
 t51:=Tryz.underlying206
 a51:=Tryz.isAgg206
 z51:=Tryz.sizeOf206
 v51:=Tryz.zeroValue206
 t53:=Tryz.underlying209
 a53:=Tryz.isAgg209
 z53:=Tryz.sizeOf209
 v53:=Tryz.zeroValue209
 t146:=Tryz.underlying207
 a146:=Tryz.isAgg207
 z146:=Tryz.sizeOf207
 v146:=Tryz.zeroValue207
 t148:=Tryz.underlying210
 a148:=Tryz.isAgg210
 z148:=Tryz.sizeOf210
 v148:=Tryz.zeroValue210 }
theorem XB (x y:Nat) (hx:x<4294967296) (hy:y<4294967296):FnT ZJ 175 [.one (.v (.int .u64 x)),.one (.v (.int .u64 y))] (.tup [.one (.v (.int .u64 0)),.one (.v (.int .u64 ((x*y:Nat):Int)))]):=by
 refine⟨⟨_,Tryz.func175,by kernel_rfl,by kernel_rfl⟩,fun w vs F _ hv=>?_⟩
 obtain⟨v1,vr,G1,G2,rfl,h1,⟨v2,vr2,G3,G4,rfl,h2,⟨rfl,rfl⟩,rfl⟩,rfl⟩:=hv
 simp only [V0r,C] at h1 h2
 obtain⟨rfl,rfl,_⟩:=h1
 obtain⟨rfl,rfl,_⟩:=h2
 have hlt:x*y<18446744073709551616:=Nat.lt_of_le_of_lt (Nat.mul_le_mul (show x≤4294967295 by omega) (show y≤4294967295 by omega)) (by decide)
 have hcon:=Any.bits_Mul Tryz.lays212 x y (by omega) (by omega) w
 change Calls ZJ 175 _ _ _ at hcon
 rw [Nat.div_eq_of_lt hlt,Nat.mod_eq_of_lt hlt] at hcon
 refine hcon.mono ?_
 rintro e w' ⟨rfl,rfl⟩
 exact⟨_,[],rfl,⟨_,rfl,⟨_,_,[],[],rfl,by simp [V0r,C];rfl,⟨_,_,[],[],rfl,by simp [V0r,C];rfl,⟨rfl,rfl⟩,rfl⟩,rfl⟩⟩,List.nodup_nil,by simp,Ext.refl _⟩
theorem OC (x:Int) (n:Nat) (hn:1≤n) (hz:n≤65536):FnT ZJ 162 [.one (.sl 1 ([x].map AQ)),.one (.v (.int .i64 n))] (.a (.one (.sl 1 ((ZA n x).map AQ)))):=by
 refine A8 Tryz.func162 U (by kernel_rfl) Tryz.ntmps162 U fun hlen w0=>?_
 try simp at hlen
 refine Af (An ?_);refine Ch (i:=4) 20001 1 U U ?_;refine Aa (Ae (Af (Ab ?_)));refine D7 ?_;refine Aa (Ai (.tm U) (fun h10=>?_) (fun h10=>?_))
 · exact absurd h10 (by simp)
 try simp at h10
 refine Am (Af (Ab ?_));refine Bi (.t) Z9 ?_;refine Ac (Mb U (.no U) U (.tm U) (by rw [ZN];rfl) ZO (fun _=>(show IntKind.u64.wrap _=((1:Nat):Int) by first|rfl|decide|(simp [IntKind.wrap,IntKind.bits];done)))) U ?_;refine Ab ?_;refine Ac (Mb U (.no U) U (.tm U) (by rw [ZN];rfl) ZO (fun _=>(show IntKind.u64.wrap _=((n:Nat):Int) by simp [IntKind.wrap,IntKind.bits];omega))) U ?_;refine Ac (Bc (FnT.fr (XB 1 n (by omega) (by omega))) U (.no U) U (.cons (.tm U) U (.cons (.tm U) U .nil))) U ?_;refine Ac (Dd U (.no U) U U fun _=>rfl) U ?_;refine Ac (Bk U (.no U) U U (fun _=>rfl) U) U ?_;refine Ac (Bk U (.no U) U U (fun _=>rfl) U) U ?_;refine Ah ?_;refine Ah ?_;refine Aa (Ae (Ae (As (Ay [0,1,4,5,6] [20001]) ?_)));refine Ad (Ab ?_);refine AWl.gc ?_;refine Ab ?_;refine AWl.mw ?_
 refine Ac (MO U (by exact .not1 U U U U) U (.tmp U (by exact fun _=>rfl)) (.const U)) U ?_;refine Ac (OK U (.no U) U (.tm U) (.tmp U (by exact fun _=>rfl))) U ?_;refine Aa (Ai (.tm U) (fun h26=>?_) (fun h26=>?_))
 · exact absurd h26 (by (simp;omega))
 try simp at h26
 refine Am (Ae (As (Ay [0,1,4,5,6] [20001]) ?_));refine Ad (Ab ?_);refine Ac (Mb U (.no U) U (.tm U) (by rw [ZO];rfl) ZN (fun _=>(show IntKind.i64.wrap _=((n:Nat):Int) by simp [IntKind.wrap,IntKind.bits];omega))) U ?_;refine A6 (Ho 30 U U U (.tm U) Z9 in3 U U U U (by omega)) U ?_;refine Ah ?_;refine Aa (Af (Ab ?_));refine Bv (Le.toTl (d:=31) U U) ?_;refine Ab ?_;refine AWl.updput (Tj (c:=1) U U U (.tm U) U (.tm U) (by exact .t) (by exact Xm _ U) (by rfl) Z9 ty3 (by simp<;>omega)) U ?_;refine Bv (Ay [0,1,4,5,6,7,33] [20001,30]) ?_;refine Ah ?_
 refine Aa (Ae (AW.block (B9 (fun (k:Nat)=>(1≤k∧k≤n)∧True) (fun (k:Nat)=>⟨_,[(8,(true,.a (.one (.t (.v (.int .i64 (k:Nat))))))),(7,(true,.a (.one (.rf 30)))),(4,_)],[(30,.row 1 ((ZA k x++ZA (n-k) (0:Int)).map AQ))]⟩) (fun (k:Nat)=>n-k) (1) ⟨⟨ZP _,hn⟩,Y⟩ (Au U ⟨U,U,U,Y⟩ ⟨(by refine congrArg (fun r=>some (R.row 1 r)) ?_;obtain⟨n',U⟩:∃ n',n=n'+1:=⟨n-1,by omega⟩;simp [AQ,List.replicate_succ]),Y⟩) ?_)))
 rintro k ⟨hk,he⟩
 refine Ae (Af (Ab ?_));refine Ab ?_;refine Bi (.rf U) Z9 ?_;refine AWl.lt ?_;refine Aa (Ai (.tm U) (fun h37=>?_) (fun h37=>?_))
 · try simp at h37
   refine Am (AW.block (AW.dagn 10 53 [[],[0],[1],[2],[4],[5],[0,1],[0,2],[0,4],[0,5],[1,2],[1,4],[1,5],[2,4],[2,5],[4,5],[0,1,2],[0,1,4],[0,1,5],[0,2,4],[0,2,5],[0,4,5],[1,2,3],[1,2,4],[1,2,5],[1,4,5],[2,4,5],[4,5,6],[0,1,2,3],[0,1,2,4],[0,1,2,5],[0,1,4,5],[0,2,4,5],[0,4,5,6],[1,2,3,4],[1,2,3,5],[1,2,4,5],[1,4,5,6],[2,4,5,6],[0,1,2,3,4],[0,1,2,3,5],[0,1,2,4,5],[0,1,4,5,6],[0,2,4,5,6],[1,2,3,4,5],[1,2,4,5,6],[0,1,2,3,4,5],[0,1,2,4,5,6],[1,2,3,4,5,6],[0,1,2,3,4,5,6],[1,2,3,4,5,6,7],[0,1,2,3,4,5,6,7],[0,1,2,3,4,5,6,7,8],[0,1,2,3,4,5,6,7,8,9]] [(0,0,1),(0,1,2),(0,2,3),(0,4,4),(0,5,5),(1,1,6),(2,0,6),(1,2,7),(3,0,7),(1,4,8),(4,0,8),(1,5,9),(5,0,9),(2,2,10),(3,1,10),(2,4,11),(4,1,11),(2,5,12),(5,1,12),(3,4,13),(4,2,13),(3,5,14),(5,2,14),(4,5,15),(5,4,15),(6,2,16),(10,0,16),(7,1,16),(6,4,17),(11,0,17),(8,1,17),(6,5,18),(12,0,18),(9,1,18),(7,4,19),(13,0,19),(8,2,19),(7,5,20),(14,0,20),(9,2,20),(8,5,21),(15,0,21),(9,4,21),(10,3,22),(10,4,23),(13,1,23),(11,2,23),(10,5,24),(14,1,24),(12,2,24),(11,5,25),(15,1,25),(12,4,25),(13,5,26),(15,2,26),(14,4,26),(15,6,27),(16,3,28),(22,0,28),(16,4,29),(23,0,29),(19,1,29),(17,2,29),(16,5,30),(24,0,30),(20,1,30),(18,2,30),(17,5,31),(25,0,31),(21,1,31),(18,4,31),(19,5,32),(26,0,32),(21,2,32),(20,4,32),(21,6,33),(27,0,33),(22,4,34),(23,3,34),(22,5,35),(24,3,35),(23,5,36),(26,1,36),(25,2,36),(24,4,36),(25,6,37),(27,1,37),(26,6,38),(27,2,38),(28,4,39),(34,0,39),(29,3,39),(28,5,40),(35,0,40),(30,3,40),(29,5,41),(36,0,41),(32,1,41),(31,2,41),(30,4,41),(31,6,42),(37,0,42),(33,1,42),(32,6,43),(38,0,43),(33,2,43),(34,5,44),(36,3,44),(35,4,44),(36,6,45),(38,1,45),(37,2,45),(39,5,46),(44,0,46),(41,3,46),(40,4,46),(41,6,47),(45,0,47),(43,1,47),(42,2,47),(44,6,48),(45,3,48),(46,6,49),(48,0,49),(47,3,49),(48,7,50),(49,7,51),(50,0,51),(51,8,52),(52,9,53)] (by kernel_rfl) (by kernel_rfl) (by kernel_rfl) ?_))
   apply Ar (i:=0);rfl;rfl;rfl
   · intro w9;refine Ab ?_;exact Al [4,7,8,37,38] [30]
   apply Ar (i:=1);rfl;rfl;rfl
   · intro w9;refine Ab ?_;exact Al [4,7,8,37,39] [30]
   apply Ar (i:=2);rfl;rfl;rfl
   · intro w9;refine Ab ?_;exact Al [4,7,8,37,40] [30]
   apply Ar (i:=4);rfl;rfl;rfl
   · intro w9;refine Ab ?_;exact Al [4,7,8,37,42] [30]
   apply Ar (i:=5);rfl;rfl;rfl
   · intro w9;refine Ab ?_;exact Al [4,7,8,37,43] [30]
   apply Ar (i:=1);rfl;rfl;rfl
   · intro w9;refine Ab ?_;exact Al [4,7,8,37,38,39] [30]
   apply Ap (i:=0);rfl;rfl;rfl
   · intro w9;refine Ab ?_;exact Aa Aw
   apply Ar (i:=2);rfl;rfl;rfl
   · intro w9;refine Ab ?_;exact Al [4,7,8,37,38,40] [30]
   apply Ap (i:=0);rfl;rfl;rfl
   · intro w9;refine Ab ?_;exact Aa Aw
   apply Ar (i:=4);rfl;rfl;rfl
   · intro w9;refine Ab ?_;exact Al [4,7,8,37,38,42] [30]
   apply Ap (i:=0);rfl;rfl;rfl
   · intro w9;refine Ab ?_;exact Aa Aw
   apply Ar (i:=5);rfl;rfl;rfl
   · intro w9;refine Ab ?_;exact Al [4,7,8,37,38,43] [30]
   apply Ap (i:=0);rfl;rfl;rfl
   · intro w9;refine Ab ?_;exact Aa Aw
   apply Ar (i:=2);rfl;rfl;rfl
   · intro w9;refine Ab ?_;exact Al [4,7,8,37,39,40] [30]
   apply Ap (i:=1);rfl;rfl;rfl
   · intro w9;refine Ab ?_;exact Aa Aw
   apply Ar (i:=4);rfl;rfl;rfl
   · intro w9;refine Ab ?_;exact Al [4,7,8,37,39,42] [30]
   apply Ap (i:=1);rfl;rfl;rfl
   · intro w9;refine Ab ?_;exact Aa Aw
   apply Ar (i:=5);rfl;rfl;rfl
   · intro w9;refine Ab ?_;exact Al [4,7,8,37,39,43] [30]
   apply Ap (i:=1);rfl;rfl;rfl
   · intro w9;refine Ab ?_;exact Aa Aw
   apply Ar (i:=4);rfl;rfl;rfl
   · intro w9;refine Ab ?_;exact Al [4,7,8,37,40,42] [30]
   apply Ap (i:=2);rfl;rfl;rfl
   · intro w9;refine Ab ?_;exact Aa Aw
   apply Ar (i:=5);rfl;rfl;rfl
   · intro w9;refine Ab ?_;exact Al [4,7,8,37,40,43] [30]
   apply Ap (i:=2);rfl;rfl;rfl
   · intro w9;refine Ab ?_;exact Aa Aw
   apply Ar (i:=5);rfl;rfl;rfl
   · intro w9;refine Ab ?_;exact Al [4,7,8,37,42,43] [30]
   apply Ap (i:=4);rfl;rfl;rfl
   · intro w9;refine Ab ?_;exact Aa Aw
   apply Ar (i:=2);rfl;rfl;rfl
   · intro w9;refine Ab ?_;exact Al [4,7,8,37,38,39,40] [30]
   apply Ap (i:=0);rfl;rfl;rfl
   · intro w9;refine Ab ?_;exact Aa Aw
   apply Ap (i:=1);rfl;rfl;rfl
   · intro w9;refine Ab ?_;exact Aa Aw
   apply Ar (i:=4);rfl;rfl;rfl
   · intro w9;refine Ab ?_;exact Al [4,7,8,37,38,39,42] [30]
   apply Ap (i:=0);rfl;rfl;rfl
   · intro w9;refine Ab ?_;exact Aa Aw
   apply Ap (i:=1);rfl;rfl;rfl
   · intro w9;refine Ab ?_;exact Aa Aw
   apply Ar (i:=5);rfl;rfl;rfl
   · intro w9;refine Ab ?_;exact Al [4,7,8,37,38,39,43] [30]
   apply Ap (i:=0);rfl;rfl;rfl
   · intro w9;refine Ab ?_;exact Aa Aw
   apply Ap (i:=1);rfl;rfl;rfl
   · intro w9;refine Ab ?_;exact Aa Aw
   apply Ar (i:=4);rfl;rfl;rfl
   · intro w9;refine Ab ?_;exact Al [4,7,8,37,38,40,42] [30]
   apply Ap (i:=0);rfl;rfl;rfl
   · intro w9;refine Ab ?_;exact Aa Aw
   apply Ap (i:=2);rfl;rfl;rfl
   · intro w9;refine Ab ?_;exact Aa Aw
   apply Ar (i:=5);rfl;rfl;rfl
   · intro w9;refine Ab ?_;exact Al [4,7,8,37,38,40,43] [30]
   apply Ap (i:=0);rfl;rfl;rfl
   · intro w9;refine Ab ?_;exact Aa Aw
   apply Ap (i:=2);rfl;rfl;rfl
   · intro w9;refine Ab ?_;exact Aa Aw
   apply Ar (i:=5);rfl;rfl;rfl
   · intro w9;refine Ab ?_;exact Al [4,7,8,37,38,42,43] [30]
   apply Ap (i:=0);rfl;rfl;rfl
   · intro w9;refine Ab ?_;exact Aa Aw
   apply Ap (i:=4);rfl;rfl;rfl
   · intro w9;refine Ab ?_;exact Aa Aw
   apply Ar (i:=3);rfl;rfl;rfl
   · intro w9;refine Ac ((by exact Dj (m:=k) U (.no U) U (.tm U) U (.yes (.tm U) (fun _=>by first|rfl|omega|(simp<;>omega))) Z9 ty3 (fun _=>by simp<;>omega))) U ?_;exact Al [4,7,8,37,41] [30]
   apply Ar (i:=4);rfl;rfl;rfl
   · intro w9;refine Ab ?_;exact Al [4,7,8,37,39,40,42] [30]
   apply Ap (i:=1);rfl;rfl;rfl
   · intro w9;refine Ab ?_;exact Aa Aw
   apply Ap (i:=2);rfl;rfl;rfl
   · intro w9;refine Ab ?_;exact Aa Aw
   apply Ar (i:=5);rfl;rfl;rfl
   · intro w9;refine Ab ?_;exact Al [4,7,8,37,39,40,43] [30]
   apply Ap (i:=1);rfl;rfl;rfl
   · intro w9;refine Ab ?_;exact Aa Aw
   apply Ap (i:=2);rfl;rfl;rfl
   · intro w9;refine Ab ?_;exact Aa Aw
   apply Ar (i:=5);rfl;rfl;rfl
   · intro w9;refine Ab ?_;exact Al [4,7,8,37,39,42,43] [30]
   apply Ap (i:=1);rfl;rfl;rfl
   · intro w9;refine Ab ?_;exact Aa Aw
   apply Ap (i:=4);rfl;rfl;rfl
   · intro w9;refine Ab ?_;exact Aa Aw
   apply Ar (i:=5);rfl;rfl;rfl
   · intro w9;refine Ab ?_;exact Al [4,7,8,37,40,42,43] [30]
   apply Ap (i:=2);rfl;rfl;rfl
   · intro w9;refine Ab ?_;exact Aa Aw
   apply Ap (i:=4);rfl;rfl;rfl
   · intro w9;refine Ab ?_;exact Aa Aw
   apply Ar (i:=6);rfl;rfl;rfl
   · intro w9;refine Ac (C3 (m:=k) U (.no U) U (.tm U) U .no (.yes (.tm U) (fun _=>by first|rfl|omega|(simp<;>omega))) Z9 ty3 (fun _=>⟨by omega,by simp<;>omega⟩)) U ?_;exact Al [4,7,8,37,44] [30]
   apply Ar (i:=3);rfl;rfl;rfl
   · intro w9;refine Ac ((by exact Dj (m:=k) U (.no U) U (.tm U) U (.yes (.tm U) (fun _=>by first|rfl|omega|(simp<;>omega))) Z9 ty3 (fun _=>by simp<;>omega))) U ?_;exact Al [4,7,8,37,38,41] [30]
   apply Ap (i:=0);rfl;rfl;rfl
   · intro w9;refine Ab ?_;exact Aa Aw
   apply Ar (i:=4);rfl;rfl;rfl
   · intro w9;refine Ab ?_;exact Al [4,7,8,37,38,39,40,42] [30]
   apply Ap (i:=0);rfl;rfl;rfl
   · intro w9;refine Ab ?_;exact Aa Aw
   apply Ap (i:=1);rfl;rfl;rfl
   · intro w9;refine Ab ?_;exact Aa Aw
   apply Ap (i:=2);rfl;rfl;rfl
   · intro w9;refine Ab ?_;exact Aa Aw
   apply Ar (i:=5);rfl;rfl;rfl
   · intro w9;refine Ab ?_;exact Al [4,7,8,37,38,39,40,43] [30]
   apply Ap (i:=0);rfl;rfl;rfl
   · intro w9;refine Ab ?_;exact Aa Aw
   apply Ap (i:=1);rfl;rfl;rfl
   · intro w9;refine Ab ?_;exact Aa Aw
   apply Ap (i:=2);rfl;rfl;rfl
   · intro w9;refine Ab ?_;exact Aa Aw
   apply Ar (i:=5);rfl;rfl;rfl
   · intro w9;refine Ab ?_;exact Al [4,7,8,37,38,39,42,43] [30]
   apply Ap (i:=0);rfl;rfl;rfl
   · intro w9;refine Ab ?_;exact Aa Aw
   apply Ap (i:=1);rfl;rfl;rfl
   · intro w9;refine Ab ?_;exact Aa Aw
   apply Ap (i:=4);rfl;rfl;rfl
   · intro w9;refine Ab ?_;exact Aa Aw
   apply Ar (i:=5);rfl;rfl;rfl
   · intro w9;refine Ab ?_;exact Al [4,7,8,37,38,40,42,43] [30]
   apply Ap (i:=0);rfl;rfl;rfl
   · intro w9;refine Ab ?_;exact Aa Aw
   apply Ap (i:=2);rfl;rfl;rfl
   · intro w9;refine Ab ?_;exact Aa Aw
   apply Ap (i:=4);rfl;rfl;rfl
   · intro w9;refine Ab ?_;exact Aa Aw
   apply Ar (i:=6);rfl;rfl;rfl
   · intro w9;refine Ac (C3 (m:=k) U (.no U) U (.tm U) U .no (.yes (.tm U) (fun _=>by first|rfl|omega|(simp<;>omega))) Z9 ty3 (fun _=>⟨by omega,by simp<;>omega⟩)) U ?_;exact Al [4,7,8,37,38,44] [30]
   apply Ap (i:=0);rfl;rfl;rfl
   · intro w9;refine Ab ?_;exact Aa Aw
   apply Ar (i:=4);rfl;rfl;rfl
   · intro w9;refine Ab ?_;exact Al [4,7,8,37,41,42] [30]
   apply Ap (i:=3);rfl;rfl;rfl
   · intro w9;refine Ac ((by exact Dj (m:=k) U (.no U) U (.tm U) U (.yes (.tm U) (fun _=>by first|rfl|omega|(simp<;>omega))) Z9 ty3 (fun _=>by simp<;>omega))) U ?_;exact Aa Aw
   apply Ar (i:=5);rfl;rfl;rfl
   · intro w9;refine Ab ?_;exact Al [4,7,8,37,41,43] [30]
   apply Ap (i:=3);rfl;rfl;rfl
   · intro w9;refine Ac ((by exact Dj (m:=k) U (.no U) U (.tm U) U (.yes (.tm U) (fun _=>by first|rfl|omega|(simp<;>omega))) Z9 ty3 (fun _=>by simp<;>omega))) U ?_;exact Aa Aw
   apply Ar (i:=5);rfl;rfl;rfl
   · intro w9;refine Ab ?_;exact Al [4,7,8,37,39,40,42,43] [30]
   apply Ap (i:=1);rfl;rfl;rfl
   · intro w9;refine Ab ?_;exact Aa Aw
   apply Ap (i:=2);rfl;rfl;rfl
   · intro w9;refine Ab ?_;exact Aa Aw
   apply Ap (i:=4);rfl;rfl;rfl
   · intro w9;refine Ab ?_;exact Aa Aw
   apply Ar (i:=6);rfl;rfl;rfl
   · intro w9;refine Ac (C3 (m:=k) U (.no U) U (.tm U) U .no (.yes (.tm U) (fun _=>by first|rfl|omega|(simp<;>omega))) Z9 ty3 (fun _=>⟨by omega,by simp<;>omega⟩)) U ?_;exact Al [4,7,8,37,39,44] [30]
   apply Ap (i:=1);rfl;rfl;rfl
   · intro w9;refine Ab ?_;exact Aa Aw
   apply Ar (i:=6);rfl;rfl;rfl
   · intro w9;refine Ac (C3 (m:=k) U (.no U) U (.tm U) U .no (.yes (.tm U) (fun _=>by first|rfl|omega|(simp<;>omega))) Z9 ty3 (fun _=>⟨by omega,by simp<;>omega⟩)) U ?_;exact Al [4,7,8,37,40,44] [30]
   apply Ap (i:=2);rfl;rfl;rfl
   · intro w9;refine Ab ?_;exact Aa Aw
   apply Ar (i:=4);rfl;rfl;rfl
   · intro w9;refine Ab ?_;exact Al [4,7,8,37,38,41,42] [30]
   apply Ap (i:=0);rfl;rfl;rfl
   · intro w9;refine Ab ?_;exact Aa Aw
   apply Ap (i:=3);rfl;rfl;rfl
   · intro w9;refine Ac ((by exact Dj (m:=k) U (.no U) U (.tm U) U (.yes (.tm U) (fun _=>by first|rfl|omega|(simp<;>omega))) Z9 ty3 (fun _=>by simp<;>omega))) U ?_;exact Aa Aw
   apply Ar (i:=5);rfl;rfl;rfl
   · intro w9;refine Ab ?_;exact Al [4,7,8,37,38,41,43] [30]
   apply Ap (i:=0);rfl;rfl;rfl
   · intro w9;refine Ab ?_;exact Aa Aw
   apply Ap (i:=3);rfl;rfl;rfl
   · intro w9;refine Ac ((by exact Dj (m:=k) U (.no U) U (.tm U) U (.yes (.tm U) (fun _=>by first|rfl|omega|(simp<;>omega))) Z9 ty3 (fun _=>by simp<;>omega))) U ?_;exact Aa Aw
   apply Ar (i:=5);rfl;rfl;rfl
   · intro w9;refine Ab ?_;exact Al [4,7,8,37,38,39,40,42,43] [30]
   apply Ap (i:=0);rfl;rfl;rfl
   · intro w9;refine Ab ?_;exact Aa Aw
   apply Ap (i:=1);rfl;rfl;rfl
   · intro w9;refine Ab ?_;exact Aa Aw
   apply Ap (i:=2);rfl;rfl;rfl
   · intro w9;refine Ab ?_;exact Aa Aw
   apply Ap (i:=4);rfl;rfl;rfl
   · intro w9;refine Ab ?_;exact Aa Aw
   apply Ar (i:=6);rfl;rfl;rfl
   · intro w9;refine Ac (C3 (m:=k) U (.no U) U (.tm U) U .no (.yes (.tm U) (fun _=>by first|rfl|omega|(simp<;>omega))) Z9 ty3 (fun _=>⟨by omega,by simp<;>omega⟩)) U ?_;exact Al [4,7,8,37,38,39,44] [30]
   apply Ap (i:=0);rfl;rfl;rfl
   · intro w9;refine Ab ?_;exact Aa Aw
   apply Ap (i:=1);rfl;rfl;rfl
   · intro w9;refine Ab ?_;exact Aa Aw
   apply Ar (i:=6);rfl;rfl;rfl
   · intro w9;refine Ac (C3 (m:=k) U (.no U) U (.tm U) U .no (.yes (.tm U) (fun _=>by first|rfl|omega|(simp<;>omega))) Z9 ty3 (fun _=>⟨by omega,by simp<;>omega⟩)) U ?_;exact Al [4,7,8,37,38,40,44] [30]
   apply Ap (i:=0);rfl;rfl;rfl
   · intro w9;refine Ab ?_;exact Aa Aw
   apply Ap (i:=2);rfl;rfl;rfl
   · intro w9;refine Ab ?_;exact Aa Aw
   apply Ar (i:=5);rfl;rfl;rfl
   · intro w9;refine Ab ?_;exact Al [4,7,8,37,41,42,43] [30]
   apply Ap (i:=3);rfl;rfl;rfl
   · intro w9;refine Ac ((by exact Dj (m:=k) U (.no U) U (.tm U) U (.yes (.tm U) (fun _=>by first|rfl|omega|(simp<;>omega))) Z9 ty3 (fun _=>by simp<;>omega))) U ?_;exact Aa Aw
   apply Ap (i:=4);rfl;rfl;rfl
   · intro w9;refine Ab ?_;exact Aa Aw
   apply Ar (i:=6);rfl;rfl;rfl
   · intro w9;refine Ac (C3 (m:=k) U (.no U) U (.tm U) U .no (.yes (.tm U) (fun _=>by first|rfl|omega|(simp<;>omega))) Z9 ty3 (fun _=>⟨by omega,by simp<;>omega⟩)) U ?_;exact Al [4,7,8,37,39,40,44] [30]
   apply Ap (i:=1);rfl;rfl;rfl
   · intro w9;refine Ab ?_;exact Aa Aw
   apply Ap (i:=2);rfl;rfl;rfl
   · intro w9;refine Ab ?_;exact Aa Aw
   apply Ar (i:=5);rfl;rfl;rfl
   · intro w9;refine Ab ?_;exact Al [4,7,8,37,38,41,42,43] [30]
   apply Ap (i:=0);rfl;rfl;rfl
   · intro w9;refine Ab ?_;exact Aa Aw
   apply Ap (i:=3);rfl;rfl;rfl
   · intro w9;refine Ac ((by exact Dj (m:=k) U (.no U) U (.tm U) U (.yes (.tm U) (fun _=>by first|rfl|omega|(simp<;>omega))) Z9 ty3 (fun _=>by simp<;>omega))) U ?_;exact Aa Aw
   apply Ap (i:=4);rfl;rfl;rfl
   · intro w9;refine Ab ?_;exact Aa Aw
   apply Ar (i:=6);rfl;rfl;rfl
   · intro w9;refine Ac (C3 (m:=k) U (.no U) U (.tm U) U .no (.yes (.tm U) (fun _=>by first|rfl|omega|(simp<;>omega))) Z9 ty3 (fun _=>⟨by omega,by simp<;>omega⟩)) U ?_;exact Al [4,7,8,37,38,39,40,44] [30]
   apply Ap (i:=0);rfl;rfl;rfl
   · intro w9;refine Ab ?_;exact Aa Aw
   apply Ap (i:=1);rfl;rfl;rfl
   · intro w9;refine Ab ?_;exact Aa Aw
   apply Ap (i:=2);rfl;rfl;rfl
   · intro w9;refine Ab ?_;exact Aa Aw
   apply Ar (i:=6);rfl;rfl;rfl
   · intro w9;refine Ac (C3 (m:=k) U (.no U) U (.tm U) U .no (.yes (.tm U) (fun _=>by first|rfl|omega|(simp<;>omega))) Z9 ty3 (fun _=>⟨by omega,by simp<;>omega⟩)) U ?_;exact Al [4,7,8,37,41,44] [30]
   apply Ap (i:=3);rfl;rfl;rfl
   · intro w9;refine Ac ((by exact Dj (m:=k) U (.no U) U (.tm U) U (.yes (.tm U) (fun _=>by first|rfl|omega|(simp<;>omega))) Z9 ty3 (fun _=>by simp<;>omega))) U ?_;exact Aa Aw
   apply Ar (i:=6);rfl;rfl;rfl
   · intro w9;refine Ac (C3 (m:=k) U (.no U) U (.tm U) U .no (.yes (.tm U) (fun _=>by first|rfl|omega|(simp<;>omega))) Z9 ty3 (fun _=>⟨by omega,by simp<;>omega⟩)) U ?_;exact Al [4,7,8,37,38,41,44] [30]
   apply Ap (i:=0);rfl;rfl;rfl
   · intro w9;refine Ab ?_;exact Aa Aw
   apply Ap (i:=3);rfl;rfl;rfl
   · intro w9;refine Ac ((by exact Dj (m:=k) U (.no U) U (.tm U) U (.yes (.tm U) (fun _=>by first|rfl|omega|(simp<;>omega))) Z9 ty3 (fun _=>by simp<;>omega))) U ?_;exact Aa Aw
   apply Ar (i:=7);rfl;rfl;rfl
   · intro w9;refine AWl.updput (Tj (c:=min k (n-k)) U U U (.tm U) U (.tm U) (by exact .vw) (by exact Ig (fun _=>rfl) _) (by exact Li (fun _=>rfl) _ _ _) Z9 ty3 (by simp<;>omega)) U ?_;exact Al [4,7,8,37,45] [30]
   apply Ar (i:=7);rfl;rfl;rfl
   · intro w9;refine AWl.updput (Tj (c:=min k (n-k)) U U U (.tm U) U (.tm U) (by exact .vw) (by exact Ig (fun _=>rfl) _) (by exact Li (fun _=>rfl) _ _ _) Z9 ty3 (by simp<;>omega)) U ?_;exact Al [4,7,8,37,38,45] [30]
   apply Ap (i:=0);rfl;rfl;rfl
   · intro w9;refine Ab ?_;exact Aa Aw
   apply Ar (i:=8);rfl;rfl;rfl
   · intro w9;refine Ac (Dn U (.no U) U (.tm U) (.tm U) (fun _=>by omega)) U ?_;exact Al [4,7,8,37,46] [30]
   apply Ar (i:=9);rfl;rfl;rfl
   · intro w9;refine Ah ?_;exact Al [4,7,8,37] [30]
   refine Dag.fin (k:=53) U ?_;refine Aa ?_
   repeat (with_reducible refine Av ?_)
   refine BF.next (k+min k (n-k)) ⟨by omega,Y⟩ (by omega) (Au rfl ⟨rfl,rfl,rfl,Y⟩ ⟨(by refine congrArg (fun r=>some (R.row 1 r)) ?_;rw [←Vi x 0 k n hk.2];simp [List.map_take,List.map_drop]),Y⟩)
 try simp at h37
 refine Bf (Af (Ab ?_));refine Ah ?_;refine Aa (Aq (Res.one U (.tmp U .nil) U ?_))
 rw [show k=n by omega];simp;rfl
theorem SK (next:List (List Int)) (fr:List Int) (hN:1≤next.length∧next.length≤65536) (hn:∀ p,p<next.length→∀ k∈nxL next p,0≤k∧k<next.length) (hz:∀ p,p<next.length→(nxL next p).length≤131072) (hf:∀ q∈fr,0≤q∧q<(next.length:Int)) (hfz:fr.length≤65536):FnT ZJ 115 [.one (.sl 1 (next.map DV)),.one (.sl 1 (fr.map AQ))] (.a (.one (.sl 1 ((Es (nxL next) next.length fr).map AQ)))):=by
 refine A8 Tryz.func115 U (by kernel_rfl) Tryz.ntmps115 U fun hlen w0=>?_
 try simp at hlen
 refine Af (An ?_);refine Ch (i:=4) 20001 1 U U ?_;refine Aa (Af (Ac (Cf (xs:=[.const (.int .i64 (-1))]) (rows:=[AQ (-1)]) U U U (.cons (.const U) U U .nil) Z9 in3 U U (U)) U ?_));refine Ab ?_;refine Bi (.t) Aab ?_;refine Cj (Dc 1400 (OC (-1) next.length hN.1 (by omega)) U U U (.cons (.tm U) U (.cons (.tm U) U .nil)) U U) U ?_;refine Ah ?_;refine Aa (Af (A6 (C7 15 U U U Z9 ty3 U) U ?_));refine Bv (Le.toTl (d:=15) U U) ?_;refine Ah ?_;refine Aa (Ae (Af (Ab ?_)));refine Bi (.t) Z9 ?_;refine Ac (Bh U (.no U) U (.const U)) U ?_
 refine Aa (AW.block (Dz (fun (i:Nat) (J:Nat) (ρ:List (List T))=>(i≤fr.length∧J≤ρ.length∧ρ.flatten.all T.isV=true∧ρ.length≤i)∧ρ.drop J=(fr.take i).map AQ) (fun (i:Nat) (J:Nat) (ρ:List (List T))=>⟨_,[(18,(true,.a (.one (.t (.v (.int .i64 (i:Nat))))))),(6,(true,.a (.one (.tl 15 1 J)))),(5,(true,.a (.one (.rf 1400)))),(0,_),(4,_),(16,_),(17,_)],[(15,.row 1 ρ),(1400,.row 1 ((CC (fr.take i) (ZA next.length (-1))).map AQ))]⟩) (fun (i:Nat) (J:Nat) (ρ:List (List T))=>fr.length-i) (0) (0) ([]) ⟨⟨ZQ _,ZQ _,U,ZP _⟩,U⟩ (Au U ⟨U,U,U,U,U,U,U,Y⟩ ⟨U,(by refine congrArg (fun r=>some (R.row 1 r)) ?_;first|rfl|(rw [ZF (by omega)];done)),Y⟩) ?_))
 rintro i J ρ ⟨hk,he⟩
 refine Af (AWl.lt ?_);refine Aa (Ae (Ai (.tm U) (fun h19=>?_) (fun h19=>?_)))
 · try simp at h19
   obtain⟨x,hx⟩:∃ ξ,fr[i]?=some ξ:=⟨_,ZK (by omega)⟩
   have hxr:=hf x (ZB hx)
   have hzl:=Ew (fr.take i) (ZA next.length (-1))
   have hg0:=CT (out:=CC (fr.take i) (ZA next.length (-1))) (k:=x) (by rw [hzl];simp;omega)
   refine Am (Ae (AW.block (Af (Ac (Ak U (.no U) U (.tm U) (.tm U) Z9 ty3 (fun _=>⟨by omega,(by exact Ao hx)⟩)) U ?_))));refine Aj ty3 ?_;refine Ah ?_;refine Aa (Af (Ab ?_));refine Ab ?_;refine Ac (A3 U (.no U) U (.tm U) U (.tm U) Z9 ty3 (fun _=>⟨by omega,(by exact Ao hg0)⟩)) U ?_;refine Cu (C0 U U U (.const U) U (.tm U) U (by exact Ao hg0) ty3 U U U U) ?_;refine Aa (As (Ay [0,4,5,6,8,16,17,18] [15,1400]) ?_);refine Ad (Ab ?_);refine Ab ?_;refine Ac (Cf (xs:=[.tmp 26]) (rows:=[AQ x]) U U U (.cons (.tm U) U U .nil) Z9 in3 U U (U)) U ?_;refine AWl.appendTl (M5 U U U (.tm U) U (.tm U) (by exact .t) hk.2.2.1 (by rfl) Z9 in3 U (by omega) (by (simp [AH];omega)) (by (unfold maxLen;simp [AH];omega))) U fun j28 ρ28 hj28 hd28 hv28 hl28=>?_
   refine Bv (Ay [0,4,5,6,8,16,17,18,28] [15,1400]) ?_;refine Ah ?_;refine Aa (Ad (A9 ?_));refine Ab ?_;refine Aa ?_
   repeat (with_reducible refine Av ?_)
   refine Ef.next (i+1) (j28) (ρ28) ⟨⟨by omega,hj28,hv28,by simp at hl28;omega⟩,by rw [hd28,he,CO hx];simp⟩ (by omega) (Au rfl ⟨rfl,rfl,rfl,rfl,rfl,rfl,rfl,Y⟩ ⟨(by rfl),(by refine congrArg (fun r=>some (R.row 1 r)) ?_;first|(rw [HO hx];simp [ZD,AQ];done)|(rw [BZ hy,hrx];simp [ZD,AQ];done)|(rw [BZ hy,hrn];done)|(rw [htk];done)),Y⟩)
 try simp at h19
 have hst:=HK (N:=next.length) hf
 have hng:=JH (CC fr (ZA next.length (-1)))
 rw [Ew,Aaa] at hng
 rw [ZF (by omega)] at he
 refine Bf (Ae (AW.block (AW.loop4 (fun (O:List Int) (J1:Nat) (ρ1:List (List T)) (Q1:List Int)=>(FM next.length O Q1∧J1≤ρ1.length∧ρ1.flatten.all T.isV=true∧ρ1.length+Eo O≤fr.length+next.length)∧ρ1.drop J1=Q1.map AQ∧∃ f,Eo O+Q1.length<f∧bfs (nxL next) f O Q1=Es (nxL next) next.length fr) (fun (O:List Int) (J1:Nat) (ρ1:List (List T)) (Q1:List Int)=>⟨_,[(6,(true,.a (.one (.tl 15 1 J1)))),(5,(true,.a (.one (.rf 1400)))),(0,_),(4,_)],[(15,.row 1 ρ1),(1400,.row 1 (O.map AQ))]⟩) (fun (O:List Int) (J1:Nat) (ρ1:List (List T)) (Q1:List Int)=>Eo O+Q1.length) (CC fr (ZA next.length (-1))) (J) (ρ) (fr) ⟨⟨hst,by omega,hk.2.2.1,by omega⟩,he,⟨2*next.length+fr.length+1,by omega,U⟩⟩ (Au U ⟨U,U,U,U,Y⟩ ⟨U,(by refine congrArg (fun r=>some (R.row 1 r)) ?_;first|rfl|(rw [ZF (by omega)];done)),Y⟩) ?_)))
 rintro O J1 ρ1 Q1 ⟨hk1,he1⟩
 refine Ae (Af (Ab ?_));refine Ac (Ww U (.no U) U (.tm U) U Z9) U ?_;refine AWl.gc ?_;refine Aa (Ai (.tm U) (fun h32=>?_) (fun h32=>?_))
 · try simp at h32
   have hql:Q1.length=ρ1.length-J1:=by (have:=congrArg ZR he1.1;simp at this;omega)
   obtain⟨q,r,rfl⟩:∃ q r,Q1=q::r:=(by cases Q1 with|nil=>(simp at hql;omega)|cons q r=>exact⟨q,r,rfl⟩)
   have hqr:=hk1.1.mem q (by simp)
   have hl0:=hk1.1.len
   obtain⟨l,hl⟩:∃ ξ,next[q.toNat]?=some ξ:=⟨_,ZK (by omega)⟩
   have hln:=Qb hl
   have hq0:ρ1[J1+(0:Int).toNat]?=some (AQ q):=by (have:=congrArg (fun l=>l[0]?) he1.1;simpa [Aac] using this)
   have hnq:=hn q.toNat (by omega)
   have hzq:=hz q.toNat (by omega)
   have hR:=FM.relax (N:=next.length) hqr (l:=nxL next q.toNat) (st:=(O,r)) hk1.1.tail hnq
   dsimp only at hR
   obtain⟨f,hf1,hf2⟩:=he1.2
   refine Am (Ae (AW.block (Af (Ab ?_))));refine Ab ?_;refine Ac (J4 U (.no U) U (.tm U) U (.const U) Z9 ty3 (fun _=>⟨by omega,hq0⟩)) U ?_;refine Ac (Ca U (.no U) U (.tm U) U (by exact hq0) ty3 U U) U ?_;refine Ac (Ak U (.no U) U (.tm U) (.tm U) Aab Cc (fun _=>⟨by omega,(by exact Ao hl)⟩)) U ?_;refine Aj Cc ?_;refine Bi (.t) Z9 ?_;refine Ac (Bh U (.no U) U (.const U)) U ?_
   refine Aa (AW.block (Dz (fun (j:Nat) (J2:Nat) (ρ2:List (List T))=>(j≤(nxL next q.toNat).length∧J2≤ρ2.length∧ρ2.flatten.all T.isV=true∧ρ2.length+Eo (relax q ((nxL next q.toNat).take j) (O,r)).1≤fr.length+next.length)∧ρ2.drop J2=(q::(relax q ((nxL next q.toNat).take j) (O,r)).2).map AQ) (fun (j:Nat) (J2:Nat) (ρ2:List (List T))=>⟨_,[(42,(true,.a (.one (.t (.v (.int .i64 (j:Nat))))))),(6,(true,.a (.one (.tl 15 1 J2)))),(5,(true,.a (.one (.rf 1400)))),(0,_),(4,_),(40,_),(41,_)],[(15,.row 1 ρ2),(1400,.row 1 ((relax q ((nxL next q.toNat).take j) (O,r)).1.map AQ))]⟩) (fun (j:Nat) (J2:Nat) (ρ2:List (List T))=>(nxL next q.toNat).length-j) (0) (J1) (ρ1) ⟨⟨ZQ _,hk1.2.1,hk1.2.2.1,hk1.2.2.2⟩,he1.1⟩ (Au U ⟨U,U,U,U,U,U,U,Y⟩ ⟨U,(by refine congrArg (fun r=>some (R.row 1 r)) ?_;first|rfl|(rw [ZF (by omega)];done)),Y⟩) ?_))
   rintro j J2 ρ2 ⟨hk2,he2⟩
   refine Af (AWl.lt ?_);refine Aa (Ae (Ai (.tm U) (fun h43=>?_) (fun h43=>?_)))
   · try simp at h43
     obtain⟨y,hy⟩:∃ ξ,(nxL next q.toNat)[j]?=some ξ:=⟨_,ZK (by rw [←hln] at h43;omega)⟩
     have hy3:l[j]?=some y:=by rw [←hln];exact hy
     have hjl:j<(nxL next q.toNat).length:=by (rw [hln];omega)
     have hyr:=hnq y (ZB hy)
     have hst:=FM.relax (N:=next.length) hqr (l:=(nxL next q.toNat).take j) (st:=(O,r)) hk1.1.tail (fun k hk=>hnq k (List.mem_of_mem_take hk))
     dsimp only at hst
     have hgk:=CT (out:=(relax q ((nxL next q.toNat).take j) (O,r)).1) (k:=y) (by rw [hst.1.len];omega)
     have hgq:=CT (out:=(relax q ((nxL next q.toNat).take j) (O,r)).1) (k:=q) (by rw [hst.1.len];omega)
     have hvq:=hst.1.val _ (ZB hgq)
     have hq2:ρ2[J2+(0:Int).toNat]?=some (AQ q):=by (have:=congrArg (fun l=>l[0]?) he2;simpa [Aac] using this)
     refine Am (Ae (AW.block (Af (Ac (Ak U (.no U) U (.tm U) (.tm U) Z9 ty3 (fun _=>⟨by omega,(by exact Ao hy3)⟩)) U ?_))));refine Aj ty3 ?_;refine Ah ?_;refine Aa (Af (Ab ?_));refine Ab ?_;refine Ac (A3 U (.no U) U (.tm U) U (.tm U) Z9 ty3 (fun _=>⟨by omega,(by exact Ao hgk)⟩)) U ?_;refine Ac (Ca U (.no U) U (.tm U) U (by exact Ao hgk) ty3 U U) U ?_;refine D7 ?_;refine Aa (Ai (.tm U) (fun h50=>?_) (fun h50=>?_))
     · try simp at h50
       have hneg:=Jg (v:=atI (relax q ((nxL next q.toNat).take j) (O,r)).1 q+1) (by omega) hgk h50
       have hrx:rlx q (relax q ((nxL next q.toNat).take j) (O,r)) y=((relax q ((nxL next q.toNat).take j) (O,r)).1.set y.toNat (atI (relax q ((nxL next q.toNat).take j) (O,r)).1 q+1),(relax q ((nxL next q.toNat).take j) (O,r)).2++[y]):=by (unfold rlx;rw [if_pos h50])
       refine Ae (As (Ay [0,4,5,6,10,40,41,42] [15,1400]) ?_);refine Ad (Ab ?_);refine Ab ?_;refine Ab ?_;refine Ab ?_;refine Ac (J4 U (.no U) U (.tm U) U (.const U) Z9 ty3 (fun _=>⟨by omega,hq2⟩)) U ?_;refine Ac (Ca U (.no U) U (.tm U) U (by exact hq2) ty3 U U) U ?_;refine Ac (A3 U (.no U) U (.tm U) U (.tm U) Z9 ty3 (fun _=>⟨by omega,(by exact Ao hgq)⟩)) U ?_;refine Ac (Ca U (.no U) U (.tm U) U (by exact Ao hgq) ty3 U U) U ?_;refine A9 ?_;refine Ac (A3 U (.no U) U (.tm U) U (.tm U) Z9 ty3 (fun _=>⟨by omega,(by exact Ao hgk)⟩)) U ?_;refine Cu (C0 U U U (.tm U) U (.tm U) U (by exact Ao hgk) ty3 U U U U) ?_;refine Aa (As (Ay [0,4,5,6,10,40,41,42] [15,1400]) ?_);refine Ad (Ab ?_);refine Ab ?_;refine Ac (Cf (xs:=[.tmp 62]) (rows:=[AQ y]) U U U (.cons (.tm U) U U .nil) Z9 in3 U U (U)) U ?_
       refine AWl.appendTl (M5 U U U (.tm U) U (.tm U) (by exact .t) hk2.2.2.1 (by rfl) Z9 in3 U (by omega) (by (simp [AH];omega)) (by (unfold maxLen;simp [AH];omega))) U fun j64 ρ64 hj64 hd64 hv64 hl64=>?_
       refine Bv (Ay [0,4,5,6,10,40,41,42,64] [15,1400]) ?_;refine Ah ?_;refine Aa (Ad (A9 ?_));refine Ab ?_;refine Aa ?_
       repeat (with_reducible refine Av ?_)
       refine Ef.next (j+1) (j64) (ρ64) ⟨⟨by omega,hj64,hv64,by rw [BZ hy,hrx];simp only;simp at hl64;omega⟩,by rw [hd64,he2,BZ hy,hrx];simp⟩ (by omega) (Au rfl ⟨rfl,rfl,rfl,rfl,rfl,rfl,rfl,Y⟩ ⟨(by rfl),(by refine congrArg (fun r=>some (R.row 1 r)) ?_;first|(rw [HO hx];simp [ZD,AQ];done)|(rw [BZ hy,hrx];simp [ZD,AQ];done)|(rw [BZ hy,hrn];done)|(rw [htk];done)),Y⟩)
     try simp at h50
     have hrn:rlx q (relax q ((nxL next q.toNat).take j) (O,r)) y=relax q ((nxL next q.toNat).take j) (O,r):=by (unfold rlx;rw [if_neg (by omega)])
     refine Am (As (Ay [0,4,5,6,10,40,41,42] [15,1400]) ?_);refine Ad (A9 ?_);refine Ab ?_;refine Aa ?_
     repeat (with_reducible refine Av ?_)
     refine Ef.next (j+1) (J2) (ρ2) ⟨⟨by omega,hk2.2.1,hk2.2.2.1,by rw [BZ hy,hrn];exact hk2.2.2.2⟩,by rw [he2,BZ hy,hrn]⟩ (by omega) (Au rfl ⟨rfl,rfl,rfl,rfl,rfl,rfl,rfl,Y⟩ ⟨(by rfl),(by refine congrArg (fun r=>some (R.row 1 r)) ?_;first|(rw [HO hx];simp [ZD,AQ];done)|(rw [BZ hy,hrx];simp [ZD,AQ];done)|(rw [BZ hy,hrn];done)|(rw [htk];done)),Y⟩)
   try simp at h43
   have htk:(nxL next q.toNat).take j=nxL next q.toNat:=ZF (by rw [hln];omega)
   rw [htk] at hk2 he2
   have hdr:ρ2.drop (J2+1)=(relax q (nxL next q.toNat) (O,r)).2.map AQ:=by (rw [←List.drop_drop,he2];rfl)
   have hJ2:J2+1≤ρ2.length:=by (have:=congrArg ZR he2;simp at this;omega)
   have hbf:∃ f,Eo (relax q (nxL next q.toNat) (O,r)).1+(relax q (nxL next q.toNat) (O,r)).2.length<f∧bfs (nxL next) f (relax q (nxL next q.toNat) (O,r)).1 (relax q (nxL next q.toNat) (O,r)).2=Es (nxL next) next.length fr:=by (obtain⟨f',rfl⟩:∃ f',f=f'+1:=⟨f-1,by omega⟩;exact⟨f',by have:=hR.2.1;simp only [ZS] at hf1;omega,hf2⟩)
   refine Bf (Ad (Ab ?_));refine Ac ((by exact Ti (m:=1) U (.no U) U (.tm U) U (.yes (.const U) (fun _=>by first|rfl|omega|(simp<;>omega))) Z9 ty3 (fun _=>by omega))) U ?_;refine Ah ?_;refine Aa ?_
   repeat (with_reducible refine Av ?_)
   refine Jz.next ((relax q (nxL next q.toNat) (O,r)).1) (J2+1) (ρ2) ((relax q (nxL next q.toNat) (O,r)).2) ⟨⟨hR.1,hJ2,hk2.2.2.1,hk2.2.2.2⟩,hdr,hbf⟩ (by have:=hR.2.1;simp only [ZS] at this ⊢;omega) (Au rfl ⟨rfl,rfl,rfl,rfl,Y⟩ ⟨(by rfl),(by refine congrArg (fun r=>some (R.row 1 r)) ?_;first|(rw [HO hx];simp [ZD,AQ];done)|(rw [BZ hy,hrx];simp [ZD,AQ];done)|(rw [BZ hy,hrn];done)|(rw [htk];done)),Y⟩)
 try simp at h32
 have hO:O=Es (nxL next) next.length fr:=by (obtain⟨f,hf1,hf2⟩:=he1.2;have hQ:Q1=[]:=List.eq_nil_of_length_eq_zero (by have:=congrArg ZR he1.1;simp at this;omega);subst hQ;rw [TW (by omega)] at hf2;exact hf2)
 refine Bf (Af (Ab ?_));refine Ah ?_;refine Aa (Aq (Res.one U (.tmp U .nil) U ?_))
 rw [hO];rfl
end Go.Proofs.YtdhojcaoljhbiaaGreat
namespace Go.Q
open Go.D
inductive GZ (nx:Nat→List Int) (G:Nat→Bool):Nat→Prop where
 | goal {i:Nat}:G i=true→GZ nx G i
 | step {i:Nat} {z:Int}:z∈nx i→GZ nx G z.toNat→GZ nx G i
theorem RM {O:List Int} {k:Nat} {j v:Int} (hk:k<O.length):atI (O.set k v) j=if j.toNat=k then v else atI O j:=by
 unfold atI
 rw [ZT]
 by_cases e:j.toNat=k
 · rw [e,if_pos rfl,if_pos hk,if_pos rfl];rfl
 rw [if_neg (fun h=>e h.symm),if_neg e]
theorem We {O:List Int} {i:Nat} (hi:i<O.length) (h:∀ v∈O,-1≤v):-1≤atI O (i:Int):=h _ (ZB (CT (out:=O) (k:=(i:Int)) (by omega)))
def Nb (nx:Nat→List Int) (d:Int) (out:List Int) (i:Nat):List Int:=if atI out (i:Int)<0∧((nx i).any fun z=>decide (atI out z=d-1))=true then out.set i d else out
structure E4 (nx:Nat→List Int) (G:Nat→Bool) (N:Nat) (O:List Int):Prop where
 len:O.length=N
 lo:∀ v∈O,-1≤v
 ex:∀ i,i<N→0<atI O (i:Int)→∃ z∈nx i,atI O z=atI O (i:Int)-1
 z0:∀ i,i<N→(atI O (i:Int)=0↔G i=true)
 cl:∀ i,i<N→∀ z∈nx i,0≤atI O z→0≤atI O (i:Int)∧atI O (i:Int)≤atI O z+1
structure Si (nx:Nat→List Int) (G:Nat→Bool) (N:Nat) (d:Int) (O:List Int):Prop where
 len:O.length=N
 lo:∀ v∈O,-1≤v∧v<d
 ex:∀ i,i<N→0<atI O (i:Int)→∃ z∈nx i,atI O z=atI O (i:Int)-1
 z0:∀ i,i<N→(atI O (i:Int)=0↔G i=true)
 cl:∀ i,i<N→∀ z∈nx i,0≤atI O z→atI O z<d-1→0≤atI O (i:Int)∧atI O (i:Int)≤atI O z+1
section
variable {nx:Nat→List Int} {G:Nat→Bool} {N:Nat} {d:Int} {out:List Int}
structure Lz (nx:Nat→List Int) (N:Nat) (d:Int) (out o:List Int) (i:Nat):Prop where
 len:o.length=N
 lo:∀ v∈o,-1≤v∧v≤d
 old:∀ j,j<N→0≤atI out (j:Int)→atI o (j:Int)=atI out (j:Int)
 new:∀ j,j<N→atI out (j:Int)<0→atI o (j:Int)=atI out (j:Int)∨(atI o (j:Int)=d∧∃ z∈nx j,atI out z=d-1)
 dn:∀ j,j<i→j<N→∀ z∈nx j,0≤atI out z→0≤atI o (j:Int)
theorem Lz.start (h:Si nx G N d out):Lz nx N d out out 0:=
 ⟨h.len,fun v hv=>by have:=h.lo v hv;omega,fun _ _ _=>rfl,fun _ _ _=>.inl rfl,fun j hj=>absurd hj (Nat.not_lt_zero j)⟩
theorem Lz.step (hd:1≤d) (hn:∀ p,p<N→∀ k∈nx p,0≤k∧k<N) (hI:Si nx G N d out) {o:List Int} {i:Nat} (h:Lz nx N d out o i) (hi:i<N):Lz nx N d out (Nb nx d o i) (i+1):=by
 have hval:∀ z:Int,0≤z→z<N→(atI o z=d-1→atI out z=d-1)∧(atI out z=d-1→atI o z=d-1):=fun z h0 hz=>by
  have e:((z.toNat:Nat):Int)=z:=ZG h0
  have h1:=h.old z.toNat (by omega)
  have h2:=h.new z.toNat (by omega)
  rw [e] at h1 h2
  rcases ZC (atI out z) 0 with h3|h3
  · have:=h2 h3
    rcases this with h4|h4<;>omega
  have:=h1 h3;omega
 have hdone:∀ z∈nx i,0≤atI out z→atI o (i:Int)<0→atI o z=d-1:=fun z hz h0 hneg=>by
  have hb:=hn i hi z hz
  have hlt:atI out z<d:=(hI.lo _ (ZB (CT (out:=out) (k:=z) (by rw [hI.len];omega)))).2
  rcases ZC (atI out z) (d-1) with h3|h3
  · have h4:=(hI.cl i hi z hz h0 h3).1
    have:=h.old i hi h4
    omega
  exact (hval z hb.1 hb.2).2 (by omega)
 unfold Nb
 split
 · rename_i hc
   obtain⟨z,hz,hzd⟩:=ZL.1 hc.2
   have hzd:=of_decide_eq_true hzd
   have hb:=hn i hi z hz
   have hil:i<o.length:=by rw [h.len];exact hi
   have hat:∀ j:Nat,atI (o.set i d) (j:Int)=if j=i then d else atI o (j:Int):=fun j=>by rw [RM hil];simp
   refine⟨by rw [ZU];exact h.len,fun v hv=>?_,fun j hj hv=>?_,fun j hj hv=>?_,fun j hji hj y hy hv=>?_⟩
   · rcases ZH hv with hv|rfl
     · exact h.lo v hv
     omega
   · rw [hat]
     by_cases e:j=i
     · subst e;have:=h.old j hj hv;omega
     rw [if_neg e];exact h.old j hj hv
   · rw [hat]
     by_cases e:j=i
     · subst e;rw [if_pos rfl];exact .inr ⟨rfl,z,hz,(hval z hb.1 hb.2).1 hzd⟩
     rw [if_neg e];exact h.new j hj hv
   rw [hat]
   by_cases e:j=i
   · rw [if_pos e];omega
   rw [if_neg e];exact h.dn j (by omega) hj y hy hv
 rename_i hc
 refine⟨h.len,h.lo,h.old,h.new,fun j hji hj y hy hv=>?_⟩
 by_cases e:j=i
 · subst e
   rcases ZC (atI o (j:Int)) 0 with h3|h3
   · exact absurd ⟨h3,ZL.2 ⟨y,hy,decide_eq_true (hdone y hy hv h3)⟩⟩ hc
   exact h3
 exact h.dn j (by omega) hj y hy hv
theorem Lz.done (hd:1≤d) (hn:∀ p,p<N→∀ k∈nx p,0≤k∧k<N) (hI:Si nx G N d out) {o:List Int} (h:Lz nx N d out o N):Si nx G N (d+1) o:=by
 have hlo:∀ i,i<N→ -1≤atI out (i:Int)∧atI out (i:Int)<d:=fun i hi=>hI.lo _ (ZB (CT (out:=out) (k:=(i:Int)) (by rw [hI.len];omega)))
 have hnz:∀ i,i<N→∀ z∈nx i,z=((z.toNat:Nat):Int)∧z.toNat<N:=fun i hi z hz=>by have:=hn i hi z hz;omega
 refine⟨h.len,fun v hv=>by have:=h.lo v hv;omega,fun i hi hp=>?_,fun i hi=>?_,fun i hi z hz h0 h1=>?_⟩
 · rcases ZC (atI out (i:Int)) 0 with h3|h3
   · rcases h.new i hi h3 with h4|⟨h4,z,hz,h5⟩
     · omega
     obtain⟨e,hzN⟩:=hnz i hi z hz
     refine⟨z,hz,?_⟩
     rw [e] at h5 ⊢
     rw [h.old _ hzN (by omega)];omega
   have h4:=h.old i hi h3
   obtain⟨z,hz,h5⟩:=hI.ex i hi (by omega)
   obtain⟨e,hzN⟩:=hnz i hi z hz
   refine⟨z,hz,?_⟩
   rw [e] at h5 ⊢
   rw [h.old _ hzN (by omega)];omega
 · rw [←hI.z0 i hi]
   rcases ZC (atI out (i:Int)) 0 with h3|h3
   · rcases h.new i hi h3 with h4|⟨h4,_⟩<;>omega
   rw [h.old i hi h3]
 obtain⟨e,hzN⟩:=hnz i hi z hz
 have hz0:0≤atI out z∧atI o z=atI out z:=by
  rw [e] at h0 h1 ⊢
  rcases ZC (atI out ((z.toNat:Nat):Int)) 0 with h3|h3
  · rcases h.new _ hzN h3 with h4|⟨h4,_⟩<;>omega
  exact⟨h3,h.old _ hzN h3⟩
 have hpos:=h.dn i hi hi z hz hz0.1
 refine⟨hpos,?_⟩
 rcases ZC (atI out z) (d-1) with h3|h3
 · have h4:=hI.cl i hi z hz hz0.1 h3
   rw [h.old i hi h4.1];omega
 have:=h.lo _ (ZB (CT (out:=o) (k:=(i:Int)) (by rw [h.len];omega)))
 omega
theorem Lz.stay (hI:Si nx G N d out) (h:Lz nx N d out out N):E4 nx G N out:=by
 refine⟨hI.len,fun v hv=>(hI.lo v hv).1,hI.ex,hI.z0,fun i hi z hz h0=>?_⟩
 have hpos:=h.dn i hi hi z hz h0
 refine⟨hpos,?_⟩
 rcases ZC (atI out z) (d-1) with h3|h3
 · exact (hI.cl i hi z hz h0 h3).2
 have:=(hI.lo _ (ZB (CT (out:=out) (k:=(i:Int)) (by rw [hI.len];omega)))).2
 omega
theorem E4.le (hn:∀ p,p<N→∀ k∈nx p,0≤k∧k<N) {A B:List Int} (hA:E4 nx G N A) (hB:E4 nx G N B):∀ (n i:Nat),i<N→atI A (i:Int)=n→0≤atI B (i:Int)∧atI B (i:Int)≤n
 | 0,i,hi,h=>by
  have:=(hB.z0 i hi).2 ((hA.z0 i hi).1 (by simpa using h))
  omega
 | n+1,i,hi,h=>by
  obtain⟨z,hz,h5⟩:=hA.ex i hi (by omega)
  have hb:=hn i hi z hz
  have e:((z.toNat:Nat):Int)=z:=ZG hb.1
  have ih:=E4.le hn hA hB n z.toNat (by omega) (by rw [e];omega)
  rw [e] at ih
  have:=hB.cl i hi z hz ih.1
  omega
theorem E4.uniq (hn:∀ p,p<N→∀ k∈nx p,0≤k∧k<N) {A B:List Int} (hA:E4 nx G N A) (hB:E4 nx G N B):A=B:=by
 refine ZV fun i=>?_
 by_cases hi:i<N
 · have h1:=CT (out:=A) (k:=(i:Int)) (by rw [hA.len];omega)
   have h2:=CT (out:=B) (k:=(i:Int)) (by rw [hB.len];omega)
   have l1:=We (O:=A) (i:=i) (by rw [hA.len];exact hi) hA.lo
   have l2:=We (O:=B) (i:=i) (by rw [hB.len];exact hi) hB.lo
   simp only [ZI] at h1 h2
   rw [h1,h2]
   congr 1
   rcases ZC (atI A (i:Int)) 0 with h3|h3
   · rcases ZC (atI B (i:Int)) 0 with h4|h4
     · omega
     have:=E4.le hn hB hA (atI B (i:Int)).toNat i hi (by omega);omega
   have h4:=E4.le hn hA hB (atI A (i:Int)).toNat i hi (by omega)
   have h5:=E4.le hn hB hA (atI B (i:Int)).toNat i hi (by omega)
   omega
 rw [ZM (by rw [hA.len];omega),ZM (by rw [hB.len];omega)]
theorem E4.can (hn:∀ p,p<N→∀ k∈nx p,0≤k∧k<N) {A:List Int} (hA:E4 nx G N A) {i:Nat} (hi:i<N):0≤atI A (i:Int)↔GZ nx G i:=by
 constructor
 · intro h
   have key:∀ (n i:Nat),i<N→atI A (i:Int)=n→GZ nx G i:=by
    intro n
    induction n with
    | zero=>exact fun i hi h=>.goal ((hA.z0 i hi).1 (by simpa using h))
    | succ n ih=>
     intro i hi h
     obtain⟨z,hz,h5⟩:=hA.ex i hi (by omega)
     have hb:=hn i hi z hz
     exact .step hz (ih z.toNat (by omega) (by rw [ZG hb.1];omega))
   exact key (atI A (i:Int)).toNat i hi (by omega)
 intro hc
 induction hc with
 | goal hg=>have:=(hA.z0 _ hi).2 hg;omega
 | @step i z hz _ ih=>
  have hb:=hn i hi z hz
  have:=ih (by omega)
  rw [ZG hb.1] at this
  exact (hA.cl i hi z hz this).1
end
open Classical in
noncomputable def Z2 (nx:Nat→List Int) (G:Nat→Bool) (N:Nat):List Int:=if h:∃ O,E4 nx G N O then h.choose else []
inductive Ks {β:Type} (es:List β) (tst:β→List Int→Bool) (i:Nat) (d:Int) (O1:List Int) (c1:Bool):Nat→List Int→Bool→Prop where
 | still {j:Nat}:(∀ e∈es.take j,tst e O1=false)→Ks es tst i d O1 c1 j O1 c1
 | set {j:Nat} {e:β}:e∈es→tst e O1=true→atI O1 (i:Int)<0→Ks es tst i d O1 c1 j (O1.set i d) true
theorem Ks.fin {β:Type} {es:List β} {tst:β→List Int→Bool} {i:Nat} {d:Int} {O1 O2:List Int} {c1 c2:Bool} {j:Nat} {nx:Nat→List Int} (hd:0≤d) (hi:i<O1.length) (hnx:((nx i).any fun z=>decide (atI O1 z=d-1))=es.any fun e=>tst e O1) (h:Ks es tst i d O1 c1 j O2 c2) (hx:es.length≤j∨0≤atI O2 (i:Int)) :
 O2=Nb nx d O1 i∧(c2=false→O2=O1∧c1=false)∧(c2=true→c1=true∨Eo O2<Eo O1)∧Eo O2≤Eo O1:=by
 unfold Nb
 rw [hnx]
 cases h with
 | still h=>
  refine⟨?_,fun e=>⟨rfl,e⟩,fun e=>.inl e,ZP _⟩
  rw [if_neg]
  rintro⟨h1,h2⟩
  rcases hx with hx|hx
  · obtain⟨e,he,h3⟩:=ZL.1 h2
    rw [ZF hx] at h
    rw [h e he] at h3;cases h3
  omega
 | set h1 h2 h3=>
  have h4:=Jg hd (CT (out:=O1) (k:=(i:Int)) (by omega)) h3
  rw [ZI] at h4
  refine⟨?_,fun e=>(by cases e),fun _=>.inr (by omega),by omega⟩
  rw [if_pos ⟨h3,ZL.2 ⟨_,h1,h2⟩⟩]
theorem Ks.on {β:Type} {es:List β} {tst:β→List Int→Bool} {i:Nat} {d:Int} {O1 O2:List Int} {c1 c2:Bool} {j:Nat} (hd:0≤d) (hi:i<O1.length) (h:Ks es tst i d O1 c1 j O2 c2) (hneg:atI O2 (i:Int)<0):O2=O1∧c2=c1∧∀ e∈es.take j,tst e O1=false:=by
 cases h with
 | still h=>exact⟨rfl,rfl,h⟩
 | set h1 h2 h3=>
  rw [RM hi,ZI,if_pos rfl] at hneg
  omega
theorem Ks.next {β:Type} {es:List β} {tst:β→List Int→Bool} {i:Nat} {d:Int} {O1 O2:List Int} {c1 c2:Bool} {j:Nat} {z:β} (hd:0≤d) (hi:i<O1.length) (h:Ks es tst i d O1 c1 j O2 c2) (hneg:atI O2 (i:Int)<0) (hz:es[j]?=some z):(tst z O2=true→Ks es tst i d O1 c1 (j+1) (O2.set i d) true)∧(tst z O2=false→Ks es tst i d O1 c1 (j+1) O2 c2):=by
 obtain⟨rfl,rfl,h3⟩:=h.on hd hi hneg
 refine⟨fun ht=>.set (ZB hz) ht hneg,fun ht=>.still fun e he=>?_⟩
 rw [CO hz] at he
 rcases List.mem_append.1 he with h4|h4
 · exact h3 e h4
 rw [List.mem_singleton] at h4;subst h4;exact ht
inductive WC (E:Nat→List (Int×Int)) (G:Nat→Bool):Nat→Int→Prop where
 | goal {i:Nat}:G i=true→WC E G i 0
 | step {i:Nat} {z c d:Int}:(z,c)∈E i→WC E G z.toNat d→WC E G i (c+d)
theorem RL {O:List Int} {k j:Nat} {v:Int} (hk:k<O.length):atI (O.set k v) (j:Int)=if j=k then v else atI O (j:Int):=by
 unfold atI
 simp only [ZI]
 rw [ZT]
 by_cases e:j=k
 · subst e;rw [if_pos rfl,if_pos hk,if_pos rfl];rfl
 rw [if_neg (fun h=>e h.symm),if_neg e]
theorem Ki {v:Int} (hv:0≤v):∀ {out:List Int} {k:Nat} {x:Int},out[k]?=some x→0≤x→Eo (out.set k v)=Eo out
 | [],_,_,h,_=>by simp at h
 | y::l,0,x,h,hx=>by
  simp at h
  subst h
  rw [List.set_cons_zero,Fq,Fq,if_neg (by omega),if_neg (by omega)]
 | y::l,k+1,x,h,hx=>by
  rw [ZW,Fq,Fq,Ki hv (out:=l) (k:=k) (by simpa using h) hx]
def phi (B:Nat) (O:List Int):Nat:=(O.map fun v=>if v<0 then B else v.toNat).sum
theorem T4 {B:Nat} {v:Int}:∀ {O:List Int} {k:Nat} {x:Int},O[k]?=some x→phi B (O.set k v)+(if x<0 then B else x.toNat)=phi B O+(if v<0 then B else v.toNat)
 | [],_,_,h=>by simp at h
 | y::l,0,x,h=>by
  simp at h
  subst h
  unfold phi
  simp;omega
 | y::l,k+1,x,h=>by
  have:=T4 (B:=B) (v:=v) (O:=l) (k:=k) (by simpa using h)
  unfold phi at *
  simp only [ZW,ZX,ZY]
  omega
structure CI (E:Nat→List (Int×Int)) (G:Nat→Bool) (N:Nat) (O:List Int):Prop where
 len:O.length=N
 lo:∀ v∈O,-1≤v
 hi:∀ v∈O,v+9*(Eo O:Int)≤9*N
 snd:∀ i,i<N→0≤atI O (i:Int)→WC E G i (atI O (i:Int))
 gl:∀ i,i<N→G i=true→atI O (i:Int)=0
def UB (O:List Int) (i:Nat) (e:Int×Int):Prop:=atI O e.1<0∨(0≤atI O (i:Int)∧atI O (i:Int)≤atI O e.1+e.2)
section
variable {E:Nat→List (Int×Int)} {G:Nat→Bool} {N:Nat} {O:List Int}
theorem CI.at (h:CI E G N O) {i:Nat} (hi:i<N):-1≤atI O (i:Int)∧atI O (i:Int)+9*(Eo O:Int)≤9*N:=by
 have hm:=ZB (CT (out:=O) (k:=(i:Int)) (by rw [h.len];simpa using hi))
 exact⟨h.lo _ hm,h.hi _ hm⟩
theorem CI.step (h:CI E G N O) {i:Nat} {z c:Int} (hi:i<N) (he:(z,c)∈E i) (hz:0≤z∧z<N) (hc:0≤c∧c≤9) (hd:0≤atI O z) (hl:atI O (i:Int)<0∨atI O z+c<atI O (i:Int)) :
 CI E G N (O.set i (atI O z+c))∧phi (9*N+1) (O.set i (atI O z+c))<phi (9*N+1) O:=by
 obtain⟨zn,rfl⟩:=Int.eq_ofNat_of_zero_le hz.1
 have hzN:zn<N:=by omega
 have hil:i<O.length:=by rw [h.len];exact hi
 have hgi:O[i]?=some (atI O (i:Int)):=by have:=CT (out:=O) (k:=(i:Int)) (by simpa using hil);simpa using this
 have hzv:=h.at hzN
 have hiv:=h.at hi
 have hng:Eo O=Eo (O.set i (atI O (zn:Int)+c))+(if atI O (i:Int)<0 then 1 else 0):=by
  by_cases hn:atI O (i:Int)<0
  · rw [if_pos hn];exact (Jg (by omega) hgi hn).symm
  rw [if_neg hn,Ki (by omega) hgi (by omega)];omega
 constructor
 · refine⟨by rw [ZU];exact h.len,fun v hv=>?_,fun v hv=>?_,fun j hj hjv=>?_,fun j hj hG=>?_⟩
   · rcases ZH hv with hv|rfl
     · exact h.lo v hv
     omega
   · rcases ZH hv with hv|rfl
     · have:=h.hi v hv
       split at hng<;>omega
     split at hng<;>omega
   · rw [RL hil] at hjv ⊢
     by_cases e:j=i
     · subst e
       rw [if_pos rfl,Int.add_comm]
       exact .step he (by simpa using h.snd zn hzN hd)
     rw [if_neg e] at hjv ⊢
     exact h.snd j hj hjv
   rw [RL hil]
   by_cases e:j=i
   · subst e
     have:=h.gl j hj hG
     omega
   rw [if_neg e];exact h.gl j hj hG
 have hp:=T4 (B:=9*N+1) (v:=atI O (zn:Int)+c) hgi
 rw [if_neg (show ¬ atI O (zn:Int)+c<0 by omega)] at hp
 by_cases hn:atI O (i:Int)<0
 · rw [if_pos hn] at hp hng;omega
 rw [if_neg hn] at hp hng;omega
theorem CI.least (h:CI E G N O) (hE:∀ i,i<N→∀ e∈E i,0≤e.1∧e.1<N) (hf:∀ i,i<N→∀ e∈E i,UB O i e) {i:Nat} {d:Int} (hw:WC E G i d):i<N→0≤atI O (i:Int)∧atI O (i:Int)≤d:=by
 induction hw with
 | goal hg=>intro hi;rw [h.gl _ hi hg];omega
 | @step i z c d he _ ih=>
  intro hi
  have hz:=hE i hi _ he
  have h1:=ih (show z.toNat<N by have h5:(z,c).1<(N:Int):=hz.2;have h6:0≤(z,c).1:=hz.1;dsimp only at h5 h6;omega)
  have hzz:((z.toNat:Nat):Int)=z:=ZG hz.1
  rw [hzz] at h1
  rcases hf i hi _ he with h2|h2
  · simp only at h2;omega
  simp only at h2;omega
theorem CI.same {O':List Int} (h:CI E G N O) (h':CI E G N O') (hE:∀ i,i<N→∀ e∈E i,0≤e.1∧e.1<N) (hf:∀ i,i<N→∀ e∈E i,UB O i e) (hf':∀ i,i<N→∀ e∈E i,UB O' i e) {i:Nat} (hi:i<N):atI O (i:Int)=atI O' (i:Int):=by
 have a1:=(h.at hi).1
 have a2:=(h'.at hi).1
 by_cases h1:0≤atI O (i:Int)
 · have b1:=h'.least hE hf' (h.snd i hi h1) hi
   have b2:=h.least hE hf (h'.snd i hi b1.1) hi
   omega
 by_cases h2:0≤atI O' (i:Int)
 · have b2:=h.least hE hf (h'.snd i hi h2) hi
   omega
 omega
end
def XU (w v:Int×Int):Bool:=decide (v.1<0)||(decide (w.1<v.1)||(decide (w.1=v.1)&&decide (w.2<v.2)))
def QI (W:List (Int×Int)):Nat:=(W.map fun w=>w.2.toNat).sum
def atW (W:List (Int×Int)) (k:Int):Int×Int:=W[k.toNat]?.getD (0,0)
theorem TY (W:List (Int×Int)) (k:Int):(atW W k).1=atI (W.map (·.1)) k:=by
 unfold atW atI
 rw [Aad]
 cases W[k.toNat]?<;>rfl
theorem TX {W:List (Int×Int)} {k:Int} (h:k.toNat<W.length):W[k.toNat]?=some (atW W k):=by
 unfold atW;rw [ZK h];rfl
theorem QH {v:Int×Int}:∀ {W:List (Int×Int)} {k:Nat} {x:Int×Int},W[k]?=some x→QI (W.set k v)+x.2.toNat=QI W+v.2.toNat
 | [],_,_,h=>by simp at h
 | y::l,0,x,h=>by
  simp at h
  subst h
  unfold QI
  simp;omega
 | y::l,k+1,x,h=>by
  have:=QH (v:=v) (W:=l) (k:=k) (by simpa using h)
  unfold QI at *
  simp only [ZW,ZX,ZY]
  omega
theorem Tu {b:Nat}:∀ {W:List (Int×Int)},(∀ w∈W,w.2≤b)→QI W≤W.length*b
 | [],_=>by simp [QI]
 | y::l,h=>by
  have h1:=Tu (W:=l) fun v hv=>h v (by simp [hv])
  have h2:=h y (by simp)
  unfold QI at *
  simp only [ZX,ZY,ZS,Aae]
  omega
structure CW (E:Nat→List (Int×Int)) (G:Nat→Bool) (N P0:Nat) (W:List (Int×Int)):Prop where
 ci:CI E G N (W.map (·.1))
 ps:phi (9*N+1) (W.map (·.1))≤P0
 st:∀ w∈W,0≤w.2∧w.2+phi (9*N+1) (W.map (·.1))≤P0
def msW (N P0:Nat) (W:List (Int×Int)):Nat:=phi (9*N+1) (W.map (·.1))*(N*P0+1)+QI W
section
variable {E:Nat→List (Int×Int)} {G:Nat→Bool} {N P0:Nat} {W:List (Int×Int)}
theorem CW.len (h:CW E G N P0 W):W.length=N:=by have:=h.ci.len;simpa using this
theorem CW.step (h:CW E G N P0 W) {i:Nat} {z c:Int} (hi:i<N) (he:(z,c)∈E i) (hz:0≤z∧z<N) (hc:0≤c∧c≤9) (hd:0≤(atW W z).1) (hl:XU ((atW W z).1+c,(atW W z).2+1) (atW W (i:Int))=true) :
 CW E G N P0 (W.set i ((atW W z).1+c,(atW W z).2+1))∧msW N P0 (W.set i ((atW W z).1+c,(atW W z).2+1))<msW N P0 W:=by
 have hil:i<W.length:=by rw [h.len];exact hi
 have hgi:W[i]?=some (atW W (i:Int)):=by have:=TX (W:=W) (k:=(i:Int)) (by simpa using hil);simpa using this
 have hgz:W[z.toNat]?=some (atW W z):=TX (by rw [h.len];omega)
 have hsz:=h.st _ (ZB hgz)
 have hsi:=h.st _ (ZB hgi)
 have hmap:(W.set i ((atW W z).1+c,(atW W z).2+1)).map (·.1)=(W.map (·.1)).set i ((atW W z).1+c):=by rw [ZD]
 have hz1:=TY W z
 have hi1:=TY W (i:Int)
 unfold XU at hl
 simp only [Bool.or_eq_true,Bool.and_eq_true,decide_eq_true_eq] at hl
 by_cases hcost:(atW W (i:Int)).1<0∨(atW W z).1+c<(atW W (i:Int)).1
 · obtain⟨g1,g2⟩:=h.ci.step hi he hz hc (by rw [←hz1];exact hd) (by rw [←hz1,←hi1];exact hcost)
   rw [←hz1,←hmap] at g1 g2
   have hst:∀ w∈W.set i ((atW W z).1+c,(atW W z).2+1),0≤w.2∧w.2+phi (9*N+1) ((W.set i ((atW W z).1+c,(atW W z).2+1)).map (·.1))≤P0:=fun w hw=>by
    rcases ZH hw with hw|rfl
    · have:=h.st w hw;omega
    simp only;omega
   have hps:=h.ps
   refine⟨⟨g1,by omega,hst⟩,?_⟩
   have hs:=Tu (b:=P0) (W:=W.set i ((atW W z).1+c,(atW W z).2+1)) fun w hw=>by have:=hst w hw;omega
   rw [ZU,h.len] at hs
   unfold msW
   have:=Nat.mul_le_mul_right (N*P0+1) (Nat.succ_le_of_lt g2)
   rw [Aae] at this
   omega
 have heq:(atW W z).1+c=(atW W (i:Int)).1∧(atW W z).2+1<(atW W (i:Int)).2:=by
  rcases hl with h1|h1|h1
  · omega
  · omega
  exact h1
 have hsame:(W.set i ((atW W z).1+c,(atW W z).2+1)).map (·.1)=W.map (·.1):=by
  rw [hmap,heq.1]
  apply ZV;intro j
  rw [ZT]
  by_cases e:i=j
  · subst e
    rw [if_pos rfl,if_pos (by simpa using hil),Aad,hgi];rfl
  rw [if_neg e]
 refine⟨⟨by rw [hsame];exact h.ci,by rw [hsame];exact h.ps,fun w hw=>?_⟩,?_⟩
 · rw [hsame]
   rcases ZH hw with hw|rfl
   · exact h.st w hw
   simp only;omega
 have hs:=QH (v:=((atW W z).1+c,(atW W z).2+1)) hgi
 unfold msW
 rw [hsame]
 simp only at hs
 omega
end
open Go.RowKit
def swN (u v i:Nat):Nat:=bif ZE i u then v else bif ZE i v then u else i
theorem UU (u v i:Nat):swN u v i=if i=u then v else if i=v then u else i:=by
 unfold swN
 have e:∀ a b:Nat,ZE a b=decide (a=b):=fun a b=>by
  cases h:ZE a b with
  | true=>simp [Nat.eq_of_beq_eq_true h]
  | false=>simp [Nat.ne_of_beq_eq_false h]
 rw [e,e]
 by_cases h1:i=u
 · simp [h1]
 by_cases h2:i=v
 · simp [h1,h2]
 simp [h1,h2]
theorem DZ (u v i:Nat):swN u v (swN u v i)=i:=by
 rw [UU,UU]
 by_cases h1:i=u
 · subst h1
   rw [if_pos rfl]
   by_cases h2:v=i
   · rw [if_pos h2,h2]
   rw [if_neg h2,if_pos rfl]
 rw [if_neg h1]
 by_cases h2:i=v
 · subst h2;rw [if_pos rfl,if_pos rfl]
 rw [if_neg h2,if_neg h1,if_neg h2]
theorem WG {u v i j:Nat} (h:swN u v i=swN u v j):i=j:=by
 have:=congrArg (swN u v) h
 rwa [DZ,DZ] at this
def swE (u v:Nat):E→E
 | .t x=>.t x
 | .rf id=>.rf (swN u v id)
 | .vw id x=>.vw (swN u v id) x
 | .pp id o=>.pp (swN u v id) o
 | .pr id k i j=>.pr (swN u v id) k i j
 | .sb id k i j=>.sb (swN u v id) k i j
 | .tl id k j=>.tl (swN u v id) k j
 | .pf id k m=>.pf (swN u v id) k m
 | .no=>.no
def WH (u v:Nat):List E→List E
 | []=>[]
 | e::r=>swE u v e::WH u v r
def swA (u v:Nat):A→A
 | .one e=>.one (swE u v e)
 | .agg l=>.agg (WH u v l)
def Yq (u v:Nat):List A→List A
 | []=>[]
 | e::r=>swA u v e::Yq u v r
def swS (u v:Nat):S→S
 | .a x=>.a (swA u v x)
 | .tup l=>.tup (Yq u v l)
def swR (u v:Nat):R→R
 | .row k rows=>.row k rows
 | .box cs=>.box (WH u v cs)
 | .hdr none x=>.hdr none x
 | .hdr (some j) x=>.hdr (some (swN u v j)) x
 | .blk none x=>.blk none x
 | .blk (some j) x=>.blk (some (swN u v j)) x
 | .kept K=>.kept K
 | .opq=>.opq
 | .cur g=>.cur g
 | .mp b f=>.mp b f
def WD (u v:Nat):List (Nat×(Bool×S))→List (Nat×(Bool×S))
 | []=>[]
 | (i,p,x)::r=>(i,p,swS u v x)::WD u v r
def WE (u v:Nat):List (Nat×R)→List (Nat×R)
 | []=>[]
 | (i,x)::r=>(swN u v i,swR u v x)::WE u v r
def St.sw (u v:Nat) (σ:St):St:=⟨σ.n,WD u v σ.slots,WE u v σ.res⟩
def Ip.sw (u v:Nat) (I:Ip):Ip:=⟨I.Z,fun i=>I.F (swN u v i),fun i=>I.hd (swN u v i),fun i=>I.B (swN u v i)⟩
section
variable {u v:Nat} {I:Ip} {w:World}
theorem VE.sw {e:E} {c:Value} (h:VE I w e c):VE (I.sw u v) w (swE u v e) c:=by
 cases e<;>simp only [VE,swE,Ip.sw,DZ] at h ⊢<;>exact h
theorem VEs.sw:∀ {l:List E} {cs:List Value},VEs I w l cs→VEs (I.sw u v) w (WH u v l) cs
 | [],_,h=>h
 | e::r,cs,h=>by
  obtain⟨c,cr,h1,h2,h3⟩:=h
  exact⟨c,cr,h1,h2.sw,VEs.sw h3⟩
theorem VA.sw {x:A} {c:Value} (h:VA I w x c):VA (I.sw u v) w (swA u v x) c:=by
 cases x with
 | one e=>exact VE.sw (show VE I w e c from h)
 | agg l=>obtain⟨cs,h1,h2⟩:=h;exact⟨cs,h1,h2.sw⟩
theorem VAs.sw:∀ {l:List A} {cs:List Value},VAs I w l cs→VAs (I.sw u v) w (Yq u v l) cs
 | [],_,h=>h
 | e::r,cs,h=>by
  obtain⟨c,cr,h1,h2,h3⟩:=h
  exact⟨c,cr,h1,h2.sw,VAs.sw h3⟩
theorem VS.sw {p:Bool} {x:S} {c:Value} (h:VS I w (p,x) c):VS (I.sw u v) w (p,swS u v x) c:=by
 unfold VS at h ⊢
 simp only at h ⊢
 split at h
 · rename_i hp
   rw [if_pos hp]
   cases x with
   | a x=>exact VA.sw h
   | tup l=>obtain⟨vs,h1,h2⟩:=h;exact⟨vs,h1,h2.sw⟩
 rename_i hp
 rw [if_neg hp];exact h
theorem RR.sw {id:Nat} {r:R} (h:RR I w id r):RR (I.sw u v) w (swN u v id) (swR u v r):=by
 cases r with
 | row k rows=>unfold RR swR Ip.sw;simp only [DZ];exact h
 | box cs=>
  obtain⟨h1,vs,e,h2,h3⟩:=h
  unfold RR swR
  simp only
  refine⟨by simpa only [Ip.sw,DZ] using h1,vs,e,by simpa only [Ip.sw,DZ] using h2,h3.sw⟩
 | opq=>trivial
 | cur g=>unfold RR swR Ip.sw;simp only [DZ];exact h
 | mp b f=>unfold RR swR Ip.sw;simp only [DZ];exact h
 | kept K=>exact⟨by unfold Ip.sw;simp only [DZ];exact h.1,h.2⟩
 | hdr j x=>
  obtain⟨h1,h2⟩:=h
  cases j with
  | none=>exact⟨by simpa only [Ip.sw,DZ] using h1,fun i hi=>by cases hi⟩
  | some j=>
   refine⟨by simpa only [Ip.sw,DZ] using h1,fun i hi=>?_⟩
   cases hi
   simpa only [Ip.sw,DZ] using h2 j rfl
 | blk j x=>
  obtain⟨h1,h2⟩:=h
  cases j with
  | none=>exact⟨by simpa only [Ip.sw,DZ] using h1,fun i hi=>by cases hi⟩
  | some j=>
   refine⟨by simpa only [Ip.sw,DZ] using h1,fun i hi=>?_⟩
   cases hi
   simpa only [Ip.sw,DZ] using h2 j rfl
end
theorem Po (u v:Nat):∀ (l:List (Nat×(Bool×S))) (i:Nat) (y:Bool×S),look (WD u v l) i=some y→∃ x,look l i=some (y.1,x)∧y.2=swS u v x
 | [],_,_,h=>by cases h
 | (k,p,x)::r,i,y,h=>by
  rw [WD,AF] at h
  by_cases e:k=i
  · rw [if_pos e] at h
    cases h
    exact⟨x,by rw [AF,if_pos e],rfl⟩
  rw [if_neg e] at h
  obtain⟨x',h1,h2⟩:=Po u v r i y h
  exact⟨x',by rw [AF,if_neg e];exact h1,h2⟩
theorem LG (u v:Nat):∀ (l:List (Nat×R)) (i:Nat) (y:R),look (WE u v l) i=some y→∃ x,look l (swN u v i)=some x∧y=swR u v x
 | [],_,_,h=>by cases h
 | (k,x)::r,i,y,h=>by
  rw [WE,AF] at h
  by_cases e:swN u v k=i
  · rw [if_pos e] at h
    cases h
    exact⟨x,by rw [AF,if_pos (by rw [←e,DZ])],rfl⟩
  rw [if_neg e] at h
  obtain⟨x',h1,h2⟩:=LG u v r i y h
  exact⟨x',by rw [AF,if_neg (fun h=>e (by rw [h,DZ]))];exact h1,h2⟩
theorem Le.sw (u v:Nat) (σ:St):Le σ (σ.sw u v):=by
 rintro w0 a w ⟨I,h⟩
 refine⟨I.sw u v,⟨h.ext,h.defers,h.size,fun i x hx=>?_,fun id r hr=>?_,h.old,fun id b hb=>h.lt (swN u v id) b hb,fun id r hr=>?_,fun i j hij b hb=>?_⟩⟩
 · obtain⟨y,h1,h2⟩:=Po u v σ.slots i x hx
   have:=(h.slots i _ h1).sw (u:=u) (v:=v)
   rw [←h2] at this
   exact this
 · obtain⟨y,h1,h2⟩:=LG u v σ.res id r hr
   have:=(h.res _ _ h1).sw (u:=u) (v:=v)
   rw [DZ,←h2] at this
   exact this
 · obtain⟨y,h1,h2⟩:=LG u v σ.res id r hr
   exact h.own _ _ h1
 exact h.apart (swN u v i) (swN u v j) (fun e=>hij (WG e)) b hb
theorem Le.trans {σ σ' σ'':St} (h1:Le σ σ') (h2:Le σ' σ''):Le σ σ'':=fun w0 a w h=>h2 w0 a w (h1 w0 a w h)
section
variable {Q:Exit→St→Prop} {σ:St}
theorem PA.ex {K:St→Prop} {i:Nat} (h:Q (.exit i) σ):PA K Q (.exit i) σ:=h
theorem I8.here {i:Nat} (h:Q .normal σ):I8 i Q (.exit i) σ:=by
 show (bif ZE i i then Q .normal σ else Q (.exit i) σ)
 rw [Nat.beq_refl];exact h
theorem I8.past {i j:Nat} (hne:ZE i j=false) (h:Q (.exit i) σ):I8 j Q (.exit i) σ:=by
 show (bif ZE i j then Q .normal σ else Q (.exit i) σ)
 rw [hne];exact h
theorem BF.ex {β1:Type} {Inv:β1→Prop} {J:β1→St} {m:β1→Nat} {a1:β1} {i:Nat} (h:Q (.exit i) σ):BF Inv J m a1 Q (.exit i) σ:=h
theorem BV.ex {β1 β2:Type} {Inv:β1→β2→Prop} {J:β1→β2→St} {m:β1→β2→Nat} {a1:β1} {a2:β2} {i:Nat} (h:Q (.exit i) σ):BV Inv J m a1 a2 Q (.exit i) σ:=h
theorem Ef.ex {β1 β2 β3:Type} {Inv:β1→β2→β3→Prop} {J:β1→β2→β3→St} {m:β1→β2→β3→Nat} {a1:β1} {a2:β2} {a3:β3} {i:Nat} (h:Q (.exit i) σ):Ef Inv J m a1 a2 a3 Q (.exit i) σ:=h
theorem Jz.ex {β1 β2 β3 β4:Type} {Inv:β1→β2→β3→β4→Prop} {J:β1→β2→β3→β4→St} {m:β1→β2→β3→β4→Nat} {a1:β1} {a2:β2} {a3:β3} {a4:β4} {i:Nat} (h:Q (.exit i) σ):Jz Inv J m a1 a2 a3 a4 Q (.exit i) σ:=h
theorem Jy.ex {β1 β2 β3 β4 β5:Type} {Inv:β1→β2→β3→β4→β5→Prop} {J:β1→β2→β3→β4→β5→St} {m:β1→β2→β3→β4→β5→Nat} {a1:β1} {a2:β2} {a3:β3} {a4:β4} {a5:β5} {i:Nat} (h:Q (.exit i) σ):Jy Inv J m a1 a2 a3 a4 a5 Q (.exit i) σ:=h
end
section
variable {P:Program} {ops:Array Oper} {o:Oper} {σ:St} {q:Bool}
theorem Zk {x:S} (hg:Grd ops o σ q) (hd:o.dst.all (fun d=>Nat.blt d σ.n)=true) (h:q=true→Op1 P ops { o with guard:=none } σ (σ.put o.dst (true,x))):Op1 P ops o σ (σ.put o.dst (q,x)):=by
 rintro w0 a w ⟨I,hr⟩ K Q hK
 rw [hg.wanted hr]
 cases q with
 | false=>exact hK _ _ ⟨I,hr.put hd rfl⟩
 | true=>exact h rfl w0 a w ⟨I,hr⟩ K Q hK
end
section
variable {P:Program}
structure Tk (P:Program) (l:List Oper) (n:Nat) (sl:List (Nat×(Bool×S))) (rs:List (Nat×R)) (outs:List Out) (acc:List (Nat×St)) (todo:List (Nat×List Nat)) (es:List (Nat×Nat×Nat)) (Fin:(Nat→St)→Prop):Prop where
 pf:∃ st:Nat→St,(∀ k σ,look acc k=some σ→st k=σ)∧(∀ p∈todo,Le (stL (BI p.2) 0 outs ⟨n,sl,rs⟩) (st p.1))∧(∀ e∈es,∀ o,l[e.2.1]?=some o→∀ w0,AWl P w0 l.toArray (CV (st e.2.2)) [o] (st e.1))∧Fin st
variable {l:List Oper} {n:Nat} {sl:List (Nat×(Bool×S))} {rs:List (Nat×R)} {outs:List Out} {acc:List (Nat×St)} {todo:List (Nat×List Nat)} {es:List (Nat×Nat×Nat)} {Fin:(Nat→St)→Prop}
theorem Tk.add {b:Nat} {S:List Nat} (σ':St) (hb:look acc b=none) (hle:Le (stL (BI S) 0 outs ⟨n,sl,rs⟩) σ') (h:Tk P l n sl rs outs ((b,σ')::acc) todo es Fin):Tk P l n sl rs outs acc ((b,S)::todo) es Fin:=by
 obtain⟨st,h1,h2,h3⟩:=h.pf
 have h1':∀ k σ,look acc k=some σ→st k=σ:=fun k σ hk=>h1 k σ (by
  rw [AF,if_neg (fun e=>?_)]
  · exact hk
  subst e;rw [hb] at hk;cases hk)
 refine⟨st,h1',fun p hp=>?_,h3⟩
 rcases List.mem_cons.1 hp with rfl|hp
 · show Le _ (st b)
   rw [h1 b σ' (by rw [AF,if_pos rfl])]
   exact hle
 exact h2 p hp
theorem Tk.go (h:Dag P l acc es Fin):Tk P l n sl rs outs acc [] es Fin:=by
 obtain⟨st,h1,h2,h3⟩:=h.pf
 exact⟨st,h1,fun p hp=>(by cases hp),h2,h3⟩
def Zs (P:Program) (w0:BB) (Q:Exit→St→Prop) (N k:Nat) (B:Nat→List Nat) (es:List (Nat×Nat×Nat)) (todo:List (Nat×List Nat)) (l:List Oper) (n:Nat) (sl:List (Nat×(Bool×S))) (rs:List (Nat×R)) (outs:List Out):Prop:=
 Gj (outs.map (·.1)) sl=sl∧Rk B ⟨n,sl,rs⟩ outs=true∧Tk P l n sl rs outs [] todo es (fun st=>AWl P w0 l.toArray Q (l.drop N) (st k))
theorem Zs.mk {w0:BB} {Q:Exit→St→Prop} {N k:Nat} {B:Nat→List Nat} (hd:Gj (outs.map (·.1)) sl=sl) (hU:Rk B ⟨n,sl,rs⟩ outs=true) (h:Tk P l n sl rs outs [] todo es (fun st=>AWl P w0 l.toArray Q (l.drop N) (st k))):Zs P w0 Q N k B es todo l n sl rs outs:=⟨hd,hU,h⟩
end
section
variable {E:Nat→List (Int×Int)} {G:Nat→Bool} {N:Nat} {O:List Int}
noncomputable def SI (E:Nat→List (Int×Int)) (G:Nat→Bool) (N:Nat):List Int:=
 open Classical in if h:∃ O,CI E G N O∧∀ i,i<N→∀ e∈E i,UB O i e then Classical.choose h else []
theorem YR (hE:∀ i,i<N→∀ e∈E i,0≤e.1∧e.1<N) (h:CI E G N O) (hf:∀ i,i<N→∀ e∈E i,UB O i e):SI E G N=O:=by
 have hx:∃ O,CI E G N O∧∀ i,i<N→∀ e∈E i,UB O i e:=⟨O,h,hf⟩
 unfold SI
 rw [dif_pos hx]
 obtain⟨h1,h2⟩:=Classical.choose_spec hx
 refine ZV fun i=>?_
 by_cases hi:i<N
 · have e:=CI.same h1 h hE h2 hf hi
   have g1:=CT (out:=Classical.choose hx) (k:=(i:Int)) (by rw [h1.len];simpa using hi)
   have g2:=CT (out:=O) (k:=(i:Int)) (by rw [h.len];simpa using hi)
   simp only [ZI] at g1 g2
   rw [g1,g2,e]
 rw [ZM (by rw [h1.len];omega),ZM (by rw [h.len];omega)]
end
def Y5 (g:AC) (n:Int) (l:List Int) (s:E3):Int×Int:=(s.Node*n+s.State,UV g l s.Step)
def X2 (g:AC) (a:AA) (l:List Int) (i:Nat):List (Int×Int):=(Fy g a ((i:Int) / a.Accept.length) ((i:Int)%a.Accept.length)).map (Y5 g a.Accept.length l)
def Eu (g:AC) (a:AA) (y:Int) (i:Nat):Bool:=decide ((i:Int) / a.Accept.length=y)&&acc a ((i:Int)%a.Accept.length) (g.Values[((i:Int) / a.Accept.length).toNat]?.getD 0)
noncomputable def Zw (g:AC) (a:AA) (l:List Int) (y:Int):List Int:=SI (X2 g a l) (Eu g a y) (a.Accept.length*g.Values.length)
end Go.Q
namespace Go.Proofs.YtdhojcaoljhbiaaGreat
open Go.RowKit Go.Q Go.D
end Go.Proofs.YtdhojcaoljhbiaaGreat
namespace Go.Q
open Go.D
end Go.Q
namespace Go.Proofs.YtdhojcaoljhbiaaGreat
open Go.RowKit Go.Q Go.D
end Go.Proofs.YtdhojcaoljhbiaaGreat
