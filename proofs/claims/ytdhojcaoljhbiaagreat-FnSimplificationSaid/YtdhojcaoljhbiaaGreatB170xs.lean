import Derived.Test.YtdhojcaoljhbiaaGreatB169xs
set_option linter.unusedVariables false
set_option linter.unusedSimpArgs false
set_option maxRecDepth 100000
set_option maxHeartbeats 1000000
set_option maxRecDepth 100000
namespace Go.Q
open Go.RowKit Go.D
def pre170 (L0:List Int) (F0:List Nat) (p:Pos):Prop:=p.L=L0∧p.F=natI F0
def post170 (L0:List Int) (F0:List Nat) (x:Tr) (p p':Pos) (t:Prt):Prop:=p'=⟨L0++lsT x,natI (F0++foT F0.length x),p.x,p.y,p.z⟩∧t=⟨nuT x,((fiT F0.length x:Nat):Int),((laT F0.length x:Nat):Int)⟩
theorem two_form {x y z:Tr} (h:x.kids=[y,z]):x=.bin x.tok y z:=by
 cases x<;>simp_all [Tr.kids,Tr.tok]
theorem one_form {x y:Tr} (h:x.kids=[y]):x=.un x.tok y:=by
 cases x<;>simp_all [Tr.kids,Tr.tok]
theorem no_form {x:Tr} (h:x.kids=[]):x=.leaf x.tok:=by
 cases x<;>simp_all [Tr.kids,Tr.tok]
theorem noRep_kid {x y:Tr} (h:noRep x) (hy:y∈x.kids):noRep y:=by
 cases x with
 | leaf t=>cases hy
 | un t x=>simp [Tr.kids] at hy;subst hy;exact h.2
 | bin t x z=>simp [Tr.kids] at hy;rcases hy with rfl|rfl;exact h.1;exact h.2
theorem bits_orN {a b:Nat} (ha:a<4294967296) (hb:b<4294967296):bits .or .i64 (a:Int) (b:Int)=((a|||b:Nat):Int):=by
 have e1:(BitVec.ofInt 64 (a:Int)|||BitVec.ofInt 64 (b:Int)).toNat=a|||b:=by
  rw [BitVec.toNat_or,BitVec.toNat_ofInt,BitVec.toNat_ofInt]
  congr 1<;>omega
 have hlt:a|||b<2^63:=Nat.or_lt_two_pow (by omega) (by omega)
 have hw:∀ m:Nat,m<2^63→IntKind.wrap .i64 (m:Int)=m:=fun m hm=>wrap_in ⟨by omega,by omega⟩
 have h:bits .or .i64 (a:Int) (b:Int)=IntKind.wrap .i64 ((BitVec.ofInt 64 (a:Int)|||BitVec.ofInt 64 (b:Int)).toNat:Int):=rfl
 rw [h,e1]
 exact hw _ hlt
theorem lt_of_bits {m n:Nat} (h:∀ j,m.testBit j=true→j<n):m<2^n:=Nat.lt_pow_two_of_testBit _ fun j hj=>by
 cases hb:m.testBit j with
 | false=>rfl
 | true=>have:=h j hb;omega
theorem fiT_lt {b:Nat} {x:Tr} (h:b+lets x≤20):fiT b x<1048576:=lt_of_bits (n:=20) fun j hj=>by
 have:=(psT_in x b).fi j (((mask_ok x b).fi j).2 hj);omega
theorem laT_lt {b:Nat} {x:Tr} (h:b+lets x≤20):laT b x<1048576:=lt_of_bits (n:=20) fun j hj=>by
 have:=(psT_in x b).la j (((mask_ok x b).la j).2 hj);omega
theorem foT_lt {b:Nat} {x:Tr} (h:b+lets x≤20):∀ m∈foT b x,m<1048576:=fun m hm=>lt_of_bits (n:=20) fun j hj=>by
 obtain⟨i,hi⟩:=List.getElem?_of_mem hm
 have:=(psT_in x b).F (b+i) j (((mask_ok x b).F (b+i) j).2 ⟨by omega,m,by rw [show b+i-b=i by omega];exact hi,hj⟩)
 omega
theorem laT_lo {b:Nat} {x:Tr}:∀ j,(laT b x).testBit j=true→b≤j:=fun j hj=>((psT_in x b).la j (((mask_ok x b).la j).2 hj)).1
theorem natI_app (a b:List Nat):natI (a++b)=natI a++natI b:=by unfold natI;rw [List.map_append]
theorem bp_cat {x y z:Tr} {L0:List Int} {F0:List Nat} {p p1 p2 p3:Pos} {t1 t2:Prt} (hx:x=.bin x.tok y z) (h4:x.tok.Kind=4) (h1:post170 L0 F0 y p p1 t1) (h2:post170 (L0++lsT y) (F0++foT F0.length y) z p1 p2 t2) (h3:p3=⟨p2.L,natI (lnk 0 (F0++foT F0.length y++foT (F0.length+lets y) z) (laT F0.length y) (fiT (F0.length+lets y) z)),p2.x,p2.y,p2.z⟩):p3=⟨L0++lsT x,natI (F0++foT F0.length x),p.x,p.y,p.z⟩:=by
 have e1:foT F0.length x=lnk F0.length (foT F0.length y++foT (F0.length+lets y) z) (laT F0.length y) (fiT (F0.length+lets y) z):=by
  rw [hx,foT,if_pos h4]
 have e2:lsT x=lsT y++lsT z:=by rw [hx];rfl
 have key:lnk 0 (F0++foT F0.length y++foT (F0.length+lets y) z) (laT F0.length y) (fiT (F0.length+lets y) z)=F0++lnk F0.length (foT F0.length y++foT (F0.length+lets y) z) (laT F0.length y) (fiT (F0.length+lets y) z):=by
  rw [List.append_assoc,lnk_app rfl laT_lo]
 rw [h3,key,h2.1,h1.1,e1,e2,List.append_assoc]
theorem bp_uni {x y z:Tr} {L0:List Int} {F0:List Nat} {p p1 p2:Pos} {t1 t2:Prt} (hx:x=.bin x.tok y z) (h4:¬ x.tok.Kind=4) (h1:post170 L0 F0 y p p1 t1) (h2:post170 (L0++lsT y) (F0++foT F0.length y) z p1 p2 t2):p2=⟨L0++lsT x,natI (F0++foT F0.length x),p.x,p.y,p.z⟩:=by
 have e1:foT F0.length x=foT F0.length y++foT (F0.length+lets y) z:=by rw [hx,foT,if_neg h4]
 have e2:lsT x=lsT y++lsT z:=by rw [hx];rfl
 have e3:(F0++foT F0.length y).length=F0.length+lets y:=by rw [List.length_append,foT_len]
 rw [h2.1,h1.1,e1,e2,e3,List.append_assoc,List.append_assoc]
theorem bp_star {x y:Tr} {L0:List Int} {F0:List Nat} {p p1 p3:Pos} {t1:Prt} (hx:x=.un x.tok y) (h6:x.tok.Kind=6) (h1:post170 L0 F0 y p p1 t1) (h3:p3=⟨p1.L,natI (lnk 0 (F0++foT F0.length y) (laT F0.length y) (fiT F0.length y)),p1.x,p1.y,p1.z⟩):p3=⟨L0++lsT x,natI (F0++foT F0.length x),p.x,p.y,p.z⟩:=by
 have e1:foT F0.length x=lnk F0.length (foT F0.length y) (laT F0.length y) (fiT F0.length y):=by rw [hx,foT,if_pos h6]
 have e2:lsT x=lsT y:=by rw [hx];show (if x.tok.Kind=6 then lsT y else [])=_;rw [if_pos h6]
 rw [h3,h1.1,e1,e2,lnk_app rfl laT_lo]
theorem bv_cat {x y z:Tr} {L0:List Int} {F0:List Nat} {p p1 p2:Pos} {t1 t2:Prt} (hx:x=.bin x.tok y z) (h4:x.tok.Kind=4) (h1:post170 L0 F0 y p p1 t1) (h2:post170 (L0++lsT y) (F0++foT F0.length y) z p1 p2 t2) (hle:F0.length+(lets y+lets z)≤20):(⟨t1.z&&t2.z,if t1.z=true then bits .or .i64 t1.a t2.a else t1.a,if t2.z=true then bits .or .i64 t1.b t2.b else t2.b⟩:Prt)=⟨nuT x,((fiT F0.length x:Nat):Int),((laT F0.length x:Nat):Int)⟩:=by
 have hF1:(F0++foT F0.length y).length=F0.length+lets y:=by rw [List.length_append,foT_len]
 have b1:=fiT_lt (b:=F0.length) (x:=y) (by omega)
 have b2:=fiT_lt (b:=F0.length+lets y) (x:=z) (by omega)
 have b3:=laT_lt (b:=F0.length) (x:=y) (by omega)
 have b4:=laT_lt (b:=F0.length+lets y) (x:=z) (by omega)
 have e1:nuT x=(nuT y&&nuT z):=by rw [hx];show (if x.tok.Kind=4 then nuT y&&nuT z else _)=_;rw [if_pos h4]
 have e2:fiT F0.length x=if nuT y then fiT F0.length y|||fiT (F0.length+lets y) z else fiT F0.length y:=by rw [hx,fiT,if_pos h4]
 have e3:laT F0.length x=if nuT z then laT F0.length y|||laT (F0.length+lets y) z else laT (F0.length+lets y) z:=by rw [hx,laT,if_pos h4]
 rw [h1.2,h2.2,hF1,e1,e2,e3]
 simp only
 rw [bits_orN (by omega) (by omega),bits_orN (by omega) (by omega)]
 cases nuT y<;>cases nuT z<;>rfl
theorem bv_uni {x y z:Tr} {L0:List Int} {F0:List Nat} {p p1 p2:Pos} {t1 t2:Prt} (hx:x=.bin x.tok y z) (h4:¬ x.tok.Kind=4) (h1:post170 L0 F0 y p p1 t1) (h2:post170 (L0++lsT y) (F0++foT F0.length y) z p1 p2 t2) (hle:F0.length+(lets y+lets z)≤20):(⟨t1.z||t2.z,bits .or .i64 t1.a t2.a,bits .or .i64 t1.b t2.b⟩:Prt)=⟨nuT x,((fiT F0.length x:Nat):Int),((laT F0.length x:Nat):Int)⟩:=by
 have hF1:(F0++foT F0.length y).length=F0.length+lets y:=by rw [List.length_append,foT_len]
 have b1:=fiT_lt (b:=F0.length) (x:=y) (by omega)
 have b2:=fiT_lt (b:=F0.length+lets y) (x:=z) (by omega)
 have b3:=laT_lt (b:=F0.length) (x:=y) (by omega)
 have b4:=laT_lt (b:=F0.length+lets y) (x:=z) (by omega)
 have e1:nuT x=(nuT y||nuT z):=by rw [hx];show (if x.tok.Kind=4 then _ else nuT y||nuT z)=_;rw [if_neg h4]
 have e2:fiT F0.length x=fiT F0.length y|||fiT (F0.length+lets y) z:=by rw [hx,fiT,if_neg h4]
 have e3:laT F0.length x=laT F0.length y|||laT (F0.length+lets y) z:=by rw [hx,laT,if_neg h4]
 rw [h1.2,h2.2,hF1,e1,e2,e3]
 simp only
 rw [bits_orN (by omega) (by omega),bits_orN (by omega) (by omega)]
theorem bv_star {x y:Tr} {L0:List Int} {F0:List Nat} {p p1:Pos} {t1:Prt} (hx:x=.un x.tok y) (h6:x.tok.Kind=6) (h1:post170 L0 F0 y p p1 t1):(⟨true,t1.a,t1.b⟩:Prt)=⟨nuT x,((fiT F0.length x:Nat):Int),((laT F0.length x:Nat):Int)⟩:=by
 have e1:nuT x=true:=by rw [hx];show decide (x.tok.Kind=6)=true;rw [h6];rfl
 have e2:fiT F0.length x=fiT F0.length y:=by rw [hx,fiT,if_pos h6]
 have e3:laT F0.length x=laT F0.length y:=by rw [hx,laT,if_pos h6]
 rw [h1.2,e1,e2,e3]
theorem bl_leaf {x:Tr} {L0:List Int} {F0:List Nat} {p:Pos} (hx:x=.leaf x.tok) (h3:¬ x.tok.Kind=3) (hp:pre170 L0 F0 p):post170 L0 F0 x p p ⟨decide (x.tok.Kind=2),0,0⟩:=by
 have e1:lsT x=[]:=by rw [hx];show (if x.tok.Kind=3 then _ else _)=_;rw [if_neg h3]
 have e2:foT F0.length x=[]:=by rw [hx,foT,if_neg h3]
 have e3:fiT F0.length x=0:=by rw [hx,fiT,if_neg h3]
 have e4:laT F0.length x=0:=by rw [hx,laT,if_neg h3]
 have e5:nuT x=decide (x.tok.Kind=2):=by rw [hx];rfl
 refine⟨?_,?_⟩
 · rw [e1,e2,List.append_nil,List.append_nil,←hp.1,←hp.2]
 rw [e3,e4,e5];rfl
theorem bl_let {x:Tr} {L0:List Int} {F0:List Nat} {p:Pos} (hx:x=.leaf x.tok) (h3:x.tok.Kind=3) (hp:pre170 L0 F0 p) (hl:L0.length=F0.length):post170 L0 F0 x p ⟨p.L++[x.tok.Letter],p.F++[0],p.x,p.y,p.z⟩ ⟨false,((2^((p.L.length:Nat):Int).toNat:Nat):Int),((2^((p.L.length:Nat):Int).toNat:Nat):Int)⟩:=by
 have e1:lsT x=[x.tok.Letter]:=by rw [hx];show (if x.tok.Kind=3 then _ else _)=_;rw [if_pos h3];rfl
 have e2:foT F0.length x=[0]:=by rw [hx,foT,if_pos h3]
 have e3:fiT F0.length x=2^F0.length:=by rw [hx,fiT,if_pos h3]
 have e4:laT F0.length x=2^F0.length:=by rw [hx,laT,if_pos h3]
 have e5:nuT x=false:=by rw [hx];show decide (x.tok.Kind=2)=false;rw [h3];rfl
 refine⟨?_,?_⟩
 · rw [e1,e2,natI_app,←hp.1,←hp.2];rfl
 rw [e3,e4,e5,hp.1,hl,Int.toNat_natCast]
end Go.Q
namespace Go.Proofs.YtdhojcaoljhbiaaGreat
open Go.RowKit Go.Q Go.D
theorem specl10LinkY (f t:Int) (fr tz:Nat) (hf:f=(fr:Int)) (ht:t=(tz:Int)) (hfr:fr<1048576) (hto:tz<1048576) (G:List Nat) (hG:G.length≤24) (hm:∀ m∈G,m<1048576) (p0:Pos) (h0:p0.F=natI G):FnP Tryz.prog 149 [.one (.v (.int .i64 f)),.one (.v (.int .i64 t))] (fun p=>p=p0) (fun _ p' (_:Unit)=>p'=⟨p0.L,natI (lnk 0 G fr tz),p0.x,p0.y,p0.z⟩) (fun _=>[]):=by
 subst hf;subst ht;exact specl10LinkX fr tz hfr hto G hG hm p0 h0
theorem specl10BuildX1 (x:Tr) (hg:good x) (hnr:noRep x) (hz:(toks x).length≤1048576) (ih:∀ y∈x.kids,∀ L,L=(toks y).map cToken→∀ (L0:List Int) (F0:List Nat),L0.length=F0.length→F0.length+lets y≤20→(∀ m∈F0,m<1048576)→FnP Tryz.prog 93 [.one (.sl 4 L)] (pre170 L0 F0) (post170 L0 F0 y) prtV) (L0:List Int) (F0:List Nat) (hl:L0.length=F0.length) (h20:F0.length+lets x≤20) (hm:∀ m∈F0,m<1048576):FnP Tryz.prog 93 [.one (.sl 4 ((toks x).map cToken))] (pre170 L0 F0) (post170 L0 F0 x) prtV:=by
 refine FnP.walk Tryz.func93 rfl (by kernel_rfl) Tryz.ntmps93 rfl (fun b p=>rfl) fun w0 b p hp=>?_
 have hlast:=tok_last x
 have hpos:=toks_pos x
 have hp1:=hp.1
 have hp2:=hp.2
 have hpL:p.L.length=F0.length:=by rw [hp1,hl]
 have hpF:p.F.length=F0.length:=by rw [hp2];simp [natI]
 refine Af (Aq (Au 4 U U U in132 U U U) U ?_);refine Aa (Af (Ab ?_));refine Br (.t) Tryz.underlying24 ?_;refine C4 ?_;refine Ag ?_;refine Aa (Af (Ab ?_));refine Ab ?_;refine Ac (An U (.no U) U (.tm U) (.tm U) Tryz.underlying24 Bv (fun _=>⟨by omega,Am hlast⟩)) U ?_;refine Ak Bv ?_;refine Aq (Au 6 U U U Ci U U U) U ?_;refine Ao Bv ?_;refine Aa (Ae (Ae (Al (Ap [0,1,4,5,6] [700,701,702,703,4,6]) ?_)));refine Ad (Bd Co ?_);refine A3 ty3 ?_;refine Aa (AW.block (Af (Ba ?_)));refine Ag ?_;refine Aa (Ah (.tm U) (fun h25=>?_) (fun h25=>?_))
 · try simp at h25
   have hxf:=no_form (kind_no' hg (by omega))
   have hle:lets x=0:=by (rw [hxf,lets_leaf,if_neg (by omega)])
   refine Af (Ac (A9 (ps:=[(0,.const (.bool true))]) U U U in132 U U st132 (.cons (.const U) U U fp132_0 .nil) U) U ?_);refine Ao C0 ?_;refine Aa (Ai ?_)
   show PRes _ _ _ _ _ _
   refine⟨p,⟨true,0,0⟩,_,_,?_,rfl,(by rfl),(by rfl),rfl,rfl,(.cell rfl rfl C0 rfl rfl .nil),.inr ⟨?_,rfl⟩⟩
   · exact (by have h:=bl_leaf hxf (by omega) hp;rwa [show decide (x.tok.Kind=2)=true by simp;omega] at h)
   simp [prtV]
 try simp at h25
 refine Af (Ba ?_);refine Ag ?_;refine Aa (Ah (.tm U) (fun h28=>?_) (fun h28=>?_))
 · try simp at h28
   have hxf:=no_form (kind_no' hg (by omega))
   have hle:lets x=1:=by (rw [hxf,lets_leaf,if_pos (by omega)])
   refine Af (Ab ?_);refine Ac (Cq U (.no U) U (.tm U)) U ?_;refine Bd fl75_0 ?_;refine A3 C7 ?_;refine Br (.rf U) Tryz.underlying40 ?_;refine Ac (R_shlN U (.no U) U (.const U) (.tm U) (fun _=>by omega)) U ?_;refine Ag ?_;refine Aa (Ae (Al (Ap [0,1,4,5,6,7,24] [700,701,702,703,4,6]) ?_));refine Al (Ap [0,1,4,5,6,7,24] [700,701,702,703,4,6]) ?_;apply Cz (N:=9) (k:=4) (Hs:=[0,1,2,3,5,6]) (ms:=[[],[4],[7],[4,7],[4,7,8]]) (es:=[(0,4,1),(0,7,2),(1,7,3),(2,4,3),(3,8,4)]) (σ1:=_) (SM:=⟨_,[(0,_),(1,_),(4,_),(5,_),(6,_),(7,_),(24,_),(36,_),(37,_),(38,_),(39,_),(41,_),(42,_)],[(702,_),(703,_),(4,_),(6,_)]⟩)
   case hm=>kernel_rfl
   case hB=>kernel_rfl
   case hP=>kernel_rfl
   case hL=>kernel_rfl
   case hN=>rfl
   case hpre=>
    apply As (P:=Tryz.prog) 0 rfl (Bf rfl (.no rfl) rfl (.tm rfl)) (by exact HasV.slot (t:=0) rfl) rfl rfl rfl;apply As (P:=Tryz.prog) 1 rfl (Bf rfl (.no rfl) rfl (.tm rfl)) (by exact HasV.slot (t:=0) rfl) rfl rfl rfl;apply As (P:=Tryz.prog) 2 rfl ((by exact Cq rfl (.no rfl) rfl (.tm rfl))) (by exact .pp) rfl rfl rfl;apply As (P:=Tryz.prog) 3 rfl ((by exact Bj rfl (.no rfl) rfl (.tm rfl) fl75_0)) (by exact .pp) rfl rfl rfl;apply As (P:=Tryz.prog) 5 rfl ((by exact Bj rfl (.no rfl) rfl (.tm rfl) fl71_1)) (by exact .pp) rfl rfl rfl;apply As (P:=Tryz.prog) 6 rfl ((by exact Bn rfl (.no rfl) rfl (.tm rfl) rfl ty3 rfl rfl)) (by exact HasV.load (x:=.tmp 41) (.tm rfl) rfl ty3 rfl rfl) rfl rfl rfl;exact PreOk.nil
   case hS=>exact A5
   case hH=>
    refine LocsH.mv ?_;refine LocsH.mv ?_;refine LocsH.nc ?_;refine LocsH.fq fl75_0 ?_;refine LocsH.fq fl71_1 ?_;refine LocsH.lq ty3 ?_
    trivial
   apply Dh.new0 (i:=4);rfl;rfl;rfl
   · intro w9 _;refine A3 C7 ?_;exact Ax [0,1,4,5,6,7,24,36,37,38,39,40,41,42] [700,701,702,703,4,6]
   intros;exact A5
   apply Dh.new0 (i:=7);rfl;rfl;rfl
   · intro w9 _;refine Ac (Ch (xs:=[.tmp 42]) (rows:=[cInt x.tok.Letter]) U U U (.cons (.tm U) U U .nil) Tryz.underlying40 in3 U U (U)) U ?_;exact Ax [0,1,4,5,6,7,24,36,37,38,39,41,42,43] [700,701,702,703,4,6]
   intros;exact A5
   apply Dh.new0 (i:=7);rfl;rfl;rfl
   · intro w9 _;refine Ac (Ch (xs:=[.tmp 42]) (rows:=[cInt x.tok.Letter]) U U U (.cons (.tm U) U U .nil) Tryz.underlying40 in3 U U (U)) U ?_;exact Ax [0,1,4,5,6,7,24,36,37,38,39,40,41,42,43] [700,701,702,703,4,6]
   intros;exact A5
   apply Dh.old0 (i:=4);rfl;rfl;rfl
   · intro w9 _;refine A3 C7 ?_;exact Aa Bi
   apply Dh.new0 (i:=8);rfl;rfl;rfl
   · intro w9 _;refine Bg (By U U U (.tm U) U (.tm U) (by exact .t) (by rfl) Tryz.underlying40 in3 U (by (simp [chunk];omega)) (by (unfold maxLen;simp [chunk];omega))) U ?_;exact Ax [0,1,4,5,6,7,24,36,37,38,39,41,42,44] [700,701,702,703,4,6]
   intros;exact A5
   refine Dh.fin0 (k:=4) rfl ?_;intro  hp
   obtain _:=hp
   refine Ac (Cq U (.no U) U (.tm U)) U ?_;refine Bd fl75_0 ?_;refine Ao C7 ?_;refine Aa (Ae (Al (Ap [0,1,4,5,6,7,24] [700,701,702,703,4,6]) ?_));refine Ad (Ab ?_);refine Ab ?_;refine Ac (Cq U (.no U) U (.tm U)) U ?_;refine Bd fl75_3 ?_;refine A3 C7 ?_;refine Ac (Ch (xs:=[.const (.int .i64 (0))]) (rows:=[cInt 0]) U U U (.cons (.const U) U U .nil) Tryz.underlying40 in3 U U (U)) U ?_;refine Bg (By U U U (.tm U) U (.tm U) (by exact .t) (by rfl) Tryz.underlying40 in3 U (by (simp [chunk];omega)) (by (unfold maxLen;simp [chunk];omega))) U ?_;refine Bm (Ap [0,1,4,5,6,7,24,47,53] [700,701,702,703,4,6]) ?_;refine Ac (Cq U (.no U) U (.tm U)) U ?_;refine Bd fl75_3 ?_;refine Ao C7 ?_;refine Aa (Af (Ab ?_));refine Ab ?_;refine Ac (A9 (ps:=[(1,.tmp 56),(2,.tmp 57)]) U U U in132 U U st132 (.cons (.tm U) U U fp132_1 (.cons (.tm U) U U fp132_2 .nil)) U) U ?_;refine Ao C0 ?_;refine Aa (Ai ?_)
   show PRes _ _ _ _ _ _
   refine⟨⟨p.L++[x.tok.Letter],p.F++[0],p.x,p.y,p.z⟩,⟨false,((2^((p.L.length:Nat):Int).toNat:Nat):Int),((2^((p.L.length:Nat):Int).toNat:Nat):Int)⟩,_,_,?_,rfl,(by (refine congrArg (fun r=>some (R.row 1 r)) ?_;simp [cInt];done)),(by (refine congrArg (fun r=>some (R.row 1 r)) ?_;simp [cInt];done)),rfl,rfl,(.cell rfl rfl C0 rfl rfl .nil),.inr ⟨?_,rfl⟩⟩
   · exact bl_let hxf (by omega) ⟨hp1,hp2⟩ hl
   simp [prtV]
 try simp at h28
 refine Af (Ba ?_);refine Ag ?_;refine Aa (Ah (.tm U) (fun h59=>?_) (fun h59=>?_))
 · try simp at h59
   obtain⟨y,z,hk2,hte,hgy,hgz⟩:=kind_two' hg (by omega)
   have hxf:=two_form hk2
   have hle:lets x=lets y+lets z:=by (rw [hxf];rfl)
   have hnry:noRep y∧noRep z:=by (rw [hxf] at hnr;exact hnr)
   have hln:(toks x).length=(toks y).length+(toks z).length+1:=by rw [hte];simp;omega
   have hly:=lsT_len y
   have hfy:=foT_len y F0.length
   have hmy:∀ m∈F0++foT F0.length y,m<1048576:=fun m hm'=>(List.mem_append.1 hm').elim (hm m) (foT_lt (by omega) m)
   have hmz:∀ m∈F0++foT F0.length y++foT (F0.length+lets y) z,m<1048576:=fun m hm'=>(List.mem_append.1 hm').elim (hmy m) (foT_lt (by omega) m)
   have hF1:(F0++foT F0.length y).length=F0.length+lets y:=by rw [List.length_append,foT_len]
   refine Ae (Al (Ap [0,1,4,5,6,24] [700,701,702,703,4,6]) ?_);refine Ad (Ab ?_);refine Ab ?_;refine Ac (Bw (m:=(toks y).length+(toks z).length) U (.no U) U (.tm U) .no (.yes (.tm U) (fun _=>by first|omega|(simp<;>omega))) Tryz.underlying24 Bv (fun _=>⟨by omega,by first|omega|(simp;omega)⟩)) U ?_;refine Ac (Aw (FnT.fr (l8Start_at hgz (pre:=toks y) (by simp;omega) _ (sl_pre2 hte))) U (.no U) U (.cons (.tm U) U .nil)) U ?_;refine Ag ?_;refine Aa (Af (Ab ?_));refine Ab ?_;refine Ab ?_;refine Ac (Bw (m:=(toks y).length) U (.no U) U (.tm U) .no (.yes (.tm U) (fun _=>by first|omega|(simp<;>omega))) Tryz.underlying24 Bv (fun _=>⟨by omega,by first|omega|(simp;omega)⟩)) U ?_
   refine Bl (R_callP (u:=700) (i1:=701) (i2:=702) (p:=p) (ih y (by rw [hk2];simp) _ (sl_pre (by rw [hte,List.append_assoc])) L0 F0 hl (by omega) hm) U U U (.tm U) U (by rfl) (by rfl) ⟨by decide,by decide,by decide⟩ U (.cons (.tm U) U .nil) hp (fun _=>rfl)) ?_
   rintro _ ⟨z69,hz69,rfl⟩
   try dsimp only at hz69
   refine Aq (Au 9 U U U in132 U U U) U ?_;refine Ao C0 ?_;refine Aa (Ae (Al (Ap [0,1,4,5,6,8,9,24] [700,701,702,703,4,6,9]) ?_));refine Ad (Ab ?_);refine Ab ?_;refine Ab ?_;refine Ab ?_;refine Ac (Bw (n:=(toks y).length) (m:=(toks y).length+(toks z).length) U (.no U) U (.tm U) (.yes (.tm U) (fun _=>by first|omega|(simp<;>omega))) (.yes (.tm U) (fun _=>by first|omega|(simp<;>omega))) Tryz.underlying24 Bv (fun _=>⟨by omega,by first|omega|(simp;omega)⟩)) U ?_;refine Bl (R_callP (u:=700) (i1:=701) (i2:=702) (p:=z69.1) (ih z (by rw [hk2];simp) _ (sl_mid hte) (L0++lsT y) (F0++foT F0.length y) (by simp;omega) (by omega) hmy) U U U (.tm U) U (by rfl) (by rfl) ⟨by decide,by decide,by decide⟩ U (.cons (.tm U) U .nil) (by rw [hz69.1];exact⟨U,U⟩) (fun _=>rfl)) ?_
   rintro _ ⟨z75,hz75,rfl⟩
   try dsimp only at hz75
   refine Aq (Au 10 U U U in132 U U U) U ?_;refine Ao C0 ?_;refine Aa (Ae (Al (Ap [0,1,4,5,6,8,9,10,24] [700,701,702,703,4,6,9,10]) ?_));refine Ad (Ab ?_);refine Bd Df ?_;refine A3 ty3 ?_;refine Bd fl132_1 ?_;refine A3 ty3 ?_;refine Bl (R_callP (u:=700) (i1:=701) (i2:=702) (p:=z75.1) (specl10LinkY z69.2.b z75.2.a (laT F0.length y) (fiT (F0.length+lets y) z) (by rw [hz69.2]) (by rw [hz75.2,hF1]) (laT_lt (by omega)) (fiT_lt (by omega)) (F0++foT F0.length y++foT (F0.length+lets y) z) (by rw [List.length_append,hF1,foT_len];omega) hmz z75.1 (by rw [hz75.1,hF1])) U U U (.tm U) U (by rfl) (by rfl) ⟨by decide,by decide,by decide⟩ U (.cons (.tm U) U (.cons (.tm U) U .nil)) U (fun _=>rfl)) ?_
   rintro _ ⟨z81,hz81,rfl⟩
   try dsimp only at hz81
   refine Aa (Ae (Al (Ap [0,1,4,5,6,8,9,10,24] [700,701,702,703,4,6,9,10]) ?_));refine Ad (Bd fl132_0 ?_);refine A3 ty4 ?_;refine Ab ?_;refine Ac (Bj U (by exact .yes1 U U U U) U (.tmp U (by exact fun _=>rfl)) fl132_0) U ?_;refine Ac (Bn U (by exact .yes1 U U U U) U (.tmp U (by exact id)) U ty4 U U) U ?_;refine Cb ?_;refine Bd fl132_1 ?_;refine A3 ty3 ?_;refine Bd Df ?_;refine A3 ty3 ?_;refine Ac (A9 (ps:=[(0,.tmp 87),(1,.tmp 89),(2,.tmp 91)]) U U U in132 U U st132 (.cons (.tm U) U U fp132_0 (.cons (.tm U) U U fp132_1 (.cons (.tm U) U U fp132_2 .nil))) U) U ?_;refine Aq (Au 11 U U U in132 U U U) U ?_;refine Ao C0 ?_;refine Aa (Ae (Ae (Al (Ap [0,1,4,5,6,8,9,10,11,24] [700,701,702,703,4,6,9,10,11]) ?_)));refine Ad (Bd fl132_0 ?_);refine A3 ty4 ?_;refine Aa (Ah (.tm U) (fun h94=>?_) (fun h94=>?_))
   · try simp at h94
     refine Ad (Bd fl132_1 ?_);refine A3 ty3 ?_;refine Bd fl132_1 ?_;refine A3 ty3 ?_;refine Ac (R_orI U (.no U) U (.tm U) (.tm U)) U ?_;refine Bd fl132_1 ?_;refine Ao ty3 ?_;refine Aa (Ae (Ae (Al (Ap [0,1,4,5,6,8,9,10,11,24] [700,701,702,703,4,6,9,10,11]) ?_)));refine Ad (Bd fl132_0 ?_);refine A3 ty4 ?_;refine Aa (Ah (.tm U) (fun h102=>?_) (fun h102=>?_))
     · try simp at h102
       refine Ad (Bd Df ?_);refine A3 ty3 ?_;refine Bd Df ?_;refine A3 ty3 ?_;refine Ac (R_orI U (.no U) U (.tm U) (.tm U)) U ?_;refine Bd Df ?_;refine Ao ty3 ?_;refine Aa (Ae (Al (Ap [0,1,4,5,6,8,9,10,11,24] [700,701,702,703,4,6,9,10,11]) ?_));refine Ad (A3 C0 ?_);refine Ao C0 ?_;refine Aa (Ai ?_)
       show PRes _ _ _ _ _ _
       refine⟨z81.1,⟨z69.2.z&&z75.2.z,bits .or .i64 z69.2.a z75.2.a,bits .or .i64 z69.2.b z75.2.b⟩,_,_,?_,rfl,(by rfl),(by rfl),rfl,rfl,(.cell rfl rfl C0 rfl rfl .nil),.inr ⟨?_,rfl⟩⟩
       · exact⟨bp_cat hxf (by omega) hz69 hz75 hz81,(by have e:=bv_cat hxf (by omega) hz69 hz75 (by omega);rw [if_pos h94,if_pos h102] at e;exact e)⟩
       simp [prtV]
     try simp at h102
     refine AW.skip (Af (A3 C0 ?_));refine Ao C0 ?_;refine Aa (Ai ?_)
     show PRes _ _ _ _ _ _
     refine⟨z81.1,⟨z69.2.z&&z75.2.z,bits .or .i64 z69.2.a z75.2.a,z75.2.b⟩,_,_,?_,rfl,(by rfl),(by rfl),rfl,rfl,(.cell rfl rfl C0 rfl rfl .nil),.inr ⟨?_,rfl⟩⟩
     · exact⟨bp_cat hxf (by omega) hz69 hz75 hz81,(by have e:=bv_cat hxf (by omega) hz69 hz75 (by omega);rw [if_pos h94,if_neg (by rw [h102];simp)] at e;exact e)⟩
     simp [prtV]
   try simp at h94
   refine AW.skip (Ae (Af (Bd fl132_0 ?_)));refine A3 ty4 ?_;refine Aa (Ah (.tm U) (fun h102=>?_) (fun h102=>?_))
   · try simp at h102
     refine Ad (Bd Df ?_);refine A3 ty3 ?_;refine Bd Df ?_;refine A3 ty3 ?_;refine Ac (R_orI U (.no U) U (.tm U) (.tm U)) U ?_;refine Bd Df ?_;refine Ao ty3 ?_;refine Aa (Ae (Al (Ap [0,1,4,5,6,8,9,10,11,24] [700,701,702,703,4,6,9,10,11]) ?_));refine Ad (A3 C0 ?_);refine Ao C0 ?_;refine Aa (Ai ?_)
     show PRes _ _ _ _ _ _
     refine⟨z81.1,⟨z69.2.z&&z75.2.z,z69.2.a,bits .or .i64 z69.2.b z75.2.b⟩,_,_,?_,rfl,(by rfl),(by rfl),rfl,rfl,(.cell rfl rfl C0 rfl rfl .nil),.inr ⟨?_,rfl⟩⟩
     · exact⟨bp_cat hxf (by omega) hz69 hz75 hz81,(by have e:=bv_cat hxf (by omega) hz69 hz75 (by omega);rw [if_neg (by rw [h94];simp),if_pos h102] at e;exact e)⟩
     simp [prtV]
   try simp at h102
   refine AW.skip (Af (A3 C0 ?_));refine Ao C0 ?_;refine Aa (Ai ?_)
   show PRes _ _ _ _ _ _
   refine⟨z81.1,⟨z69.2.z&&z75.2.z,z69.2.a,z75.2.b⟩,_,_,?_,rfl,(by rfl),(by rfl),rfl,rfl,(.cell rfl rfl C0 rfl rfl .nil),.inr ⟨?_,rfl⟩⟩
   · exact⟨bp_cat hxf (by omega) hz69 hz75 hz81,(by have e:=bv_cat hxf (by omega) hz69 hz75 (by omega);rw [if_neg (by rw [h94];simp),if_neg (by rw [h102];simp)] at e;exact e)⟩
   simp [prtV]
 try simp at h59
 refine Ae (Al (Ap [0,1,4,5,6,24] [700,701,702,703,4,6]) ?_);refine Ad (Ba ?_);refine Ag ?_;refine Aa (Ah (.tm U) (fun h110=>?_) (fun h110=>?_))
 · try simp at h110
   obtain⟨y,z,hk2,hte,hgy,hgz⟩:=kind_two' hg (by omega)
   have hxf:=two_form hk2
   have hle:lets x=lets y+lets z:=by (rw [hxf];rfl)
   have hnry:noRep y∧noRep z:=by (rw [hxf] at hnr;exact hnr)
   have hln:(toks x).length=(toks y).length+(toks z).length+1:=by rw [hte];simp;omega
   have hly:=lsT_len y
   have hfy:=foT_len y F0.length
   have hmy:∀ m∈F0++foT F0.length y,m<1048576:=fun m hm'=>(List.mem_append.1 hm').elim (hm m) (foT_lt (by omega) m)
   have hF1:(F0++foT F0.length y).length=F0.length+lets y:=by rw [List.length_append,foT_len]
   refine Af (Ab ?_);refine Ab ?_;refine Ac (Bw (m:=(toks y).length+(toks z).length) U (.no U) U (.tm U) .no (.yes (.tm U) (fun _=>by first|omega|(simp<;>omega))) Tryz.underlying24 Bv (fun _=>⟨by omega,by first|omega|(simp;omega)⟩)) U ?_;refine Ac (Aw (FnT.fr (l8Start_at hgz (pre:=toks y) (by simp;omega) _ (sl_pre2 hte))) U (.no U) U (.cons (.tm U) U .nil)) U ?_;refine Ag ?_;refine Aa (Ae (Al (Ap [0,1,4,5,6,12,24] [700,701,702,703,4,6]) ?_));refine Ad (Ab ?_);refine Ab ?_;refine Ab ?_;refine Ac (Bw (m:=(toks y).length) U (.no U) U (.tm U) .no (.yes (.tm U) (fun _=>by first|omega|(simp<;>omega))) Tryz.underlying24 Bv (fun _=>⟨by omega,by first|omega|(simp;omega)⟩)) U ?_
   refine Bl (R_callP (u:=700) (i1:=701) (i2:=702) (p:=p) (ih y (by rw [hk2];simp) _ (sl_pre (by rw [hte,List.append_assoc])) L0 F0 hl (by omega) hm) U U U (.tm U) U (by rfl) (by rfl) ⟨by decide,by decide,by decide⟩ U (.cons (.tm U) U .nil) hp (fun _=>rfl)) ?_
   rintro _ ⟨z120,hz120,rfl⟩
   try dsimp only at hz120
   refine Aq (Au 13 U U U in132 U U U) U ?_;refine Ao C0 ?_;refine Aa (Af (Ab ?_));refine Ab ?_;refine Ab ?_;refine Ab ?_;refine Ac (Bw (n:=(toks y).length) (m:=(toks y).length+(toks z).length) U (.no U) U (.tm U) (.yes (.tm U) (fun _=>by first|omega|(simp<;>omega))) (.yes (.tm U) (fun _=>by first|omega|(simp<;>omega))) Tryz.underlying24 Bv (fun _=>⟨by omega,by first|omega|(simp;omega)⟩)) U ?_;refine Bl (R_callP (u:=700) (i1:=701) (i2:=702) (p:=z120.1) (ih z (by rw [hk2];simp) _ (sl_mid hte) (L0++lsT y) (F0++foT F0.length y) (by simp;omega) (by omega) hmy) U U U (.tm U) U (by rfl) (by rfl) ⟨by decide,by decide,by decide⟩ U (.cons (.tm U) U .nil) (by rw [hz120.1];exact⟨U,U⟩) (fun _=>rfl)) ?_
   rintro _ ⟨z126,hz126,rfl⟩
   try dsimp only at hz126
   refine Aq (Au 14 U U U in132 U U U) U ?_;refine Ao C0 ?_;refine Aa (Ae (Al (Ap [0,1,4,5,6,12,13,14,24] [700,701,702,703,4,6,13,14]) ?_));refine Ad (Bd fl132_0 ?_);refine A3 ty4 ?_;refine Ab ?_;refine Ac (Bj U (by exact .not1 U U U U) U (.tmp U (by exact fun _=>rfl)) fl132_0) U ?_;refine Ac (Bn U (by exact .not1 U U U U) U (.tmp U (by exact id)) U ty4 U U) U ?_;refine Cj ?_;refine Bd fl132_1 ?_;refine A3 ty3 ?_;refine Bd fl132_1 ?_;refine A3 ty3 ?_;refine Ac (R_orI U (.no U) U (.tm U) (.tm U)) U ?_;refine Bd Df ?_;refine A3 ty3 ?_;refine Bd Df ?_;refine A3 ty3 ?_;refine Ac (R_orI U (.no U) U (.tm U) (.tm U)) U ?_;refine Ac (A9 (ps:=[(0,.tmp 132),(1,.tmp 137),(2,.tmp 142)]) U U U in132 U U st132 (.cons (.tm U) U U fp132_0 (.cons (.tm U) U U fp132_1 (.cons (.tm U) U U fp132_2 .nil))) U) U ?_;refine Ao C0 ?_;refine Aa (Ai ?_)
   show PRes _ _ _ _ _ _
   refine⟨z126.1,⟨z120.2.z||z126.2.z,bits .or .i64 z120.2.a z126.2.a,bits .or .i64 z120.2.b z126.2.b⟩,_,_,?_,rfl,(by rfl),(by rfl),rfl,rfl,(.cell rfl rfl C0 rfl rfl .nil),.inr ⟨?_,rfl⟩⟩
   · exact⟨bp_uni hxf (by omega) hz120 hz126,bv_uni hxf (by omega) hz120 hz126 (by omega)⟩
   simp [prtV]
 try simp at h110
 refine Af (Ba ?_);refine Ag ?_;refine Aa (Ah (.tm U) (fun h144=>?_) (fun h144=>?_))
 · try simp at h144
   obtain⟨y,hk2,hte,hgy⟩:=kind_one' hg (by omega)
   have hxf:=one_form hk2
   have hle:lets x=lets y:=by (rw [hxf,lets_un,if_pos (by omega)])
   have hnry:noRep y:=by (rw [hxf] at hnr;exact hnr.2)
   have hln:(toks x).length=(toks y).length+1:=by rw [hte];simp
   have hmy:∀ m∈F0++foT F0.length y,m<1048576:=fun m hm'=>(List.mem_append.1 hm').elim (hm m) (foT_lt (by omega) m)
   have hF1:(F0++foT F0.length y).length=F0.length+lets y:=by rw [List.length_append,foT_len]
   refine Af (Ab ?_);refine Ab ?_;refine Ab ?_;refine Ac (Bw (m:=(toks y).length) U (.no U) U (.tm U) .no (.yes (.tm U) (fun _=>by first|omega|(simp<;>omega))) Tryz.underlying24 Bv (fun _=>⟨by omega,by first|omega|(simp;omega)⟩)) U ?_;refine Bl (R_callP (u:=700) (i1:=701) (i2:=702) (p:=p) (ih y (by rw [hk2];simp) _ (sl_pre hte) L0 F0 hl (by omega) hm) U U U (.tm U) U (by rfl) (by rfl) ⟨by decide,by decide,by decide⟩ U (.cons (.tm U) U .nil) hp (fun _=>rfl)) ?_
   rintro _ ⟨z150,hz150,rfl⟩
   try dsimp only at hz150
   refine Aq (Au 15 U U U in132 U U U) U ?_;refine Ao C0 ?_;refine Aa (Ae (Al (Ap [0,1,4,5,6,15,24] [700,701,702,703,4,6,15]) ?_));refine Ad (Ab ?_);refine Bd Df ?_;refine A3 ty3 ?_;refine Bd fl132_1 ?_;refine A3 ty3 ?_;refine Bl (R_callP (u:=700) (i1:=701) (i2:=702) (p:=z150.1) (specl10LinkY z150.2.b z150.2.a (laT F0.length y) (fiT F0.length y) (by rw [hz150.2]) (by rw [hz150.2]) (laT_lt (by omega)) (fiT_lt (by omega)) (F0++foT F0.length y) (by rw [hF1];omega) hmy z150.1 (by rw [hz150.1])) U U U (.tm U) U (by rfl) (by rfl) ⟨by decide,by decide,by decide⟩ U (.cons (.tm U) U (.cons (.tm U) U .nil)) U (fun _=>rfl)) ?_
   rintro _ ⟨z156,hz156,rfl⟩
   try dsimp only at hz156
   refine Aa (Ae (Al (Ap [0,1,4,5,6,15,24] [700,701,702,703,4,6,15]) ?_));refine Ad (Bd fl132_1 ?_);refine A3 ty3 ?_;refine Bd Df ?_;refine A3 ty3 ?_;refine Ac (A9 (ps:=[(0,.const (.bool true)),(1,.tmp 158),(2,.tmp 160)]) U U U in132 U U st132 (.cons (.const U) U U fp132_0 (.cons (.tm U) U U fp132_1 (.cons (.tm U) U U fp132_2 .nil))) U) U ?_;refine Ao C0 ?_;refine Aa (Ai ?_)
   show PRes _ _ _ _ _ _
   refine⟨z156.1,⟨true,z150.2.a,z150.2.b⟩,_,_,?_,rfl,(by rfl),(by rfl),rfl,rfl,(.cell rfl rfl C0 rfl rfl .nil),.inr ⟨?_,rfl⟩⟩
   · exact⟨bp_star hxf (by omega) hz150 hz156,bv_star hxf (by omega) hz150⟩
   simp [prtV]
 try simp at h144
 have hxf:x=.leaf x.tok:=(by rcases (good_cases hg).2.2 with ⟨hk,_⟩|⟨y,hk,hk4⟩|⟨y,z,hk,hk4⟩;(exact no_form hk);(have h1:=one_form hk;rw [h1] at hnr;exact absurd hnr.1 (by omega));(exfalso;omega))
 refine AW.skip (Af (Ac (A9 (ps:=[]) U U U in132 U U st132 .nil U) U ?_));refine Ao C0 ?_;refine Aa (Ai ?_)
 show PRes _ _ _ _ _ _
 refine⟨p,⟨false,0,0⟩,_,_,?_,rfl,(by rfl),(by rfl),rfl,rfl,(.cell rfl rfl C0 rfl rfl .nil),.inr ⟨?_,rfl⟩⟩
 · exact (by have h:=bl_leaf hxf (by omega) hp;rwa [show decide (x.tok.Kind=2)=false by simp;omega] at h)
 simp [prtV]
theorem specl10BuildX:∀ x:Tr,good x→noRep x→(toks x).length≤1048576→∀ (L0:List Int) (F0:List Nat),L0.length=F0.length→F0.length+lets x≤20→(∀ m∈F0,m<1048576)→FnP Tryz.prog 93 [.one (.sl 4 ((toks x).map cToken))] (pre170 L0 F0) (post170 L0 F0 x) prtV:=
 Tr.ind fun x ih hg hn hz L0 F0 hl h20 hm=>specl10BuildX1 x hg hn hz (fun y hy L hL L1 F1 hl1 h21 hm1=>by subst hL;exact ih y hy (good_kids hg y hy) (noRep_kid hn hy) (by have:=kids_toks hy;omega) L1 F1 hl1 h21 hm1) L0 F0 hl h20 hm
end Go.Proofs.YtdhojcaoljhbiaaGreat
