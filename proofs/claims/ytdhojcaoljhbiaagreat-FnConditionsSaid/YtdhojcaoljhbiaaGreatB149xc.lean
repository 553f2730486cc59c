import Derived.Test.YtdhojcaoljhbiaaGreatB148xc
import Derived.Test.YtdhojcaoljhbiaaGreatKnnxc
set_option linter.unusedVariables false
set_option linter.unusedSimpArgs false
set_option maxHeartbeats 1000000
set_option maxRecDepth 100000
open Go.Proofs.Tryz renaming underlying40->Z9,prog->ZA,underlying24->ZC,underlying33->ZF,underlying34->ZG,func92->ZH,ntmps92->ZI,func45->ZJ,ntmps45->ZK,func46->ZL,ntmps46->ZM
open List renaming map_set->ZB,getElem?_eq_getElem->ZD
namespace Go.Q
open Go.RowKit Go.D Go.Proofs.YtdhojcaoljhbiaaGreat
def Z1 (z:EW×Bool):Prop:=z.2=true→∃ x:Tr,good x∧z.1.Tokens=AO x∧z.1.Tokens.length≤400
def Y4 (z:EW×Bool):V:=.tup [.agg (BH z.1),.one (.v (.bool z.2))]
def bpP (z:Fl×Bool):Prop:=Vt z.1
def Zd (z:Fl×Bool):V:=.tup [.agg (BA z.1),.one (.v (.bool z.2))]
def Zz (z:AA×Bool):Prop:=z.2=true→YB z.1
def Yr (z:AA×Bool):V:=.tup [.agg (AE z.1),.one (.v (.bool z.2))]
theorem TR {l:List BD} {i:Nat} {t:BD} (h:l[i]?=some t):ML (l.take (i+1))=ML (l.take i)+if t.Kind=3 then 1 else 0:=by
 unfold ML
 rw [CO h,List.filter_append,List.length_append]
 by_cases e:t.Kind=3<;>simp [e]
theorem VY (l:List BD):ML l≤l.length:=List.length_filter_le _ _
theorem MB (e:EW):FnE ZA 92 [.agg (BH e)] Z1 Y4:=by
 obtain⟨x,hx⟩:∃ x:Tr,CS e=true→AO x=e.Tokens∧good x∧e.Tokens.length≤24:=by
  cases hv:CS e with
  | false=>exact⟨.leaf (Kw 1),fun h=>by cases h⟩
  | true=>
   obtain⟨x,_,h2,h3,h4⟩:=Sm hv
   exact⟨x,fun _=>⟨h2,h3,h4⟩⟩
 refine FnE.walk ZH rfl (by kernel_rfl) ZI rfl fun w0=>?_
 refine Af (Ac (Bg U U U (.tm U) (ts:=_) (by rfl)) U ?_);refine A6 (Bd 2 U U U Dw U U U) U ?_;refine Cz (b:=2) 20001 4 0 U U U ?_;refine An ?_;refine Aa (Ae (Af (Aj Ck ?_)));refine By (IA e) ?_;refine Cy ?_;refine Ab ?_;refine C5 Dx ?_;refine C4 HR ?_;refine Ac (Cw U (by exact .not1 U U U U) U (.cons (.tmp U (by exact id)) U .nil) fun hq=>FnT.fr ((by obtain⟨h2,h3,h4⟩:=hx (by simpa using hq);have hS:=QV x h3 (by rw [h2];omega);rw [h2] at hS;exact hS))) U ?_;refine Ac (MO U (by exact .not1 U U U U) U (.tmp U (by exact id)) (.const U)) U ?_;refine Co ?_;refine Aa (Ai (.tm U) (fun h13=>?_) (fun h13=>?_))
 · try simp at h13
   refine Ae (As (Ay [0,1,2,3] [2,20001]) ?_);refine Ad (Ac (Bm (ps:=[]) U U U Dw U U L3 .nil U) U ?_);refine Cg (i:=14) 20002 4 0 U U U ?_;refine A4 Ck ?_;refine Bv (Ay [0,1,2,3] [2,20001,20002]) ?_;refine An ?_;refine Aa (Aq ?_);apply ERes.mk (x:=⟨⟨[]⟩,false⟩)
   case h=>
    refine Cd U (.cell U U Ck U U (.tmp U .nil)) U ?_ (by simp)
    rfl
   case hp=>exact (fun h=>by cases h)
 try simp at h13
 have hv:CS e=true∧szT x≤5000:=by (first|exact h13|exact⟨h13.1,h13.2⟩|(simp at h13;exact⟨h13.1,h13.2⟩))
 obtain⟨h2,h3,h4⟩:=hx hv.1
 have hle:=Gt x h3 (by omega)
 refine Am (Ae (As (Ay [0,1,2,3] [2,20001]) ?_));refine Ad (A7 Dx ?_);refine Aj HR ?_;refine Cj (Dc 1700 ((by have hE:=O9 x h3 (by rw [h2];omega) (by omega);rw [h2] at hE;exact hE)) U U U (.cons (.tm U) U .nil) U U) U ?_;refine A6 (Bd 4 U U U Dw U U U) U ?_;refine Cz (b:=4) 20003 4 0 U U U ?_;refine A4 Ck ?_;refine Aa (Ae (Af (Bq Dx ?_)));refine Bb HR ?_;refine Bi (.rf U) ZC ?_;refine AWl.gc ?_;refine Aa (Ai (.tm U) (fun h21=>?_) (fun h21=>?_))
 · try simp at h21
   refine Ae (As (Ay [0,1,2,3,4] [2,20001,1700,4,20003]) ?_);refine Ad (Ac (Bm (ps:=[]) U U U Dw U U L3 .nil U) U ?_);refine Cg (i:=22) 20004 4 0 U U U ?_;refine A4 Ck ?_;refine Bv (Ay [0,1,2,3,4] [2,20001,1700,4,20003,20004]) ?_;refine An ?_;refine Aa (Aq ?_);apply ERes.mk (x:=⟨⟨[]⟩,false⟩)
   case h=>
    refine Cd U (.cell U U Ck U U (.tmp U .nil)) U ?_ (by simp)
    rfl
   case hp=>exact (fun h=>by cases h)
 try simp at h21
 refine Am (Ae (As (Ay [0,1,2,3,4] [2,20001,1700,4,20003]) ?_));refine Ad (Bb Ck ?_);refine A4 Ck ?_;refine Bv (Ay [0,1,2,3,4] [2,20001,1700,4,20003]) ?_;refine An ?_;refine Aa (Aq ?_);apply ERes.mk (x:=⟨⟨AO (exR x)⟩,true⟩)
 case h=>
  refine Cd U (.cell U U Ck U U (.tmp U .nil)) U ?_ (by simp)
  rfl
 case hp=>exact (fun _=>⟨exR x,VQ x h3,rfl,by show (AO (exR x)).length≤400;(try simp at h21);omega⟩)
theorem JY (e:EW):FnE ZA 45 [.agg (BH e)] bpP Zd:=by
 refine FnE.walk ZJ rfl (by kernel_rfl) ZK rfl fun w0=>?_
 refine Af (Ac (Bg U U U (.tm U) (ts:=_) (by rfl)) U ?_);refine A6 (Bd 2 U U U U4 U U U) U ?_;refine An ?_;refine Aa (Af (Aj Ck ?_));refine Bn (JX 1200 (MB e) U U U (.cons (.tm U) U .nil) (fun _=>rfl) (fun _=>rfl)) ?_
 rintro _ ⟨z12,hz12,rfl⟩
 try dsimp only at hz12
 refine Ac (Dd U (.no U) U U fun _=>rfl) U ?_;refine Ac (Bk U (.no U) U U (fun _=>rfl) U) U ?_;refine Ac (Bk U (.no U) U U (fun _=>rfl) U) U ?_;refine A6 (Bd 4 U U U Dw U U U) U ?_;refine A4 Ck ?_;refine Bv (Ay [0,1,2,3,4,14] [2,1200,4]) ?_;refine Ah ?_;refine Aa (Ae (Af (Ab ?_)));refine Cy ?_;refine Aa (Ai (.tm U) (fun h16=>?_) (fun h16=>?_))
 · try simp at h16
   refine Af (Ac (Bm (ps:=[]) U U U U4 U U Yt .nil U) U ?_);refine Cg (i:=17) 20001 1 0 U U U ?_;refine Cg (i:=17) 20002 1 3 U U U ?_;refine A4 KM ?_;refine Bv (Ay [0,1,2,3,4,5,16] [2,1200,4,20001,20002]) ?_;refine An ?_;refine Aa (Aq ?_);apply ERes.mk (x:=⟨⟨[],0,0,[],false⟩,false⟩)
   case h=>
    refine Cd U (.cell U U KM U U (.tmp U .nil)) U ?_ (by simp)
    rfl
   case hp=>exact⟨rfl,by simp⟩
 try simp at h16
 obtain⟨x,hgx,htx,hlx⟩:=hz12 (by simpa using h16)
 refine Am (Af (An ?_));refine Aa (Ae (Af (An ?_)));refine Aa (AW.block ?_);refine Cp (fun (i:Nat) (n:Int)=>(i≤z12.1.Tokens.length)∧n=(ML (z12.1.Tokens.take i):Nat)) (fun (i:Nat) (n:Int)=>⟨_,[(7,(true,.a (.one (.t (.v (.int .i64 (i:Nat))))))),(6,(true,.a (.one (.t (.v (.int .i64 n)))))),(2,_),(3,_),(4,_)],[(2,.box [.t (.v (.slice none 0 0)),.t (.v (.int .i64 0)),.t (.v (.int .i64 0)),.t (.v (.slice none 0 0)),.t (.v (.bool false))]),(4,.box [.rf 1200]),(1200,.row 4 (z12.1.Tokens.map AS))]⟩) (fun (i:Nat) (n:Int)=>z12.1.Tokens.length-i) (0) (0) ⟨Nat.zero_le _,by simp [ML]⟩ Aw ?_
 rintro i n ⟨hk,he⟩
 refine Ae (Af (Ab ?_));refine Bq Dx ?_;refine Bb HR ?_;refine Bi (.rf U) ZC ?_;refine AWl.lt ?_;refine Aa (Ai (.tm U) (fun h22=>?_) (fun h22=>?_))
 · try simp at h22
   obtain⟨t,ht⟩:∃ ξ,z12.1.Tokens[i]?=some ξ:=⟨_,ZD (by omega)⟩
   have hck:ML (z12.1.Tokens.take i)≤400:=Nat.le_trans (VY _) (by rw [List.length_take];omega)
   refine Am (Ae (AW.block (Af (Bq Dx ?_))));refine Bb HR ?_;refine Ab ?_;refine Ac (A3 U (.no U) U (.tm U) U (.tm U) ZC C6 (fun _=>⟨by omega,(Ao ht)⟩)) U ?_;refine Ac (Dk U (.no U) U (.tm U) LO) U ?_;refine Ac (Ca U (.no U) U (.tm U) U (Ao ht) ty3 U U) U ?_;refine Bw ?_;refine Aa (Ai (.tm U) (fun h31=>?_) (fun h31=>?_))
   · try simp at h31
     refine As (Ay [2,3,4,6,7] [2,4,1200]) ?_;refine Ad (Ab ?_);refine A9 ?_;refine Ah ?_;refine Aa (Ad (Ab ?_));refine A9 ?_;refine Ah ?_;refine Aa ?_
     repeat (with_reducible refine Av ?_)
     refine BV.next (i+1) (n+1) ⟨by omega,(by rw [he,TR ht,if_pos (by simpa using h31)];simp)⟩ (by omega) (Au rfl ⟨rfl,rfl,rfl,rfl,rfl,Y⟩ ⟨(by rfl),(by rfl),(by rfl),Y⟩)
   try simp at h31
   refine Am (As (Ay [2,3,4,6,7] [2,4,1200]) ?_);refine Ad (Ab ?_);refine A9 ?_;refine Ah ?_;refine Aa ?_
   repeat (with_reducible refine Av ?_)
   refine BV.next (i+1) (n) ⟨by omega,(by rw [he,TR ht,if_neg (by simpa using h31)];simp)⟩ (by omega) (Au rfl ⟨rfl,rfl,rfl,rfl,rfl,Y⟩ ⟨(by rfl),(by rfl),(by rfl),Y⟩)
 try simp at h22
 refine Bf (Ae (Af (Ab ?_)));refine AWl.gc ?_;refine Aa (Ai (.tm U) (fun h35=>?_) (fun h35=>?_))
 · try simp at h35
   refine Ae (As (Ay [2,3,4,6,7] [2,4,1200]) ?_);refine Ad (Ac (Bm (ps:=[]) U U U U4 U U Yt .nil U) U ?_);refine Cg (i:=36) 20003 1 0 U U U ?_;refine Cg (i:=36) 20004 1 3 U U U ?_;refine A4 KM ?_;refine Bv (Ay [2,3,4,6,7] [2,4,1200,20003,20004]) ?_;refine An ?_;refine Aa (Aq ?_);apply ERes.mk (x:=⟨⟨[],0,0,[],false⟩,false⟩)
   case h=>
    refine Cd U (.cell U U KM U U (.tmp U .nil)) U ?_ (by simp)
    rfl
   case hp=>exact⟨rfl,by simp⟩
 try simp at h35
 have hck2:ML z12.1.Tokens≤20:=by (have hi:i=z12.1.Tokens.length:=(by omega);rw [hi,List.take_length] at he;(try simp at h35);omega)
 have hlet:FX x≤20:=by (have:=Xf x hgx;rw [←htx] at this;omega)
 refine Am (Ae (As (Ay [2,3,4,6,7] [2,4,1200]) ?_));refine Ad (Ac (Bm (ps:=[]) U U U U4 U U Yt .nil U) U ?_);refine Cg (i:=37) 20005 1 0 U U U ?_;refine Cg (i:=37) 20006 1 3 U U U ?_;refine A6 (Bd 8 U U U U4 U U U) U ?_;refine A4 KM ?_;refine Aa (Ae (As (Ay [2,3,4,6,7,8] [2,4,1200,20005,20006,8]) ?_));refine Ad (Bq Dx ?_);refine Bb HR ?_;refine Bv (Le.frzR 1200 39 U U) ?_;refine Bn (Hp (u:=8) (i1:=20005) (i2:=20006) (p:=⟨[],[],0,0,false⟩) ((by have hB:=PS x hgx (by rw [←htx];omega);rw [←htx] at hB;exact hB)) U U U (.tm U) U (by rfl) (by rfl) ⟨by decide,by decide,by decide⟩ U (.cons (.tm U) U .nil) (show PX (FX x) ⟨[],[],0,0,false⟩ from ⟨U,by show 0+FX x≤24;omega⟩) (fun _=>rfl)) ?_
 rintro _ ⟨z40,hz40,rfl⟩
 try dsimp only at hz40
 refine A6 (Bd 9 U U U Hh U U U) U ?_;refine A4 Dl ?_;refine Aa (Af (Bq FP ?_));refine Bb ty3 ?_;refine Bq VO ?_;refine A4 ty3 ?_;refine Aa (Ae (As (Ay [2,3,4,6,7,8,9] [2,4,20005,20006,8,9]) ?_));refine Ad (Bq D3 ?_);refine Bb ty3 ?_;refine Bq VN ?_;refine A4 ty3 ?_;refine Aa (Af (Bq Hk ?_));refine Bb ty4 ?_;refine Bq VM ?_;refine A4 ty4 ?_;refine Aa (Ae (As (Ay [2,3,4,6,7,8,9] [2,4,20005,20006,8,9]) ?_));refine Ad (Bb KM ?_);refine A4 KM ?_;refine Bv (Ay [2,3,4,6,7,8,9] [2,4,20005,20006,8,9]) ?_;refine An ?_;refine Aa (Aq ?_);apply ERes.mk (x:=⟨⟨z40.1.L,z40.2.a,z40.2.b,z40.1.F,z40.2.z⟩,true⟩)
 case h=>
  refine Cd U (.cell U U KM U U (.tmp U .nil)) U ?_ (by simp)
  rfl
 case hp=>exact (by obtain⟨h3,h4⟩:=hz40;simp only [List.length_nil,Nat.zero_add] at h3 h4;exact⟨by show z40.1.L.length=z40.1.F.length;omega,by show z40.1.L.length≤24;omega⟩)
theorem M8 (p:Fl) (h:Vt p) (most:Int) (hm:1≤most∧most≤200):FnE ZA 46 [.agg (BA p),.one (.v (.int .i64 most))] Zz Yr:=by
 refine FnE.walk ZL rfl (by kernel_rfl) ZM rfl fun w0=>?_
 refine Af (Ac (Bg U U U (.tm U) (ts:=_) (by rfl)) U ?_);refine A6 (Bd 4 U U U JZ U U U) U ?_;refine Cz (b:=4) 20001 1 1 U U U ?_;refine Cz (b:=4) 20002 1 2 U U U ?_;refine An ?_;refine Aa (Af (Ac (Bm (ps:=[]) U U U JZ U U Yv .nil U) U ?_));refine Cg (i:=13) 20003 1 1 U U U ?_;refine Cg (i:=13) 20004 1 2 U U U ?_;refine A6 (Bd 6 U U U JZ U U U) U ?_;refine A4 B6 ?_;refine Aa (Af (Bp (Ce (xs:=[.const (.int .i64 (1))]) 14 U U U (.cons (.const U) U U .nil) Z9 in3 U U U U) U ?_));refine Ah ?_;refine Aa (Ae (Af (An ?_)));refine Aa (AW.block ?_)
 refine AW.loop4 (fun (s:Nat) (W:List Int) (B:List Bool) (N:List (List Int))=>((s≤W.length∧(W.length:Int)≤most∧1≤W.length∧N.length=s∧B.length=s)∧∀ r∈N,r.length=9)∧True) (fun (s:Nat) (W:List Int) (B:List Bool) (N:List (List Int))=>⟨_,[(8,(true,.a (.one (.t (.v (.int .i64 (s:Nat))))))),(7,(true,.a (.one (.rf 14)))),(1,_),(2,_),(4,_),(6,_)],[(14,.row 1 (W.map AQ)),(4,.box [.t (.v (.int .i64 0)),.rf 20001,.rf 20002]),(20001,.row 1 []),(20002,.row 1 []),(6,.box [.t (.v (.int .i64 0)),.rf 20003,.rf 20004]),(20003,.row 1 (B.map Ey)),(20004,.row 1 (N.map DV))]⟩) (fun (s:Nat) (W:List Int) (B:List Bool) (N:List (List Int))=>200-s) (0) ([1]) ([]) ([]) ⟨⟨⟨Nat.zero_le _,by simp;omega,by simp,U,U⟩,by simp⟩,Y⟩ Aw ?_
 rintro s W B N ⟨hk,he⟩
 refine Ae (Af (Ab ?_));refine Ab ?_;refine Bi (.rf U) Z9 ?_;refine AWl.lt ?_;refine Aa (Ai (.tm U) (fun h18=>?_) (fun h18=>?_))
 · try simp at h18
   have hsW:s<W.length:=by (first|omega|(simp at h18;omega))
   refine Am (Ae (AW.block (Af (A6 (C7 21 U U U Z9 ty3 U) U ?_))));refine Ah ?_;refine Aa (Ae (Af (An ?_)));refine Aa (AW.block ?_);refine Dz (fun (k:Nat) (ro:List Int) (W1:List Int)=>(k≤9∧ro.length=k∧W1.length≤W.length+k∧W.length≤W1.length)∧True) (fun (k:Nat) (ro:List Int) (W1:List Int)=>⟨_,[(10,(true,.a (.one (.t (.v (.int .i64 (k:Nat))))))),(9,(true,.a (.one (.rf 21)))),(7,(true,.a (.one (.rf 14)))),(1,_),(2,_),(4,_),(6,_),(8,_)],[(21,.row 1 (ro.map AQ)),(14,.row 1 (W1.map AQ)),(4,.box [.t (.v (.int .i64 0)),.rf 20001,.rf 20002]),(20001,.row 1 []),(20002,.row 1 []),(6,.box [.t (.v (.int .i64 0)),.rf 20003,.rf 20004]),(20003,.row 1 (B.map Ey)),(20004,.row 1 (N.map DV))]⟩) (fun (k:Nat) (ro:List Int) (W1:List Int)=>9-k) (0) ([]) (W) ⟨⟨by omega,U,by omega,by omega⟩,Y⟩ Aw ?_
   rintro k ro W1 ⟨hk1,he1⟩
   refine Ae (Af (Ab ?_));refine D7 ?_;refine Aa (Ai (.tm U) (fun h23=>?_) (fun h23=>?_))
   · try simp at h23
     obtain⟨w1,hw1⟩:∃ ξ,W1[s]?=some ξ:=⟨_,ZD (by omega)⟩
     refine Am (Ae (AW.block (Ae (As (Ay [1,2,4,6,7,8,9,10,22,23] [21,14,4,20001,20002,6,20003,20004]) ?_))));apply Cr (N:=6) (k:=2) (Hs:=[0,1,2,5]) (ms:=[[],[3],[3,4]]) (es:=[(0,3,1),(1,4,2)]) (σ1:=_) (SM:=⟨_,[(1,_),(2,_),(4,_),(6,_),(7,_),(8,_),(9,_),(10,_),(22,_),(23,_),(26,_),(27,_),(28,_),(31,_)],[(21,_),(14,_),(4,_),(20001,_),(20002,_),(6,_),(20003,_),(20004,_)]⟩)
     case hm=>kernel_rfl
     case hB=>kernel_rfl
     case hP=>kernel_rfl
     case hL=>kernel_rfl
     case hN=>rfl
     case hpre=>
      apply Ax (P:=ZA) 0 rfl ((Br rfl (.no rfl) rfl (.tm rfl) KM rfl rfl)) (by exact BM.ld (x:=.tmp 2) (.tm rfl) rfl rfl) rfl rfl rfl;apply Ax (P:=ZA) 1 rfl (Bh rfl (.no rfl) rfl (.tm rfl)) (by exact BM.slot (t:=7) rfl) rfl rfl rfl;apply Ax (P:=ZA) 2 rfl (Bh rfl (.no rfl) rfl (.tm rfl)) (by exact BM.slot (t:=8) rfl) rfl rfl rfl;apply Ax (P:=ZA) 5 rfl (Bh rfl (.no rfl) rfl (.tm rfl)) (by exact BM.slot (t:=10) rfl) rfl rfl rfl;exact EC.nil
     case hS=>exact Ba
     case hH=>
      refine⟨⟨_,_,_,rfl,rfl,rfl,fun σ' hs=>(by exact Br rfl (.no rfl) (Ag hs rfl) (.tm (hs.slots _ _ rfl)) KM rfl rfl)⟩,?_⟩
      refine AX.mv ?_;refine AX.mv ?_;refine AX.mv ?_
      trivial
     apply Dh.new0 (i:=3);rfl;rfl;rfl
     · intro w9 _;refine Ac (by exact A3 U (.no U) U (.tm U) U (.tm U) Z9 ty3 (fun _=>⟨by omega,(Ao hw1)⟩)) U ?_;exact Al [1,2,4,6,7,8,9,10,22,23,26,27,28,29,31] [21,14,4,20001,20002,6,20003,20004]
     intros;exact Ba
     apply Dh.new0 (i:=4);rfl;rfl;rfl
     · intro w9 _;refine Ac (Ca U (.no U) U (.tm U) U (Ao hw1) ty3 U U) U ?_;exact Al [1,2,4,6,7,8,9,10,22,23,26,27,28,30,31] [21,14,4,20001,20002,6,20003,20004]
     intros;exact Ba
     refine Dh.fin0 (k:=2) rfl ?_;intro  hp
     obtain _:=hp
     refine Bn (JX 3200 (PT p h _ _) U U U (.cons (.tm U) U (.cons (.tm U) U (.cons (.tm U) U .nil))) (fun _=>rfl) (fun _=>rfl)) ?_
     rintro _ ⟨z32,hz32,rfl⟩
     try dsimp only at hz32
     refine Ah ?_;refine Aa (Ae (As (Ay [1,2,4,6,7,8,9,10,11] [21,14,4,20001,20002,6,20003,20004]) ?_));refine Ad (An ?_);refine Aa (Ae (Af (Ab ?_)));refine AWl.nc ?_;refine Aa (Ai (.tm U) (fun h34=>?_) (fun h34=>?_))
     · try simp at h34
       refine Af (Ab ?_);refine Ab ?_;refine Bn (JX 3700 (PP W1 _ (by omega)) U U U (.cons (.tm U) U (.cons (.tm U) U .nil)) (fun _=>rfl) (fun _=>rfl)) ?_
       rintro _ ⟨z37,hz37,rfl⟩
       try dsimp only at hz37
       refine Ah ?_;refine Aa (Af (Ab ?_));refine D7 ?_;refine Aa (Ai (.tm U) (fun h39=>?_) (fun h39=>?_))
       · try simp at h39
         refine Ae (As (Ay [1,2,4,6,7,8,9,10,11,12] [21,14,4,20001,20002,6,20003,20004]) ?_);refine Ad (Ab ?_);refine Bi (.rf U) Z9 ?_;refine Ah ?_;refine Aa (Ad (Ab ?_));refine Ab ?_;refine Ac (Cf (xs:=[.tmp 43]) (rows:=[AQ z32]) U U U (.cons (.tm U) U U .nil) Z9 in3 U U (U)) U ?_;refine Bt (B8 U U U (.tm U) U (.tm U) (by exact .t) (by rfl) Z9 in3 U (by (simp [AH];omega)) (by (unfold maxLen;simp [AH];omega))) U ?_;refine Bv (Ay [1,2,4,6,7,8,9,10,11,12,45] [21,14,4,20001,20002,6,20003,20004]) ?_;refine Ah ?_;refine Aa (Ad (Ab ?_));refine Ab ?_;refine Ac (Cf (xs:=[.tmp 47]) (rows:=[AQ _]) U U U (.cons (.tm U) U U .nil) Z9 in3 U U (U)) U ?_;refine Bt (B8 U U U (.tm U) U (.tm U) (by exact .t) (by rfl) Z9 in3 U (by (simp [AH];omega)) (by (unfold maxLen;simp [AH];omega))) U ?_
         refine Bv (Ay [1,2,4,6,7,8,9,10,11,12,49] [21,14,4,20001,20002,6,20003,20004]) ?_;refine Ah ?_;refine Aa (Ad (Ab ?_));refine A9 ?_;refine Ah ?_;refine Aa ?_
         repeat (with_reducible refine Av ?_)
         refine Ef.next (k+1) (ro++[(W1.length:Int)]) (W1++[z32]) ⟨⟨by omega,by simp;omega,by simp;omega,by simp;omega⟩,Y⟩ (by omega) (Au rfl ⟨rfl,rfl,rfl,rfl,rfl,rfl,rfl,rfl,Y⟩ ⟨(by (refine congrArg (fun r=>some (R.row _ r)) ?_;simp [AH,ZB,AQ,Ey,DV,BC,AS,BH,AP,AG,BG,BO,CF,DE,BW,BA,AE,AK,BJ,AT,Em,DD,AZ,BN])),(by (refine congrArg (fun r=>some (R.row _ r)) ?_;simp [AH,ZB,AQ,Ey,DV,BC,AS,BH,AP,AG,BG,BO,CF,DE,BW,BA,AE,AK,BJ,AT,Em,DD,AZ,BN])),(by rfl),(by rfl),(by rfl),(by rfl),(by rfl),(by rfl),Y⟩)
       try simp at h39
       refine Am (As (Ay [1,2,4,6,7,8,9,10,11,12] [21,14,4,20001,20002,6,20003,20004]) ?_);refine Ad (Ab ?_);refine Ab ?_;refine Ac (Cf (xs:=[.tmp 47]) (rows:=[AQ _]) U U U (.cons (.tm U) U U .nil) Z9 in3 U U (U)) U ?_;refine Bt (B8 U U U (.tm U) U (.tm U) (by exact .t) (by rfl) Z9 in3 U (by (simp [AH];omega)) (by (unfold maxLen;simp [AH];omega))) U ?_;refine Bv (Ay [1,2,4,6,7,8,9,10,11,12,49] [21,14,4,20001,20002,6,20003,20004]) ?_;refine Ah ?_;refine Aa (Ad (Ab ?_));refine A9 ?_;refine Ah ?_;refine Aa ?_
       repeat (with_reducible refine Av ?_)
       refine Ef.next (k+1) (ro++[z37]) (W1) ⟨⟨by omega,by simp;omega,by omega,by omega⟩,Y⟩ (by omega) (Au rfl ⟨rfl,rfl,rfl,rfl,rfl,rfl,rfl,rfl,Y⟩ ⟨(by (refine congrArg (fun r=>some (R.row _ r)) ?_;simp [AH,ZB,AQ,Ey,DV,BC,AS,BH,AP,AG,BG,BO,CF,DE,BW,BA,AE,AK,BJ,AT,Em,DD,AZ,BN])),(by rfl),(by rfl),(by rfl),(by rfl),(by rfl),(by rfl),(by rfl),Y⟩)
     try simp at h34
     refine Am (Ad (Ab ?_));refine Ab ?_;refine Ac (Cf (xs:=[.tmp 47]) (rows:=[AQ _]) U U U (.cons (.tm U) U U .nil) Z9 in3 U U (U)) U ?_;refine Bt (B8 U U U (.tm U) U (.tm U) (by exact .t) (by rfl) Z9 in3 U (by (simp [AH];omega)) (by (unfold maxLen;simp [AH];omega))) U ?_;refine Bv (Ay [1,2,4,6,7,8,9,10,11,12,34,49] [21,14,4,20001,20002,6,20003,20004]) ?_;refine Ah ?_;refine Aa (Ad (Ab ?_));refine A9 ?_;refine Ah ?_;refine Aa ?_
     repeat (with_reducible refine Av ?_)
     refine Ef.next (k+1) (ro++[-1]) (W1) ⟨⟨by omega,by simp;omega,by omega,by omega⟩,Y⟩ (by omega) (Au rfl ⟨rfl,rfl,rfl,rfl,rfl,rfl,rfl,rfl,Y⟩ ⟨(by (refine congrArg (fun r=>some (R.row _ r)) ?_;simp [AH,ZB,AQ,Ey,DV,BC,AS,BH,AP,AG,BG,BO,CF,DE,BW,BA,AE,AK,BJ,AT,Em,DD,AZ,BN])),(by rfl),(by rfl),(by rfl),(by rfl),(by rfl),(by rfl),(by rfl),Y⟩)
   try simp at h23
   refine Bf (Ae (Af (Ab ?_)));refine Bi (.rf U) Z9 ?_;refine Ab ?_;refine Ac (MO U (.no U) U (.tm U) (.tm U)) U ?_;refine Aa (Ai (.tm U) (fun h53=>?_) (fun h53=>?_))
   · try simp at h53
     refine Ae (As (Ay [1,2,4,6,7,8,9,10] [21,14,4,20001,20002,6,20003,20004]) ?_);refine Ad (Ac (Bm (ps:=[]) U U U JZ U U Yv .nil U) U ?_);refine Cg (i:=54) 20005 1 1 U U U ?_;refine Cg (i:=54) 20006 1 2 U U U ?_;refine A4 B6 ?_;refine Bv (Ay [1,2,4,6,7,8,9,10] [21,14,4,20001,20002,6,20003,20004,20005,20006]) ?_;refine An ?_;refine Aa (Aq ?_);apply ERes.mk (x:=⟨⟨0,[],[]⟩,false⟩)
     case h=>
      refine Cd U (.cell U U B6 U U (.tmp U .nil)) U ?_ (by simp)
      rfl
     case hp=>exact (fun h=>by cases h)
   try simp at h53
   obtain⟨w1,hw1⟩:∃ ξ,W1[s]?=some ξ:=⟨_,ZD (by omega)⟩
   refine Am (Ae (As (Ay [1,2,4,6,7,8,9,10] [21,14,4,20001,20002,6,20003,20004]) ?_));refine As (Ay [1,2,4,6,7,8,9,10] [21,14,4,20001,20002,6,20003,20004]) ?_;apply Cr (N:=9) (k:=4) (Hs:=[0,1,2,3,4]) (ms:=[[],[5],[5,6],[5,6,7],[5,6,7,8]]) (es:=[(0,5,1),(1,6,2),(2,7,3),(3,8,4)]) (σ1:=_) (SM:=⟨_,[(1,_),(2,_),(4,_),(6,_),(7,_),(8,_),(9,_),(10,_),(55,_),(56,_),(57,_),(58,_),(59,_)],[(21,_),(14,_),(4,_),(20001,_),(20002,_),(6,_),(20003,_),(20004,_)]⟩)
   case hm=>kernel_rfl
   case hB=>kernel_rfl
   case hP=>kernel_rfl
   case hL=>kernel_rfl
   case hN=>rfl
   case hpre=>
    apply Ax (P:=ZA) 0 rfl ((Bj rfl (.no rfl) rfl (.tm rfl) Db)) (by exact .pp) rfl rfl rfl;apply Ax (P:=ZA) 1 rfl ((by exact Be rfl (.no rfl) rfl (.tm rfl) rfl FU rfl rfl)) (by exact BM.load (x:=.tmp 55) (.tm rfl) rfl FU rfl rfl) rfl rfl rfl;apply Ax (P:=ZA) 2 rfl ((by exact Br rfl (.no rfl) rfl (.tm rfl) KM rfl rfl)) (by exact BM.ld (x:=.tmp 2) (.tm rfl) rfl rfl) rfl rfl rfl;apply Ax (P:=ZA) 3 rfl (Bh rfl (.no rfl) rfl (.tm rfl)) (by exact BM.slot (t:=7) rfl) rfl rfl rfl;apply Ax (P:=ZA) 4 rfl (Bh rfl (.no rfl) rfl (.tm rfl)) (by exact BM.slot (t:=8) rfl) rfl rfl rfl;exact EC.nil
   case hS=>exact Ba
   case hH=>
    refine AX.fq Db ?_;refine AX.lq FU ?_
    refine⟨⟨_,_,_,rfl,rfl,rfl,fun σ' hs=>(by exact Br rfl (.no rfl) (Ag hs rfl) (.tm (hs.slots _ _ rfl)) KM rfl rfl)⟩,?_⟩
    refine AX.mv ?_;refine AX.mv ?_
    trivial
   apply Dh.new0 (i:=5);rfl;rfl;rfl
   · intro w9 _;refine Ac (by exact A3 U (.no U) U (.tm U) U (.tm U) Z9 ty3 (fun _=>⟨by omega,(Ao hw1)⟩)) U ?_;exact Al [1,2,4,6,7,8,9,10,55,56,57,58,59,60] [21,14,4,20001,20002,6,20003,20004]
   intros;exact Ba
   apply Dh.new0 (i:=6);rfl;rfl;rfl
   · intro w9 _;refine Ac (Ca U (.no U) U (.tm U) U (Ao hw1) ty3 U U) U ?_;exact Al [1,2,4,6,7,8,9,10,55,56,57,58,59,61] [21,14,4,20001,20002,6,20003,20004]
   intros;exact Ba
   apply Dh.drw0 (i:=7)
   case ha=>rfl
   case ho=>rfl
   case hE=>
    intro  hp
    obtain _:=hp
    exact JX 6200 (N0 p _) rfl rfl rfl (.cons (.tm rfl) rfl (.cons (.tm rfl) rfl .nil)) (fun _=>rfl) (fun _=>rfl)
   case hb=>rfl
   case hL=>
    intro  z62 hp hy;exact CV.eq (Ay [1,2,4,6,7,8,9,10,55,56,57,58,59,62] [21,14,4,20001,20002,6,20003,20004]) U
   case hS=>intros;exact Ba
   apply Dh.new1 (i:=8);rfl;rfl;rfl
   · intro w9 z62 hp
     obtain⟨_,hz62⟩:=hp
     refine Bp (Ce (xs:=[.tmp 62]) 63 U U U (.cons (.tm U) U U .nil) ZF in4 U U U U) U ?_;exact Al [1,2,4,6,7,8,9,10,55,56,57,58,59,63] [21,14,4,20001,20002,6,20003,20004,63]
   intros;exact Ba
   refine Dh.fin1 (k:=4) rfl ?_;intro z62 hp
   obtain⟨_,hz62⟩:=hp
   refine Bt (B8 U U U (.tm U) U (.tm U) (by exact .rf U) (by rfl) ZF in4 U (by (simp [AH];omega)) (by (unfold maxLen;simp [AH];omega))) U ?_;refine Bv (Ay [1,2,4,6,7,8,9,10,64] [21,14,4,20001,20002,6,20003,20004,63]) ?_;refine Bq Db ?_;refine A4 FU ?_;refine Aa (Ad (Bq Da ?_));refine Bb Gh ?_;refine Ab ?_;refine Bp (Ce (xs:=[.tmp 68]) 69 U U U (.cons (.tm U) U U .nil) ZG U5 U U U U) U ?_;refine Dv (D4 U U U (.tm U) U (.tm U) U U ZG U5 U (by (simp [AH];omega)) (by (unfold maxLen;simp [AH];omega))) U ?_;refine Bv (Ay [1,2,4,6,7,8,9,10,70] [14,4,20001,20002,6,20003,20004,63]) ?_;refine Bq Da ?_;refine A4 Gh ?_;refine Aa (Ad (Ab ?_));refine A9 ?_;refine Ah ?_;refine Aa ?_
   repeat (with_reducible refine Av ?_)
   refine Jz.next (s+1) (W1) (B++[z62]) (N++[ro]) ⟨by ((try simp at h53);refine⟨⟨by omega,by omega,by omega,by simp;omega,by simp;omega⟩,fun r hr=>?_⟩;rcases List.mem_append.1 hr with hr|hr;exact hk.2 r hr;rw [List.mem_singleton.1 hr];omega),Y⟩ (by omega) (Au rfl ⟨rfl,rfl,rfl,rfl,rfl,rfl,Y⟩ ⟨(by rfl),(by rfl),(by rfl),(by rfl),(by rfl),(by (refine congrArg (fun r=>some (R.row _ r)) ?_;simp [AH,ZB,AQ,Ey,DV,BC,AS,BH,AP,AG,BG,BO,CF,DE,BW,BA,AE,AK,BJ,AT,Em,DD,AZ,BN])),(by (refine congrArg (fun r=>some (R.row _ r)) ?_;simp [AH,ZB,AQ,Ey,DV,BC,AS,BH,AP,AG,BG,BO,CF,DE,BW,BA,AE,AK,BJ,AT,Em,DD,AZ,BN])),Y⟩)
 try simp at h18
 refine Bf (Af (Bb B6 ?_));refine A4 B6 ?_;refine Bv (Ay [1,2,4,6,7,8,18] [14,4,20001,20002,6,20003,20004]) ?_;refine An ?_;refine Aa (Aq ?_);apply ERes.mk (x:=⟨⟨0,B,N⟩,true⟩)
 case h=>
  refine Cd U (.cell U U B6 U U (.tmp U .nil)) U ?_ (by simp)
  rfl
 case hp=>exact (fun _=>⟨by show 1≤N.length;(try simp at h18);omega,hk.2,by show B.length≤1000;omega⟩)
end Go.Q
