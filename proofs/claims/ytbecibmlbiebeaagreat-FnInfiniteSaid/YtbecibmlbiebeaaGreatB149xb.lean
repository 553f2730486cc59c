import Derived.Test.YtbecibmlbiebeaaGreatB148xb
import Derived.Test.YtbecibmlbiebeaaGreatB92xb
set_option linter.unusedVariables false
set_option linter.unusedSimpArgs false
set_option maxHeartbeats 1000000
set_option maxRecDepth 100000
namespace Go.Q
open Go.RowKit Go.D
def expP (z:TExpr×Bool):Prop:=z.2=true→∃ x:Tr,good x∧z.1.Tokens=toks x∧z.1.Tokens.length≤400
def expOut (z:TExpr×Bool):V:=.tup [.agg (cExpr z.1),.one (.v (.bool z.2))]
def bpP (z:TPositions×Bool):Prop:=posOk z.1
def bpOut (z:TPositions×Bool):V:=.tup [.agg (cPositions z.1),.one (.v (.bool z.2))]
def subP (z:TAutomaton×Bool):Prop:=z.2=true→autD z.1
def subOut (z:TAutomaton×Bool):V:=.tup [.agg (cAutomaton z.1),.one (.v (.bool z.2))]
theorem cntK_at {l:List TToken} {i:Nat} {t:TToken} (h:l[i]?=some t):cntK (l.take (i+1))=cntK (l.take i)+if t.Kind=3 then 1 else 0:=by
 unfold cntK
 rw [take_at h,List.filter_append,List.length_append]
 by_cases e:t.Kind=3<;>simp [e]
theorem cntK_len (l:List TToken):cntK l≤l.length:=List.length_filter_le _ _
end Go.Q
namespace Go.Proofs.YtbecibmlbiebeaaGreat
open Go.RowKit Go.Q Go.D
theorem specExpandExprD (e:TExpr):FnE Tryz.prog 134 [.agg (cExpr e)] expP expOut:=by
 obtain⟨x,hx⟩:∃ x:Tr,isValidExpr e=true→toks x=e.Tokens∧good x∧e.Tokens.length≤24:=by
  cases hv:isValidExpr e with
  | false=>exact⟨.leaf (tok0 1),fun h=>by cases h⟩
  | true=>
   obtain⟨x,_,h2,h3,h4⟩:=valid_tree hv
   exact⟨x,fun _=>⟨h2,h3,h4⟩⟩
 refine FnE.walk Tryz.func134 rfl (by kernel_rfl) Tryz.ntmps134 rfl fun w0=>?_
 refine Af (Ad (Bm U U U (.tm U) (ts:=_) (by rfl)) U ?_);refine A6 (Bi 2 U U U Df U U U) U ?_;refine C5 (b:=2) 20001 4 0 U U U ?_;refine Ak ?_;refine Aa (Ae (Af (Aq Cd ?_)));refine Bv (specIsValidExpr e) ?_;refine C1 ?_;refine Ab ?_;refine Dc Di ?_;refine Db ty24 ?_;refine Ad (R_callq U (by exact .not1 U U U U) U (.cons (.tmp U (by exact id)) U .nil) fun hq=>FnT.fr ((by obtain⟨h2,h3,h4⟩:=hx (by simpa using hq);have hS:=specl10Size x h3 (by rw [h2];omega);rw [h2] at hS;exact hS))) U ?_;refine Ad (R_gt U (by exact .not1 U U U U) U (.tmp U (by exact id)) (.const U)) U ?_;refine Cx ?_;refine Aa (Ai (.tm U) (fun h13=>?_) (fun h13=>?_))
 · try simp at h13
   refine Ae (Ar (Av [0,1,2,3] [2,20001]) ?_);refine Ac (Ad (Bo (ps:=[]) U U U Df U U st26 .nil U) U ?_);refine Ci (i:=14) 20002 4 0 U U U ?_;refine Az Cd ?_;refine Bq (Av [0,1,2,3] [2,20001,20002]) ?_;refine Ak ?_;refine Aa (Am ?_);apply ERes.mk (x:=⟨⟨[]⟩,false⟩)
   case h=>
    refine Cy U (.cell U U Cd U U (.tmp U .nil)) U ?_ (by simp)
    rfl
   case hp=>exact (fun h=>by cases h)
 try simp at h13
 have hv:isValidExpr e=true∧szT x≤5000:=by (first|exact h13|exact⟨h13.1,h13.2⟩|(simp at h13;exact⟨h13.1,h13.2⟩))
 obtain⟨h2,h3,h4⟩:=hx hv.1
 have hle:=exR_len x h3 (by omega)
 refine Aj (Ae (Ar (Av [0,1,2,3] [2,20001]) ?_));refine Ac (Bg Di ?_);refine Aq ty24 ?_;refine Cc (Cq 1700 ((by have hE:=specl10Expand x h3 (by rw [h2];omega) (by omega);rw [h2] at hE;exact hE)) U U U (.cons (.tm U) U .nil) U U) U ?_;refine A6 (Bi 4 U U U Df U U U) U ?_;refine C5 (b:=4) 20003 4 0 U U U ?_;refine Az Cd ?_;refine Aa (Ae (Af (Br Di ?_)));refine A9 ty24 ?_;refine Be (.rf U) Tryz.underlying24 ?_;refine AWl.gc ?_;refine Aa (Ai (.tm U) (fun h21=>?_) (fun h21=>?_))
 · try simp at h21
   refine Ae (Ar (Av [0,1,2,3,4] [2,20001,1700,4,20003]) ?_);refine Ac (Ad (Bo (ps:=[]) U U U Df U U st26 .nil U) U ?_);refine Ci (i:=22) 20004 4 0 U U U ?_;refine Az Cd ?_;refine Bq (Av [0,1,2,3,4] [2,20001,1700,4,20003,20004]) ?_;refine Ak ?_;refine Aa (Am ?_);apply ERes.mk (x:=⟨⟨[]⟩,false⟩)
   case h=>
    refine Cy U (.cell U U Cd U U (.tmp U .nil)) U ?_ (by simp)
    rfl
   case hp=>exact (fun h=>by cases h)
 try simp at h21
 refine Aj (Ae (Ar (Av [0,1,2,3,4] [2,20001,1700,4,20003]) ?_));refine Ac (A9 Cd ?_);refine Az Cd ?_;refine Bq (Av [0,1,2,3,4] [2,20001,1700,4,20003]) ?_;refine Ak ?_;refine Aa (Am ?_);apply ERes.mk (x:=⟨⟨toks (exR x)⟩,true⟩)
 case h=>
  refine Cy U (.cell U U Cd U U (.tmp U .nil)) U ?_ (by simp)
  rfl
 case hp=>exact (fun _=>⟨exR x,exR_good x h3,rfl,by show (toks (exR x)).length≤400;(try simp at h21);omega⟩)
theorem specBuildPositionsD (e:TExpr):FnE Tryz.prog 64 [.agg (cExpr e)] bpP bpOut:=by
 refine FnE.walk Tryz.func64 rfl (by kernel_rfl) Tryz.ntmps64 rfl fun w0=>?_
 refine Af (Ad (Bm U U U (.tm U) (ts:=_) (by rfl)) U ?_);refine A6 (Bi 2 U U U in92 U U U) U ?_;refine Ak ?_;refine Aa (Af (Aq Cd ?_));refine Bd (R_callE 1200 (specExpandExprD e) U U U (.cons (.tm U) U .nil) (fun _=>rfl) (fun _=>rfl)) ?_
 rintro _ ⟨z12,hz12,rfl⟩
 try dsimp only at hz12
 refine Ad (R_movet U (.no U) U U fun _=>rfl) U ?_;refine Ad (B6 U (.no U) U U (fun _=>rfl) U) U ?_;refine Ad (B6 U (.no U) U U (fun _=>rfl) U) U ?_;refine A6 (Bi 4 U U U Df U U U) U ?_;refine Az Cd ?_;refine Bq (Av [0,1,2,3,4,14] [2,1200,4]) ?_;refine Ag ?_;refine Aa (Ae (Af (Ab ?_)));refine C1 ?_;refine Aa (Ai (.tm U) (fun h16=>?_) (fun h16=>?_))
 · try simp at h16
   refine Af (Ad (Bo (ps:=[]) U U U in92 U U st92 .nil U) U ?_);refine Ci (i:=17) 20001 1 0 U U U ?_;refine Ci (i:=17) 20002 1 3 U U U ?_;refine Az ty92 ?_;refine Bq (Av [0,1,2,3,4,5,16] [2,1200,4,20001,20002]) ?_;refine Ak ?_;refine Aa (Am ?_);apply ERes.mk (x:=⟨⟨[],0,0,[],false⟩,false⟩)
   case h=>
    refine Cy U (.cell U U ty92 U U (.tmp U .nil)) U ?_ (by simp)
    rfl
   case hp=>exact⟨rfl,by simp⟩
 try simp at h16
 obtain⟨x,hgx,htx,hlx⟩:=hz12 (by simpa using h16)
 refine Aj (Af (Ak ?_));refine Aa (Ae (Af (Ak ?_)));refine Aa (AW.block ?_);refine Cz (fun (i:Nat) (n:Int)=>(i≤z12.1.Tokens.length)∧n=(cntK (z12.1.Tokens.take i):Nat)) (fun (i:Nat) (n:Int)=>⟨_,[(7,(true,.a (.one (.t (.v (.int .i64 (i:Nat))))))),(6,(true,.a (.one (.t (.v (.int .i64 n)))))),(2,_),(3,_),(4,_)],[(2,.box [.t (.v (.slice none 0 0)),.t (.v (.int .i64 0)),.t (.v (.int .i64 0)),.t (.v (.slice none 0 0)),.t (.v (.bool false))]),(4,.box [.rf 1200]),(1200,.row 4 (z12.1.Tokens.map cToken))]⟩) (fun (i:Nat) (n:Int)=>z12.1.Tokens.length-i) (0) (0) ⟨Nat.zero_le _,by simp [cntK]⟩ A4 ?_
 rintro i n ⟨hk,he⟩
 refine Ae (Af (Ab ?_));refine Br Di ?_;refine A9 ty24 ?_;refine Be (.rf U) Tryz.underlying24 ?_;refine AWl.lt ?_;refine Aa (Ai (.tm U) (fun h22=>?_) (fun h22=>?_))
 · try simp at h22
   obtain⟨t,ht⟩:∃ ξ,z12.1.Tokens[i]?=some ξ:=⟨_,List.getElem?_eq_getElem (by omega)⟩
   have hck:cntK (z12.1.Tokens.take i)≤400:=Nat.le_trans (cntK_len _) (by rw [List.length_take];omega)
   refine Aj (Ae (AW.block (Af (Br Di ?_))));refine A9 ty24 ?_;refine Ab ?_;refine Ad (Ax U (.no U) U (.tm U) U (.tm U) Tryz.underlying24 Co (fun _=>⟨by omega,(Al ht)⟩)) U ?_;refine Ad (R_fieldAddr_pr U (.no U) U (.tm U) fl88_0) U ?_;refine Ad (Bu U (.no U) U (.tm U) U (Al ht) ty3 U U) U ?_;refine Bs ?_;refine Aa (Ai (.tm U) (fun h31=>?_) (fun h31=>?_))
   · try simp at h31
     refine Ar (Av [2,3,4,6,7] [2,4,1200]) ?_;refine Ac (Ab ?_);refine A8 ?_;refine Ag ?_;refine Aa (Ac (Ab ?_));refine A8 ?_;refine Ag ?_;refine Aa ?_
     repeat (with_reducible refine Au ?_)
     refine Round2.next (i+1) (n+1) ⟨by omega,(by rw [he,cntK_at ht,if_pos (by simpa using h31)];simp)⟩ (by omega) (Ap rfl ⟨rfl,rfl,rfl,rfl,rfl,Y⟩ ⟨(by rfl),(by rfl),(by rfl),Y⟩)
   try simp at h31
   refine Aj (Ar (Av [2,3,4,6,7] [2,4,1200]) ?_);refine Ac (Ab ?_);refine A8 ?_;refine Ag ?_;refine Aa ?_
   repeat (with_reducible refine Au ?_)
   refine Round2.next (i+1) (n) ⟨by omega,(by rw [he,cntK_at ht,if_neg (by simpa using h31)];simp)⟩ (by omega) (Ap rfl ⟨rfl,rfl,rfl,rfl,rfl,Y⟩ ⟨(by rfl),(by rfl),(by rfl),Y⟩)
 try simp at h22
 refine Bb (Ae (Af (Ab ?_)));refine AWl.gc ?_;refine Aa (Ai (.tm U) (fun h35=>?_) (fun h35=>?_))
 · try simp at h35
   refine Ae (Ar (Av [2,3,4,6,7] [2,4,1200]) ?_);refine Ac (Ad (Bo (ps:=[]) U U U in92 U U st92 .nil U) U ?_);refine Ci (i:=36) 20003 1 0 U U U ?_;refine Ci (i:=36) 20004 1 3 U U U ?_;refine Az ty92 ?_;refine Bq (Av [2,3,4,6,7] [2,4,1200,20003,20004]) ?_;refine Ak ?_;refine Aa (Am ?_);apply ERes.mk (x:=⟨⟨[],0,0,[],false⟩,false⟩)
   case h=>
    refine Cy U (.cell U U ty92 U U (.tmp U .nil)) U ?_ (by simp)
    rfl
   case hp=>exact⟨rfl,by simp⟩
 try simp at h35
 have hck2:cntK z12.1.Tokens≤20:=by (have hi:i=z12.1.Tokens.length:=(by omega);rw [hi,List.take_length] at he;(try simp at h35);omega)
 have hlet:lets x≤20:=by (have:=lets_le x hgx;rw [←htx] at this;omega)
 refine Aj (Ae (Ar (Av [2,3,4,6,7] [2,4,1200]) ?_));refine Ac (Ad (Bo (ps:=[]) U U U in92 U U st92 .nil U) U ?_);refine Ci (i:=37) 20005 1 0 U U U ?_;refine Ci (i:=37) 20006 1 3 U U U ?_;refine A6 (Bi 8 U U U in92 U U U) U ?_;refine Az ty92 ?_;refine Aa (Ae (Ar (Av [2,3,4,6,7,8] [2,4,1200,20005,20006,8]) ?_));refine Ac (Br Di ?_);refine A9 ty24 ?_;refine Bq (Le.frzR 1200 39 U U) ?_;refine Bd (R_callP (u:=8) (i1:=20005) (i2:=20006) (p:=⟨[],[],0,0,false⟩) ((by have hB:=specl10Build x hgx (by rw [←htx];omega);rw [←htx] at hB;exact hB)) U U U (.tm U) U (by rfl) (by rfl) ⟨by decide,by decide,by decide⟩ U (.cons (.tm U) U .nil) (show pre147 (lets x) ⟨[],[],0,0,false⟩ from ⟨U,by show 0+lets x≤24;omega⟩) (fun _=>rfl)) ?_
 rintro _ ⟨z40,hz40,rfl⟩
 try dsimp only at hz40
 refine A6 (Bi 9 U U U in160 U U U) U ?_;refine Az C9 ?_;refine Aa (Af (Br fl160_1 ?_));refine A9 ty3 ?_;refine Br fl92_1 ?_;refine Az ty3 ?_;refine Aa (Ae (Ar (Av [2,3,4,6,7,8,9] [2,4,20005,20006,8,9]) ?_));refine Ac (Br Dm ?_);refine A9 ty3 ?_;refine Br fl92_2 ?_;refine Az ty3 ?_;refine Aa (Af (Br fl160_0 ?_));refine A9 ty4 ?_;refine Br fl92_4 ?_;refine Az ty4 ?_;refine Aa (Ae (Ar (Av [2,3,4,6,7,8,9] [2,4,20005,20006,8,9]) ?_));refine Ac (A9 ty92 ?_);refine Az ty92 ?_;refine Bq (Av [2,3,4,6,7,8,9] [2,4,20005,20006,8,9]) ?_;refine Ak ?_;refine Aa (Am ?_);apply ERes.mk (x:=⟨⟨z40.1.L,z40.2.a,z40.2.b,z40.1.F,z40.2.z⟩,true⟩)
 case h=>
  refine Cy U (.cell U U ty92 U U (.tmp U .nil)) U ?_ (by simp)
  rfl
 case hp=>exact (by obtain⟨h3,h4⟩:=hz40;simp only [List.length_nil,Nat.zero_add] at h3 h4;exact⟨by show z40.1.L.length=z40.1.F.length;omega,by show z40.1.L.length≤24;omega⟩)
theorem specl11SubsetsD (p:TPositions) (h:posOk p) (most:Int) (hm:1≤most∧most≤200):FnE Tryz.prog 65 [.agg (cPositions p),.one (.v (.int .i64 most))] subP subOut:=by
 refine FnE.walk Tryz.func65 rfl (by kernel_rfl) Tryz.ntmps65 rfl fun w0=>?_
 refine Af (Ad (Bm U U U (.tm U) (ts:=_) (by rfl)) U ?_);refine A6 (Bi 4 U U U in36 U U U) U ?_;refine C5 (b:=4) 20001 1 1 U U U ?_;refine C5 (b:=4) 20002 1 2 U U U ?_;refine Ak ?_;refine Aa (Af (Ad (Bo (ps:=[]) U U U in36 U U st36 .nil U) U ?_));refine Ci (i:=13) 20003 1 1 U U U ?_;refine Ci (i:=13) 20004 1 2 U U U ?_;refine A6 (Bi 6 U U U in36 U U U) U ?_;refine Az Bt ?_;refine Aa (Af (Bn (Ce (xs:=[.const (.int .i64 (1))]) 14 U U U (.cons (.const U) U U .nil) Tryz.underlying40 in3 U U U U) U ?_));refine Ag ?_;refine Aa (Ae (Af (Ak ?_)));refine Aa (AW.block ?_)
 refine AW.loop4 (fun (s:Nat) (W:List Int) (B:List Bool) (N:List (List Int))=>((s≤W.length∧(W.length:Int)≤most∧1≤W.length∧N.length=s∧B.length=s)∧∀ r∈N,r.length=9)∧True) (fun (s:Nat) (W:List Int) (B:List Bool) (N:List (List Int))=>⟨_,[(8,(true,.a (.one (.t (.v (.int .i64 (s:Nat))))))),(7,(true,.a (.one (.rf 14)))),(1,_),(2,_),(4,_),(6,_)],[(14,.row 1 (W.map cInt)),(4,.box [.t (.v (.int .i64 0)),.rf 20001,.rf 20002]),(20001,.row 1 []),(20002,.row 1 []),(6,.box [.t (.v (.int .i64 0)),.rf 20003,.rf 20004]),(20003,.row 1 (B.map cBool)),(20004,.row 1 (N.map cIntS))]⟩) (fun (s:Nat) (W:List Int) (B:List Bool) (N:List (List Int))=>200-s) (0) ([1]) ([]) ([]) ⟨⟨⟨Nat.zero_le _,by simp;omega,by simp,U,U⟩,by simp⟩,Y⟩ A4 ?_
 rintro s W B N ⟨hk,he⟩
 refine Ae (Af (Ab ?_));refine Ab ?_;refine Be (.rf U) Tryz.underlying40 ?_;refine AWl.lt ?_;refine Aa (Ai (.tm U) (fun h18=>?_) (fun h18=>?_))
 · try simp at h18
   have hsW:s<W.length:=by (first|omega|(simp at h18;omega))
   refine Aj (Ae (AW.block (Af (A6 (Cu 21 U U U Tryz.underlying40 ty3 U) U ?_))));refine Ag ?_;refine Aa (Ae (Af (Ak ?_)));refine Aa (AW.block ?_);refine C6 (fun (k:Nat) (ro:List Int) (W1:List Int)=>(k≤9∧ro.length=k∧W1.length≤W.length+k∧W.length≤W1.length)∧True) (fun (k:Nat) (ro:List Int) (W1:List Int)=>⟨_,[(10,(true,.a (.one (.t (.v (.int .i64 (k:Nat))))))),(9,(true,.a (.one (.rf 21)))),(7,(true,.a (.one (.rf 14)))),(1,_),(2,_),(4,_),(6,_),(8,_)],[(21,.row 1 (ro.map cInt)),(14,.row 1 (W1.map cInt)),(4,.box [.t (.v (.int .i64 0)),.rf 20001,.rf 20002]),(20001,.row 1 []),(20002,.row 1 []),(6,.box [.t (.v (.int .i64 0)),.rf 20003,.rf 20004]),(20003,.row 1 (B.map cBool)),(20004,.row 1 (N.map cIntS))]⟩) (fun (k:Nat) (ro:List Int) (W1:List Int)=>9-k) (0) ([]) (W) ⟨⟨by omega,U,by omega,by omega⟩,Y⟩ A4 ?_
   rintro k ro W1 ⟨hk1,he1⟩
   refine Ae (Af (Ab ?_));refine Du ?_;refine Aa (Ai (.tm U) (fun h23=>?_) (fun h23=>?_))
   · try simp at h23
     obtain⟨w1,hw1⟩:∃ ξ,W1[s]?=some ξ:=⟨_,List.getElem?_eq_getElem (by omega)⟩
     refine Aj (Ae (AW.block (Ae (Ar (Av [1,2,4,6,7,8,9,10,22,23] [21,14,4,20001,20002,6,20003,20004]) ?_))));apply Cg (N:=6) (k:=2) (Hs:=[0,1,2,5]) (ms:=[[],[3],[3,4]]) (es:=[(0,3,1),(1,4,2)]) (σ1:=_) (SM:=⟨_,[(1,_),(2,_),(4,_),(6,_),(7,_),(8,_),(9,_),(10,_),(22,_),(23,_),(26,_),(27,_),(28,_),(31,_)],[(21,_),(14,_),(4,_),(20001,_),(20002,_),(6,_),(20003,_),(20004,_)]⟩)
     case hm=>kernel_rfl
     case hB=>kernel_rfl
     case hP=>kernel_rfl
     case hL=>kernel_rfl
     case hN=>rfl
     case hpre=>
      apply Ao (P:=Tryz.prog) 0 rfl ((Ca rfl (.no rfl) rfl (.tm rfl) ty92 rfl rfl)) (by exact HasV.ld (x:=.tmp 2) (.tm rfl) rfl rfl) rfl rfl rfl;apply Ao (P:=Tryz.prog) 1 rfl (Bh rfl (.no rfl) rfl (.tm rfl)) (by exact HasV.slot (t:=7) rfl) rfl rfl rfl;apply Ao (P:=Tryz.prog) 2 rfl (Bh rfl (.no rfl) rfl (.tm rfl)) (by exact HasV.slot (t:=8) rfl) rfl rfl rfl;apply Ao (P:=Tryz.prog) 5 rfl (Bh rfl (.no rfl) rfl (.tm rfl)) (by exact HasV.slot (t:=10) rfl) rfl rfl rfl;exact PreOk.nil
     case hS=>exact A5
     case hH=>
      refine⟨⟨_,_,_,rfl,rfl,rfl,fun σ' hs=>(by exact Ca rfl (.no rfl) (Ah hs rfl) (.tm (hs.slots _ _ rfl)) ty92 rfl rfl)⟩,?_⟩
      refine LocsH.mv ?_;refine LocsH.mv ?_;refine LocsH.mv ?_
      trivial
     apply Dh.new0 (i:=3);rfl;rfl;rfl
     · intro w9 _;refine Ad (by exact Ax U (.no U) U (.tm U) U (.tm U) Tryz.underlying40 ty3 (fun _=>⟨by omega,(Al hw1)⟩)) U ?_;exact An [1,2,4,6,7,8,9,10,22,23,26,27,28,29,31] [21,14,4,20001,20002,6,20003,20004]
     intros;exact A5
     apply Dh.new0 (i:=4);rfl;rfl;rfl
     · intro w9 _;refine Ad (Bu U (.no U) U (.tm U) U (Al hw1) ty3 U U) U ?_;exact An [1,2,4,6,7,8,9,10,22,23,26,27,28,30,31] [21,14,4,20001,20002,6,20003,20004]
     intros;exact A5
     refine Dh.fin0 (k:=2) rfl ?_;intro  hp
     obtain _:=hp
     refine Bd (R_callE 3200 (specl10After p h _ _) U U U (.cons (.tm U) U (.cons (.tm U) U (.cons (.tm U) U .nil))) (fun _=>rfl) (fun _=>rfl)) ?_
     rintro _ ⟨z32,hz32,rfl⟩
     try dsimp only at hz32
     refine Ag ?_;refine Aa (Ae (Ar (Av [1,2,4,6,7,8,9,10,11] [21,14,4,20001,20002,6,20003,20004]) ?_));refine Ac (Ak ?_);refine Aa (Ae (Af (Ab ?_)));refine AWl.nc ?_;refine Aa (Ai (.tm U) (fun h34=>?_) (fun h34=>?_))
     · try simp at h34
       refine Af (Ab ?_);refine Ab ?_;refine Bd (R_callE 3700 (specl11FindD W1 _ (by omega)) U U U (.cons (.tm U) U (.cons (.tm U) U .nil)) (fun _=>rfl) (fun _=>rfl)) ?_
       rintro _ ⟨z37,hz37,rfl⟩
       try dsimp only at hz37
       refine Ag ?_;refine Aa (Af (Ab ?_));refine Du ?_;refine Aa (Ai (.tm U) (fun h39=>?_) (fun h39=>?_))
       · try simp at h39
         refine Ae (Ar (Av [1,2,4,6,7,8,9,10,11,12] [21,14,4,20001,20002,6,20003,20004]) ?_);refine Ac (Ab ?_);refine Be (.rf U) Tryz.underlying40 ?_;refine Ag ?_;refine Aa (Ac (Ab ?_));refine Ab ?_;refine Ad (B7 (xs:=[.tmp 43]) (rows:=[cInt z32]) U U U (.cons (.tm U) U U .nil) Tryz.underlying40 in3 U U (U)) U ?_;refine Bl (Bw U U U (.tm U) U (.tm U) (by exact .t) (by rfl) Tryz.underlying40 in3 U (by (simp [chunk];omega)) (by (unfold maxLen;simp [chunk];omega))) U ?_;refine Bq (Av [1,2,4,6,7,8,9,10,11,12,45] [21,14,4,20001,20002,6,20003,20004]) ?_;refine Ag ?_;refine Aa (Ac (Ab ?_));refine Ab ?_;refine Ad (B7 (xs:=[.tmp 47]) (rows:=[cInt _]) U U U (.cons (.tm U) U U .nil) Tryz.underlying40 in3 U U (U)) U ?_;refine Bl (Bw U U U (.tm U) U (.tm U) (by exact .t) (by rfl) Tryz.underlying40 in3 U (by (simp [chunk];omega)) (by (unfold maxLen;simp [chunk];omega))) U ?_
         refine Bq (Av [1,2,4,6,7,8,9,10,11,12,49] [21,14,4,20001,20002,6,20003,20004]) ?_;refine Ag ?_;refine Aa (Ac (Ab ?_));refine A8 ?_;refine Ag ?_;refine Aa ?_
         repeat (with_reducible refine Au ?_)
         refine Round3.next (k+1) (ro++[(W1.length:Int)]) (W1++[z32]) ⟨⟨by omega,by simp;omega,by simp;omega,by simp;omega⟩,Y⟩ (by omega) (Ap rfl ⟨rfl,rfl,rfl,rfl,rfl,rfl,rfl,rfl,Y⟩ ⟨(by (refine congrArg (fun r=>some (R.row _ r)) ?_;simp [chunk,List.map_set,cInt,cBool,cIntS,cPair,cToken,cExpr,cEdge,cGraph,cStep,cWalk,cChange,cBatch,cHistory,cPositions,cAutomaton,cProductStep,cPathAtom,cConjunction,cView,cDelta,cRegistered,cRegistry])),(by (refine congrArg (fun r=>some (R.row _ r)) ?_;simp [chunk,List.map_set,cInt,cBool,cIntS,cPair,cToken,cExpr,cEdge,cGraph,cStep,cWalk,cChange,cBatch,cHistory,cPositions,cAutomaton,cProductStep,cPathAtom,cConjunction,cView,cDelta,cRegistered,cRegistry])),(by rfl),(by rfl),(by rfl),(by rfl),(by rfl),(by rfl),Y⟩)
       try simp at h39
       refine Aj (Ar (Av [1,2,4,6,7,8,9,10,11,12] [21,14,4,20001,20002,6,20003,20004]) ?_);refine Ac (Ab ?_);refine Ab ?_;refine Ad (B7 (xs:=[.tmp 47]) (rows:=[cInt _]) U U U (.cons (.tm U) U U .nil) Tryz.underlying40 in3 U U (U)) U ?_;refine Bl (Bw U U U (.tm U) U (.tm U) (by exact .t) (by rfl) Tryz.underlying40 in3 U (by (simp [chunk];omega)) (by (unfold maxLen;simp [chunk];omega))) U ?_;refine Bq (Av [1,2,4,6,7,8,9,10,11,12,49] [21,14,4,20001,20002,6,20003,20004]) ?_;refine Ag ?_;refine Aa (Ac (Ab ?_));refine A8 ?_;refine Ag ?_;refine Aa ?_
       repeat (with_reducible refine Au ?_)
       refine Round3.next (k+1) (ro++[z37]) (W1) ⟨⟨by omega,by simp;omega,by omega,by omega⟩,Y⟩ (by omega) (Ap rfl ⟨rfl,rfl,rfl,rfl,rfl,rfl,rfl,rfl,Y⟩ ⟨(by (refine congrArg (fun r=>some (R.row _ r)) ?_;simp [chunk,List.map_set,cInt,cBool,cIntS,cPair,cToken,cExpr,cEdge,cGraph,cStep,cWalk,cChange,cBatch,cHistory,cPositions,cAutomaton,cProductStep,cPathAtom,cConjunction,cView,cDelta,cRegistered,cRegistry])),(by rfl),(by rfl),(by rfl),(by rfl),(by rfl),(by rfl),(by rfl),Y⟩)
     try simp at h34
     refine Aj (Ac (Ab ?_));refine Ab ?_;refine Ad (B7 (xs:=[.tmp 47]) (rows:=[cInt _]) U U U (.cons (.tm U) U U .nil) Tryz.underlying40 in3 U U (U)) U ?_;refine Bl (Bw U U U (.tm U) U (.tm U) (by exact .t) (by rfl) Tryz.underlying40 in3 U (by (simp [chunk];omega)) (by (unfold maxLen;simp [chunk];omega))) U ?_;refine Bq (Av [1,2,4,6,7,8,9,10,11,12,34,49] [21,14,4,20001,20002,6,20003,20004]) ?_;refine Ag ?_;refine Aa (Ac (Ab ?_));refine A8 ?_;refine Ag ?_;refine Aa ?_
     repeat (with_reducible refine Au ?_)
     refine Round3.next (k+1) (ro++[-1]) (W1) ⟨⟨by omega,by simp;omega,by omega,by omega⟩,Y⟩ (by omega) (Ap rfl ⟨rfl,rfl,rfl,rfl,rfl,rfl,rfl,rfl,Y⟩ ⟨(by (refine congrArg (fun r=>some (R.row _ r)) ?_;simp [chunk,List.map_set,cInt,cBool,cIntS,cPair,cToken,cExpr,cEdge,cGraph,cStep,cWalk,cChange,cBatch,cHistory,cPositions,cAutomaton,cProductStep,cPathAtom,cConjunction,cView,cDelta,cRegistered,cRegistry])),(by rfl),(by rfl),(by rfl),(by rfl),(by rfl),(by rfl),(by rfl),Y⟩)
   try simp at h23
   refine Bb (Ae (Af (Ab ?_)));refine Be (.rf U) Tryz.underlying40 ?_;refine Ab ?_;refine Ad (R_gt U (.no U) U (.tm U) (.tm U)) U ?_;refine Aa (Ai (.tm U) (fun h53=>?_) (fun h53=>?_))
   · try simp at h53
     refine Ae (Ar (Av [1,2,4,6,7,8,9,10] [21,14,4,20001,20002,6,20003,20004]) ?_);refine Ac (Ad (Bo (ps:=[]) U U U in36 U U st36 .nil U) U ?_);refine Ci (i:=54) 20005 1 1 U U U ?_;refine Ci (i:=54) 20006 1 2 U U U ?_;refine Az Bt ?_;refine Bq (Av [1,2,4,6,7,8,9,10] [21,14,4,20001,20002,6,20003,20004,20005,20006]) ?_;refine Ak ?_;refine Aa (Am ?_);apply ERes.mk (x:=⟨⟨0,[],[]⟩,false⟩)
     case h=>
      refine Cy U (.cell U U Bt U U (.tmp U .nil)) U ?_ (by simp)
      rfl
     case hp=>exact (fun h=>by cases h)
   try simp at h53
   obtain⟨w1,hw1⟩:∃ ξ,W1[s]?=some ξ:=⟨_,List.getElem?_eq_getElem (by omega)⟩
   refine Aj (Ae (Ar (Av [1,2,4,6,7,8,9,10] [21,14,4,20001,20002,6,20003,20004]) ?_));refine Ar (Av [1,2,4,6,7,8,9,10] [21,14,4,20001,20002,6,20003,20004]) ?_;apply Cg (N:=9) (k:=4) (Hs:=[0,1,2,3,4]) (ms:=[[],[5],[5,6],[5,6,7],[5,6,7,8]]) (es:=[(0,5,1),(1,6,2),(2,7,3),(3,8,4)]) (σ1:=_) (SM:=⟨_,[(1,_),(2,_),(4,_),(6,_),(7,_),(8,_),(9,_),(10,_),(55,_),(56,_),(57,_),(58,_),(59,_)],[(21,_),(14,_),(4,_),(20001,_),(20002,_),(6,_),(20003,_),(20004,_)]⟩)
   case hm=>kernel_rfl
   case hB=>kernel_rfl
   case hP=>kernel_rfl
   case hL=>kernel_rfl
   case hN=>rfl
   case hpre=>
    apply Ao (P:=Tryz.prog) 0 rfl ((Ba rfl (.no rfl) rfl (.tm rfl) C0)) (by exact .pp) rfl rfl rfl;apply Ao (P:=Tryz.prog) 1 rfl ((by exact Bk rfl (.no rfl) rfl (.tm rfl) rfl ty33 rfl rfl)) (by exact HasV.load (x:=.tmp 55) (.tm rfl) rfl ty33 rfl rfl) rfl rfl rfl;apply Ao (P:=Tryz.prog) 2 rfl ((by exact Ca rfl (.no rfl) rfl (.tm rfl) ty92 rfl rfl)) (by exact HasV.ld (x:=.tmp 2) (.tm rfl) rfl rfl) rfl rfl rfl;apply Ao (P:=Tryz.prog) 3 rfl (Bh rfl (.no rfl) rfl (.tm rfl)) (by exact HasV.slot (t:=7) rfl) rfl rfl rfl;apply Ao (P:=Tryz.prog) 4 rfl (Bh rfl (.no rfl) rfl (.tm rfl)) (by exact HasV.slot (t:=8) rfl) rfl rfl rfl;exact PreOk.nil
   case hS=>exact A5
   case hH=>
    refine LocsH.fq C0 ?_;refine LocsH.lq ty33 ?_
    refine⟨⟨_,_,_,rfl,rfl,rfl,fun σ' hs=>(by exact Ca rfl (.no rfl) (Ah hs rfl) (.tm (hs.slots _ _ rfl)) ty92 rfl rfl)⟩,?_⟩
    refine LocsH.mv ?_;refine LocsH.mv ?_
    trivial
   apply Dh.new0 (i:=5);rfl;rfl;rfl
   · intro w9 _;refine Ad (by exact Ax U (.no U) U (.tm U) U (.tm U) Tryz.underlying40 ty3 (fun _=>⟨by omega,(Al hw1)⟩)) U ?_;exact An [1,2,4,6,7,8,9,10,55,56,57,58,59,60] [21,14,4,20001,20002,6,20003,20004]
   intros;exact A5
   apply Dh.new0 (i:=6);rfl;rfl;rfl
   · intro w9 _;refine Ad (Bu U (.no U) U (.tm U) U (Al hw1) ty3 U U) U ?_;exact An [1,2,4,6,7,8,9,10,55,56,57,58,59,61] [21,14,4,20001,20002,6,20003,20004]
   intros;exact A5
   apply Dh.drw0 (i:=7)
   case ha=>rfl
   case ho=>rfl
   case hE=>
    intro  hp
    obtain _:=hp
    exact R_callE 6200 (specl10Accepts p _) rfl rfl rfl (.cons (.tm rfl) rfl (.cons (.tm rfl) rfl .nil)) (fun _=>rfl) (fun _=>rfl)
   case hb=>rfl
   case hL=>
    intro  z62 hp hy;exact EndQ.eq (Av [1,2,4,6,7,8,9,10,55,56,57,58,59,62] [21,14,4,20001,20002,6,20003,20004]) U
   case hS=>intros;exact A5
   apply Dh.new1 (i:=8);rfl;rfl;rfl
   · intro w9 z62 hp
     obtain⟨_,hz62⟩:=hp
     refine Bn (Ce (xs:=[.tmp 62]) 63 U U U (.cons (.tm U) U U .nil) Tryz.underlying33 in4 U U U U) U ?_;exact An [1,2,4,6,7,8,9,10,55,56,57,58,59,63] [21,14,4,20001,20002,6,20003,20004,63]
   intros;exact A5
   refine Dh.fin1 (k:=4) rfl ?_;intro z62 hp
   obtain⟨_,hz62⟩:=hp
   refine Bl (Bw U U U (.tm U) U (.tm U) (by exact .rf U) (by rfl) Tryz.underlying33 in4 U (by (simp [chunk];omega)) (by (unfold maxLen;simp [chunk];omega))) U ?_;refine Bq (Av [1,2,4,6,7,8,9,10,64] [21,14,4,20001,20002,6,20003,20004,63]) ?_;refine Br C0 ?_;refine Az ty33 ?_;refine Aa (Ac (Br C4 ?_));refine A9 ty34 ?_;refine Ab ?_;refine Bn (Ce (xs:=[.tmp 68]) 69 U U U (.cons (.tm U) U U .nil) Tryz.underlying34 in40 U U U U) U ?_;refine Dr (R_append_own U U U (.tm U) U (.tm U) U U Tryz.underlying34 in40 U (by (simp [chunk];omega)) (by (unfold maxLen;simp [chunk];omega))) U ?_;refine Bq (Av [1,2,4,6,7,8,9,10,70] [14,4,20001,20002,6,20003,20004,63]) ?_;refine Br C4 ?_;refine Az ty34 ?_;refine Aa (Ac (Ab ?_));refine A8 ?_;refine Ag ?_;refine Aa ?_
   repeat (with_reducible refine Au ?_)
   refine Round4.next (s+1) (W1) (B++[z62]) (N++[ro]) ⟨by ((try simp at h53);refine⟨⟨by omega,by omega,by omega,by simp;omega,by simp;omega⟩,fun r hr=>?_⟩;rcases List.mem_append.1 hr with hr|hr;exact hk.2 r hr;rw [List.mem_singleton.1 hr];omega),Y⟩ (by omega) (Ap rfl ⟨rfl,rfl,rfl,rfl,rfl,rfl,Y⟩ ⟨(by rfl),(by rfl),(by rfl),(by rfl),(by rfl),(by (refine congrArg (fun r=>some (R.row _ r)) ?_;simp [chunk,List.map_set,cInt,cBool,cIntS,cPair,cToken,cExpr,cEdge,cGraph,cStep,cWalk,cChange,cBatch,cHistory,cPositions,cAutomaton,cProductStep,cPathAtom,cConjunction,cView,cDelta,cRegistered,cRegistry])),(by (refine congrArg (fun r=>some (R.row _ r)) ?_;simp [chunk,List.map_set,cInt,cBool,cIntS,cPair,cToken,cExpr,cEdge,cGraph,cStep,cWalk,cChange,cBatch,cHistory,cPositions,cAutomaton,cProductStep,cPathAtom,cConjunction,cView,cDelta,cRegistered,cRegistry])),Y⟩)
 try simp at h18
 refine Bb (Af (A9 Bt ?_));refine Az Bt ?_;refine Bq (Av [1,2,4,6,7,8,18] [14,4,20001,20002,6,20003,20004]) ?_;refine Ak ?_;refine Aa (Am ?_);apply ERes.mk (x:=⟨⟨0,B,N⟩,true⟩)
 case h=>
  refine Cy U (.cell U U Bt U U (.tmp U .nil)) U ?_ (by simp)
  rfl
 case hp=>exact (fun _=>⟨by show 1≤N.length;(try simp at h18);omega,hk.2,by show B.length≤1000;omega⟩)
end Go.Proofs.YtbecibmlbiebeaaGreat
