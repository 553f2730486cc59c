import Derived.Test.YtdhojcaoljhbiaaGreatB170xs
set_option linter.unusedVariables false
set_option linter.unusedSimpArgs false
set_option maxRecDepth 100000
set_option maxHeartbeats 1000000
set_option maxRecDepth 100000
namespace Go.Q
open Go.RowKit Go.D
def expX (e:TExpr) (z:TExpr×Bool):Prop:=z.2=true→∃ x:Tr,good x∧toks x=e.Tokens∧z.1.Tokens=toks (exR x)∧z.1.Tokens.length≤400
def bpX (e:TExpr) (z:TPositions×Bool):Prop:=z.2=true→∃ x:Tr,good x∧toks x=e.Tokens∧z.1=posV (pnT (exR x))∧lets (exR x)≤20
theorem pnT_ok {x:Tr} (h:lets x≤20):PNok (pnT x):=⟨by show (foT 0 x).length=(lsT x).length;rw [foT_len,lsT_len],by show (lsT x).length≤20;rw [lsT_len];exact h,foT_lt (by omega),fiT_lt (by omega),laT_lt (by omega)⟩
def subX (P:PN) (z:TAutomaton×Bool):Prop:=z.2=true→ShA z.1∧z.1.Accept.length≤200∧(∀ w,inW w→LA z.1 0 w=LP P 1 w)∧z.1.Start=0
def compX (e:TExpr) (z:TAutomaton×Bool):Prop:=(z.2=true→∃ x:Tr,good x∧toks x=e.Tokens∧CanA z.1∧z.1.Accept.length≤12∧∀ w,inW w→(LA z.1 0 w=true↔lang x w))∧(z.2=false→z.1=⟨0,[],[]⟩)
theorem lsT_nn:∀ {x:Tr},good x→∀ c∈lsT x,0≤c
 | .leaf t,hg=>by
  have e:lsT (.leaf t)=if t.Kind=3 then [t.Letter] else []:=rfl
  rw [e]
  intro c hc
  split at hc
  · rename_i h3
    rw [List.mem_singleton] at hc
    subst hc
    have ha:arity t=0:=hg
    unfold arity at ha
    rw [if_neg (by omega),if_pos h3] at ha
    split at ha
    · rename_i h;unfold inB at h;simp at h;omega
    omega
  cases hc
 | .un t x,hg=>by
  have e:lsT (.un t x)=if t.Kind=6 then lsT x else []:=rfl
  rw [e]
  intro c hc
  split at hc
  · exact lsT_nn hg.2 c hc
  cases hc
 | .bin t x y,hg=>by
  have e:lsT (.bin t x y)=lsT x++lsT y:=rfl
  rw [e]
  intro c hc
  rcases List.mem_append.1 hc with h|h
  · exact lsT_nn hg.2.1 c h
  exact lsT_nn hg.2.2 c h
theorem aft_lt {P:PN} (h:PNok P) (V1 k:Nat):aftP P V1 k<33554432:=Nat.lt_of_lt_of_le (oU_lt20 h.l20) (by decide)
section
variable {P:PN} {s k V1:Nat} {W:List Nat} {X:List Bool} {Y:List (List Int)} {row:List Int}
theorem findN {W:List Nat} {v:Nat}:(findI (fun x=>decide ((v:Int)=x)) (natI W) 0=-1∧v∉W)∨∃ j:Nat,findI (fun x=>decide ((v:Int)=x)) (natI W) 0=(j:Int)∧W[j]?=some v:=by
 rcases findA (l:=natI W) (v:=(v:Int)) 0 with ⟨h1,h2⟩|⟨j,h1,h2⟩
 · exact .inl ⟨h1,fun hm=>h2 (List.mem_map.2 ⟨v,hm,rfl⟩)⟩
 refine .inr ⟨j,by rw [h1,Nat.zero_add],?_⟩
 unfold natI at h2
 rw [List.getElem?_map] at h2
 cases hw:W[j]? with
 | none=>rw [hw] at h2;cases h2
 | some u=>rw [hw] at h2;simp at h2;rw [show u=v by omega]
theorem SubI.pushN (h:SubI P s W X Y row) (hs:s<W.length) (hw:row.length=k) (hk:k<9) (hS:W[s]?=some V1) (hn:aftP P V1 k≠0) (hP:PNok P) (hf:findI (fun x=>decide (((aftP P V1 k:Nat):Int)=x)) (natI W) 0<0):SubI P s (W++[aftP P V1 k]) X Y (row++[(W.length:Int)]):=
 h.push hs hw hk hS (.inr ⟨_,rfl,aft_lt hP V1 k⟩) (.inr ⟨hn,W.length,rfl,by rw [List.getElem?_append_right (Nat.le_refl _)];simp⟩)
theorem SubI.pushO (h:SubI P s W X Y row) (hs:s<W.length) (hw:row.length=k) (hk:k<9) (hS:W[s]?=some V1) (hn:aftP P V1 k≠0) (hf:¬ findI (fun x=>decide (((aftP P V1 k:Nat):Int)=x)) (natI W) 0<0):SubI P s W X Y (row++[findI (fun x=>decide (((aftP P V1 k:Nat):Int)=x)) (natI W) 0]):=by
 rcases findN (W:=W) (v:=aftP P V1 k) with ⟨h1,_⟩|⟨j,h1,h2⟩
 · omega
 rw [h1];exact h.push hs hw hk hS (.inl rfl) (.inr ⟨hn,j,rfl,h2⟩)
theorem SubI.pushD (h:SubI P s W X Y row) (hs:s<W.length) (hw:row.length=k) (hk:k<9) (hS:W[s]?=some V1) (hn:aftP P V1 k=0):SubI P s W X Y (row++[-1]):=
 h.push hs hw hk hS (.inl rfl) (.inl ⟨hn,rfl⟩)
end
end Go.Q
namespace Go.Proofs.YtdhojcaoljhbiaaGreat
open Go.RowKit Go.Q Go.D
theorem specExpandExprX (e:TExpr):FnE Tryz.prog 92 [.agg (cExpr e)] (expX e) expOut:=by
 obtain⟨x,hx⟩:∃ x:Tr,isValidExpr e=true→toks x=e.Tokens∧good x∧e.Tokens.length≤24:=by
  cases hv:isValidExpr e with
  | false=>exact⟨.leaf (tok0 1),fun h=>by cases h⟩
  | true=>
   obtain⟨x,_,h2,h3,h4⟩:=valid_tree hv
   exact⟨x,fun _=>⟨h2,h3,h4⟩⟩
 refine FnE.walk Tryz.func92 rfl (by kernel_rfl) Tryz.ntmps92 rfl fun w0=>?_
 refine Af (Ac (Bo U U U (.tm U) (ts:=_) (by rfl)) U ?_);refine Aq (Au 2 U U U Ce U U U) U ?_;refine Cr (b:=2) 20001 4 0 U U U ?_;refine AWl.ac ?_;refine Aa (Ae (Af (Ak Ar ?_)));refine Bu (specIsValidExpr e) ?_;refine Cw ?_;refine Ab ?_;refine Cy Be ?_;refine Cx Cd ?_;refine Ac (Dk U (by exact .not1 U U U U) U (.cons (.tmp U (by exact id)) U .nil) fun hq=>FnT.fr ((by obtain⟨h2,h3,h4⟩:=hx (by simpa using hq);have hS:=specl10Size x h3 (by rw [h2];omega);rw [h2] at hS;exact hS))) U ?_;refine Ac (R_gt U (by exact .not1 U U U U) U (.tmp U (by exact id)) (.const U)) U ?_;refine Cj ?_;refine Aa (Ah (.tm U) (fun h13=>?_) (fun h13=>?_))
 · try simp at h13
   refine Ae (Al (Ap [0,1,2,3] [2,20001]) ?_);refine Ad (Ac (A9 (ps:=[]) U U U Ce U U st26 .nil U) U ?_);refine B7 (i:=14) 20002 4 0 U U U ?_;refine Ao Ar ?_;refine Bm (Ap [0,1,2,3] [2,20001,20002]) ?_;refine AWl.ac ?_;refine Aa (Ai ?_);apply ERes.mk (x:=⟨⟨[]⟩,false⟩)
   case h=>
    refine Cf U (.cell U U Ar U U (.tmp U .nil)) U ?_ (by simp)
    rfl
   case hp=>exact (fun h=>by cases h)
 try simp at h13
 have hv:isValidExpr e=true∧szT x≤5000:=by (first|exact h13|exact⟨h13.1,h13.2⟩|(simp at h13;exact⟨h13.1,h13.2⟩))
 obtain⟨h2,h3,h4⟩:=hx hv.1
 have hle:=exR_len x h3 (by omega)
 refine AW.skip (Ae (Al (Ap [0,1,2,3] [2,20001]) ?_));refine Ad (A8 Be ?_);refine Ak Cd ?_;refine Bc (Bq 1700 ((by have hE:=specl10Expand x h3 (by rw [h2];omega) (by omega);rw [h2] at hE;exact hE)) U U U (.cons (.tm U) U .nil) U U) U ?_;refine Aq (Au 4 U U U Ce U U U) U ?_;refine Cr (b:=4) 20003 4 0 U U U ?_;refine Ao Ar ?_;refine Aa (Ae (Af (Bd Be ?_)));refine A3 Cd ?_;refine Br (.rf U) Tryz.underlying24 ?_;refine AWl.gc ?_;refine Aa (Ah (.tm U) (fun h21=>?_) (fun h21=>?_))
 · try simp at h21
   refine Ae (Al (Ap [0,1,2,3,4] [2,20001,1700,4,20003]) ?_);refine Ad (Ac (A9 (ps:=[]) U U U Ce U U st26 .nil U) U ?_);refine B7 (i:=22) 20004 4 0 U U U ?_;refine Ao Ar ?_;refine Bm (Ap [0,1,2,3,4] [2,20001,1700,4,20003,20004]) ?_;refine AWl.ac ?_;refine Aa (Ai ?_);apply ERes.mk (x:=⟨⟨[]⟩,false⟩)
   case h=>
    refine Cf U (.cell U U Ar U U (.tmp U .nil)) U ?_ (by simp)
    rfl
   case hp=>exact (fun h=>by cases h)
 try simp at h21
 refine AW.skip (Ae (Al (Ap [0,1,2,3,4] [2,20001,1700,4,20003]) ?_));refine Ad (A3 Ar ?_);refine Ao Ar ?_;refine Bm (Ap [0,1,2,3,4] [2,20001,1700,4,20003]) ?_;refine AWl.ac ?_;refine Aa (Ai ?_);apply ERes.mk (x:=⟨⟨toks (exR x)⟩,true⟩)
 case h=>
  refine Cf U (.cell U U Ar U U (.tmp U .nil)) U ?_ (by simp)
  rfl
 case hp=>exact (fun _=>⟨x,h3,h2,rfl,by show (toks (exR x)).length≤400;(try simp at h21);omega⟩)
theorem specBuildPositionsX (e:TExpr):FnE Tryz.prog 45 [.agg (cExpr e)] (bpX e) bpOut:=by
 refine FnE.walk Tryz.func45 rfl (by kernel_rfl) Tryz.ntmps45 rfl fun w0=>?_
 refine Af (Ac (Bo U U U (.tm U) (ts:=_) (by rfl)) U ?_);refine Aq (Au 2 U U U in75 U U U) U ?_;refine AWl.ac ?_;refine Aa (Af (Ak Ar ?_));refine Bl (C8 1200 (specExpandExprX e) U U U (.cons (.tm U) U .nil) (fun _=>rfl) (fun _=>rfl)) ?_
 rintro _ ⟨z12,hz12,rfl⟩
 try dsimp only at hz12
 refine Ac (Dd U (.no U) U U fun _=>rfl) U ?_;refine Ac (Bx U (.no U) U U (fun _=>rfl) U) U ?_;refine Ac (Bx U (.no U) U U (fun _=>rfl) U) U ?_;refine Aq (Au 4 U U U Ce U U U) U ?_;refine Ao Ar ?_;refine Bm (Ap [0,1,2,3,4,14] [2,1200,4]) ?_;refine Ag ?_;refine Aa (Ae (Af (Ab ?_)));refine Cw ?_;refine Aa (Ah (.tm U) (fun h16=>?_) (fun h16=>?_))
 · try simp at h16
   refine Af (Ac (A9 (ps:=[]) U U U in75 U U st75 .nil U) U ?_);refine B7 (i:=17) 20001 1 0 U U U ?_;refine B7 (i:=17) 20002 1 3 U U U ?_;refine Ao ty75 ?_;refine Bm (Ap [0,1,2,3,4,5,16] [2,1200,4,20001,20002]) ?_;refine AWl.ac ?_;refine Aa (Ai ?_);apply ERes.mk (x:=⟨⟨[],0,0,[],false⟩,false⟩)
   case h=>
    refine Cf U (.cell U U ty75 U U (.tmp U .nil)) U ?_ (by simp)
    rfl
   case hp=>exact (fun h=>by cases h)
 try simp at h16
 obtain⟨x0,hg0,ht0,htx,hlx⟩:=hz12 (by simpa using h16)
 have hgx:=exR_good x0 hg0
 have hnx:=exR_norep x0
 refine AW.skip (Af (AWl.ac ?_));refine Aa (Ae (Af (AWl.ac ?_)));refine Aa (AW.block ?_);refine C6 (fun (i:Nat) (n:Int)=>(i≤z12.1.Tokens.length)∧n=(cntK (z12.1.Tokens.take i):Nat)) (fun (i:Nat) (n:Int)=>⟨_,[(7,(true,.a (.one (.t (.v (.int .i64 (i:Nat))))))),(6,(true,.a (.one (.t (.v (.int .i64 n)))))),(2,_),(3,_),(4,_)],[(2,.box [.t (.v (.slice none 0 0)),.t (.v (.int .i64 0)),.t (.v (.int .i64 0)),.t (.v (.slice none 0 0)),.t (.v (.bool false))]),(4,.box [.rf 1200]),(1200,.row 4 (z12.1.Tokens.map cToken))]⟩) (fun (i:Nat) (n:Int)=>z12.1.Tokens.length-i) (0) (0) ⟨Nat.zero_le _,by simp [cntK]⟩ Bi ?_
 rintro i n ⟨hk,he⟩
 refine Ae (Af (Ab ?_));refine Bd Be ?_;refine A3 Cd ?_;refine Br (.rf U) Tryz.underlying24 ?_;refine AWl.lt ?_;refine Aa (Ah (.tm U) (fun h22=>?_) (fun h22=>?_))
 · try simp at h22
   obtain⟨t,ht⟩:∃ ξ,z12.1.Tokens[i]?=some ξ:=⟨_,List.getElem?_eq_getElem (by omega)⟩
   have hck:cntK (z12.1.Tokens.take i)≤400:=Nat.le_trans (cntK_len _) (by rw [List.length_take];omega)
   refine AW.skip (Ae (AW.block (Af (Bd Be ?_))));refine A3 Cd ?_;refine Ab ?_;refine Ac (Ay U (.no U) U (.tm U) U (.tm U) Tryz.underlying24 Bv (fun _=>⟨by omega,(Am ht)⟩)) U ?_;refine Ac (Bh U (.no U) U (.tm U) Co) U ?_;refine Ac (Bt U (.no U) U (.tm U) U (Am ht) ty3 U U) U ?_;refine Ba ?_;refine Aa (Ah (.tm U) (fun h31=>?_) (fun h31=>?_))
   · try simp at h31
     refine Al (Ap [2,3,4,6,7] [2,4,1200]) ?_;refine Ad (Ab ?_);refine Bk ?_;refine Ag ?_;refine Aa (Ad (Ab ?_));refine Bk ?_;refine Ag ?_;refine Aa ?_
     repeat (with_reducible refine A7 ?_)
     refine Round2.next (i+1) (n+1) ⟨by omega,(by rw [he,cntK_at ht,if_pos (by simpa using h31)];simp)⟩ (by omega) (Az rfl ⟨rfl,rfl,rfl,rfl,rfl,Y⟩ ⟨(by rfl),(by rfl),(by rfl),Y⟩)
   try simp at h31
   refine AW.skip (Al (Ap [2,3,4,6,7] [2,4,1200]) ?_);refine Ad (Ab ?_);refine Bk ?_;refine Ag ?_;refine Aa ?_
   repeat (with_reducible refine A7 ?_)
   refine Round2.next (i+1) (n) ⟨by omega,(by rw [he,cntK_at ht,if_neg (by simpa using h31)];simp)⟩ (by omega) (Az rfl ⟨rfl,rfl,rfl,rfl,rfl,Y⟩ ⟨(by rfl),(by rfl),(by rfl),Y⟩)
 try simp at h22
 refine Bz (Ae (Af (Ab ?_)));refine AWl.gc ?_;refine Aa (Ah (.tm U) (fun h35=>?_) (fun h35=>?_))
 · try simp at h35
   refine Ae (Al (Ap [2,3,4,6,7] [2,4,1200]) ?_);refine Ad (Ac (A9 (ps:=[]) U U U in75 U U st75 .nil U) U ?_);refine B7 (i:=36) 20003 1 0 U U U ?_;refine B7 (i:=36) 20004 1 3 U U U ?_;refine Ao ty75 ?_;refine Bm (Ap [2,3,4,6,7] [2,4,1200,20003,20004]) ?_;refine AWl.ac ?_;refine Aa (Ai ?_);apply ERes.mk (x:=⟨⟨[],0,0,[],false⟩,false⟩)
   case h=>
    refine Cf U (.cell U U ty75 U U (.tmp U .nil)) U ?_ (by simp)
    rfl
   case hp=>exact (fun h=>by cases h)
 try simp at h35
 have hck2:cntK z12.1.Tokens≤20:=by (have hi:i=z12.1.Tokens.length:=(by omega);rw [hi,List.take_length] at he;(try simp at h35);omega)
 have hlet:lets (exR x0)≤20:=by (have:=lets_le (exR x0) hgx;rw [←htx] at this;omega)
 refine AW.skip (Ae (Al (Ap [2,3,4,6,7] [2,4,1200]) ?_));refine Ad (Ac (A9 (ps:=[]) U U U in75 U U st75 .nil U) U ?_);refine B7 (i:=37) 20005 1 0 U U U ?_;refine B7 (i:=37) 20006 1 3 U U U ?_;refine Aq (Au 8 U U U in75 U U U) U ?_;refine Ao ty75 ?_;refine Aa (Ae (Al (Ap [2,3,4,6,7,8] [2,4,1200,20005,20006,8]) ?_));refine Ad (Bd Be ?_);refine A3 Cd ?_;refine Bm (Le.frzR 1200 39 U U) ?_;refine Bl (R_callP (u:=8) (i1:=20005) (i2:=20006) (p:=⟨[],[],0,0,false⟩) ((by have hB:=specl10BuildX (exR x0) hgx hnx (by rw [←htx];omega) [] [] U (by simpa using hlet) (by simp);rw [←htx] at hB;exact hB)) U U U (.tm U) U (by rfl) (by rfl) ⟨by decide,by decide,by decide⟩ U (.cons (.tm U) U .nil) (show pre170 [] [] ⟨[],[],0,0,false⟩ from ⟨U,U⟩) (fun _=>rfl)) ?_
 rintro _ ⟨z40,hz40,rfl⟩
 try dsimp only at hz40
 refine Aq (Au 9 U U U in132 U U U) U ?_;refine Ao C0 ?_;refine Aa (Af (Bd fl132_1 ?_));refine A3 ty3 ?_;refine Bd fl75_1 ?_;refine Ao ty3 ?_;refine Aa (Ae (Al (Ap [2,3,4,6,7,8,9] [2,4,20005,20006,8,9]) ?_));refine Ad (Bd Df ?_);refine A3 ty3 ?_;refine Bd fl75_2 ?_;refine Ao ty3 ?_;refine Aa (Af (Bd fl132_0 ?_));refine A3 ty4 ?_;refine Bd fl75_4 ?_;refine Ao ty4 ?_;refine Aa (Ae (Al (Ap [2,3,4,6,7,8,9] [2,4,20005,20006,8,9]) ?_));refine Ad (A3 ty75 ?_);refine Ao ty75 ?_;refine Bm (Ap [2,3,4,6,7,8,9] [2,4,20005,20006,8,9]) ?_;refine AWl.ac ?_;refine Aa (Ai ?_);apply ERes.mk (x:=⟨⟨z40.1.L,z40.2.a,z40.2.b,z40.1.F,z40.2.z⟩,true⟩)
 case h=>
  refine Cf U (.cell U U ty75 U U (.tmp U .nil)) U ?_ (by simp)
  rfl
 case hp=>exact (fun _=>⟨x0,hg0,ht0,(by rw [hz40.1,hz40.2];rfl),hlet⟩)
theorem specl11SubsetsX (P:PN) (h:PNok P) (most:Int) (hm:1≤most∧most≤200):FnE Tryz.prog 46 [.agg (cPositions (posV P)),.one (.v (.int .i64 most))] (subX P) subOut:=by
 refine FnE.walk Tryz.func46 rfl (by kernel_rfl) Tryz.ntmps46 rfl fun w0=>?_
 refine Af (Ac (Bo U U U (.tm U) (ts:=_) (by rfl)) U ?_);refine Aq (Au 4 U U U in36 U U U) U ?_;refine Cr (b:=4) 20001 1 1 U U U ?_;refine Cr (b:=4) 20002 1 2 U U U ?_;refine AWl.ac ?_;refine Aa (Af (Ac (A9 (ps:=[]) U U U in36 U U st36 .nil U) U ?_));refine B7 (i:=13) 20003 1 1 U U U ?_;refine B7 (i:=13) 20004 1 2 U U U ?_;refine Aq (Au 6 U U U in36 U U U) U ?_;refine Ao Cm ?_;refine Aa (Af (Bs (Cn (xs:=[.const (.int .i64 (1))]) 14 U U U (.cons (.const U) U U .nil) Tryz.underlying40 in3 U U U U) U ?_));refine Ag ?_;refine Aa (Ae (Af (AWl.ac ?_)));refine Aa (AW.block ?_)
 refine AW.loop4 (fun (s:Nat) (W:List Nat) (B:List Bool) (N:List (List Int))=>((s≤W.length∧(W.length:Int)≤most)∧SubI P s W B N [])∧True) (fun (s:Nat) (W:List Nat) (B:List Bool) (N:List (List Int))=>⟨_,[(8,(true,.a (.one (.t (.v (.int .i64 (s:Nat))))))),(7,(true,.a (.one (.rf 14)))),(1,_),(2,_),(4,_),(6,_)],[(14,.row 1 ((natI W).map cInt)),(4,.box [.t (.v (.int .i64 0)),.rf 20001,.rf 20002]),(20001,.row 1 []),(20002,.row 1 []),(6,.box [.t (.v (.int .i64 0)),.rf 20003,.rf 20004]),(20003,.row 1 (B.map cBool)),(20004,.row 1 (N.map cIntS))]⟩) (fun (s:Nat) (W:List Nat) (B:List Bool) (N:List (List Int))=>200-s) (0) ([1]) ([]) ([]) ⟨⟨⟨Nat.zero_le _,by simp;omega⟩,SubI.start P⟩,Y⟩ Bi ?_
 rintro s W B N ⟨hk,he⟩
 refine Ae (Af (Ab ?_));refine Ab ?_;refine Br (.rf U) Tryz.underlying40 ?_;refine AWl.lt ?_;refine Aa (Ah (.tm U) (fun h18=>?_) (fun h18=>?_))
 · try simp at h18
   have hnl:(natI W).length=W.length:=(by simp [natI])
   have hsW:s<W.length:=by (first|omega|(simp at h18;omega))
   refine AW.skip (Ae (AW.block (Af (Aq (Dj 21 U U U Tryz.underlying40 ty3 U) U ?_))));refine Ag ?_;refine Aa (Ae (Af (AWl.ac ?_)));refine Aa (AW.block ?_);refine AW.loop3 (fun (k:Nat) (ro:List Int) (W1:List Nat)=>((k≤9∧ro.length=k∧W1.length≤W.length+k∧s<W1.length)∧SubI P s W1 B N ro)∧True) (fun (k:Nat) (ro:List Int) (W1:List Nat)=>⟨_,[(10,(true,.a (.one (.t (.v (.int .i64 (k:Nat))))))),(9,(true,.a (.one (.rf 21)))),(7,(true,.a (.one (.rf 14)))),(1,_),(2,_),(4,_),(6,_),(8,_)],[(21,.row 1 (ro.map cInt)),(14,.row 1 ((natI W1).map cInt)),(4,.box [.t (.v (.int .i64 0)),.rf 20001,.rf 20002]),(20001,.row 1 []),(20002,.row 1 []),(6,.box [.t (.v (.int .i64 0)),.rf 20003,.rf 20004]),(20003,.row 1 (B.map cBool)),(20004,.row 1 (N.map cIntS))]⟩) (fun (k:Nat) (ro:List Int) (W1:List Nat)=>9-k) (0) ([]) (W) ⟨⟨⟨by omega,U,by omega,hsW⟩,hk.2⟩,Y⟩ Bi ?_
   rintro k ro W1 ⟨hk1,he1⟩
   refine Ae (Af (Ab ?_));refine Cv ?_;refine Aa (Ah (.tm U) (fun h23=>?_) (fun h23=>?_))
   · try simp at h23
     obtain⟨T1,hw1⟩:∃ ξ,W1[s]?=some ξ:=⟨_,List.getElem?_eq_getElem (by omega)⟩
     have hnl1:(natI W1).length=W1.length:=(by simp [natI])
     refine AW.skip (Ae (AW.block (Ae (Al (Ap [1,2,4,6,7,8,9,10,22,23] [21,14,4,20001,20002,6,20003,20004]) ?_))));apply Cz (N:=6) (k:=2) (Hs:=[0,1,2,5]) (ms:=[[],[3],[3,4]]) (es:=[(0,3,1),(1,4,2)]) (σ1:=_) (SM:=⟨_,[(1,_),(2,_),(4,_),(6,_),(7,_),(8,_),(9,_),(10,_),(22,_),(23,_),(26,_),(27,_),(28,_),(31,_)],[(21,_),(14,_),(4,_),(20001,_),(20002,_),(6,_),(20003,_),(20004,_)]⟩)
     case hm=>kernel_rfl
     case hB=>kernel_rfl
     case hP=>kernel_rfl
     case hL=>kernel_rfl
     case hN=>rfl
     case hpre=>
      apply As (P:=Tryz.prog) 0 rfl ((Ca rfl (.no rfl) rfl (.tm rfl) ty75 rfl rfl)) (by exact HasV.ld (x:=.tmp 2) (.tm rfl) rfl rfl) rfl rfl rfl;apply As (P:=Tryz.prog) 1 rfl (Bf rfl (.no rfl) rfl (.tm rfl)) (by exact HasV.slot (t:=7) rfl) rfl rfl rfl;apply As (P:=Tryz.prog) 2 rfl (Bf rfl (.no rfl) rfl (.tm rfl)) (by exact HasV.slot (t:=8) rfl) rfl rfl rfl;apply As (P:=Tryz.prog) 5 rfl (Bf rfl (.no rfl) rfl (.tm rfl)) (by exact HasV.slot (t:=10) rfl) rfl rfl rfl;exact PreOk.nil
     case hS=>exact A5
     case hH=>
      refine⟨⟨_,_,_,rfl,rfl,rfl,fun σ' hs=>(by exact Ca rfl (.no rfl) (Aj hs rfl) (.tm (hs.slots _ _ rfl)) ty75 rfl rfl)⟩,?_⟩
      refine LocsH.mv ?_;refine LocsH.mv ?_;refine LocsH.mv ?_
      trivial
     apply Dh.new0 (i:=3);rfl;rfl;rfl
     · intro w9 _;refine Ac ((by exact Ay U (.no U) U (.tm U) U (.tm U) Tryz.underlying40 ty3 (fun _=>⟨by omega,(Am (natI_at hw1))⟩))) U ?_;exact Ax [1,2,4,6,7,8,9,10,22,23,26,27,28,29,31] [21,14,4,20001,20002,6,20003,20004]
     intros;exact A5
     apply Dh.new0 (i:=4);rfl;rfl;rfl
     · intro w9 _;refine Ac (Bt U (.no U) U (.tm U) U (Am (natI_at hw1)) ty3 U U) U ?_;exact Ax [1,2,4,6,7,8,9,10,22,23,26,27,28,30,31] [21,14,4,20001,20002,6,20003,20004]
     intros;exact A5
     refine Dh.fin0 (k:=2) rfl ?_;intro  hp
     obtain _:=hp
     refine Ac (Aw (FnT.fr (specl10AfterX P h T1 (hk1.2.bd T1 (List.mem_of_getElem? hw1)) k (by omega))) U (.no U) U (.cons (.tm U) U (.cons (.tm U) U (.cons (.tm U) U .nil)))) U ?_;refine Ag ?_;refine Aa (Ae (Al (Ap [1,2,4,6,7,8,9,10,11] [21,14,4,20001,20002,6,20003,20004]) ?_));refine Ad (AWl.ac ?_);refine Aa (Ae (Af (Ab ?_)));refine AWl.nc ?_;refine Aa (Ah (.tm U) (fun h34=>?_) (fun h34=>?_))
     · try simp at h34
       refine Af (Ab ?_);refine Ab ?_;refine Bu (specl11FindA (natI W1) ((aftP P T1 k:Nat):Int)) ?_;refine Ag ?_;refine Aa (Af (Ab ?_));refine Cv ?_;refine Aa (Ah (.tm U) (fun h39=>?_) (fun h39=>?_))
       · try simp at h39
         have hsn:SubI P s (W1++[aftP P T1 k]) B N (ro++[((natI W1).length:Int)]):=(by rw [hnl1];exact hk1.2.pushN (k:=k) (by omega) (by omega) (by omega) hw1 (by omega) h h39)
         refine Ae (Al (Ap [1,2,4,6,7,8,9,10,11,12] [21,14,4,20001,20002,6,20003,20004]) ?_);refine Ad (Ab ?_);refine Br (.rf U) Tryz.underlying40 ?_;refine Ag ?_;refine Aa (Ad (Ab ?_));refine Ab ?_;refine Ac (Ch (xs:=[.tmp 43]) (rows:=[cInt _]) U U U (.cons (.tm U) U U .nil) Tryz.underlying40 in3 U U (U)) U ?_;refine Bg (By U U U (.tm U) U (.tm U) (by exact .t) (by rfl) Tryz.underlying40 in3 U (by (simp [chunk];omega)) (by (unfold maxLen;simp [chunk];omega))) U ?_;refine Bm (Ap [1,2,4,6,7,8,9,10,11,12,45] [21,14,4,20001,20002,6,20003,20004]) ?_;refine Ag ?_;refine Aa (Ad (Ab ?_));refine Ab ?_;refine Ac (Ch (xs:=[.tmp 47]) (rows:=[cInt _]) U U U (.cons (.tm U) U U .nil) Tryz.underlying40 in3 U U (U)) U ?_;refine Bg (By U U U (.tm U) U (.tm U) (by exact .t) (by rfl) Tryz.underlying40 in3 U (by (simp [chunk];omega)) (by (unfold maxLen;simp [chunk];omega))) U ?_
         refine Bm (Ap [1,2,4,6,7,8,9,10,11,12,49] [21,14,4,20001,20002,6,20003,20004]) ?_;refine Ag ?_;refine Aa (Ad (Ab ?_));refine Bk ?_;refine Ag ?_;refine Aa ?_
         repeat (with_reducible refine A7 ?_)
         refine Round3.next (k+1) (ro++[((natI W1).length:Int)]) (W1++[aftP P T1 k]) ⟨⟨⟨by omega,by simp;omega,by simp;omega,by simp;omega⟩,hsn⟩,Y⟩ (by omega) (Az rfl ⟨rfl,rfl,rfl,rfl,rfl,rfl,rfl,rfl,Y⟩ ⟨(by (refine congrArg (fun r=>some (R.row _ r)) ?_;simp [chunk,List.map_set,cInt,cBool,cIntS,cPair,cToken,cExpr,cEdge,cGraph,cStep,cWalk,cChange,cBatch,cHistory,cPositions,cAutomaton,cProductStep,cPathAtom,cConjunction,cView,cDelta,cRegistered,cRegistry])),(by refine congrArg (fun r=>some (R.row 1 r)) ?_;first|rfl|(rw [natI_app,List.map_append];rfl)),(by rfl),(by rfl),(by rfl),(by rfl),(by rfl),(by rfl),Y⟩)
       try simp at h39
       have hso:=hk1.2.pushO (k:=k) (by omega) (by omega) (by omega) hw1 (by omega) (by omega)
       refine AW.skip (Al (Ap [1,2,4,6,7,8,9,10,11,12] [21,14,4,20001,20002,6,20003,20004]) ?_);refine Ad (Ab ?_);refine Ab ?_;refine Ac (Ch (xs:=[.tmp 47]) (rows:=[cInt _]) U U U (.cons (.tm U) U U .nil) Tryz.underlying40 in3 U U (U)) U ?_;refine Bg (By U U U (.tm U) U (.tm U) (by exact .t) (by rfl) Tryz.underlying40 in3 U (by (simp [chunk];omega)) (by (unfold maxLen;simp [chunk];omega))) U ?_;refine Bm (Ap [1,2,4,6,7,8,9,10,11,12,49] [21,14,4,20001,20002,6,20003,20004]) ?_;refine Ag ?_;refine Aa (Ad (Ab ?_));refine Bk ?_;refine Ag ?_;refine Aa ?_
       repeat (with_reducible refine A7 ?_)
       refine Round3.next (k+1) (ro++[findI (fun x=>decide (((aftP P T1 k:Nat):Int)=x)) (natI W1) 0]) (W1) ⟨⟨⟨by omega,by simp;omega,by omega,by omega⟩,hso⟩,Y⟩ (by omega) (Az rfl ⟨rfl,rfl,rfl,rfl,rfl,rfl,rfl,rfl,Y⟩ ⟨(by (refine congrArg (fun r=>some (R.row _ r)) ?_;simp [chunk,List.map_set,cInt,cBool,cIntS,cPair,cToken,cExpr,cEdge,cGraph,cStep,cWalk,cChange,cBatch,cHistory,cPositions,cAutomaton,cProductStep,cPathAtom,cConjunction,cView,cDelta,cRegistered,cRegistry])),(by refine congrArg (fun r=>some (R.row 1 r)) ?_;first|rfl|(rw [natI_app,List.map_append];rfl)),(by rfl),(by rfl),(by rfl),(by rfl),(by rfl),(by rfl),Y⟩)
     try simp at h34
     have hsd:=hk1.2.pushD (k:=k) (by omega) (by omega) (by omega) hw1 (by omega)
     refine AW.skip (Ad (Ab ?_));refine Ab ?_;refine Ac (Ch (xs:=[.tmp 47]) (rows:=[cInt _]) U U U (.cons (.tm U) U U .nil) Tryz.underlying40 in3 U U (U)) U ?_;refine Bg (By U U U (.tm U) U (.tm U) (by exact .t) (by rfl) Tryz.underlying40 in3 U (by (simp [chunk];omega)) (by (unfold maxLen;simp [chunk];omega))) U ?_;refine Bm (Ap [1,2,4,6,7,8,9,10,11,12,34,49] [21,14,4,20001,20002,6,20003,20004]) ?_;refine Ag ?_;refine Aa (Ad (Ab ?_));refine Bk ?_;refine Ag ?_;refine Aa ?_
     repeat (with_reducible refine A7 ?_)
     refine Round3.next (k+1) (ro++[-1]) (W1) ⟨⟨⟨by omega,by simp;omega,by omega,by omega⟩,hsd⟩,Y⟩ (by omega) (Az rfl ⟨rfl,rfl,rfl,rfl,rfl,rfl,rfl,rfl,Y⟩ ⟨(by (refine congrArg (fun r=>some (R.row _ r)) ?_;simp [chunk,List.map_set,cInt,cBool,cIntS,cPair,cToken,cExpr,cEdge,cGraph,cStep,cWalk,cChange,cBatch,cHistory,cPositions,cAutomaton,cProductStep,cPathAtom,cConjunction,cView,cDelta,cRegistered,cRegistry])),(by refine congrArg (fun r=>some (R.row 1 r)) ?_;first|rfl|(rw [natI_app,List.map_append];rfl)),(by rfl),(by rfl),(by rfl),(by rfl),(by rfl),(by rfl),Y⟩)
   try simp at h23
   refine Bz (Ae (Af (Ab ?_)));refine Br (.rf U) Tryz.underlying40 ?_;refine Ab ?_;refine Ac (R_gt U (.no U) U (.tm U) (.tm U)) U ?_;refine Aa (Ah (.tm U) (fun h53=>?_) (fun h53=>?_))
   · try simp at h53
     refine Ae (Al (Ap [1,2,4,6,7,8,9,10] [21,14,4,20001,20002,6,20003,20004]) ?_);refine Ad (Ac (A9 (ps:=[]) U U U in36 U U st36 .nil U) U ?_);refine B7 (i:=54) 20005 1 1 U U U ?_;refine B7 (i:=54) 20006 1 2 U U U ?_;refine Ao Cm ?_;refine Bm (Ap [1,2,4,6,7,8,9,10] [21,14,4,20001,20002,6,20003,20004,20005,20006]) ?_;refine AWl.ac ?_;refine Aa (Ai ?_);apply ERes.mk (x:=⟨⟨0,[],[]⟩,false⟩)
     case h=>
      refine Cf U (.cell U U Cm U U (.tmp U .nil)) U ?_ (by simp)
      rfl
     case hp=>exact (fun h=>by cases h)
   try simp at h53
   obtain⟨T1,hw1⟩:∃ ξ,W1[s]?=some ξ:=⟨_,List.getElem?_eq_getElem (by omega)⟩
   have hxl1:=hk1.2.xl
   have hyl1:=hk1.2.yl
   have hnl1:(natI W1).length=W1.length:=(by simp [natI])
   refine AW.skip (Ae (Al (Ap [1,2,4,6,7,8,9,10] [21,14,4,20001,20002,6,20003,20004]) ?_));refine Al (Ap [1,2,4,6,7,8,9,10] [21,14,4,20001,20002,6,20003,20004]) ?_;apply Cz (N:=9) (k:=4) (Hs:=[0,1,2,3,4]) (ms:=[[],[5],[5,6],[5,6,7],[5,6,7,8]]) (es:=[(0,5,1),(1,6,2),(2,7,3),(3,8,4)]) (σ1:=_) (SM:=⟨_,[(1,_),(2,_),(4,_),(6,_),(7,_),(8,_),(9,_),(10,_),(55,_),(56,_),(57,_),(58,_),(59,_)],[(21,_),(14,_),(4,_),(20001,_),(20002,_),(6,_),(20003,_),(20004,_)]⟩)
   case hm=>kernel_rfl
   case hB=>kernel_rfl
   case hP=>kernel_rfl
   case hL=>kernel_rfl
   case hN=>rfl
   case hpre=>
    apply As (P:=Tryz.prog) 0 rfl ((Bj rfl (.no rfl) rfl (.tm rfl) Ct)) (by exact .pp) rfl rfl rfl;apply As (P:=Tryz.prog) 1 rfl ((by exact Bn rfl (.no rfl) rfl (.tm rfl) rfl ty33 rfl rfl)) (by exact HasV.load (x:=.tmp 55) (.tm rfl) rfl ty33 rfl rfl) rfl rfl rfl;apply As (P:=Tryz.prog) 2 rfl ((by exact Ca rfl (.no rfl) rfl (.tm rfl) ty75 rfl rfl)) (by exact HasV.ld (x:=.tmp 2) (.tm rfl) rfl rfl) rfl rfl rfl;apply As (P:=Tryz.prog) 3 rfl (Bf rfl (.no rfl) rfl (.tm rfl)) (by exact HasV.slot (t:=7) rfl) rfl rfl rfl;apply As (P:=Tryz.prog) 4 rfl (Bf rfl (.no rfl) rfl (.tm rfl)) (by exact HasV.slot (t:=8) rfl) rfl rfl rfl;exact PreOk.nil
   case hS=>exact A5
   case hH=>
    refine LocsH.fq Ct ?_;refine LocsH.lq ty33 ?_
    refine⟨⟨_,_,_,rfl,rfl,rfl,fun σ' hs=>(by exact Ca rfl (.no rfl) (Aj hs rfl) (.tm (hs.slots _ _ rfl)) ty75 rfl rfl)⟩,?_⟩
    refine LocsH.mv ?_;refine LocsH.mv ?_
    trivial
   apply Dh.new0 (i:=5);rfl;rfl;rfl
   · intro w9 _;refine Ac ((by exact Ay U (.no U) U (.tm U) U (.tm U) Tryz.underlying40 ty3 (fun _=>⟨by omega,(Am (natI_at hw1))⟩))) U ?_;exact Ax [1,2,4,6,7,8,9,10,55,56,57,58,59,60] [21,14,4,20001,20002,6,20003,20004]
   intros;exact A5
   apply Dh.new0 (i:=6);rfl;rfl;rfl
   · intro w9 _;refine Ac (Bt U (.no U) U (.tm U) U (Am (natI_at hw1)) ty3 U U) U ?_;exact Ax [1,2,4,6,7,8,9,10,55,56,57,58,59,61] [21,14,4,20001,20002,6,20003,20004]
   intros;exact A5
   apply Dh.new0 (i:=7);rfl;rfl;rfl
   · intro w9 _;refine Bu (specl10AcceptsX P h T1 (hk1.2.bd T1 (List.mem_of_getElem? hw1))) ?_;exact Ax [1,2,4,6,7,8,9,10,55,56,57,58,59,62] [21,14,4,20001,20002,6,20003,20004]
   intros;exact A5
   apply Dh.new0 (i:=8);rfl;rfl;rfl
   · intro w9 _;refine Bs (Cn (xs:=[.tmp 62]) 63 U U U (.cons (.tm U) U U .nil) Tryz.underlying33 in4 U U U U) U ?_;exact Ax [1,2,4,6,7,8,9,10,55,56,57,58,59,63] [21,14,4,20001,20002,6,20003,20004,63]
   intros;exact A5
   refine Dh.fin0 (k:=4) rfl ?_;intro  hp
   obtain _:=hp
   refine Bg (By U U U (.tm U) U (.tm U) (by exact .rf U) (by rfl) Tryz.underlying33 in4 U (by (simp [chunk];omega)) (by (unfold maxLen;simp [chunk];omega))) U ?_;refine Bm (Ap [1,2,4,6,7,8,9,10,64] [21,14,4,20001,20002,6,20003,20004,63]) ?_;refine Bd Ct ?_;refine Ao ty33 ?_;refine Aa (Ad (Bd Dc ?_));refine A3 ty34 ?_;refine Ab ?_;refine Bs (Cn (xs:=[.tmp 68]) 69 U U U (.cons (.tm U) U U .nil) Tryz.underlying34 in40 U U U U) U ?_;refine C1 (C9 U U U (.tm U) U (.tm U) U U Tryz.underlying34 in40 U (by (simp [chunk];omega)) (by (unfold maxLen;simp [chunk];omega))) U ?_;refine Bm (Ap [1,2,4,6,7,8,9,10,70] [14,4,20001,20002,6,20003,20004,63]) ?_;refine Bd Dc ?_;refine Ao ty34 ?_;refine Aa (Ad (Ab ?_));refine Bk ?_;refine Ag ?_;refine Aa ?_
   repeat (with_reducible refine A7 ?_)
   refine Round4.next (s+1) (W1) (B++[accP P T1]) (N++[ro]) ⟨⟨⟨by omega,by (try simp at h53);omega⟩,hk1.2.endRow (by omega) hw1⟩,Y⟩ (by omega) (Az rfl ⟨rfl,rfl,rfl,rfl,rfl,rfl,Y⟩ ⟨(by refine congrArg (fun r=>some (R.row 1 r)) ?_;first|rfl|(rw [natI_app,List.map_append];rfl)),(by rfl),(by rfl),(by rfl),(by rfl),(by (refine congrArg (fun r=>some (R.row _ r)) ?_;simp [chunk,List.map_set,cInt,cBool,cIntS,cPair,cToken,cExpr,cEdge,cGraph,cStep,cWalk,cChange,cBatch,cHistory,cPositions,cAutomaton,cProductStep,cPathAtom,cConjunction,cView,cDelta,cRegistered,cRegistry])),(by (refine congrArg (fun r=>some (R.row _ r)) ?_;simp [chunk,List.map_set,cInt,cBool,cIntS,cPair,cToken,cExpr,cEdge,cGraph,cStep,cWalk,cChange,cBatch,cHistory,cPositions,cAutomaton,cProductStep,cPathAtom,cConjunction,cView,cDelta,cRegistered,cRegistry])),Y⟩)
 try simp at h18
 have hnl:(natI W).length=W.length:=(by simp [natI])
 refine Bz (Af (A3 Cm ?_));refine Ao Cm ?_;refine Bm (Ap [1,2,4,6,7,8,18] [14,4,20001,20002,6,20003,20004]) ?_;refine AWl.ac ?_;refine Aa (Ai ?_);apply ERes.mk (x:=⟨⟨0,B,N⟩,true⟩)
 case h=>
  refine Cf U (.cell U U Cm U U (.tmp U .nil)) U ?_ (by simp)
  rfl
 case hp=>exact (fun _=>⟨hk.2.sha (by omega),(by show B.length≤200;rw [hk.2.xl];omega),fun w hw=>hk.2.lang (by omega) w 0 1 hw hk.2.w0,rfl⟩)
theorem specCompileExprX (e:TExpr):FnE Tryz.prog 18 [.agg (cExpr e)] (compX e) subOut:=by
 refine FnE.walk Tryz.func18 rfl (by kernel_rfl) Tryz.ntmps18 rfl fun w0=>?_
 refine Af (Ac (Bo U U U (.tm U) (ts:=_) (by rfl)) U ?_);refine Aq (Au 2 U U U in36 U U U) U ?_;refine AWl.ac ?_;refine Aa (Af (Ak Ar ?_));refine Bl (C8 1100 (specBuildPositionsX e) U U U (.cons (.tm U) U .nil) (fun _=>rfl) (fun _=>rfl)) ?_
 rintro _ ⟨z11,hz11,rfl⟩
 try dsimp only at hz11
 refine Ac (Dd U (.no U) U U fun _=>rfl) U ?_;refine Ac (Bx U (.no U) U U (fun _=>rfl) U) U ?_;refine Ac (Bx U (.no U) U U (fun _=>rfl) U) U ?_;refine Aq (Au 4 U U U in75 U U U) U ?_;refine Ao ty75 ?_;refine Bm (Ap [0,1,2,3,4,13] [2,1100,1101,4]) ?_;refine Ag ?_;refine Aa (Ae (Af (Ab ?_)));refine Cw ?_;refine Aa (Ah (.tm U) (fun h15=>?_) (fun h15=>?_))
 · try simp at h15
   refine Af (Ac (A9 (ps:=[]) U U U in36 U U st36 .nil U) U ?_);refine B7 (i:=16) 20001 1 1 U U U ?_;refine B7 (i:=16) 20002 1 2 U U U ?_;refine Ao Cm ?_;refine Bm (Ap [0,1,2,3,4,5,15] [2,1100,1101,4,20001,20002]) ?_;refine AWl.ac ?_;refine Aa (Ai ?_);apply ERes.mk (x:=⟨⟨0,[],[]⟩,false⟩)
   case h=>
    refine Cf U (.cell U U Cm U U (.tmp U .nil)) U ?_ (by simp)
    rfl
   case hp=>exact⟨(fun h=>by cases h),fun _=>rfl⟩
 try simp at h15
 obtain⟨x,hgx,htx,hpx,hlx⟩:=hz11 (by simpa using h15)
 refine AW.skip (Af (A3 ty75 ?_));refine Bl (C8 1900 ((by rw [hpx];exact specl11SubsetsX (pnT (exR x)) (pnT_ok hlx) 200 (by decide))) U U U (.cons (.tm U) U (.cons (.const U) U .nil)) (fun _=>rfl) (fun _=>rfl)) ?_
 rintro _ ⟨z19,hz19,rfl⟩
 try dsimp only at hz19
 refine Ac (Dd U (.no U) U U fun _=>rfl) U ?_;refine Ac (Bx U (.no U) U U (fun _=>rfl) U) U ?_;refine Ac (Bx U (.no U) U U (fun _=>rfl) U) U ?_;refine Aq (Au 6 U U U in36 U U U) U ?_;refine Ao Cm ?_;refine Bm (Ap [0,1,2,3,4,5,6,15,21] [2,1100,1101,4,1900,1901,6]) ?_;refine Ag ?_;refine Aa (Ae (Af (Ab ?_)));refine Cw ?_;refine Aa (Ah (.tm U) (fun h23=>?_) (fun h23=>?_))
 · try simp at h23
   refine Af (Ac (A9 (ps:=[]) U U U in36 U U st36 .nil U) U ?_);refine B7 (i:=24) 20003 1 1 U U U ?_;refine B7 (i:=24) 20004 1 2 U U U ?_;refine Ao Cm ?_;refine Bm (Ap [0,1,2,3,4,5,6,7,15,23] [2,1100,1101,4,1900,1901,6,20003,20004]) ?_;refine AWl.ac ?_;refine Aa (Ai ?_);apply ERes.mk (x:=⟨⟨0,[],[]⟩,false⟩)
   case h=>
    refine Cf U (.cell U U Cm U U (.tmp U .nil)) U ?_ (by simp)
    rfl
   case hp=>exact⟨(fun h=>by cases h),fun _=>rfl⟩
 try simp at h23
 have hsx:=hz19 (by simpa using h23)
 have hs0:z19.1.Start=0:=hsx.2.2.2
 refine AW.skip (Af (A3 Cm ?_));refine Bl (C8 2600 (specl12MinimizeE z19.1 hsx.1 (by have:=hsx.2.1;omega)) U U U (.cons (.tm U) U .nil) (fun _=>rfl) (fun _=>rfl)) ?_
 rintro _ ⟨z26,hz26,rfl⟩
 try dsimp only at hz26
 refine Aq (Au 8 U U U in36 U U U) U ?_;refine Ao Cm ?_;refine Aa (Ae (Ae (Al (Ap [0,1,2,3,4,5,6,7,8] [2,1100,1101,4,1900,1901,6,2600,2601,8]) ?_)));refine Ad (Bd Ct ?_);refine A3 ty33 ?_;refine Br (.rf U) Tryz.underlying33 ?_;refine AWl.gc ?_;refine Aa (Ah (.tm U) (fun h30=>?_) (fun h30=>?_))
 · try simp at h30
   refine Af (Ac (A9 (ps:=[]) U U U in36 U U st36 .nil U) U ?_);refine B7 (i:=31) 20005 1 1 U U U ?_;refine B7 (i:=31) 20006 1 2 U U U ?_;refine Ao Cm ?_;refine Bm (Ap [0,1,2,3,4,5,6,7,8,30] [2,1100,1101,4,1900,1901,6,2600,2601,8,20005,20006]) ?_;refine AWl.ac ?_;refine Aa (Ai ?_);apply ERes.mk (x:=⟨⟨0,[],[]⟩,false⟩)
   case h=>
    refine Cf U (.cell U U Cm U U (.tmp U .nil)) U ?_ (by simp)
    rfl
   case hp=>exact⟨(fun h=>by cases h),fun _=>rfl⟩
 try simp at h30
 refine AW.skip (Af (A3 Cm ?_));refine Ao Cm ?_;refine Bm (Ap [0,1,2,3,4,5,6,7,8,30] [2,1100,1101,4,1900,1901,6,2600,2601,8]) ?_;refine AWl.ac ?_;refine Aa (Ai ?_);apply ERes.mk (x:=⟨z26,true⟩)
 case h=>
  refine Cf U (.cell U U Cm U U (.tmp U .nil)) U ?_ (by simp)
  rfl
 case hp=>exact⟨fun _=>⟨x,hgx,htx,hz26.1,(show z26.Accept.length≤12 by first|omega|(simp at h30;omega)),fun w hw=>by rw [hz26.2 w hw,hs0,hsx.2.2.1 w hw,LP_lang (exR_norep x) (lsT_nn (exR_good x hgx)),exR_lang x hgx]⟩,fun h=>by cases h⟩
end Go.Proofs.YtdhojcaoljhbiaaGreat
