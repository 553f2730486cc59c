import Derived.Test.YtdhojcaoljhbiaaGreatB154xc
import Derived.Test.YtdhojcaoljhbiaaGreatB152xc
set_option linter.unusedVariables false
set_option linter.unusedSimpArgs false
set_option maxHeartbeats 1000000
set_option maxRecDepth 100000
open Go.Proofs.Tryz renaming prog->Z9,underlying52->ZA,underlying40->ZB,func25->ZG,ntmps25->ZH,underlying48->ZI,func68->ZJ,ntmps68->ZK,underlying4->ZL,func29->ZM,ntmps29->ZN,func70->ZO,ntmps70->ZP,func130->ZQ,ntmps130->ZR,func69->ZS,ntmps69->ZT,func30->ZU,ntmps30->ZV,func71->ZW,ntmps71->ZX,func31->ZY,ntmps31->ZZ
open Bool renaming and_eq_true->ZC
open List renaming getElem?_eq_getElem->ZD,all_cons->ZF
namespace Go.Q
open Go.RowKit Go.D Go.Proofs.YtdhojcaoljhbiaaGreat
theorem Uy {a b:List CU} (h:∀ p∈a,p∈b):WW a b=[]:=by
 unfold WW
 rw [List.filter_eq_nil_iff.2 fun p hp=>by simp [h p hp]]
 rfl
theorem Mi {g:AC} {s:DK}:DF g s<g.Values.length∧ -1≤DF g s:=by
 unfold DF
 split
 · rename_i h
   have:=Mj h
   unfold KC inB at this
   simp only [ZC,decide_eq_true_eq] at this
   split<;>omega
 omega
theorem OP {g:AC} {x:Int} (h0:0≤x) (h1:x<g.Values.length):g.Values[x.toNat]?=some (AL g x):=by
 unfold AL
 rw [ZD (show x.toNat<g.Values.length by omega)];rfl
theorem Mx (g:AC):∀ (l:List DK) (L:List Int),(E1 g l L).1.length≤L.length+l.length
 | [],L=>by simp [E1]
 | s::r,L=>by
  rw [E1]
  split
  · have:=Mx g r (L++[EY g s])
    simp at this ⊢;omega
  simp
theorem M7 {g:AC} {w:EV} {M:List Int} (h:BR g w=(M,true)):M.length≤61:=by
 have h1:=O7 (g:=g) (w:=w) (by rw [h])
 have h2:=Mx g w.Steps [w.Start]
 unfold BR at h
 split at h
 · rw [h] at h2
   simp at h2;omega
 cases h
theorem Pp (a b:List CU) (ha:a.length≤1073741824) (h:∀ p∈a,p∈b):FnT Z9 25 [.one (.sl 2 (a.map BC)),.one (.sl 2 (b.map BC))] (.a (.one (.v (.bool true)))):=by
 refine A8 ZG U (by kernel_rfl) ZH U fun hlen w0=>?_
 try simp [BC,AS,BH,AP,AG,BG,BO,CF,DE,BW,BA,AE,AK,BJ,AT,Em,DD,AZ,BN] at hlen
 refine Af (An ?_);refine Aa (Af (Ab ?_));refine Ab ?_;refine By (KV a b ha) ?_;refine Bi (.t) ZI ?_;refine Bw ?_;refine Ah ?_;refine Aa (Aq (Bl U U ?_))
 rw [Uy h];rfl
theorem QQ (s:DK):FnT Z9 68 [.agg (BG s),.agg (BG s)] (.a (.one (.v (.int .i64 0)))):=by
 refine A8 ZJ U (by kernel_rfl) ZK U fun hlen w0=>?_
 try simp [BC,AS,BH,AP,AG,BG,BO,CF,DE,BW,BA,AE,AK,BJ,AT,Em,DD,AZ,BN] at hlen
 refine Af (Ac (Bg U U U (.tm U) (ts:=_) (by rfl)) U ?_);refine Ac (Bg U U U (.tm U) (ts:=_) (by rfl)) U ?_;refine An ?_;refine Aa (Ae (AW.block (Af (A7 Io ?_))));refine Aj ty3 ?_;refine A7 Io ?_;refine Aj ty3 ?_;refine AWl.lt ?_;refine Ah ?_;refine Aa (Ai (.tm U) (fun h5=>?_) (fun h5=>?_))
 · exact absurd h5 (by simp)
 try simp at h5
 refine Ae (As (Ay [0,1,2,3,4] []) ?_);refine Ad (A7 Io ?_);refine Aj ty3 ?_;refine A7 Io ?_;refine Aj ty3 ?_;refine Ac (MO U (.no U) U (.tm U) (.tm U)) U ?_;refine Ah ?_;refine Aa (Ai (.tm U) (fun h11=>?_) (fun h11=>?_))
 · exact absurd h11 (by simp)
 try simp at h11
 refine Ae (As (Ay [0,1,2,3,4] []) ?_);refine Ad (A7 Im ?_);refine Aj ty4 ?_;refine A7 Im ?_;refine Aj ty4 ?_;refine Ac (Zl U (.no U) U (.tm U) (.tm U) ZL) U ?_;refine Ah ?_;refine Aa (Ai (.tm U) (fun h17=>?_) (fun h17=>?_))
 · try simp at h17
   refine Ae (As (Ay [0,1,2,3,4] []) ?_);refine Ad (An ?_);refine Aa (Aq (Bl U U ?_))
   rfl
 exact absurd h17 (by simp)
theorem KW (w:EV):FnT Z9 29 [.agg (BO w),.agg (BO w)] (.a (.one (.v (.int .i64 0)))):=by
 refine A8 ZM U (by kernel_rfl) ZN U fun hlen w0=>?_
 try simp [BC,AS,BH,AP,AG,BG,BO,CF,DE,BW,BA,AE,AK,BJ,AT,Em,DD,AZ,BN] at hlen
 refine Af (Ac (Bg U U U (.tm U) (ts:=_) (by rfl)) U ?_);refine Ac (Bg U U U (.tm U) (ts:=_) (by rfl)) U ?_;refine An ?_;refine Aa (Ae (AW.block (Af (A7 C8 ?_))));refine Aj FT ?_;refine Bi (.t) ZA ?_;refine A7 C8 ?_;refine Aj FT ?_;refine Bi (.t) ZA ?_;refine AWl.lt ?_;refine Ah ?_;refine Aa (Ai (.tm U) (fun h7=>?_) (fun h7=>?_))
 · exact absurd h7 (by simp)
 try simp at h7
 refine Ae (As (Ay [0,1,2,3,4] []) ?_);refine Ad (A7 C8 ?_);refine Aj FT ?_;refine Bi (.t) ZA ?_;refine A7 C8 ?_;refine Aj FT ?_;refine Bi (.t) ZA ?_;refine Ac (MO U (.no U) U (.tm U) (.tm U)) U ?_;refine Ah ?_;refine Aa (Ai (.tm U) (fun h15=>?_) (fun h15=>?_))
 · exact absurd h15 (by simp)
 try simp at h15
 refine Ae (As (Ay [0,1,2,3,4] []) ?_);refine Ad (A7 GP ?_);refine Aj ty3 ?_;refine A7 GP ?_;refine Aj ty3 ?_;refine AWl.lt ?_;refine Ah ?_;refine Aa (Ai (.tm U) (fun h23=>?_) (fun h23=>?_))
 · exact absurd h23 (by simp)
 try simp at h23
 refine Ae (As (Ay [0,1,2,3,4] []) ?_);refine Ad (A7 GP ?_);refine Aj ty3 ?_;refine A7 GP ?_;refine Aj ty3 ?_;refine Ac (MO U (.no U) U (.tm U) (.tm U)) U ?_;refine Ah ?_;refine Aa (Ai (.tm U) (fun h29=>?_) (fun h29=>?_))
 · exact absurd h29 (by simp)
 try simp at h29
 refine Am (Ae (Ae (As (Ay [0,1,2,3,4] []) ?_)));refine Ad (An ?_);refine Aa (AW.block (B9 (fun (k:Nat)=>(k≤w.Steps.length)∧True) (fun (k:Nat)=>⟨_,[(5,(true,.a (.one (.t (.v (.int .i64 (k:Nat))))))),(2,_),(3,_)],[]⟩) (fun (k:Nat)=>w.Steps.length-k) (0) ⟨Nat.zero_le _,Y⟩ (Au U ⟨U,U,U,Y⟩ trivial) ?_))
 rintro k ⟨hk,he⟩
 refine Ae (Af (Ab ?_));refine A7 C8 ?_;refine Aj FT ?_;refine Bi (.t) ZA ?_;refine AWl.lt ?_;refine Aa (Ai (.tm U) (fun h39=>?_) (fun h39=>?_))
 · try simp at h39
   obtain⟨s,hst⟩:∃ ξ,w.Steps[k]?=some ξ:=⟨_,ZD (by omega)⟩
   refine Am (Ae (AW.block (Ae (Bx 12 (DM [[],[0],[],[0,1,2],[0,1,2,3],[],[5],[],[5,6,7],[5,6,7,8],[0,1,2,3,4,5,6,7,8,9],[0,1,2,3,4,5,6,7,8,9,10]]) (by kernel_rfl) (by kernel_rfl) (by kernel_rfl) ?_))));refine Bz C8 ?_;refine A5 FT ?_;refine Az ?_;refine AB.s (fun _ hs=>(Ak U (.no U) (Ag hs U) (hs.tm U) (hs.tm U) ZA Ds (fun _=>⟨by omega,(Ao hst)⟩))) ?_;refine A5 Ds ?_;refine Bz C8 ?_;refine A5 FT ?_;refine Az ?_;refine AB.s (fun _ hs=>(by exact Ak U (.no U) (Ag hs U) (hs.tm U) (hs.tm U) ZA Ds (fun _=>⟨by omega,(Ao hst)⟩))) ?_;refine A5 Ds ?_;refine AB.s (fun _ hs=>Bc (FnT.fr (QQ s)) U (.no U) (Ag hs U) (.cons (hs.tm U) (AD hs U) (.cons (hs.tm U) (AD hs U) .nil))) ?_;refine AB.s (fun _ hs=>Cl U (.no U) (Ag hs U) (hs.tm U)) ?_;refine Bs U U ?_;refine Aa (Ae (As (Ay [2,3,5,6] []) ?_));refine Ad (Ab ?_)
   refine AWl.nc ?_;refine Aa (Ai (.tm U) (fun h54=>?_) (fun h54=>?_))
   · exact absurd h54 (by simp)
   try simp at h54
   refine Am (Ad (Ab ?_));refine A9 ?_;refine Ah ?_;refine Aa ?_
   repeat (with_reducible refine Av ?_)
   refine BF.next (k+1) ⟨by omega,Y⟩ (by omega) (Au rfl ⟨rfl,rfl,rfl,Y⟩ trivial)
 try simp at h39
 refine Bf (Af (An ?_));refine Aa (Aq (Bl U U ?_))
 rfl
theorem PK {g:AC} {w:EV} {M:List Int} (hM:BR g w=(M,true)):FnT Z9 131 [.agg (AG g),.agg (BO w)] (.tup [.one (.sl 1 (M.map AQ)),.one (.v (.bool true))]):=by
 have h:=Mm g w
 rw [hM] at h
 exact h
theorem L5 {g:AC} {w:EV} {M:List Int} (hM:BR g w=(M,true)):FnT Z9 129 [.agg (AG g),.agg (BO w)] (.a (.one (.v (.bool true)))):=by
 have h:=MA g w
 rw [hM] at h
 exact h
theorem KU (g:AC) (w:EV) (M:List Int) (hM:BR g w=(M,true)) (h1:1≤M.length):FnT Z9 70 [.agg (AG g),.agg (BO w)] (.a (.one (.v (.int .i64 (HC M))))):=by
 refine A8 ZO U (by kernel_rfl) ZP U fun hlen w0=>?_
 try simp [BC,AS,BH,AP,AG,BG,BO,CF,DE,BW,BA,AE,AK,BJ,AT,Em,DD,AZ,BN] at hlen
 have hML:=M7 hM
 refine Af (Ac (Bg U U U (.tm U) (ts:=_) (by rfl)) U ?_);refine Ac (Bg U U U (.tm U) (ts:=_) (by rfl)) U ?_;refine An ?_;refine Aa (Af (Aj B7 ?_));refine Aj D6 ?_;refine By (PK hM) ?_;refine Ac (Dd U (.no U) U U fun _=>rfl) U ?_;refine Ac (Bk U (.no U) U U (fun _=>rfl) U) U ?_;refine Ac (Bk U (.no U) U U (fun _=>rfl) U) U ?_;refine Ah ?_;refine Ah ?_;refine Aa (Ae (Ae (As (Ay [0,1,2,3,4,5,6] []) ?_)));refine Ad (Ab ?_);refine Cy ?_;refine Aa (Ai (.tm U) (fun h14=>?_) (fun h14=>?_))
 · exact absurd h14 (by simp)
 try simp at h14
 refine Am (Af (Ab ?_));refine Ab ?_;refine Bi (.t) ZB ?_;refine C9 ?_;refine Ac ((Ak U (.no U) U (.tm U) (.tm U) ZB ty3 (fun _=>⟨by omega,(Ao (NQ (l:=M) (by omega)))⟩))) U ?_;refine Aj ty3 ?_;refine Ah ?_;refine Aa (Aq (Bl U U ?_))
 rfl
theorem O8 (g:AC) (a:AA) (ha:AJ a=true) (hg:AI g=true) (c y:Int) (D:Nat) (hD:D≤60) (x:Int) (hw:Wg g a c y D x (2^a.Start.toNat)):FnT Z9 130 [.agg (AG g),.agg (AE a),.agg (BO ⟨x,gwS g a c y D x (2^a.Start.toNat)⟩)] (.a (.one (.sl 1 ((Fi g a c y D x (2^a.Start.toNat)).map fun m:Nat=>AQ (m:Int))))):=by
 refine A8 ZQ U (by kernel_rfl) ZR U fun hlen w0=>?_
 try simp [BC,AS,BH,AP,AG,BG,BO,CF,DE,BW,BA,AE,AK,BJ,AT,Em,DD,AZ,BN] at hlen
 have hA:=AR ha
 have hP:=DC ha
 have hgl:=SP ha hg D hw
 have h2s:=K3 ha (x:=a.Start.toNat) (by omega)
 refine Af (Ac (Bg U U U (.tm U) (ts:=_) (by rfl)) U ?_);refine Ac (Bg U U U (.tm U) (ts:=_) (by rfl)) U ?_;refine Ac (Bg U U U (.tm U) (ts:=_) (by rfl)) U ?_;refine An ?_;refine Ch (i:=6) 20001 1 U U ?_;refine Aa (Af (A7 Jn ?_));refine Aj ty3 ?_;refine Ac (F9 U (.no U) U (.const U) (.tm U) (fun _=>by omega)) U ?_;refine Bp (Ce (xs:=[.tmp 14]) 15 U U U (.cons (.tm U) U U .nil) ZB in3 U U U U) U ?_;refine Ah ?_;refine Aa (Af (A7 GP ?_));refine Aj ty3 ?_;refine Ah ?_;refine Aa (Ae (Ae (As (Ay [0,1,2,3,4,5,6,7,8] [20001,15]) ?_)));refine Ad (An ?_);refine Aa (AW.block ?_)
 refine AW.loop5 (fun (i:Nat) (r:Nat) (u:Int) (m:Nat) (O:List Nat)=>((i+r=D∧O.length=i)∧Wg g a c y r u m)∧O++Fi g a c y r u m=Fi g a c y D x (2^a.Start.toNat)∧(gwS g a c y D x (2^a.Start.toNat)).drop i=gwS g a c y r u m) (fun (i:Nat) (r:Nat) (u:Int) (m:Nat) (O:List Nat)=>⟨_,[(9,(true,.a (.one (.t (.v (.int .i64 (i:Nat))))))),(8,(true,.a (.one (.t (.v (.int .i64 u)))))),(7,(true,.a (.one (.rf 15)))),(3,_),(4,_),(5,_),(6,_)],[(15,.row 1 ((O++[m]).map fun m:Nat=>AQ (m:Int)))]⟩) (fun (i:Nat) (r:Nat) (u:Int) (m:Nat) (O:List Nat)=>r) (0) (D) (x) (2^a.Start.toNat) ([]) ⟨⟨⟨by omega,U⟩,hw⟩,⟨U,U⟩⟩ Aw ?_
 rintro i r u m O ⟨hk,he⟩
 refine Ae (Af (Ab ?_));refine A7 C8 ?_;refine Aj FT ?_;refine Bi (.t) ZA ?_;refine AWl.lt ?_;refine Aa (Ai (.tm U) (fun h22=>?_) (fun h22=>?_))
 · try simp at h22
   obtain⟨r',rfl⟩:∃ r',r=r'+1:=⟨r-1,by (first|omega|(simp at h22;omega))⟩
   obtain⟨z,hz1,hz2,hz3,hz4⟩:=hk.2.next ha hg
   have hst:(gwS g a c y D x (2^a.Start.toNat))[i]?=some z.step:=(by rw [←List.head?_drop,he.2,K7 hz1];rfl)
   have hOm:(O++[m])[i]?=some m:=(by rw [←hk.1.2,List.getElem?_append_right (Nat.le_refl _)];simp)
   refine Am (Ae (AW.block (Ae (As (Ay [3,4,5,6,7,8,9,18,19,20,21,22] [15]) ?_))));apply Cr (N:=17) (k:=9) (Hs:=[0,1,2,3,4,7,8,9,10,11]) (ms:=[[],[5],[5,6],[5,6,12],[5,6,12,13],[5,6,12,13,14],[5,6,12,13,15],[5,6,12,13,14,15],[5,6,12,13,14,16],[5,6,12,13,14,15,16]]) (es:=[(0,5,1),(1,6,2),(2,12,3),(3,13,4),(4,14,5),(4,15,6),(5,15,7),(6,14,7),(5,16,8),(7,16,9),(8,15,9)]) (σ1:=_) (SM:=⟨_,[(3,_),(4,_),(5,_),(6,_),(7,_),(8,_),(9,_),(18,_),(19,_),(20,_),(21,_),(22,_),(26,_),(27,_),(28,_),(29,_),(30,_),(33,_),(34,_),(35,_),(36,_),(37,_)],[(15,_)]⟩)
   case hm=>kernel_rfl
   case hB=>kernel_rfl
   case hP=>kernel_rfl
   case hL=>kernel_rfl
   case hN=>rfl
   case hpre=>
    apply Ax (P:=Z9) 0 rfl ((Br rfl (.no rfl) rfl (.tm rfl) B7 rfl rfl)) (by exact BM.ld (x:=.tmp 3) (.tm rfl) rfl rfl) rfl rfl rfl;apply Ax (P:=Z9) 1 rfl ((by exact Br rfl (.no rfl) rfl (.tm rfl) B6 rfl rfl)) (by exact BM.ld (x:=.tmp 4) (.tm rfl) rfl rfl) rfl rfl rfl;apply Ax (P:=Z9) 2 rfl (Bh rfl (.no rfl) rfl (.tm rfl)) (by exact BM.slot (t:=8) rfl) rfl rfl rfl;apply Ax (P:=Z9) 3 rfl (Bh rfl (.no rfl) rfl (.tm rfl)) (by exact BM.slot (t:=7) rfl) rfl rfl rfl;apply Ax (P:=Z9) 4 rfl (Bh rfl (.no rfl) rfl (.tm rfl)) (by exact BM.slot (t:=9) rfl) rfl rfl rfl;apply Ax (P:=Z9) 7 rfl ((by exact Bu rfl (.no rfl) rfl (.tm rfl) C8)) (by exact BM.ad (x:=.tmp 5) (.tm rfl)) rfl rfl rfl;apply Ax (P:=Z9) 8 rfl ((by exact Br rfl (.no rfl) rfl (.tm rfl) FT rfl rfl)) (by exact BM.ld (x:=.tmp 33) (.tm rfl) rfl rfl) rfl rfl rfl
    apply Ax (P:=Z9) 9 rfl (Bh rfl (.no rfl) rfl (.tm rfl)) (by exact BM.slot (t:=9) rfl) rfl rfl rfl;apply Ax (P:=Z9) 10 rfl ((by exact Ak rfl (.no rfl) rfl (.tm rfl) (.tm rfl) ZA Ds (fun _=>⟨by omega,(by exact Ao hst)⟩))) (by exact BM.ix (x:=.tmp 34) (.tm rfl) (y:=.tmp 35) (.tm rfl) ZA Ds (fun _=>⟨by omega,(by exact Ao hst)⟩)) rfl rfl rfl;apply Ax (P:=Z9) 11 rfl ((by exact Br rfl (.no rfl) rfl (.tm rfl) Ds rfl rfl)) (by exact BM.ld (x:=.tmp 36) (.tm rfl) rfl rfl) rfl rfl rfl;exact EC.nil
   case hS=>exact Ba
   case hH=>
    refine⟨⟨_,_,_,rfl,rfl,rfl,fun σ' hs=>(by exact Br rfl (.no rfl) (Ag hs rfl) (.tm (hs.slots _ _ rfl)) B7 rfl rfl)⟩,?_⟩
    refine⟨⟨_,_,_,rfl,rfl,rfl,fun σ' hs=>(by exact Br rfl (.no rfl) (Ag hs rfl) (.tm (hs.slots _ _ rfl)) B6 rfl rfl)⟩,?_⟩
    refine AX.mv ?_;refine AX.mv ?_;refine AX.mv ?_
    refine⟨⟨_,_,_,rfl,rfl,rfl,fun σ' hs=>(by exact Bu rfl (.no rfl) (Ag hs rfl) (.tm (hs.slots _ _ rfl)) C8)⟩,?_⟩
    refine⟨⟨_,_,_,rfl,rfl,rfl,fun σ' hs=>(by exact Br rfl (.no rfl) (Ag hs rfl) (.tm (hs.slots _ _ rfl)) FT rfl rfl)⟩,?_⟩
    refine AX.mv ?_
    refine⟨⟨_,_,_,rfl,rfl,rfl,fun σ' hs=>(by exact Ak rfl (.no rfl) (Ag hs rfl) (.tm (hs.slots _ _ rfl)) (.tm (hs.slots _ _ rfl)) ZA Ds (fun _=>⟨by omega,(by exact Ao hst)⟩))⟩,?_⟩
    refine⟨⟨_,_,_,rfl,rfl,rfl,fun σ' hs=>(by exact Br rfl (.no rfl) (Ag hs rfl) (.tm (hs.slots _ _ rfl)) Ds rfl rfl)⟩,?_⟩
    trivial
   apply Dh.new0 (i:=5);rfl;rfl;rfl
   · intro w9 _;refine Ac (by exact A3 U (.no U) U (.tm U) U (.tm U) ZB ty3 (fun _=>⟨by omega,(by exact Ao hOm)⟩)) U ?_;exact Al [3,4,5,6,7,8,9,18,19,20,21,22,26,27,28,29,30,31,33,34,35,36,37] [15]
   intros;exact Ba
   apply Dh.new0 (i:=6);rfl;rfl;rfl
   · intro w9 _;refine Ac (Ca U (.no U) U (.tm U) U (by exact Ao hOm) ty3 U U) U ?_;exact Al [3,4,5,6,7,8,9,18,19,20,21,22,26,27,28,29,30,32,33,34,35,36,37] [15]
   intros;exact Ba
   apply Dh.new0 (i:=12);rfl;rfl;rfl
   · intro w9 _;refine By (Mn g a ha hg u hk.2.ru m hk.2.rm z hz3) ?_;exact Al [3,4,5,6,7,8,9,18,19,20,21,22,26,27,28,29,30,33,34,35,36,37,38] [15]
   intros;exact Ba
   apply Dh.new0 (i:=13);rfl;rfl;rfl
   · intro w9 _;refine Ac (Dd U (.no U) U U fun _=>rfl) U ?_;exact Al [3,4,5,6,7,8,9,18,19,20,21,22,25,26,27,28,29,30,33,34,35,36,37] [15]
   intros;exact Ba
   apply Dh.new0 (i:=14);rfl;rfl;rfl
   · intro w9 _;refine Ac (Bk U (.no U) U U (fun _=>rfl) U) U ?_;exact Al [3,4,5,6,7,8,9,18,19,20,21,22,25,26,27,28,29,30,33,34,35,36,37,39] [15]
   intros;exact Ba
   apply Dh.new0 (i:=15);rfl;rfl;rfl
   · intro w9 _;refine Ac (Bk U (.no U) U U (fun _=>rfl) U) U ?_;exact Al [3,4,5,6,7,8,9,18,19,20,21,22,25,26,27,28,29,30,33,34,35,36,37,40] [15]
   intros;exact Ba
   apply Dh.new0 (i:=15);rfl;rfl;rfl
   · intro w9 _;refine Ac (Bk U (.no U) U U (fun _=>rfl) U) U ?_;exact Al [3,4,5,6,7,8,9,18,19,20,21,22,26,27,28,29,30,33,34,35,36,37,39,40] [15]
   intros;exact Ba
   apply Dh.old0 (i:=14);rfl;rfl;rfl
   · intro w9 _;refine Ac (Bk U (.no U) U U (fun _=>rfl) U) U ?_;exact Aa Aw
   apply Dh.new0 (i:=16);rfl;rfl;rfl
   · intro w9 _;refine Ah ?_;exact Al [3,4,5,6,7,8,9,10,18,19,20,21,22,25,26,27,28,29,30,33,34,35,36,37] [15]
   intros;exact Ba
   apply Dh.new0 (i:=16);rfl;rfl;rfl
   · intro w9 _;refine Ah ?_;exact Al [3,4,5,6,7,8,9,10,18,19,20,21,22,26,27,28,29,30,33,34,35,36,37,40] [15]
   intros;exact Ba
   apply Dh.old0 (i:=15);rfl;rfl;rfl
   · intro w9 _;refine Ac (Bk U (.no U) U U (fun _=>rfl) U) U ?_;exact Aa Aw
   refine Dh.fin0 (k:=9) rfl ?_;intro  hp
   obtain _:=hp
   refine Ah ?_;refine Aa (Ae (As (Ay [3,4,5,6,7,8,9,10,11] [15]) ?_));refine Ad (Ab ?_);refine Ah ?_;refine Aa (Ad (Ab ?_));refine Ab ?_;refine Ac (Cf (xs:=[.tmp 43]) (rows:=[AQ ((DX a m (AL g u) z.letter:Nat):Int)]) U U U (.cons (.tm U) U U .nil) ZB in3 U U (U)) U ?_;refine Bt (B8 U U U (.tm U) U (.tm U) (by exact .t) (by rfl) ZB in3 U (by (simp [AH];omega)) (by (unfold maxLen;simp [AH];omega))) U ?_;refine Bv (Ay [3,4,5,6,7,8,9,10,11,45] [15]) ?_;refine Ah ?_;refine Aa (Ad (Ab ?_));refine A9 ?_;refine Ah ?_;refine Aa ?_
   repeat (with_reducible refine Av ?_)
   refine Jy.next (i+1) (r') (z.to) (DX a m (AL g u) z.letter) (O++[m]) ⟨⟨⟨by omega,by simp;omega⟩,hz4⟩,⟨by rw [List.append_assoc,List.singleton_append,←LV hz1];exact he.1,by rw [←List.drop_drop,he.2,K7 hz1];rfl⟩⟩ (by omega) (Au rfl ⟨rfl,rfl,rfl,rfl,rfl,rfl,rfl,Y⟩ ⟨(by (refine congrArg (fun r=>some (R.row _ r)) ?_;simp [AH,List.map_set,AQ,Ey,DV,BC,AS,BH,AP,AG,BG,BO,CF,DE,BW,BA,AE,AK,BJ,AT,Em,DD,AZ,BN])),Y⟩)
 try simp at h22
 refine Bf (Af (Ab ?_));refine Ah ?_;refine Aa (Aq (Res.one U (.tmp U .nil) U ?_))
 (have hr0:r=0:=by (first|omega|(simp at h22;omega)));subst hr0;(have h1:=he.1);rw [Fi] at h1;rw [h1];rfl
theorem L4 (g:AC) (a:AA) (ha:AJ a=true) (hg:AI g=true) (c y:Int) (hy:0≤y∧y<g.Values.length) (D:Nat) (hD:D≤60) (x:Int) (hw:Wg g a c y D x (2^a.Start.toNat)) (M:List Int) (hM:BR g ⟨x,gwS g a c y D x (2^a.Start.toNat)⟩=(M,true)) (h1:1≤M.length) (hl:HC M=y):FnT Z9 69 [.agg (AG g),.agg (AE a),.agg (BO ⟨x,gwS g a c y D x (2^a.Start.toNat)⟩)] (.a (.one (.v (.bool true)))):=by
 refine A8 ZS U (by kernel_rfl) ZT U fun hlen w0=>?_
 try simp [BC,AS,BH,AP,AG,BG,BO,CF,DE,BW,BA,AE,AK,BJ,AT,Em,DD,AZ,BN] at hlen
 have hal:=P4 ha hg D hw
 obtain⟨m',hm1,hm2,hm3⟩:=Om ha hg D hw
 have hm4:(Fi g a c y D x (2^a.Start.toNat))[(((Fi g a c y D x (2^a.Start.toNat)).length:Int)-1).toNat]?=some m':=(by rw [show (((Fi g a c y D x (2^a.Start.toNat)).length:Int)-1).toNat=D by omega];exact hm1)
 refine Af (Ac (Bg U U U (.tm U) (ts:=_) (by rfl)) U ?_);refine Ac (Bg U U U (.tm U) (ts:=_) (by rfl)) U ?_;refine Ac (Bg U U U (.tm U) (ts:=_) (by rfl)) U ?_;refine An ?_;refine Aa (Ae (Af (Aj B7 ?_)));refine Aj D6 ?_;refine By (L5 hM) ?_;refine Cy ?_;refine Ab ?_;refine Ac (Br U (by exact .not1 U U U U) U (.tmp U (by exact fun _=>rfl)) B6 U U) U ?_;refine Ac (Cw U (by exact .not1 U U U U) U (.cons (.tmp U (by exact fun _=>rfl)) U .nil) fun hq=>FnT.fr (FW a)) U ?_;refine Ac (Du U (by exact .not1 U U U U) U (.tmp U (by exact fun _=>rfl))) U ?_;refine Ac (OK U (.no U) U (.tm U) (.tmp U (by exact fun _=>rfl))) U ?_;refine Aa (Ai (.tm U) (fun h16=>?_) (fun h16=>?_))
 · exact absurd h16 (by simp [ha])
 try simp at h16
 refine Am (Ae (As (Ay [0,1,2,3,4,5,6] []) ?_));refine Ad (Aj B7 ?_);refine Aj B6 ?_;refine Aj D6 ?_;refine By (O8 g a ha hg c y D hD x hw) ?_;refine Ah ?_;refine Aa (Ae (Bx 13 (DM [[],[],[],[],[2,3],[],[],[6],[6,7],[5,6,7,8],[5,6,7,8,9],[0,1,2,3,4,5,6,7,8,9,10],[0,1,2,3,4,5,6,7,8,9,10,11]]) (by kernel_rfl) (by kernel_rfl) (by kernel_rfl) ?_));refine A5 B7 ?_;refine A5 B6 ?_;refine A5 B7 ?_;refine A5 D6 ?_;refine AB.s (fun _ hs=>Bc (FnT.fr ((by have h:=KU g ⟨x,gwS g a c y D x (2^a.Start.toNat)⟩ M hM h1;rw [hl] at h;exact h))) U (.no U) (Ag hs U) (.cons (hs.tm U) (AD hs U) (.cons (hs.tm U) (AD hs U) .nil))) ?_;refine Az ?_;refine Az ?_;refine AB.s (fun _ hs=>(by exact Di U (.no U) (Ag hs U) (hs.tm U) (by exact .t) ZB)) ?_;refine AB.s (fun _ hs=>D8 U (.no U) (Ag hs U) (hs.tm U) (.const U) (fun _=>by omega)) ?_
 refine AB.s (fun _ hs=>(by exact Ak U (.no U) (Ag hs U) (hs.tm U) (hs.tm U) ZB ty3 (fun _=>⟨by omega,(Ao (f:=fun m:Nat=>AQ (m:Int)) hm4)⟩))) ?_;refine A5 ty3 ?_;refine AB.s (fun _ hs=>Bc (FnT.fr ((by have h:=IU g a ha hg y hy m' hm2;rw [hm3] at h;exact h))) U (.no U) (Ag hs U) (.cons (hs.tm U) (AD hs U) (.cons (hs.tm U) (AD hs U) (.cons (hs.tm U) (AD hs U) (.cons (hs.tm U) (AD hs U) .nil))))) ?_;refine AB.s (fun _ hs=>Cl U (.no U) (Ag hs U) (hs.tm U)) ?_;refine Bs U U ?_;refine Aa (Aq (Bl U U ?_))
 rfl
theorem N3 (g:AC) (a:AA) (ha:AJ a=true) (hg:AI g=true) (c y:Int) (hy:0≤y∧y<g.Values.length) (D:Nat) (hD:D≤60) (x:Int) (hw:Wg g a c y D x (2^a.Start.toNat)) (M:List Int) (hM:BR g ⟨x,gwS g a c y D x (2^a.Start.toNat)⟩=(M,true)) (h1:1≤M.length) (hl:HC M=y):FnT Z9 30 [.agg (AG g),.agg (AE a),.one (.v (.int .i64 x)),.one (.v (.int .i64 y)),.agg (BO ⟨x,gwS g a c y D x (2^a.Start.toNat)⟩)] (.a (.one (.v (.bool true)))):=by
 refine A8 ZU U (by kernel_rfl) ZV U fun hlen w0=>?_
 try simp [BC,AS,BH,AP,AG,BG,BO,CF,DE,BW,BA,AE,AK,BJ,AT,Em,DD,AZ,BN] at hlen
 refine Af (Ac (Bg U U U (.tm U) (ts:=_) (by rfl)) U ?_);refine Ac (Bg U U U (.tm U) (ts:=_) (by rfl)) U ?_;refine Ac (Bg U U U (.tm U) (ts:=_) (by rfl)) U ?_;refine An ?_;refine Aa (Af (Aj B7 ?_));refine Aj B6 ?_;refine Aj D6 ?_;refine By (L4 g a ha hg c y hy D hD x hw M hM h1 hl) ?_;refine Ab ?_;refine Eb GP ?_;refine Ac (Br U (by exact .yes1 U U U U) U (.tmp U (by exact fun _=>rfl)) ty3 U U) U ?_;refine Cm ?_;refine Ac (Kc U (by exact .yes1 U U U U) U (.tmp U (by exact fun _=>rfl)) (.tmp U (by exact fun _=>rfl))) U ?_;refine Ac (IJ U (.no U) U (.tm U) (.tmp U (by exact fun _=>rfl))) U ?_;refine Ab ?_;refine Ac (Br U (by exact .yes1 U U U U) U (.tmp U (by exact fun _=>rfl)) B7 U U) U ?_;refine Ac (Br U (by exact .yes1 U U U U) U (.tmp U (by exact fun _=>rfl)) D6 U U) U ?_
 refine Ac (Cw U (by exact .yes1 U U U U) U (.cons (.tmp U (by exact id)) U (.cons (.tmp U (by exact id)) U .nil)) fun hq=>FnT.fr ((by have h:=KU g ⟨x,gwS g a c y D x (2^a.Start.toNat)⟩ M hM h1;rw [hl] at h;exact h))) U ?_;refine Cm ?_;refine Ac (Kc U (by exact .yes1 U U U U) U (.tmp U (by exact id)) (.tmp U (by exact id))) U ?_;refine Cn ?_;refine Ah ?_;refine Aa (Aq (Bl U U ?_))
 simp
theorem MH (g:AC) (c:Int) (s:DK):FnT Z9 71 [.agg (AG g),.one (.v (.int .i64 c)),.agg (BG s)] (.a (.one (.v (.bool (Ky g c s))))):=by
 refine A8 ZW U (by kernel_rfl) ZX U fun hlen w0=>?_
 try simp [BC,AS,BH,AP,AG,BG,BO,CF,DE,BW,BA,AE,AK,BJ,AT,Em,DD,AZ,BN] at hlen
 have hf:=Mi (g:=g) (s:=s)
 have ht:EY g s<g.Values.length∧ -1≤EY g s:=Mi (g:=g) (s:=⟨s.Edge,!s.Inverse⟩)
 refine Af (Ac (Bg U U U (.tm U) (ts:=_) (by rfl)) U ?_);refine Ac (Bg U U U (.tm U) (ts:=_) (by rfl)) U ?_;refine An ?_;refine Aa (Ae (Bx 8 (DM [[],[],[0,1],[],[],[0,1,2,3,4],[0,1,2,3,4,5],[0,1,2,3,4,5,6]]) (by kernel_rfl) (by kernel_rfl) (by kernel_rfl) ?_));refine A5 B7 ?_;refine A5 Ds ?_;refine AB.s (fun _ hs=>Bc (FnT.fr (Ih g s)) U (.no U) (Ag hs U) (.cons (hs.tm U) (AD hs U) (.cons (hs.tm U) (AD hs U) .nil))) ?_;refine A5 B7 ?_;refine A5 Ds ?_;refine AB.s (fun _ hs=>Bc (FnT.fr (NY g s)) U (.no U) (Ag hs U) (.cons (hs.tm U) (AD hs U) (.cons (hs.tm U) (AD hs U) .nil))) ?_;refine AB.s (fun _ hs=>Cl U (.no U) (Ag hs U) (hs.tm U)) ?_;refine AB.s (fun _ hs=>Cl U (.no U) (Ag hs U) (hs.tm U)) ?_;refine Bs U U ?_;refine Aa (Ae (As (Ay [0,1,2,3,5,6,7,8] []) ?_))
 refine Bx 21 (DM [[],[0],[0,1],[0,1,2],[0,1,2,3],[0,1,2,3,4],[0,1,2,3,4,5],[0,1,2,3,4,5,6],[0,1,2,3,4,5,6],[0,1,2,3,4,5,6,8],[0,1,2,3,4,5,6],[0,1,2,3,4,5,6,8,9,10],[0,1,2,3,4,5,6,8,9,10,11],[0,1,2,3,4,5,6],[0,1,2,3,4,5,6,13],[0,1,2,3,4,5,6],[0,1,2,3,4,5,6,13,14,15],[0,1,2,3,4,5,6,13,14,15,16],[0,1,2,3,4,5,6,7,8,9,10,11,12,13,14,15,16,17],[0,1,2,3,4,5,6,7,8,9,10,11,12,13,14,15,16,17,18],[0,1,2,3,4,5,6,7,8,9,10,11,12,13,14,15,16,17,18,19]]) (by kernel_rfl) (by kernel_rfl) (by kernel_rfl) ?_;refine Az ?_;refine AB.s (fun _ hs=>O0 U (.no U) (Ag hs U) (hs.tm U) (.const U)) ?_;refine Az ?_;refine AB.s (fun _ hs=>Bh U (by exact hs.y1) (Ag hs U) (hs.tm U)) ?_;refine AB.s (fun _ hs=>O0 U (by exact hs.y1) (Ag hs U) (hs.ti U) (.const U)) ?_;refine AB.s (fun _ hs=>IJ U (.no U) (Ag hs U) (hs.tm U) (hs.ti U)) ?_;refine Az ?_
 refine AB.s (fun _ hs=>Bh U (by exact hs.y1) (Ag hs U) (hs.tm U)) ?_;refine AB.s (fun _ hs=>(by exact Bu U (by exact hs.y1) (Ag hs U) (hs.tm U) Ci)) ?_;refine AB.s (fun _ hs=>(by exact Br U (by exact hs.y1) (Ag hs U) (hs.ti U) Cc U U)) ?_;refine AB.s (fun _ hs=>Bh U (by exact hs.y1) (Ag hs U) (hs.tm U)) ?_;refine AB.s (fun _ hs=>(by exact Ak U (by exact hs.y1) (Ag hs U) (hs.ti U) (hs.ti U) ZB ty3 (fun hq=>by (try simp at hq);exact⟨by omega,(Ao (OP (by omega) (by omega)))⟩))) ?_;refine AB.s (fun _ hs=>(by exact Br U (by exact hs.y1) (Ag hs U) (hs.ti U) ty3 U U)) ?_;refine AB.s (fun _ hs=>(by exact Bu U (by exact hs.y1) (Ag hs U) (hs.tm U) Ci)) ?_;refine AB.s (fun _ hs=>(by exact Br U (by exact hs.y1) (Ag hs U) (hs.ti U) Cc U U)) ?_;refine AB.s (fun _ hs=>Bh U (by exact hs.y1) (Ag hs U) (hs.tm U)) ?_
 refine AB.s (fun _ hs=>(by exact Ak U (by exact hs.y1) (Ag hs U) (hs.ti U) (hs.ti U) ZB ty3 (fun hq=>by (try simp at hq);exact⟨by omega,(Ao (OP (by omega) (by omega)))⟩))) ?_;refine AB.s (fun _ hs=>(by exact Br U (by exact hs.y1) (Ag hs U) (hs.ti U) ty3 U U)) ?_;refine AB.s (fun _ hs=>Cw U (by exact hs.y1) (Ag hs U) (.cons (hs.ti U) (AD hs U) (.cons (hs.ti U) (AD hs U) (.cons (hs.ti U) (AD hs U) .nil))) fun hq=>FnT.fr (GN c (AL g (DF g s)) (AL g (EY g s)))) ?_;refine AB.s (fun _ hs=>IJ U (.no U) (Ag hs U) (hs.tm U) (hs.ti U)) ?_;refine AB.s (fun _ hs=>Cl U (.no U) (Ag hs U) (hs.tm U)) ?_;refine Bs U U ?_;refine Aa (Aq (Bl U U ?_))
 unfold Ky;rfl
theorem MG (g:AC) (c:Int) (w:EV):FnT Z9 31 [.agg (AG g),.one (.v (.int .i64 c)),.agg (BO w)] (.a (.one (.v (.bool (Nf g c w))))):=by
 refine A8 ZY U (by kernel_rfl) ZZ U fun hlen w0=>?_
 try simp [BC,AS,BH,AP,AG,BG,BO,CF,DE,BW,BA,AE,AK,BJ,AT,Em,DD,AZ,BN] at hlen
 refine Af (Ac (Bg U U U (.tm U) (ts:=_) (by rfl)) U ?_);refine Ac (Bg U U U (.tm U) (ts:=_) (by rfl)) U ?_;refine An ?_;refine Aa (Ae (Af (A7 C8 ?_)));refine Aj FT ?_;refine Bi (.t) ZA ?_;refine Ac (Bh U (.no U) U (.const U)) U ?_;refine Aa (AW.block (B9 (fun (k:Nat)=>(k≤w.Steps.length)∧w.Steps.all (Ky g c)=(w.Steps.drop k).all (Ky g c)) (fun (k:Nat)=>⟨_,[(12,(true,.a (.one (.t (.v (.int .i64 (k:Nat))))))),(1,_),(3,_),(5,_),(10,_),(11,_)],[]⟩) (fun (k:Nat)=>w.Steps.length-k) (0) ⟨Nat.zero_le _,U⟩ (Au U ⟨U,U,U,U,U,U,Y⟩ trivial) ?_))
 rintro k ⟨hk,he⟩
 refine Af (AWl.lt ?_);refine Aa (Ae (Ai (.tm U) (fun h13=>?_) (fun h13=>?_)))
 · try simp at h13
   obtain⟨s,hst⟩:∃ ξ,w.Steps[k]?=some ξ:=⟨_,ZD (by omega)⟩
   refine Am (Ae (AW.block (Af (Ac (Ak U (.no U) U (.tm U) (.tm U) ZA Ds (fun _=>⟨by omega,(Ao hst)⟩)) U ?_))));refine Aj Ds ?_;refine A6 (Bd 8 U U U HE U U U) U ?_;refine A4 Ds ?_;refine Aa (Af (Aj B7 ?_));refine Ab ?_;refine Bb Ds ?_;refine By (MH g c s) ?_;refine Cy ?_;refine Aa (Ai (.tm U) (fun h20=>?_) (fun h20=>?_))
   · skip
     simp at h20
     refine Ae (As (Ay [1,3,5,8,10,11,12] [8]) ?_);refine Ad (An ?_);refine Aa (Aq (Bl U U ?_))
     unfold Nf;rw [he,MX hst,ZF,h20];rfl
   skip
   simp at h20
   refine Am (As (Ay [1,3,5,8,10,11,12] [8]) ?_);refine Ad (A9 ?_);refine Ab ?_;refine Aa ?_
   repeat (with_reducible refine Av ?_)
   refine BF.next (k+1) ⟨by omega,by rw [he,MX hst,ZF,h20,Bool.true_and]⟩ (by omega) (Au rfl ⟨rfl,rfl,rfl,rfl,rfl,rfl,Y⟩ trivial)
 try simp at h13
 refine Bf (Af (Ab ?_));refine By (CR c 0 4) ?_;refine Ab ?_;refine Ac (Br U (by exact .yes1 U U U U) U (.tmp U (by exact fun _=>rfl)) B7 U U) U ?_;refine Ac (Br U (by exact .yes1 U U U U) U (.tmp U (by exact fun _=>rfl)) D6 U U) U ?_;refine Ac (Cw U (by exact .yes1 U U U U) U (.cons (.tmp U (by exact id)) U (.cons (.tmp U (by exact id)) U .nil)) fun hq=>FnT.fr (MI g w)) U ?_;refine Cn ?_;refine Ah ?_;refine Aa (Aq (Bl U U ?_))
 unfold Nf;rw [he,List.drop_eq_nil_of_le (by omega)];rfl
theorem Vv {g:AC} {a:AA} {c:Int} {p:CU} (h:p∈CN g a c):∃ W:EV,DT g a c p.From p.To=(W,true):=by
 obtain⟨hgc,hc,hx,hy,hd⟩:=Hf.1 h
 unfold EA at hgc
 simp only [ZC] at hgc
 obtain⟨W,h1,_⟩:=HQ hgc.2 hgc.1 hx hy hc hd
 exact⟨W,h1⟩
theorem Fu {g:AC} {a:AA} {c x y:Int} {W:EV} (h:DT g a c x y=(W,true)):FnT Z9 27 [.agg (AG g),.agg (AE a),.one (.v (.int .i64 c)),.one (.v (.int .i64 x)),.one (.v (.int .i64 y))] (.tup [.agg (BO W),.one (.v (.bool true))]):=by
 have h1:=Ii g a c x y
 rw [h] at h1
 exact h1
theorem Fo {g:AC} {a:AA} {c x y:Int} {W:EV} (h:DT g a c x y=(W,true)):FnT Z9 28 [.agg (AG g),.agg (AE a),.one (.v (.int .i64 c)),.one (.v (.int .i64 x)),.one (.v (.int .i64 y))] (.tup [.agg (BO W),.one (.v (.bool true))]):=by
 have h1:=HY g a c x y
 rw [h] at h1
 exact h1
theorem N2 {g:AC} {a:AA} {c:Int} {p:CU} {W:EV} (hp:p∈CN g a c) (h:DT g a c p.From p.To=(W,true)):FnT Z9 30 [.agg (AG g),.agg (AE a),.one (.v (.int .i64 p.From)),.one (.v (.int .i64 p.To)),.agg (BO W)] (.a (.one (.v (.bool true)))):=by
 obtain⟨hgc,hc,hx,hy,hd⟩:=Hf.1 hp
 unfold EA at hgc
 simp only [ZC] at hgc
 obtain⟨W',h1,h2,⟨M,h3,h4,h5⟩,_⟩:=HQ hgc.2 hgc.1 hx hy hc hd
 have hl:=Og hgc.2 hgc.1 (c:=c) hx hy
 rw [h] at h1
 cases h1
 subst h2;exact N3 g a hgc.2 hgc.1 c p.To hy _ (by omega) p.From (Wg.start hgc.2 hgc.1 hx hy hd) M h3 h5 h4
theorem LL {g:AC} {a:AA} {c:Int} {p:CU} {W:EV} (hp:p∈CN g a c) (h:DT g a c p.From p.To=(W,true)):FnT Z9 31 [.agg (AG g),.one (.v (.int .i64 c)),.agg (BO W)] (.a (.one (.v (.bool true)))):=by
 obtain⟨hgc,hc,hx,hy,hd⟩:=Hf.1 hp
 unfold EA at hgc
 simp only [ZC] at hgc
 obtain⟨W',h1,_,_,h6⟩:=HQ hgc.2 hgc.1 hx hy hc hd
 rw [h] at h1
 cases h1
 have h2:=MG g c W
 rw [h6] at h2
 exact h2
end Go.Q
