import Derived.Test.YtdhojcaoljhbiaaGreatDoorB91xr
import Derived.Test.YtdhojcaoljhbiaaGreatDoorB90xr
set_option linter.unusedVariables false
set_option linter.unusedSimpArgs false
set_option maxHeartbeats 1000000
set_option maxRecDepth 100000
namespace Go.Proofs.YtdhojcaoljhbiaaGreatDoor
open Go.RowKit Go.Q Go.D
theorem specFormatIntP (n:Int) (h0:0≤n) (h1:n<1000000000000):FnT Tryz.prog 121 [.one (.v (.int .i64 n))] (.a (.one (.v (.string (bs (itoS n)))))):=by
 rw [itoS_num h0]
 obtain⟨n0,rfl⟩:=Int.eq_ofNat_of_zero_le h0
 refine Bb Tryz.func121 U (by kernel_rfl) Tryz.ntmps121 U fun hlen w0=>?_
 try simp [cEdge,cChange,cBatch] at hlen
 have hn0:n0<1000000000000:=by omega
 refine Af (Aj ?_);refine Aa (Ae (Af (Ab ?_)));refine Ck ?_;refine Aa (Al (.tm U) (fun h7=>?_) (fun h7=>?_))
 · try simp at h7
   refine Af (Aj ?_);refine Aa (Ap (By U U ?_))
   (have e:n0=0:=(by omega);subst e;unfold numS;rw [dig_small (by simp)];rfl)
 try simp at h7
 refine Am (Af (Aj ?_));refine Aa (Af (Ab ?_));refine AWl.lc ?_;refine Ah ?_;refine Aa (Ae (AW.block (Dn (fun (m:Nat) (O:ByteArray)=>(m<1000000000000∧O.size+m≤1000000000000)∧bs (restD n0)=bs (restD m)++O) (fun (m:Nat) (O:ByteArray)=>⟨_,[(0,(true,.a (.one (.t (.v (.int .i64 (m:Nat))))))),(3,(true,.a (.one (.t (.v (.string O)))))),(2,_),(4,_)],[]⟩) (fun (m:Nat) (O:ByteArray)=>m) (n0) (⟨#[]⟩) ⟨⟨by omega,by simp [ByteArray.size];omega⟩,(by rw [show (⟨#[]⟩:ByteArray)=bs [] from U,bs_append,List.append_nil])⟩ (A6 U ⟨U,U,U,U,Y⟩ trivial) ?_)))
 rintro m O ⟨hk,he⟩
 refine Ae (Af (Ab ?_));refine AWl.nc ?_;refine Aa (Al (.tm U) (fun h11=>?_) (fun h11=>?_))
 · try simp at h11
   have hm0:m≠0:=by (first|omega|(simp at h11;omega))
   refine Am (AW.block (Af (Ab ?_)));refine Ac (R_rem U (.no U) U (.tm U) (.const U) (fun _=>by omega)) U ?_;refine Ah ?_;refine Aa (Ae (Af (Ab ?_)));refine AWl.lc ?_;refine Aa (Al (.tm U) (fun h15=>?_) (fun h15=>?_))
   · exact absurd h15 (by (first|omega|(simp at h15;omega)))
   try simp at h15
   refine Am (Ae (Ar (Av [0,2,3,4,5] []) ?_));refine Ad (Ab ?_);refine Ac (C5 U (.no U) U (.const U) (.tm U) (fun _=>by omega)) U ?_;refine Ac (De U (.no U) U (.tm U) (by rw [Tryz.underlying3];rfl) Tryz.underlying5 (fun _=>(show IntKind.u8.wrap _=(48+(m:Int)%10) by simp [IntKind.wrap,IntKind.bits];omega))) U ?_;refine Ac (R_listz (xs:=[.tmp 20]) (rows:=[[.v (.int .u8 (48+(m:Int)%10))]]) U U U (.cons (.tm U) U U .nil) Tryz.underlying22 in5 U U (U)) U ?_;refine Ac (R_byteStr U (.no U) U (.tm U) Tryz.underlying22 Tryz.underlying5 Tryz.underlying9) U ?_;refine Ab ?_;refine Ac (Cr U (.no U) U (.tm U) (.tm U) (fun _=>by have:(⟨#[UInt8.ofNat ((48+(m:Int)%10)).toNat]⟩:ByteArray).size=1:=U;omega)) U ?_;refine Ah ?_;refine Aa (Ar (Av [0,2,3,4,5] []) ?_);refine Ad (Ab ?_);refine Ac (R_quo U (.no U) U (.tm U) (.const U) (fun _=>by omega)) U ?_;refine Ah ?_;refine Aa ?_
   repeat (with_reducible refine A7 ?_)
   refine Round2.next (m / 10) (((ByteArray.mk #[UInt8.ofNat ((48+(m:Int)%10)).toNat])++O)) ⟨⟨by omega,(by rw [ByteArray.size_append];have:(⟨#[UInt8.ofNat ((48+(m:Int)%10)).toNat]⟩:ByteArray).size=1:=rfl;omega)⟩,(by rw [he,restD_step (by omega),←bs_append,show (48+(m:Int)%10).toNat=48+m%10 by omega];rw [ByteArray.append_assoc];rfl)⟩ (by omega) (A6 rfl ⟨rfl,rfl,rfl,rfl,Y⟩ trivial)
 try simp at h11
 refine Bt (Ae (Af (Ab ?_)));refine Aa (Al (.tm U) (fun h27=>?_) (fun h27=>?_))
 · exact absurd h27 (by simp)
 try simp at h27
 refine Am (Af (Ab ?_));refine Ah ?_;refine Aa (Ap (By U U ?_))
 (have e:m=0:=(by omega);have e0:n0≠0:=(by omega);rw [e] at he;unfold restD at he;rw [if_neg e0,if_pos rfl] at he;unfold numS;rw [Int.toNat_natCast,he,bs_nil_append])
theorem implFormatEdge (e:TEdge):FnT Tryz.prog 248 [.agg (cEdge e)] (.a (.one (.v (.string (bs (fmtEdge e)))))):=by
 refine Bb Tryz.func248 U (by kernel_rfl) Tryz.ntmps248 U fun hlen w0=>?_
 try simp [cEdge,cChange,cBatch] at hlen
 refine Af (Ac (Bx U U U (.tm U) (ts:=_) (by rfl)) U ?_);refine Aj ?_;refine Aa (Ae (Af (A3 Ba ?_)));refine Ac (Bo (FnT.fr (impledgeOk e 5 (by omega) (by omega))) U (.no U) U (.cons (.tm U) U (.cons (.const U) U .nil))) U ?_;refine Cg ?_;refine Aa (Al (.tm U) (fun h5=>?_) (fun h5=>?_))
 · try simp at h5
   refine Af (Aj ?_);refine Aa (Ap (By U U ?_))
   (unfold fmtEdge;rw [if_neg (by simpa using h5)];rfl)
 try simp at h5
 have hok:edgeOk e 5=true:=by simpa using h5
 have hr:=edge_r hok
 have s1:=numS_len (n:=e.ID) (by omega)
 have s2:=numS_len (n:=e.From) (by omega)
 have s3:=numS_len (n:=e.To) (by omega)
 have s4:((ByteArray.mk #[97,98,99]).extract e.Label.toNat (e.Label.toNat+1)).size≤2:=by (rw [lab_abc (by omega) (by omega),bs_size];exact letS_len _)
 have s5:(ByteArray.mk #[58]).size=1:=rfl
 have s6:(ByteArray.mk #[97,98,99]).size=3:=rfl
 refine Am (Ae (Cv 20 (nthB [[],[0],[0,1],[0,1,2],[],[4],[0,1,2,4,5],[0,1,2,3,4,5,6],[],[8],[],[10],[10,11],[8,9,10,11,12],[0,1,2,3,4,5,6,7,8,9,10,11,12,13],[],[15],[0,1,2,4,5,6,15,16],[0,1,2,3,4,5,6,7,8,9,10,11,12,13,14,15,16,17],[0,1,2,3,4,5,6,7,8,9,10,11,12,13,14,15,16,17,18]]) (by kernel_rfl) (by kernel_rfl) (by kernel_rfl) ?_));refine Di Cx ?_;refine Cd ty3 ?_;refine DrawC.s (fun _ hs=>Bo (FnT.fr (implFormatInt e.ID (by omega) (by omega))) U (.no U) (Ag hs U) (.cons (hs.tm U) (readA_sup hs U) .nil)) ?_;refine DrawC.s (fun _ hs=>Cr U (.no U) (Ag hs U) (hs.tm U) (.const U) (fun _=>by simp only [ByteArray.size_append,bs_size];omega)) ?_;refine Di fl101_1 ?_;refine Cd ty3 ?_;refine DrawC.s (fun _ hs=>Bo (FnT.fr (implFormatInt e.From (by omega) (by omega))) U (.no U) (Ag hs U) (.cons (hs.tm U) (readA_sup hs U) .nil)) ?_
 refine DrawC.s (fun _ hs=>Cr U (.no U) (Ag hs U) (hs.tm U) (hs.tm U) (fun _=>by simp only [ByteArray.size_append,bs_size];omega)) ?_;refine Di fl101_3 ?_;refine Cd ty3 ?_;refine Di fl101_3 ?_;refine Cd ty3 ?_;refine DrawC.s (fun _ hs=>C5 U (.no U) (Ag hs U) (hs.tm U) (.const U) (fun _=>by omega)) ?_;refine DrawC.s (fun _ hs=>Cl (n:=e.Label.toNat) (m:=e.Label.toNat+1) U (.no U) (Ag hs U) (.const U) (.yes (hs.tm U) (fun _=>by first|omega|(simp<;>omega))) (.yes (hs.tm U) (fun _=>by first|omega|(simp<;>omega))) Tryz.underlying9 (fun _=>⟨by omega,by omega⟩)) ?_;refine DrawC.s (fun _ hs=>Cr U (.no U) (Ag hs U) (hs.tm U) (hs.tm U) (fun _=>by simp only [ByteArray.size_append,bs_size];omega)) ?_;refine Di fl101_2 ?_;refine Cd ty3 ?_;refine DrawC.s (fun _ hs=>Bo (FnT.fr (implFormatInt e.To (by omega) (by omega))) U (.no U) (Ag hs U) (.cons (hs.tm U) (readA_sup hs U) .nil)) ?_
 refine DrawC.s (fun _ hs=>Cr U (.no U) (Ag hs U) (hs.tm U) (hs.tm U) (fun _=>by simp only [ByteArray.size_append,bs_size];omega)) ?_;refine DrawC.s (fun _ hs=>R_assign U (.no U) (Ag hs U) (hs.tm U)) ?_;refine Cm U U ?_;refine Aa (Ap (By U U ?_))
 (unfold fmtEdge;rw [if_pos hok,lab_abc (by omega) (by omega),show (ByteArray.mk #[58])=bs [58] from rfl];simp only [bs_append])
theorem specFormatEdge (e:TEdge):FnT Tryz.prog 168 [.agg (cEdge e)] (.a (.one (.v (.string (bs (fmtEdge e)))))):=by
 refine Bb Tryz.func168 U (by kernel_rfl) Tryz.ntmps168 U fun hlen w0=>?_
 try simp [cEdge,cChange,cBatch] at hlen
 refine Af (Ac (Bx U U U (.tm U) (ts:=_) (by rfl)) U ?_);refine Aj ?_;refine Aa (Ae (Af (Bz Cx ?_)));refine A3 ty3 ?_;refine Br (specl1In e.ID 1 99) ?_;refine Cg ?_;refine Ab ?_;refine AWl.fw fl101_1 ?_;refine AWl.lw ty3 ?_;refine Ac (Bo (FnT.fr (specl1In e.From 0 4)) U (by exact .not1 U U U U) U (.cons (.tmp U (by exact id)) U (.cons (.const U) U (.cons (.const U) U .nil)))) U ?_;refine Ac (Dq U (by exact .not1 U U U U) U (.tmp U (by exact id))) U ?_;refine Ci ?_;refine Ab ?_;refine AWl.fw fl101_2 ?_;refine AWl.lw ty3 ?_;refine Ac (Bo (FnT.fr (specl1In e.To 0 4)) U (by exact .not1 U U U U) U (.cons (.tmp U (by exact id)) U (.cons (.const U) U (.cons (.const U) U .nil)))) U ?_;refine Ac (Dq U (by exact .not1 U U U U) U (.tmp U (by exact id))) U ?_;refine Ci ?_;refine Ab ?_;refine AWl.fw fl101_3 ?_;refine AWl.lw ty3 ?_
 refine Ac (Bo (FnT.fr (specl1In e.Label 0 2)) U (by exact .not1 U U U U) U (.cons (.tmp U (by exact id)) U (.cons (.const U) U (.cons (.const U) U .nil)))) U ?_;refine Ac (Dq U (by exact .not1 U U U U) U (.tmp U (by exact id))) U ?_;refine Ci ?_;refine Aa (Al (.tm U) (fun h24=>?_) (fun h24=>?_))
 · try simp at h24
   refine Ae (Ar (Av [0,1,2] []) ?_);refine Ad (Aj ?_);refine Aa (Ap (By U U ?_))
   (unfold fmtEdge;rw [if_neg (by unfold edgeOk;intro hh;simp at h24 hh;simp [hh] at h24)];rfl)
 try simp at h24
 have hok:edgeOk e 5=true:=by (unfold edgeOk;simp at h24 ⊢;simpa [and_assoc] using h24)
 have hr:=edge_r hok
 have s1:=numS_len (n:=e.ID) (by omega)
 have s2:=numS_len (n:=e.From) (by omega)
 have s3:=numS_len (n:=e.To) (by omega)
 have s4:=letS_len (2*e.Label)
 have s5:(ByteArray.mk #[58]).size=1:=rfl
 refine Am (Ae (Ar (Av [0,1,2] []) ?_));refine Cv 18 (nthB [[],[0],[0,1],[0,1,2],[],[4],[0,1,2,4,5],[0,1,2,3,4,5,6],[],[8],[8,9],[0,1,2,4,5,6,8,9,10],[0,1,2,3,4,5,6,7,8,9,10,11],[],[13],[0,1,2,4,5,6,8,9,10,11,13,14],[0,1,2,3,4,5,6,7,8,9,10,11,12,13,14,15],[0,1,2,3,4,5,6,7,8,9,10,11,12,13,14,15,16]]) (by kernel_rfl) (by kernel_rfl) (by kernel_rfl) ?_;refine Di Cx ?_;refine Cd ty3 ?_;refine DrawC.s (fun _ hs=>Bo (FnT.fr (specFormatInt e.ID (by omega) (by omega))) U (.no U) (Ag hs U) (.cons (hs.tm U) (readA_sup hs U) .nil)) ?_;refine DrawC.s (fun _ hs=>Cr U (.no U) (Ag hs U) (hs.tm U) (.const U) (fun _=>by simp only [ByteArray.size_append,bs_size];omega)) ?_;refine Di fl101_1 ?_;refine Cd ty3 ?_;refine DrawC.s (fun _ hs=>Bo (FnT.fr (specFormatInt e.From (by omega) (by omega))) U (.no U) (Ag hs U) (.cons (hs.tm U) (readA_sup hs U) .nil)) ?_
 refine DrawC.s (fun _ hs=>Cr U (.no U) (Ag hs U) (hs.tm U) (hs.tm U) (fun _=>by simp only [ByteArray.size_append,bs_size];omega)) ?_;refine Di fl101_3 ?_;refine Cd ty3 ?_;refine DrawC.s (fun _ hs=>R_mul U (.no U) (Ag hs U) (.const U) (hs.tm U) (fun _=>by omega)) ?_;refine DrawC.s (fun _ hs=>Bo (FnT.fr (specFormatLetter (2*e.Label) (by omega) (by omega))) U (.no U) (Ag hs U) (.cons (hs.tm U) (readA_sup hs U) .nil)) ?_;refine DrawC.s (fun _ hs=>Cr U (.no U) (Ag hs U) (hs.tm U) (hs.tm U) (fun _=>by simp only [ByteArray.size_append,bs_size];omega)) ?_;refine Di fl101_2 ?_;refine Cd ty3 ?_;refine DrawC.s (fun _ hs=>Bo (FnT.fr (specFormatInt e.To (by omega) (by omega))) U (.no U) (Ag hs U) (.cons (hs.tm U) (readA_sup hs U) .nil)) ?_;refine DrawC.s (fun _ hs=>Cr U (.no U) (Ag hs U) (hs.tm U) (hs.tm U) (fun _=>by simp only [ByteArray.size_append,bs_size];omega)) ?_
 refine DrawC.s (fun _ hs=>R_assign U (.no U) (Ag hs U) (hs.tm U)) ?_;refine Cm U U ?_;refine Aa (Ap (By U U ?_))
 (unfold fmtEdge;rw [if_pos hok,show (ByteArray.mk #[58])=bs [58] from rfl];simp only [bs_append])
theorem implFormatBatch (b:TBatch):FnT Tryz.prog 219 [.agg (cBatch b)] (.a (.one (.v (.string (bs (fmtBatch b)))))):=by
 refine Bb Tryz.func219 U (by kernel_rfl) Tryz.ntmps219 U fun hlen w0=>?_
 try simp [cEdge,cChange,cBatch] at hlen
 refine Af (Ac (Bx U U U (.tm U) (ts:=_) (by rfl)) U ?_);refine Aj ?_;refine Aa (Ae (Af (Bz Bv ?_)));refine A3 Ct ?_;refine Bu (.t) Tryz.underlying66 ?_;refine Db ?_;refine Aa (Al (.tm U) (fun h10=>?_) (fun h10=>?_))
 · try simp at h10
   refine Af (Aj ?_);refine Aa (Ap (By U U ?_))
   (rw [batch_long (by omega)];rfl)
 try simp at h10
 have h6:b.Changes.length≤6:=by (first|omega|(simp at h10;omega))
 refine Am (Af (Au (Df 11 U U U Tryz.underlying102 ty9 U) U ?_));refine Ah ?_;refine Aa (Ae (Af (Bz Bv ?_)));refine A3 Ct ?_;refine Bu (.t) Tryz.underlying66 ?_;refine Ac (Bh U (.no U) U (.const U)) U ?_;refine Aa (AW.block ?_);refine AW.loop1 (fun (k:Nat)=>(k≤b.Changes.length∧(∀ j c,j<k→b.Changes[j]?=some c→fmtEdge c.Edge≠[]))∧True) (fun (k:Nat)=>⟨_,[(15,(true,.a (.one (.t (.v (.int .i64 (k:Nat))))))),(3,(true,.a (.one (.rf 11)))),(13,_),(14,_)],[(11,.row 1 (((b.Changes.take k).map fmtCh).map cStr))]⟩) (fun (k:Nat)=>b.Changes.length-k) (0) ⟨⟨Nat.zero_le _,fun j c hj=>by omega⟩,Y⟩ Ay ?_
 rintro k ⟨hk,he⟩
 refine Af (AWl.lt ?_);refine Aa (Ae (Al (.tm U) (fun h16=>?_) (fun h16=>?_)))
 · try simp at h16
   obtain⟨x,hx⟩:∃ ξ,b.Changes[k]?=some ξ:=⟨_,List.getElem?_eq_getElem (by omega)⟩
   have hl:=fmtEdge_len (e:=x.Edge)
   have e1:(ByteArray.mk #[43]).size=1:=rfl
   have e2:(ByteArray.mk #[45]).size=1:=rfl
   refine Am (Ae (AW.block (Af (Ac (Aw U (.no U) U (.tm U) (.tm U) Tryz.underlying66 Dc (fun _=>⟨by omega,(A5 hx)⟩)) U ?_))));refine A3 Dc ?_;refine Au (Az 5 U U U Cz U U U) U ?_;refine An Dc ?_;refine Aa (Af (A8 fl162_1 ?_));refine Ai Ba ?_;refine Br (implFormatEdge x.Edge) ?_;refine Ah ?_;refine Aa (Ae (Ae (Ar (Av [3,5,6,13,14,15] [11,5]) ?_)));refine Ad (Ab ?_);refine Ac (R_eqstr U (.no U) U (.tm U) (.const U)) U ?_;refine Aa (Al (.tm U) (fun h23=>?_) (fun h23=>?_))
   · try simp at h23
     refine Af (Aj ?_);refine Aa (Ap (By U U ?_))
     (rw [batch_bad hx (bs_inj (m:=[]) h23)];rfl)
   try simp at h23
   have hne:fmtEdge x.Edge≠[]:=by (intro hh;rw [hh] at h23;exact h23 rfl)
   refine Am (Af (A8 fl162_0 ?_));refine Ai ty4 ?_;refine Aa (Al (.tm U) (fun h25=>?_) (fun h25=>?_))
   · try simp at h25
     refine Ad (Ab ?_);refine Ab ?_;refine Ac (Cr U (.no U) U (.const U) (.tm U) (fun _=>by first|omega|(simp only [ByteArray.size_append,bs_size];omega))) U ?_;refine Bd (B8 (xs:=[.tmp 28]) 29 U U U (.cons (.tm U) U U .nil) Tryz.underlying102 in9 U U U U) U ?_;refine Ce (Cc U U U (.tm U) U (.tm U) (by exact .rf U) (by rfl) Tryz.underlying102 in9 U (by (simp [chunk];omega)) (by (unfold maxLen;simp [chunk];omega))) U ?_;refine Bf (Av [3,5,6,13,14,15,23,25,30] [11,5,29]) ?_;refine Ah ?_;refine Aa (Ad (Bs ?_));refine Ab ?_;refine Aa ?_
     repeat (with_reducible refine A7 ?_)
     refine Round1.next (k+1) ⟨⟨by omega,batch_more hk.2 hx hne⟩,Y⟩ (by omega) (A6 rfl ⟨rfl,rfl,rfl,rfl,Y⟩ ⟨(by refine congrArg (fun r=>some (R.row 1 r)) ?_;rw [take_at hx];simp [chunk,cStr,fmtCh,h25];exact bs_append [43] _),Y⟩)
   try simp at h25
   refine Ad (Ab ?_);refine Ab ?_;refine Ac (Cr U (.no U) U (.const U) (.tm U) (fun _=>by first|omega|(simp only [ByteArray.size_append,bs_size];omega))) U ?_;refine Bd (B8 (xs:=[.tmp 33]) 34 U U U (.cons (.tm U) U U .nil) Tryz.underlying102 in9 U U U U) U ?_;refine Ce (Cc U U U (.tm U) U (.tm U) (by exact .rf U) (by rfl) Tryz.underlying102 in9 U (by (simp [chunk];omega)) (by (unfold maxLen;simp [chunk];omega))) U ?_;refine Bf (Av [3,5,6,13,14,15,23,25,35] [11,5,34]) ?_;refine Ah ?_;refine Aa (Ad (Bs ?_));refine Ab ?_;refine Aa ?_
   repeat (with_reducible refine A7 ?_)
   refine Round1.next (k+1) ⟨⟨by omega,batch_more hk.2 hx hne⟩,Y⟩ (by omega) (A6 rfl ⟨rfl,rfl,rfl,rfl,Y⟩ ⟨(by refine congrArg (fun r=>some (R.row 1 r)) ?_;rw [take_at hx];simp [chunk,cStr,fmtCh,h25];exact bs_append [45] _),Y⟩)
 try simp at h16
 refine Bt (Ae (Ar (σ':=⟨_,[(3,_),(13,_),(14,_),(15,_)],[(11,.row 1 ((b.Changes.map fmtCh).map cStr))]⟩) (A6 U ⟨U,U,U,U,Y⟩ ⟨by rw [List.take_of_length_le (l:=b.Changes) (by omega)];rfl,Y⟩) ?_));refine Ad (Ab ?_);refine Ac (Bo (FnT.fr (stringsJoin (b.Changes.map fmtCh) [32] (by have:=joinL_len (sep:=[32]) (b:=9) (f:=fmtCh) (l:=b.Changes) fun c _=>fmtCh_len;simp at this;omega) (by rw [List.length_map];omega))) U (.no U) U (.cons (.tm U) U (.cons (.const U) U .nil))) U ?_;refine Ah ?_;refine Aa (Ap (By U U ?_))
 (rw [batch_all h6 (by omega) hk.2])
theorem specFormatBatch (b:TBatch):FnT Tryz.prog 120 [.agg (cBatch b)] (.a (.one (.v (.string (bs (fmtBatch b)))))):=by
 refine Bb Tryz.func120 U (by kernel_rfl) Tryz.ntmps120 U fun hlen w0=>?_
 try simp [cEdge,cChange,cBatch] at hlen
 refine Af (Ac (Bx U U U (.tm U) (ts:=_) (by rfl)) U ?_);refine Aj ?_;refine Aa (Af (Aj ?_));refine Aa (Ae (Af (Bz Bv ?_)));refine A3 Ct ?_;refine Bu (.t) Tryz.underlying66 ?_;refine Db ?_;refine Aa (Al (.tm U) (fun h9=>?_) (fun h9=>?_))
 · try simp at h9
   refine Af (Aj ?_);refine Aa (Ap (By U U ?_))
   (rw [batch_long (by omega)];rfl)
 try simp at h9
 have h6:b.Changes.length≤6:=by (first|omega|(simp at h9;omega))
 refine Am (Ae (Af (Aj ?_)));refine Aa (AW.block (Dn (fun (k:Nat) (O:ByteArray)=>(k≤b.Changes.length∧(∀ j c,j<k→b.Changes[j]?=some c→fmtEdge c.Edge≠[]))∧O=bs (joinL [32] ((b.Changes.take k).map fmtCh))) (fun (k:Nat) (O:ByteArray)=>⟨_,[(4,(true,.a (.one (.t (.v (.int .i64 (k:Nat))))))),(3,(true,.a (.one (.t (.v (.string O)))))),(1,_)],[]⟩) (fun (k:Nat) (O:ByteArray)=>b.Changes.length-k) (0) (⟨#[]⟩) ⟨⟨Nat.zero_le _,fun j c hj=>by omega⟩,(by simp [joinL_nil];rfl)⟩ (A6 U ⟨U,U,U,Y⟩ trivial) ?_))
 rintro k O ⟨hk,he⟩
 refine Ae (Af (Ab ?_));refine Bz Bv ?_;refine A3 Ct ?_;refine Bu (.t) Tryz.underlying66 ?_;refine AWl.lt ?_;refine Aa (Al (.tm U) (fun h14=>?_) (fun h14=>?_))
 · try simp at h14
   obtain⟨x,hx⟩:∃ ξ,b.Changes[k]?=some ξ:=⟨_,List.getElem?_eq_getElem (by omega)⟩
   have hl:=fmtEdge_len (e:=x.Edge)
   have e1:(ByteArray.mk #[43]).size=1:=rfl
   have e2:(ByteArray.mk #[45]).size=1:=rfl
   have e3:(ByteArray.mk #[32]).size=1:=rfl
   have hO:O.size≤100:=by (rw [he,bs_size];exact Nat.le_trans (joinL_len (sep:=[32]) (b:=9) (f:=fmtCh) (l:=b.Changes.take k) fun c _=>fmtCh_len) (by rw [List.length_take];simp only [List.length_cons,List.length_nil];omega))
   refine Am (Ae (AW.block (Af (Bz Bv ?_))));refine A3 Ct ?_;refine Ab ?_;refine Ac (Aw U (.no U) U (.tm U) (.tm U) Tryz.underlying66 Dc (fun _=>⟨by omega,(A5 hx)⟩)) U ?_;refine Bz fl162_1 ?_;refine A3 Ba ?_;refine Br (specFormatEdge x.Edge) ?_;refine Ah ?_;refine Aa (Ae (Ae (Ar (Av [1,3,4,5] []) ?_)));refine Ad (Ab ?_);refine Ac (R_eqstr U (.no U) U (.tm U) (.const U)) U ?_;refine Aa (Al (.tm U) (fun h25=>?_) (fun h25=>?_))
   · try simp at h25
     refine Af (Aj ?_);refine Aa (Ap (By U U ?_))
     (rw [batch_bad hx (bs_inj (m:=[]) h25)];rfl)
   try simp at h25
   have hne:fmtEdge x.Edge≠[]:=by (intro hh;rw [hh] at h25;exact h25 rfl)
   refine Am (Ae (Af (Ab ?_)));refine Db ?_;refine Aa (Al (.tm U) (fun h27=>?_) (fun h27=>?_))
   · try simp at h27
     have hk0:k≠0:=by (first|omega|(simp at h27;omega))
     refine Ad (Ab ?_);refine Ac (Cr U (.no U) U (.tm U) (.const U) (fun _=>by first|omega|(simp only [ByteArray.size_append,bs_size];omega))) U ?_;refine Ah ?_;refine Aa (Ae (Ar (Av [1,3,4,5] []) ?_));refine Ad (Bz Bv ?_);refine A3 Ct ?_;refine Ab ?_;refine Ac (Aw U (.no U) U (.tm U) (.tm U) Tryz.underlying66 Dc (fun _=>⟨by omega,(A5 hx)⟩)) U ?_;refine Bz fl162_0 ?_;refine A3 ty4 ?_;refine Aa (Al (.tm U) (fun h35=>?_) (fun h35=>?_))
     · try simp at h35
       refine Ar (Av [1,3,4,5] []) ?_;refine Ad (Ab ?_);refine Ac (Cr U (.no U) U (.tm U) (.const U) (fun _=>by first|omega|(simp only [ByteArray.size_append,bs_size];omega))) U ?_;refine Ab ?_;refine Ac (Cr U (.no U) U (.tm U) (.tm U) (fun _=>by first|omega|(simp only [ByteArray.size_append,bs_size];omega))) U ?_;refine Ah ?_;refine Aa (Ad (Ab ?_));refine Bs ?_;refine Ah ?_;refine Aa ?_
       repeat (with_reducible refine A7 ?_)
       refine Round2.next (k+1) ((((O++(ByteArray.mk #[32]))++(ByteArray.mk #[43]))++bs (fmtEdge x.Edge))) ⟨⟨by omega,batch_more hk.2 hx hne⟩,(batch_txt hx he hk0 (fmtCh_p h35))⟩ (by omega) (A6 rfl ⟨rfl,rfl,rfl,Y⟩ trivial)
     try simp at h35
     refine Ar (Av [1,3,4,5] []) ?_;refine Ad (Ab ?_);refine Ac (Cr U (.no U) U (.tm U) (.const U) (fun _=>by first|omega|(simp only [ByteArray.size_append,bs_size];omega))) U ?_;refine Ab ?_;refine Ac (Cr U (.no U) U (.tm U) (.tm U) (fun _=>by first|omega|(simp only [ByteArray.size_append,bs_size];omega))) U ?_;refine Ah ?_;refine Aa (Ad (Ab ?_));refine Bs ?_;refine Ah ?_;refine Aa ?_
     repeat (with_reducible refine A7 ?_)
     refine Round2.next (k+1) ((((O++(ByteArray.mk #[32]))++(ByteArray.mk #[45]))++bs (fmtEdge x.Edge))) ⟨⟨by omega,batch_more hk.2 hx hne⟩,(batch_txt hx he hk0 (fmtCh_m h35))⟩ (by omega) (A6 rfl ⟨rfl,rfl,rfl,Y⟩ trivial)
   try simp at h27
   have hk0:k=0:=by (first|omega|(simp at h27;omega))
   refine Am (Af (Bz Bv ?_));refine A3 Ct ?_;refine Ab ?_;refine Ac (Aw U (.no U) U (.tm U) (.tm U) Tryz.underlying66 Dc (fun _=>⟨by omega,(A5 hx)⟩)) U ?_;refine Bz fl162_0 ?_;refine A3 ty4 ?_;refine Aa (Al (.tm U) (fun h35=>?_) (fun h35=>?_))
   · try simp at h35
     refine Ar (Av [1,3,4,5] []) ?_;refine Ad (Ab ?_);refine Ac (Cr U (.no U) U (.tm U) (.const U) (fun _=>by first|omega|(simp only [ByteArray.size_append,bs_size];omega))) U ?_;refine Ab ?_;refine Ac (Cr U (.no U) U (.tm U) (.tm U) (fun _=>by first|omega|(simp only [ByteArray.size_append,bs_size];omega))) U ?_;refine Ah ?_;refine Aa (Ad (Ab ?_));refine Bs ?_;refine Ah ?_;refine Aa ?_
     repeat (with_reducible refine A7 ?_)
     refine Round2.next (k+1) (((O++(ByteArray.mk #[43]))++bs (fmtEdge x.Edge))) ⟨⟨by omega,batch_more hk.2 hx hne⟩,(batch_txt0 hx he hk0 (fmtCh_p h35))⟩ (by omega) (A6 rfl ⟨rfl,rfl,rfl,Y⟩ trivial)
   try simp at h35
   refine Ar (Av [1,3,4,5] []) ?_;refine Ad (Ab ?_);refine Ac (Cr U (.no U) U (.tm U) (.const U) (fun _=>by first|omega|(simp only [ByteArray.size_append,bs_size];omega))) U ?_;refine Ab ?_;refine Ac (Cr U (.no U) U (.tm U) (.tm U) (fun _=>by first|omega|(simp only [ByteArray.size_append,bs_size];omega))) U ?_;refine Ah ?_;refine Aa (Ad (Ab ?_));refine Bs ?_;refine Ah ?_;refine Aa ?_
   repeat (with_reducible refine A7 ?_)
   refine Round2.next (k+1) (((O++(ByteArray.mk #[45]))++bs (fmtEdge x.Edge))) ⟨⟨by omega,batch_more hk.2 hx hne⟩,(batch_txt0 hx he hk0 (fmtCh_m h35))⟩ (by omega) (A6 rfl ⟨rfl,rfl,rfl,Y⟩ trivial)
 try simp at h14
 refine Bt (Af (Ab ?_));refine Ah ?_;refine Aa (Ap (By U U ?_))
 (rw [batch_all h6 (by omega) hk.2,he,List.take_of_length_le (by omega)])
theorem implEncodeRecord (v:Int) (b:TBatch):FnT Tryz.prog 171 [.one (.v (.int .i64 v)),.agg (cBatch b)] (.a (.one (.v (.string (bs (encRec v b)))))):=by
 refine Bb Tryz.func171 U (by kernel_rfl) Tryz.ntmps171 U fun hlen w0=>?_
 try simp [cEdge,cChange,cBatch] at hlen
 have hbl:=fmtBatch_len b
 have e1:(ByteArray.mk #[59]).size=1:=rfl
 have e2:(ByteArray.mk #[10]).size=1:=rfl
 refine Af (Ac (Bx U U U (.tm U) (ts:=_) (by rfl)) U ?_);refine Aj ?_;refine Aa (Af (A3 Cf ?_));refine Br (implFormatBatch b) ?_;refine Ah ?_;refine Aa (Ae (Af (Ab ?_)));refine Br (implwithin v 1 999) ?_;refine Cg ?_;refine Ab ?_;refine Co ?_;refine Ac (R_eqstr U (by exact .not1 U U U U) U (.tmp U (by exact id)) (.const U)) U ?_;refine Ac (Bh U (by exact .not1 U U U U) U (.tmp U (by exact id))) U ?_;refine Ac (Bc U (by exact .yes U U U U) U (.tmp U (by exact fun _=>rfl)) Bv) U ?_;refine Ac (Bl U (by exact .yes U U U U) U (.tmp U (by exact id)) Ct U U) U ?_;refine Ac (Cn U (by exact .yes U U U U) U (.tmp U (by exact id)) (by exact .t) Tryz.underlying66) U ?_;refine Ac (R_gt U (by exact .yes U U U U) U (.tmp U (by exact id)) (.const U)) U ?_;refine Ac (R_and U (by exact .not1 U U U U) U (.tmp U (by exact id)) (.tmp U (by exact id))) U ?_;refine Ci ?_
 refine Aa (Al (.tm U) (fun h21=>?_) (fun h21=>?_))
 · try simp at h21
   refine Ae (Ar (Av [0,1,3,4,5] []) ?_);refine Ad (Aj ?_);refine Aa (Ap (By U U ?_))
   (unfold encRec;rw [if_neg (rec_no h21)];rfl)
 try simp at h21
 have hok:recOk v b=true:=by (exact rec_iff.2 h21)
 have hv:1≤v∧v≤999:=by (unfold recOk inB at hok;simp at hok;omega)
 have hs1:=itoS_len (n:=v) (by omega) (by omega)
 have hd:bs (recHead v b)=((bs (itoS v)++(ByteArray.mk #[59]))++bs (fmtBatch b))++(ByteArray.mk #[59]):=by (unfold recHead;rw [show (ByteArray.mk #[59])=bs [59] from rfl];simp only [bs_append])
 have hdl:(recHead v b).length≤120:=by (unfold recHead;simp only [List.length_append,List.length_singleton];omega)
 have hc:=chkS_le (recHead v b)
 have hs2:=itoS_len (n:=chkS (recHead v b)) (by omega) (by omega)
 refine Am (Ae (Ar (Av [0,1,3,4,5] []) ?_));refine Ad (Ab ?_);refine Ac (Bo (FnT.fr (implFormatIntA v (by omega) (by omega))) U (.no U) U (.cons (.tm U) U .nil)) U ?_;refine Ac (Cr U (.no U) U (.tm U) (.const U) (fun _=>by first|omega|(simp only [ByteArray.size_append,bs_size];omega))) U ?_;refine Ab ?_;refine Ac (Cr U (.no U) U (.tm U) (.tm U) (fun _=>by first|omega|(simp only [ByteArray.size_append,bs_size];omega))) U ?_;refine Ac (Cr U (.no U) U (.tm U) (.const U) (fun _=>by first|omega|(simp only [ByteArray.size_append,bs_size];omega))) U ?_;refine Ah ?_;refine Aa (Ae (Ar (Av [0,1,3,4,5,6] []) ?_));refine Ad (Ab ?_);refine Ab ?_;refine Ac (Bo (FnT.fr (implChecksum (recHead v b) (by omega))) U (.no U) U (.cons (.tm U) U .nil)) U ?_;refine Ac (Bo (FnT.fr (implFormatIntA (chkS (recHead v b)) (by omega) (by omega))) U (.no U) U (.cons (.tm U) U .nil)) U ?_
 refine Ac (Cr U (.no U) U (.tm U) (.tm U) (fun _=>by first|omega|(simp only [ByteArray.size_append,bs_size];omega))) U ?_;refine Ac (Cr U (.no U) U (.tm U) (.const U) (fun _=>by first|omega|(simp only [ByteArray.size_append,bs_size];omega))) U ?_;refine Ah ?_;refine Aa (Ap (By U U ?_))
 (unfold encRec;rw [if_pos hok];rw [←hd,show (ByteArray.mk #[10])=bs [10] from rfl];simp only [bs_append])
theorem specEncodeRecord (v:Int) (b:TBatch):FnT Tryz.prog 80 [.one (.v (.int .i64 v)),.agg (cBatch b)] (.a (.one (.v (.string (bs (encRec v b)))))):=by
 refine Bb Tryz.func80 U (by kernel_rfl) Tryz.ntmps80 U fun hlen w0=>?_
 try simp [cEdge,cChange,cBatch] at hlen
 have hbl:=fmtBatch_len b
 have e1:(ByteArray.mk #[59]).size=1:=rfl
 have e2:(ByteArray.mk #[10]).size=1:=rfl
 refine Af (Ac (Bx U U U (.tm U) (ts:=_) (by rfl)) U ?_);refine Aj ?_;refine Aa (Ae (Af (Ab ?_)));refine Br (specl1In v 1 999) ?_;refine Cg ?_;refine Ab ?_;refine AWl.fw Bv ?_;refine AWl.lw Ct ?_;refine Ac (Cn U (by exact .not1 U U U U) U (.tmp U (by exact id)) (by exact .t) Tryz.underlying66) U ?_;refine Ac (R_gt U (by exact .not1 U U U U) U (.tmp U (by exact id)) (.const U)) U ?_;refine Ac (Bh U (by exact .not1 U U U U) U (.tmp U (by exact id))) U ?_;refine Ac (Bl U (by exact .yes U U U U) U (.tmp U (by exact fun _=>rfl)) Cf U U) U ?_;refine Ac (Bo (FnT.fr (specFormatBatch b)) U (by exact .yes U U U U) U (.cons (.tmp U (by exact id)) U .nil)) U ?_;refine Ac (R_eqstr U (by exact .yes U U U U) U (.tmp U (by exact id)) (.const U)) U ?_;refine Ac (R_and U (by exact .not1 U U U U) U (.tmp U (by exact id)) (.tmp U (by exact id))) U ?_;refine Ci ?_
 refine Aa (Al (.tm U) (fun h19=>?_) (fun h19=>?_))
 · try simp at h19
   refine Ae (Ar (Av [0,1,3,4] []) ?_);refine Ad (Aj ?_);refine Aa (Ap (By U U ?_))
   (unfold encRec;rw [if_neg (rec_no (h19.imp id fun h=>⟨h.2,h.1⟩))];rfl)
 try simp at h19
 have hok:recOk v b=true:=(rec_iff.2 ⟨h19.1,fun e=>List.eq_nil_of_length_eq_zero (by rcases Nat.eq_zero_or_pos b.Changes.length with h|h;exact h;exact absurd e (h19.2 h))⟩)
 have hv:1≤v∧v≤999:=by (unfold recOk inB at hok;simp at hok;omega)
 have hs1:=itoS_len (n:=v) (by omega) (by omega)
 have hd:bs (recHead v b)=((bs (itoS v)++(ByteArray.mk #[59]))++bs (fmtBatch b))++(ByteArray.mk #[59]):=by (unfold recHead;rw [show (ByteArray.mk #[59])=bs [59] from rfl];simp only [bs_append])
 have hdl:(recHead v b).length≤120:=by (unfold recHead;simp only [List.length_append,List.length_singleton];omega)
 have hc:=chkS_le (recHead v b)
 have hs2:=itoS_len (n:=chkS (recHead v b)) (by omega) (by omega)
 refine Am (Ae (Ar (Av [0,1,3,4] []) ?_));refine Cv 8 (nthB [[],[0],[0,1],[],[0,1,3],[0,1,2,3,4],[0,1,2,3,4,5],[0,1,2,3,4,5,6]]) (by kernel_rfl) (by kernel_rfl) (by kernel_rfl) ?_;refine Bp ?_;refine DrawC.s (fun _ hs=>Bo (FnT.fr (specFormatIntP v (by omega) (by omega))) U (.no U) (Ag hs U) (.cons (hs.tm U) (readA_sup hs U) .nil)) ?_;refine DrawC.s (fun _ hs=>Cr U (.no U) (Ag hs U) (hs.tm U) (.const U) (fun _=>by first|omega|(simp only [ByteArray.size_append,bs_size];omega))) ?_;refine Cd Cf ?_;refine DrawC.s (fun _ hs=>Bo (FnT.fr (specFormatBatch b)) U (.no U) (Ag hs U) (.cons (hs.tm U) (readA_sup hs U) .nil)) ?_;refine DrawC.s (fun _ hs=>Cr U (.no U) (Ag hs U) (hs.tm U) (hs.tm U) (fun _=>by first|omega|(simp only [ByteArray.size_append,bs_size];omega))) ?_
 refine DrawC.s (fun _ hs=>Cr U (.no U) (Ag hs U) (hs.tm U) (.const U) (fun _=>by first|omega|(simp only [ByteArray.size_append,bs_size];omega))) ?_;refine DrawC.s (fun _ hs=>R_assign U (.no U) (Ag hs U) (hs.tm U)) ?_;refine Cm U U ?_;refine Aa (Ae (Ar (Av [0,1,3,4,5] []) ?_));refine Ad (Ab ?_);refine Ab ?_;refine Ac (Bo (FnT.fr (specChecksum (recHead v b) (by omega))) U (.no U) U (.cons (.tm U) U .nil)) U ?_;refine Ac (Bo (FnT.fr (specFormatIntP (chkS (recHead v b)) (by omega) (by omega))) U (.no U) U (.cons (.tm U) U .nil)) U ?_;refine Ac (Cr U (.no U) U (.tm U) (.tm U) (fun _=>by first|omega|(simp only [ByteArray.size_append,bs_size];omega))) U ?_;refine Ac (Cr U (.no U) U (.tm U) (.const U) (fun _=>by first|omega|(simp only [ByteArray.size_append,bs_size];omega))) U ?_;refine Ah ?_;refine Aa (Ap (By U U ?_))
 (unfold encRec;rw [if_pos hok];rw [←hd,show (ByteArray.mk #[10])=bs [10] from rfl];simp only [bs_append])
end Go.Proofs.YtdhojcaoljhbiaaGreatDoor
set_option maxHeartbeats 1000000
set_option maxRecDepth 100000
namespace Go.Q
open Go.D
theorem atoi_lt {l:List UInt8} {n:Int} (h:Lib.atoi l=some n) (hl:l.length≤18):-1000000000000000000<n∧n<1000000000000000000:=by
 obtain⟨b0,r,rfl,h1⟩:=Lib.atoi_cases h
 simp only [List.length_cons] at hl
 rcases h1 with ⟨_,m,_,h2,rfl⟩|⟨_,m,_,h2,rfl⟩|⟨_,_,m,h2,rfl⟩
 · have:=Lib.decFrom_lt18 h2 (by omega);omega
 · have:=Lib.decFrom_lt18 h2 (by omega);omega
 have:=Lib.decFrom_lt18 h2 (by simp;omega);omega
theorem parseI_long {l:List UInt8} (h:10<l.length):parseI l=(0,false):=by unfold parseI;rw [if_neg (by omega)]
theorem parseI_none {l:List UInt8} (h:Lib.atoi l=none):parseI l=(0,false):=by rw [parseI_atoi,h]
theorem parseI_yes {l:List UInt8} {n:Int} (h:Lib.atoi l=some n) (hl:l.length≤10) (h1:bs (itoS n)=bs l) (h2:inB n (-999999999) 999999999=true):parseI l=(n,true):=by
 rw [parseI_atoi,h]
 unfold inB at h2
 simp only [Bool.and_eq_true,decide_eq_true_eq] at h2
 simp only
 rw [if_pos ⟨hl,bs_inj h1,h2⟩]
theorem parseI_bad {l:List UInt8} {n:Int} (h:Lib.atoi l=some n) (h1:¬ (bs (itoS n)=bs l∧inB n (-999999999) 999999999=true)):parseI l=(0,false):=by
 rw [parseI_atoi,h]
 simp only
 rw [if_neg]
 rintro⟨_,h2,h3⟩
 refine h1 ⟨by rw [h2],?_⟩
 unfold inB
 simp only [Bool.and_eq_true,decide_eq_true_eq];exact h3
theorem cntD_le (l:List UInt8):cntD l≤l.length:=List.countP_le_length
theorem accN_at {l:List UInt8} {k:Nat} {b:UInt8} (h:l[k]?=some b):accN (l.take (k+1))=if isDg b=true then accN (l.take k)*10+(b.toNat-48) else accN (l.take k):=by rw [take_at h,accN_snoc]
theorem cntD_at {l:List UInt8} {k:Nat} {b:UInt8} (h:l[k]?=some b):cntD (l.take (k+1))=if isDg b=true then cntD (l.take k)+1 else cntD (l.take k):=by rw [take_at h,cntD_snoc]
theorem accN_le (l:List UInt8):∀ k:Nat,accN (l.take k)<10^cntD (l.take k)
 | 0=>by simp [accN,cntD]
 | k+1=>by
  have ih:=accN_le l k
  rcases Nat.lt_or_ge k l.length with hk|hk
  · have hb:l[k]?=some (l[k]'hk):=List.getElem?_eq_getElem hk
    rw [accN_at hb,cntD_at hb]
    split
    · rename_i h
      unfold isDg at h
      simp only [Bool.and_eq_true,decide_eq_true_eq] at h
      rw [Nat.pow_succ];omega
    exact ih
  rw [List.take_of_length_le (by omega)] at ih ⊢;exact ih
theorem accN_11 (l:List UInt8) (k:Nat) (hk:k≤11):accN (l.take k)<100000000000:=by
 have h1:=accN_le l k
 have h2:=cntD_le (l.take k)
 have h3:10^cntD (l.take k)≤10^11:=Nat.pow_le_pow_right (by decide) (by rw [List.length_take] at h2;omega)
 omega
theorem isDg_yes {b:UInt8} (h:(48:Int)≤(b.toNat:Int)∧(b.toNat:Int)≤57):isDg b=true:=by unfold isDg;simp;omega
theorem isDg_no {b:UInt8} (h:(48:Int)≤(b.toNat:Int)→57<(b.toNat:Int)):isDg b=false:=by
 unfold isDg
 rw [Bool.and_eq_false_iff,decide_eq_false_iff_not,decide_eq_false_iff_not];omega
theorem parseI_sp {l:List UInt8} {v:Int} (h1:cntD l≤9) (h2:l.length≤10) (h3:bs (itoS v)=bs l) (hv:v=sgnN l):parseI l=(v,true):=by
 unfold parseI
 rw [if_pos ⟨h1,h2,by rw [←hv];exact bs_inj h3⟩,hv]
theorem parseI_sn {l:List UInt8} {v:Int} (h:9<cntD l∨10<l.length∨¬ bs (itoS v)=bs l) (hv:v=sgnN l):parseI l=(0,false):=by
 unfold parseI
 rw [if_neg]
 rintro⟨h1,h2,h3⟩
 rcases h with h|h|h
 · omega
 · omega
 exact h (by rw [hv,h3])
theorem sgn_neg {l:List UInt8} {b:UInt8} (hb:l[0]?=some b) (h:(b.toNat:Int)=45):sgnN l=-(accN l:Int):=by
 have e:b=45:=UInt8.toNat_inj.1 (show b.toNat=45 by omega)
 unfold sgnN
 rw [List.head?_eq_getElem?,hb,e,if_pos rfl]
theorem sgn_pos {l:List UInt8} {b:UInt8} (h:l.length=0∨l[0]?=some b∧¬ (b.toNat:Int)=45):sgnN l=(accN l:Int):=by
 unfold sgnN
 rw [if_neg]
 rw [List.head?_eq_getElem?]
 rcases h with h|⟨h,h2⟩
 · rw [List.getElem?_eq_none (by omega)];simp
 rw [h]
 intro e;exact h2 (by rw [Option.some.inj e];rfl)
theorem tmod_neg (m:Nat):Int.tmod (-(m:Int)) 10=-((m%10:Nat):Int):=by rw [Int.neg_tmod];rfl
theorem tdiv_neg (m:Nat):Int.tdiv (-(m:Int)) 10=-((m / 10:Nat):Int):=by rw [Int.neg_tdiv];rfl
theorem three_bytes {x:List UInt8} (h:x.length=3):∃ a b c,x=[a,b,c]:=by
 match x,h with
 | [a,b,c],_=>exact⟨a,b,c,rfl⟩
end Go.Q
namespace Go.Proofs.YtdhojcaoljhbiaaGreatDoor
open Go.RowKit Go.Q Go.D
theorem implParseIntS (l:List UInt8) (n:Int) (h:Lib.atoi l=some n):FnT Tryz.prog 65 [.one (.v (.string (bs l)))] (.tup [.one (.v (.int .i64 (parseI l).1)),.one (.v (.bool (parseI l).2))]):=by
 refine Bb Tryz.func65 U (by kernel_rfl) Tryz.ntmps65 U fun hlen w0=>?_
 try simp [cEdge,cChange,cBatch] at hlen
 have hsz:=bs_size l
 refine Af (Aj ?_);refine Aj ?_;refine Aa (Ae (Af (Ab ?_)));refine Ac (C4 U (.no U) U (.tm U) Tryz.underlying9) U ?_;refine Db ?_;refine Aa (Al (.tm U) (fun h8=>?_) (fun h8=>?_))
 · try simp at h8
   refine Af (Aj ?_);refine Aj ?_;refine Aa (Ap (Bg U (.tmp U (.tmp U .nil)) U ?_ (by simp)))
   rw [parseI_long (by omega)];rfl
 try simp at h8
 have hlt:=atoi_lt h (by omega)
 refine Am (Af (Ab ?_));refine Ac (Bo (FnT.fr (strconvAtoi l n (by omega) h)) U (.no U) U (.cons (.tm U) U .nil)) U ?_;refine Ac (B7 U (.no U) U U fun _=>rfl) U ?_;refine Ac (Ao U (.no U) U U (fun _=>rfl) U) U ?_;refine Ac (Ao U (.no U) U U (fun _=>rfl) U) U ?_;refine Ah ?_;refine Ah ?_;refine Aa (Ae (Ae (Ar (Av [0,2,3,4,5] []) ?_)));refine Ad (Ab ?_);refine Ac (R_nenil0 U (.no U) U (.tm U) (.const U) (by kernel_rfl)) U ?_;refine Ab ?_;refine Co ?_;refine Ac (Bo (FnT.fr (strconvItoaA n (by omega) (by omega))) U (by exact .not1 U U U U) U (.cons (.tmp U (by exact fun _=>rfl)) U .nil)) U ?_;refine Co ?_;refine Ac (R_nestr U (by exact .not1 U U U U) U (.tmp U (by exact fun _=>rfl)) (.tmp U (by exact fun _=>rfl))) U ?_;refine Ac (R_or U (.no U) U (.tm U) (.tmp U (by exact fun _=>rfl))) U ?_;refine Ab ?_;refine Co ?_
 refine Ac (Bo (FnT.fr (implwithin n (-999999999) 999999999)) U (by exact .not1 U U U U) U (.cons (.tmp U (by exact id)) U (.cons (.const U) U (.cons (.const U) U .nil)))) U ?_;refine Ac (Dq U (by exact .not1 U U U U) U (.tmp U (by exact id))) U ?_;refine Ci ?_;refine Aa (Al (.tm U) (fun h26=>?_) (fun h26=>?_))
 · try simp at h26
   refine Ae (Ar (Av [0,2,3,4,5] []) ?_);refine Ad (Aj ?_);refine Aj ?_;refine Aa (Ap (Bg U (.tmp U (.tmp U .nil)) U ?_ (by simp)))
   rw [parseI_bad h (by grind)];rfl
 try simp at h26
 refine Am (Ae (Ar (Av [0,2,3,4,5] []) ?_));refine Ad (Ab ?_);refine Ah ?_;refine Aj ?_;refine Aa (Ap (Bg U (.tmp U (.tmp U .nil)) U ?_ (by simp)))
 rw [parseI_yes h (by omega) (by grind) (by grind)];rfl
theorem implParseIntN (l:List UInt8) (h:Lib.atoi l=none):FnT Tryz.prog 65 [.one (.v (.string (bs l)))] (.tup [.one (.v (.int .i64 (parseI l).1)),.one (.v (.bool (parseI l).2))]):=by
 refine Bb Tryz.func65 U (by kernel_rfl) Tryz.ntmps65 U fun hlen w0=>?_
 try simp [cEdge,cChange,cBatch] at hlen
 have hsz:=bs_size l
 refine Af (Aj ?_);refine Aj ?_;refine Aa (Ae (Af (Ab ?_)));refine Ac (C4 U (.no U) U (.tm U) Tryz.underlying9) U ?_;refine Db ?_;refine Aa (Al (.tm U) (fun h8=>?_) (fun h8=>?_))
 · try simp at h8
   refine Af (Aj ?_);refine Aj ?_;refine Aa (Ap (Bg U (.tmp U (.tmp U .nil)) U ?_ (by simp)))
   rw [parseI_none h];rfl
 try simp at h8
 refine Am (Af (Ab ?_));refine Bi (R_calle (strconvAtoiE l (by omega) h) U U U (.cons (.tm U) U .nil)) ?_
 rintro _ ⟨_,⟨N11,rfl⟩,rfl⟩
 refine Ac (B7 U (.no U) U U fun _=>rfl) U ?_;refine Ac (Ao U (.no U) U U (fun _=>rfl) U) U ?_;refine Ac (Ao U (.no U) U U (fun _=>rfl) U) U ?_;refine Ah ?_;refine Ah ?_;refine Aa (Ae (Ae (Ar (Av [0,2,3,4,5] []) ?_)));refine Ad (Ab ?_);refine Ac (R_nenil1 U (.no U) U (.tm U) (.const U) (by kernel_rfl)) U ?_;refine Ab ?_;refine Co ?_;refine Ac (Bo (FnT.fr (strconvItoaA 0 (by omega) (by omega))) U (by exact .not1 U U U U) U (.cons (.tmp U (by exact id)) U .nil)) U ?_;refine Co ?_;refine Ac (R_nestr U (by exact .not1 U U U U) U (.tmp U (by exact id)) (.tmp U (by exact id))) U ?_;refine Ci ?_;refine Ab ?_;refine Co ?_;refine Ac (Bo (FnT.fr (implwithin 0 (-999999999) 999999999)) U (by exact .not1 U U U U) U (.cons (.tmp U (by exact id)) U (.cons (.const U) U (.cons (.const U) U .nil)))) U ?_;refine Ac (Dq U (by exact .not1 U U U U) U (.tmp U (by exact id))) U ?_;refine Ci ?_
 refine Aa (Al (.tm U) (fun h26=>?_) (fun h26=>?_))
 · try simp at h26
   refine Ae (Ar (Av [0,2,3,4,5] []) ?_);refine Ad (Aj ?_);refine Aj ?_;refine Aa (Ap (Bg U (.tmp U (.tmp U .nil)) U ?_ (by simp)))
   rw [parseI_none h];rfl
 exact absurd h26 (by simp)
theorem implParseInt (l:List UInt8):FnT Tryz.prog 65 [.one (.v (.string (bs l)))] (.tup [.one (.v (.int .i64 (parseI l).1)),.one (.v (.bool (parseI l).2))]):=by
 cases h:Lib.atoi l with
 | none=>exact implParseIntN l h
 | some n=>exact implParseIntS l n h
theorem specFormatIntN (n:Int) (h0:n<0) (h1:-1000000000000<n):FnT Tryz.prog 121 [.one (.v (.int .i64 n))] (.a (.one (.v (.string (bs (itoS n)))))):=by
 obtain⟨m0,rfl⟩:∃ m0:Nat,n=-(m0:Int):=⟨n.natAbs,by omega⟩
 have hi:itoS (-(m0:Int))=45::Lib.decDigits m0:=by unfold itoS Lib.itoa;rw [if_pos h0,Int.natAbs_neg];rfl
 rw [hi]
 refine Bb Tryz.func121 U (by kernel_rfl) Tryz.ntmps121 U fun hlen w0=>?_
 try simp [cEdge,cChange,cBatch] at hlen
 have hn0:0<m0∧m0<1000000000000:=by omega
 refine Af (Aj ?_);refine Aa (Ae (Af (Ab ?_)));refine Ck ?_;refine Aa (Al (.tm U) (fun h7=>?_) (fun h7=>?_))
 · exact absurd h7 (by simp<;>omega)
 try simp at h7
 refine Am (Af (Aj ?_));refine Aa (Af (Ab ?_));refine AWl.lc ?_;refine Ah ?_;refine Aa (Ae (AW.block (Dn (fun (m:Nat) (O:ByteArray)=>(m<1000000000000∧O.size+m≤1000000000000)∧bs (restD m0)=bs (restD m)++O) (fun (m:Nat) (O:ByteArray)=>⟨_,[(0,(true,.a (.one (.t (.v (.int .i64 (-(m:Int)))))))),(3,(true,.a (.one (.t (.v (.string O)))))),(2,_),(4,_)],[]⟩) (fun (m:Nat) (O:ByteArray)=>m) (m0) (⟨#[]⟩) ⟨⟨by omega,by simp [ByteArray.size];omega⟩,(by rw [show (⟨#[]⟩:ByteArray)=bs [] from U,bs_append,List.append_nil])⟩ (A6 U ⟨U,U,U,U,Y⟩ trivial) ?_)))
 rintro m O ⟨hk,he⟩
 refine Ae (Af (Ab ?_));refine AWl.nc ?_;refine Aa (Al (.tm U) (fun h11=>?_) (fun h11=>?_))
 · try simp at h11
   have hm0:m≠0:=by (first|omega|(simp at h11;omega))
   refine Am (AW.block (Af (Ab ?_)));refine Ac (R_remS (-((m%10:Nat):Int)) U (.no U) U (.tm U) (.const U) (fun _=>⟨by omega,tmod_neg m⟩)) U ?_;refine Ah ?_;refine Aa (Ae (Af (Ab ?_)));refine AWl.lc ?_;refine Aa (Al (.tm U) (fun h15=>?_) (fun h15=>?_))
   · try simp at h15
     refine Ar (Av [0,2,3,4,5] []) ?_;refine Ad (Ab ?_);refine Ac (R_neg U (.no U) U (.tm U) (fun _=>by omega)) U ?_;refine Ah ?_;refine Aa (Af (Ab ?_));refine Ac (C5 U (.no U) U (.const U) (.tm U) (fun _=>by omega)) U ?_;refine Ac (De U (.no U) U (.tm U) (by rw [Tryz.underlying3];rfl) Tryz.underlying5 (fun _=>(show IntKind.u8.wrap _=(48+(m:Int)%10) by simp [IntKind.wrap,IntKind.bits];omega))) U ?_;refine Ac (R_listz (xs:=[.tmp 20]) (rows:=[[.v (.int .u8 (48+(m:Int)%10))]]) U U U (.cons (.tm U) U U .nil) Tryz.underlying22 in5 U U (U)) U ?_;refine Ac (R_byteStr U (.no U) U (.tm U) Tryz.underlying22 Tryz.underlying5 Tryz.underlying9) U ?_;refine Ab ?_;refine Ac (Cr U (.no U) U (.tm U) (.tm U) (fun _=>by have:(⟨#[UInt8.ofNat ((48+(m:Int)%10)).toNat]⟩:ByteArray).size=1:=U;omega)) U ?_;refine Ah ?_;refine Aa (Ar (Av [0,2,3,4,5] []) ?_);refine Ad (Ab ?_)
     refine Ac (R_quoS (-((m / 10:Nat):Int)) U (.no U) U (.tm U) (.const U) (fun _=>⟨by omega,by rw [tdiv_neg];exact wrapI (by omega)⟩)) U ?_;refine Ah ?_;refine Aa ?_
     repeat (with_reducible refine A7 ?_)
     refine Round2.next (m / 10) (((ByteArray.mk #[UInt8.ofNat ((48+(m:Int)%10)).toNat])++O)) ⟨⟨by omega,(by rw [ByteArray.size_append];have:(⟨#[UInt8.ofNat ((48+(m:Int)%10)).toNat]⟩:ByteArray).size=1:=rfl;omega)⟩,(by rw [he,restD_step (by omega),←bs_append,show (48+(m:Int)%10).toNat=48+m%10 by omega];rw [ByteArray.append_assoc];rfl)⟩ (by omega) (A6 rfl ⟨rfl,rfl,rfl,rfl,Y⟩ trivial)
   try simp at h15
   refine Am (Ae (Ar (Av [0,2,3,4,5] []) ?_));refine Ad (Ab ?_);refine Ac (C5 U (.no U) U (.const U) (.tm U) (fun _=>by omega)) U ?_;refine Ac (De U (.no U) U (.tm U) (by rw [Tryz.underlying3];rfl) Tryz.underlying5 (fun _=>(show IntKind.u8.wrap _=(48+(m:Int)%10) by simp [IntKind.wrap,IntKind.bits];omega))) U ?_;refine Ac (R_listz (xs:=[.tmp 20]) (rows:=[[.v (.int .u8 (48+(m:Int)%10))]]) U U U (.cons (.tm U) U U .nil) Tryz.underlying22 in5 U U (U)) U ?_;refine Ac (R_byteStr U (.no U) U (.tm U) Tryz.underlying22 Tryz.underlying5 Tryz.underlying9) U ?_;refine Ab ?_;refine Ac (Cr U (.no U) U (.tm U) (.tm U) (fun _=>by have:(⟨#[UInt8.ofNat ((48+(m:Int)%10)).toNat]⟩:ByteArray).size=1:=U;omega)) U ?_;refine Ah ?_;refine Aa (Ar (Av [0,2,3,4,5] []) ?_);refine Ad (Ab ?_)
   refine Ac (R_quoS (-((m / 10:Nat):Int)) U (.no U) U (.tm U) (.const U) (fun _=>⟨by omega,by rw [tdiv_neg];exact wrapI (by omega)⟩)) U ?_;refine Ah ?_;refine Aa ?_
   repeat (with_reducible refine A7 ?_)
   refine Round2.next (m / 10) (((ByteArray.mk #[UInt8.ofNat ((48+(m:Int)%10)).toNat])++O)) ⟨⟨by omega,(by rw [ByteArray.size_append];have:(⟨#[UInt8.ofNat ((48+(m:Int)%10)).toNat]⟩:ByteArray).size=1:=rfl;omega)⟩,(by rw [he,restD_step (by omega),←bs_append,show (48+(m:Int)%10).toNat=48+m%10 by omega];rw [ByteArray.append_assoc];rfl)⟩ (by omega) (A6 rfl ⟨rfl,rfl,rfl,rfl,Y⟩ trivial)
 try simp at h11
 refine Bt (Ae (Af (Ab ?_)));refine Aa (Al (.tm U) (fun h27=>?_) (fun h27=>?_))
 · try simp at h27
   refine Af (Ab ?_);refine Ac (Cr U (.no U) U (.const U) (.tm U) (fun _=>by have:(⟨#[45]⟩:ByteArray).size=1:=U;omega)) U ?_;refine Ah ?_;refine Aa (Ap (By U U ?_))
   (have e:m=0:=(by omega);rw [e] at he;unfold restD at he;rw [if_neg (by omega),if_pos rfl] at he;rw [show (45::Lib.decDigits m0)=[45]++Lib.decDigits m0 from rfl,←bs_append,he,bs_nil_append];rfl)
 exact absurd h27 (by simp<;>omega)
theorem specFormatIntB (n:Int) (h0:-1000000000000<n) (h1:n<1000000000000):FnT Tryz.prog 121 [.one (.v (.int .i64 n))] (.a (.one (.v (.string (bs (itoS n)))))):=by
 by_cases h:n<0
 · exact specFormatIntN n h h0
 exact specFormatIntP n (by omega) h1
theorem specParseInt (l:List UInt8) (hz:l.length≤1073741824):FnT Tryz.prog 130 [.one (.v (.string (bs l)))] (.tup [.one (.v (.int .i64 (parseI l).1)),.one (.v (.bool (parseI l).2))]):=by
 obtain⟨b0,hb0⟩:∃ b0,0<l.length→l[0]?=some b0:=⟨l[0]?.getD 0,fun h=>by rw [List.getElem?_eq_getElem h];rfl⟩
 refine Bb Tryz.func130 U (by kernel_rfl) Tryz.ntmps130 U fun hlen w0=>?_
 try simp [cEdge,cChange,cBatch] at hlen
 have hsz:=bs_size l
 refine Af (Aj ?_);refine Aj ?_;refine Aa (Af (Aj ?_));refine Aa (Af (Aj ?_));refine Aa (Ae (Af (Aj ?_)));refine Aa (AW.block (AW.loop3 (fun (i:Nat) (n:Int) (k:Int)=>((i≤l.length∧i≤11)∧(0≤n∧n<100000000000)∧0≤k∧k≤11)∧n=(accN (l.take i):Int)∧k=(cntD (l.take i):Int)) (fun (i:Nat) (n:Int) (k:Int)=>⟨_,[(6,(true,.a (.one (.t (.v (.int .i64 (i:Nat))))))),(4,(true,.a (.one (.t (.v (.int .i64 n)))))),(5,(true,.a (.one (.t (.v (.int .i64 k)))))),(0,_),(2,_),(3,_)],[]⟩) (fun (i:Nat) (n:Int) (k:Int)=>11-i) (0) (0) (0) ⟨⟨⟨by omega,by omega⟩,⟨by omega,by omega⟩,by omega,by omega⟩,by simp [accN],by simp [cntD]⟩ (A6 U ⟨U,U,U,U,U,U,Y⟩ trivial) ?_))
 rintro i n k ⟨hk,he⟩
 refine Ae (Af (Ab ?_));refine Ab ?_;refine Ac (C4 U (.no U) U (.tm U) Tryz.underlying9) U ?_;refine AWl.lt ?_;refine Ab ?_;refine Da ?_;refine Ac (R_lt U (by exact .yes1 U U U U) U (.tmp U (by exact id)) (.const U)) U ?_;refine C1 ?_;refine Aa (Al (.tm U) (fun h14=>?_) (fun h14=>?_))
 · try simp at h14
   obtain⟨b,hb⟩:∃ ξ,l[i]?=some ξ:=⟨_,List.getElem?_eq_getElem (by omega)⟩
   have hb8:b.toNat<256:=b.toNat_lt
   refine Am (Ae (AW.block (Ae (Ar (Av [0,2,3,4,5,6] []) ?_))));refine Ad (Ab ?_);refine Ab ?_;refine Ac (B6 U (.no U) U (.tm U) (.tm U) Tryz.underlying9 (fun _=>⟨by omega,(by rw [bs_get];exact hb)⟩)) U ?_;refine AWl.gd ?_;refine Ab ?_;refine Da ?_;refine Da ?_;refine Ac (B6 U (by exact .yes1 U U U U) U (.tmp U (by exact id)) (.tmp U (by exact id)) Tryz.underlying9 (fun _=>⟨by omega,(by rw [bs_get];exact hb)⟩)) U ?_;refine Ac (R_le U (by exact .yes1 U U U U) U (.tmp U (by exact id)) (.const U)) U ?_;refine C1 ?_;refine Aa (Al (.tm U) (fun h26=>?_) (fun h26=>?_))
   · try simp at h26
     have hA:=accN_at hb
     have hC:=cntD_at hb
     rw [if_pos (isDg_yes h26)] at hA hC
     refine Ae (Ar (Av [0,2,3,4,5,6] []) ?_);refine Ad (Ab ?_);refine Ac (R_mul U (.no U) U (.tm U) (.const U) (fun _=>by omega)) U ?_;refine Ab ?_;refine Ab ?_;refine Ac (B6 U (.no U) U (.tm U) (.tm U) Tryz.underlying9 (fun _=>⟨by omega,(by rw [bs_get];exact hb)⟩)) U ?_;refine Ac (R_subS ((b.toNat:Int)-48) U (.no U) U (.tm U) (.const U) (fun _=>by simp [IntKind.wrap,IntKind.bits];omega)) U ?_;refine Ac (De U (.no U) U (.tm U) (by rw [Tryz.underlying5];rfl) Tryz.underlying3 (fun _=>(show IntKind.i64.wrap ((b.toNat:Int)-48)=((b.toNat:Int)-48) from wrapI (by omega)))) U ?_;refine Ac (C5 U (.no U) U (.tm U) (.tm U) (fun _=>by omega)) U ?_;refine Ah ?_;refine Aa (Ar (Av [0,2,3,4,5,6] []) ?_);refine Ad (Ab ?_);refine Bs ?_;refine Ah ?_;refine Aa (Ad (Ab ?_));refine Bs ?_;refine Ah ?_;refine Aa ?_
     repeat (with_reducible refine A7 ?_)
     refine Round3.next (i+1) ((n*10+((b.toNat:Int)-48))) ((k+1)) ⟨⟨⟨by omega,by omega⟩,⟨by omega,by (have:=accN_11 l (i+1) (by omega);rw [hA] at this;omega)⟩,by omega,by (have:=cntD_le (l.take (i+1));rw [hC,List.length_take] at this;omega)⟩,(by rw [hA,he.1];omega),(by rw [hC,he.2];omega)⟩ (by omega) (A6 rfl ⟨rfl,rfl,rfl,rfl,rfl,rfl,Y⟩ trivial)
   try simp at h26
   refine Am (Ar (Av [0,2,3,4,5,6] []) ?_);refine Ad (Ab ?_);refine Bs ?_;refine Ah ?_;refine Aa ?_
   repeat (with_reducible refine A7 ?_)
   refine Round3.next (i+1) (n) (k) ⟨⟨⟨by omega,by omega⟩,hk.2.1,hk.2.2⟩,(by rw [accN_at hb,if_neg (by rw [isDg_no h26];decide)];exact he.1),(by rw [cntD_at hb,if_neg (by rw [isDg_no h26];decide)];exact he.2)⟩ (by omega) (A6 rfl ⟨rfl,rfl,rfl,rfl,rfl,rfl,Y⟩ trivial)
 try simp at h14
 have hex:l.length≤10→l.take i=l:=fun hl=>List.take_of_length_le (by omega)
 refine Bt (Ae (Ae (Ar (Av [0,2,3,4,5,6] []) ?_)));refine Ad (Ab ?_);refine Ac (C4 U (.no U) U (.tm U) Tryz.underlying9) U ?_;refine Db ?_;refine Ab ?_;refine Da ?_;refine Ac (B6 U (by exact .yes1 U U U U) U (.tmp U (by exact id)) (.const U) Tryz.underlying9 (fun hq=>⟨by omega,by rw [bs_get];exact hb0 (by simp at hq;omega)⟩)) U ?_;refine Ac (R_eq U (by exact .yes1 U U U U) U (.tmp U (by exact id)) (.const U)) U ?_;refine C1 ?_;refine Aa (Al (.tm U) (fun h44=>?_) (fun h44=>?_))
 · try simp at h44
   refine Ar (Av [0,2,3,4,5,6] []) ?_;refine Ad (Ab ?_);refine Ac (R_neg U (.no U) U (.tm U) (fun _=>by omega)) U ?_;refine Ah ?_;refine Aa (Ae (Af (Ab ?_)));refine Db ?_;refine Ab ?_;refine Co ?_;refine Ac (C4 U (by exact .not1 U U U U) U (.tmp U (by exact id)) Tryz.underlying9) U ?_;refine Ac (R_gt U (by exact .not1 U U U U) U (.tmp U (by exact id)) (.const U)) U ?_;refine Ci ?_;refine Ab ?_;refine Co ?_;refine Ac (Bo (FnT.fr (specFormatIntB _ (by omega) (by omega))) U (by exact .not1 U U U U) U (.cons (.tmp U (by exact id)) U .nil)) U ?_;refine Co ?_;refine Ac (R_nestr U (by exact .not1 U U U U) U (.tmp U (by exact id)) (.tmp U (by exact id))) U ?_;refine Ci ?_;refine Aa (Al (.tm U) (fun h59=>?_) (fun h59=>?_))
   · try simp at h59
     refine Ae (Ar (Av [0,2,3,4,5,6] []) ?_);refine Ad (Aj ?_);refine Aj ?_;refine Aa (Ap (Bg U (.tmp U (.tmp U .nil)) U ?_ (by simp)))
     rcases Nat.lt_or_ge 10 l.length with hl|hl;(rw [parseI_long hl];rfl);(rw [hex hl] at he;rw [parseI_sn (v:= -n) (by grind) (by rw [sgn_neg (hb0 (by omega)) h44.2,he.1])];rfl)
   try simp at h59
   refine Am (Ae (Ar (Av [0,2,3,4,5,6] []) ?_));refine Ad (Ab ?_);refine Ah ?_;refine Aj ?_;refine Aa (Ap (Bg U (.tmp U (.tmp U .nil)) U ?_ (by simp)))
   have hl:l.length≤10:=(by omega);rw [hex hl] at he;rw [parseI_sp (v:= -n) (by omega) hl h59.2 (by rw [sgn_neg (hb0 (by omega)) h44.2,he.1])];rfl
 try simp at h44
 refine Am (Ae (Ae (Ar (Av [0,2,3,4,5,6] []) ?_)));refine Ad (Ab ?_);refine Db ?_;refine Ab ?_;refine Co ?_;refine Ac (C4 U (by exact .not1 U U U U) U (.tmp U (by exact id)) Tryz.underlying9) U ?_;refine Ac (R_gt U (by exact .not1 U U U U) U (.tmp U (by exact id)) (.const U)) U ?_;refine Ci ?_;refine Ab ?_;refine Co ?_;refine Ac (Bo (FnT.fr (specFormatIntB _ (by omega) (by omega))) U (by exact .not1 U U U U) U (.cons (.tmp U (by exact id)) U .nil)) U ?_;refine Co ?_;refine Ac (R_nestr U (by exact .not1 U U U U) U (.tmp U (by exact id)) (.tmp U (by exact id))) U ?_;refine Ci ?_;refine Aa (Al (.tm U) (fun h59=>?_) (fun h59=>?_))
 · try simp at h59
   refine Ae (Ar (Av [0,2,3,4,5,6] []) ?_);refine Ad (Aj ?_);refine Aj ?_;refine Aa (Ap (Bg U (.tmp U (.tmp U .nil)) U ?_ (by simp)))
   rcases Nat.lt_or_ge 10 l.length with hl|hl;(rw [parseI_long hl];rfl);(rw [hex hl] at he;rw [parseI_sn (v:=n) (by grind) (by rw [sgn_pos (b:=b0) (by rcases Nat.eq_zero_or_pos l.length with g|g;exact .inl g;exact .inr ⟨hb0 g,h44 (by omega)⟩),he.1])];rfl)
 try simp at h59
 refine Am (Ae (Ar (Av [0,2,3,4,5,6] []) ?_));refine Ad (Ab ?_);refine Ah ?_;refine Aj ?_;refine Aa (Ap (Bg U (.tmp U (.tmp U .nil)) U ?_ (by simp)))
 have hl:l.length≤10:=(by omega);rw [hex hl] at he;rw [parseI_sp (v:=n) (by omega) hl h59.2 (by rw [sgn_pos (b:=b0) (by rcases Nat.eq_zero_or_pos l.length with g|g;exact .inl g;exact .inr ⟨hb0 g,h44 (by omega)⟩),he.1])];rfl
theorem specParseLetter (s:List UInt8):FnT Tryz.prog 225 [.one (.v (.string (bs s)))] (.tup [.one (.v (.int .i64 (letP s).1)),.one (.v (.bool (letP s).2))]):=by
 refine Bb Tryz.func225 U (by kernel_rfl) Tryz.ntmps225 U fun hlen w0=>?_
 try simp [cEdge,cChange,cBatch] at hlen
 refine Af (Aj ?_);refine Aj ?_;refine Aa (Ae (Af (Aj ?_)));refine Aa (AW.block (AW.loop1 (fun (k:Nat)=>(k≤9∧∀ j:Nat,j<k→letS (j:Nat)≠s)∧True) (fun (k:Nat)=>⟨_,[(4,(true,.a (.one (.t (.v (.int .i64 (k:Nat))))))),(0,_)],[]⟩) (fun (k:Nat)=>9-k) (0) ⟨⟨by omega,fun j hj=>by omega⟩,Y⟩ (A6 U ⟨U,U,Y⟩ trivial) ?_))
 rintro k ⟨hk,he⟩
 refine Ae (Af (Ab ?_));refine AWl.lc ?_;refine Aa (Al (.tm U) (fun h6=>?_) (fun h6=>?_))
 · try simp at h6
   refine Am (Ae (AW.block (Af (Ab ?_))));refine Ac (Bo (FnT.fr (specFormatLetter (k:Int) (by omega) (by omega))) U (.no U) U (.cons (.tm U) U .nil)) U ?_;refine Ab ?_;refine Ac (R_eqstr U (.no U) U (.tm U) (.tm U)) U ?_;refine Aa (Al (.tm U) (fun h12=>?_) (fun h12=>?_))
   · try simp at h12
     refine Ae (Ar (Av [0,4] []) ?_);refine Ad (Ab ?_);refine Ah ?_;refine Aj ?_;refine Aa (Ap (Bg U (.tmp U (.tmp U .nil)) U ?_ (by simp)))
     rw [letP_at (k:=k) (by omega) (bs_inj h12) hk.2];rfl
   try simp at h12
   refine Am (Ar (Av [0,4] []) ?_);refine Ad (Ab ?_);refine Bs ?_;refine Ah ?_;refine Aa ?_
   repeat (with_reducible refine A7 ?_)
   refine Round1.next (k+1) ⟨⟨by omega,fun j hj=>(by by_cases e:j=k;(subst e;exact fun e2=>h12 (by rw [e2]));exact hk.2 j (by omega))⟩,Y⟩ (by omega) (A6 rfl ⟨rfl,rfl,Y⟩ trivial)
 try simp at h6
 refine Bt (Af (Aj ?_));refine Aj ?_;refine Aa (Ap (Bg U (.tmp U (.tmp U .nil)) U ?_ (by simp)))
 rw [letP_no fun j hj=>hk.2 j (by omega)];rfl
end Go.Proofs.YtdhojcaoljhbiaaGreatDoor
