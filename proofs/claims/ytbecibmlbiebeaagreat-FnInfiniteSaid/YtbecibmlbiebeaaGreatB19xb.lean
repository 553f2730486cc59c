import Derived.Test.YtbecibmlbiebeaaGreatB17xb
set_option linter.unusedVariables false
set_option linter.unusedSimpArgs false
set_option maxHeartbeats 1000000
set_option maxRecDepth 100000
namespace Go.Q
open Go.D
def toOf (e:TEdge) (b:Bool):Int:=if b then e.From else e.To
theorem aftF_snoc (a:TAutomaton) (k:Int) (l:List Nat) (t m:Nat):aftF a k (l++[t]) m=if 0≤nextOf a t k then aftF a k l m|||2^(nextOf a t k).toNat else aftF a k l m:=by
 unfold aftF
 rw [List.foldl_append];rfl
theorem aft1_eq {a:TAutomaton} (ha:validA a=true) {s v k:Int} (hv:0≤v∧v≤2) (hst:s<a.Accept.length):aft1 a s v k=aftF a k ((List.range a.Accept.length).filter (closure a s v).testBit) 0:=by
 unfold aft1
 rw [bits_eq (closure_lt ha hv hst) (by have:=validA_len ha;omega)]
theorem vertS_eq {a:TAutomaton} (ha:validA a=true) {s v:Int} (hv:0≤v∧v≤2) (hst:s<a.Accept.length) {y:TArc} (hy:0≤y.letter∧y.letter<9):vertS a s v y=((List.range a.Accept.length).filter (aft1 a s v y.letter).testBit).map fun (t:Nat)=>⟨y.step,y.to,t⟩:=by
 unfold vertS
 rw [bits_eq (aft1_lt ha hv hst hy) (by have:=validA_len ha;omega)]
theorem vertS_len (a:TAutomaton) (s v:Int) (y:TArc):(vertS a s v y).length≤64:=by
 unfold vertS
 rw [List.length_map]
 exact bits_len _
end Go.Q
namespace Go.Proofs.YtbecibmlbiebeaaGreat
open Go.RowKit Go.Q Go.D
theorem specl4From (g:TGraph) (x:Int) (hg:g.Edges.length≤1048576):FnT Tryz.prog 160 [.agg (cGraph g),.one (.v (.int .i64 x))] (.a (.one (.sl 2 (((arcsAt g x).map (·.step)).map cStep)))):=by
 refine A7 Tryz.func160 U (by kernel_rfl) Tryz.ntmps160 U fun hlen w0=>?_
 try simp [cEdge,cGraph,cStep,cAutomaton,cProductStep] at hlen
 refine Af (Ad (Bm U U U (.tm U) (ts:=_) (by rfl)) U ?_);refine Ak ?_;refine Cb (i:=4) 20001 2 U U ?_;refine Aa (Af (A6 (Cu 7 U U U Tryz.underlying52 ty75 U) U ?_));refine Ag ?_;refine Aa (Ae (Af (Ak ?_)));refine Aa (AW.block (By (fun (k:Nat)=>(k≤g.Edges.length)∧True) (fun (k:Nat)=>⟨_,[(6,(true,.a (.one (.t (.v (.int .i64 (k:Nat))))))),(5,(true,.a (.one (.rf 7)))),(1,_),(2,_),(4,_)],[(7,.row 2 (((arcsL (g.Edges.take k) x).map (·.step)).map cStep))]⟩) (fun (k:Nat)=>g.Edges.length-k) (0) ⟨Nat.zero_le _,Y⟩ A4 ?_))
 rintro k ⟨hk,he⟩
 refine Ae (Af (Ab ?_));refine Bg Cw ?_;refine Aq ty43 ?_;refine Be (.t) Tryz.underlying43 ?_;refine AWl.lt ?_;refine Aa (Ai (.tm U) (fun h12=>?_) (fun h12=>?_))
 · try simp at h12
   obtain⟨e,he1⟩:∃ ξ,g.Edges[k]?=some ξ:=⟨_,List.getElem?_eq_getElem (by omega)⟩
   have hL:(arcsL (g.Edges.take k) x).length≤2097152:=Nat.le_trans (arcsL_len _ x) (by simp;omega)
   refine Aj (Ae (AW.block (Ae (Af (Bg Cw ?_)))));refine Aq ty43 ?_;refine Ab ?_;refine Ad (As U (.no U) U (.tm U) (.tm U) Tryz.underlying43 De (fun _=>⟨by omega,Al he1⟩)) U ?_;refine Bg fl201_1 ?_;refine Aq ty3 ?_;refine Ab ?_;refine AWl.eq ?_;refine Aa (Ai (.tm U) (fun h22=>?_) (fun h22=>?_))
   · try simp at h22
     refine Ar (Av [1,2,4,5,6] [7]) ?_;refine Ac (Ab ?_);refine Bg Cw ?_;refine Aq ty43 ?_;refine Ab ?_;refine Ad (As U (.no U) U (.tm U) (.tm U) Tryz.underlying43 De (fun _=>⟨by omega,Al he1⟩)) U ?_;refine Bg Ds ?_;refine Aq ty3 ?_;refine Ad (Bo (ps:=[(0,.tmp 29)]) U U U in75 U U st75 (.cons (.tm U) U U fp75_0 .nil) U) U ?_;refine Bn (Ce (xs:=[.tmp 30]) 31 U U U (.cons (.tm U) U U .nil) Tryz.underlying52 in75 U U U U) U ?_;refine Bl (Bw U U U (.tm U) U (.tm U) (by exact .rf U) (by rfl) Tryz.underlying52 in75 U (by (simp [chunk];omega)) (by (unfold maxLen;simp [chunk];omega))) U ?_;refine Bq (Av [1,2,4,5,6,32] [7,31]) ?_;refine Ag ?_;refine Aa (Af (Bg Cw ?_));refine Aq ty43 ?_;refine Ab ?_;refine Ad (As U (.no U) U (.tm U) (.tm U) Tryz.underlying43 De (fun _=>⟨by omega,Al he1⟩)) U ?_;refine Bg fl201_2 ?_;refine Aq ty3 ?_;refine Ab ?_;refine AWl.eq ?_
     refine Aa (Ai (.tm U) (fun h40=>?_) (fun h40=>?_))
     · try simp at h40
       refine Ar (Av [1,2,4,5,6] [7,31]) ?_;refine Ac (Ab ?_);refine Bg Cw ?_;refine Aq ty43 ?_;refine Ab ?_;refine Ad (As U (.no U) U (.tm U) (.tm U) Tryz.underlying43 De (fun _=>⟨by omega,Al he1⟩)) U ?_;refine Bg Ds ?_;refine Aq ty3 ?_;refine Ad (Bo (ps:=[(0,.tmp 47),(1,.const (.bool true))]) U U U in75 U U st75 (.cons (.tm U) U U fp75_0 (.cons (.const U) U U fp75_1 .nil)) U) U ?_;refine Bn (Ce (xs:=[.tmp 48]) 49 U U U (.cons (.tm U) U U .nil) Tryz.underlying52 in75 U U U U) U ?_;refine Bl (Bw U U U (.tm U) U (.tm U) (by exact .rf U) (by rfl) Tryz.underlying52 in75 U (by (simp [chunk];omega)) (by (unfold maxLen;simp [chunk];omega))) U ?_;refine Bq (Av [1,2,4,5,6,50] [7,31,49]) ?_;refine Ag ?_;refine Aa (Ac (Ab ?_));refine A8 ?_;refine Ag ?_;refine Aa ?_
       repeat (with_reducible refine Au ?_)
       refine Round1.next (k+1) ⟨by omega,Y⟩ (by omega) (Ap rfl ⟨rfl,rfl,rfl,rfl,rfl,Y⟩ ⟨(by refine congrArg (fun r=>some (R.row 2 r)) ?_;rw [arcsL_at he1];simp [arcsOf,h22,h40,chunk,cStep]),Y⟩)
     try simp at h40
     refine Aj (Ar (Av [1,2,4,5,6] [7,31]) ?_);refine Ac (Ab ?_);refine A8 ?_;refine Ag ?_;refine Aa ?_
     repeat (with_reducible refine Au ?_)
     refine Round1.next (k+1) ⟨by omega,Y⟩ (by omega) (Ap rfl ⟨rfl,rfl,rfl,rfl,rfl,Y⟩ ⟨(by refine congrArg (fun r=>some (R.row 2 r)) ?_;rw [arcsL_at he1];simp [arcsOf,h22,h40,chunk,cStep]),Y⟩)
   try simp at h22
   refine Aj (Ae (Ar (Av [1,2,4,5,6] [7]) ?_));refine Ac (Bg Cw ?_);refine Aq ty43 ?_;refine Ab ?_;refine Ad (As U (.no U) U (.tm U) (.tm U) Tryz.underlying43 De (fun _=>⟨by omega,Al he1⟩)) U ?_;refine Bg fl201_2 ?_;refine Aq ty3 ?_;refine Ab ?_;refine AWl.eq ?_;refine Aa (Ai (.tm U) (fun h40=>?_) (fun h40=>?_))
   · try simp at h40
     refine Ar (Av [1,2,4,5,6] [7]) ?_;refine Ac (Ab ?_);refine Bg Cw ?_;refine Aq ty43 ?_;refine Ab ?_;refine Ad (As U (.no U) U (.tm U) (.tm U) Tryz.underlying43 De (fun _=>⟨by omega,Al he1⟩)) U ?_;refine Bg Ds ?_;refine Aq ty3 ?_;refine Ad (Bo (ps:=[(0,.tmp 47),(1,.const (.bool true))]) U U U in75 U U st75 (.cons (.tm U) U U fp75_0 (.cons (.const U) U U fp75_1 .nil)) U) U ?_;refine Bn (Ce (xs:=[.tmp 48]) 49 U U U (.cons (.tm U) U U .nil) Tryz.underlying52 in75 U U U U) U ?_;refine Bl (Bw U U U (.tm U) U (.tm U) (by exact .rf U) (by rfl) Tryz.underlying52 in75 U (by (simp [chunk];omega)) (by (unfold maxLen;simp [chunk];omega))) U ?_;refine Bq (Av [1,2,4,5,6,50] [7,49]) ?_;refine Ag ?_;refine Aa (Ac (Ab ?_));refine A8 ?_;refine Ag ?_;refine Aa ?_
     repeat (with_reducible refine Au ?_)
     refine Round1.next (k+1) ⟨by omega,Y⟩ (by omega) (Ap rfl ⟨rfl,rfl,rfl,rfl,rfl,Y⟩ ⟨(by refine congrArg (fun r=>some (R.row 2 r)) ?_;rw [arcsL_at he1];simp [arcsOf,h22,h40,chunk,cStep]),Y⟩)
   try simp at h40
   refine Aj (Ar (Av [1,2,4,5,6] [7]) ?_);refine Ac (Ab ?_);refine A8 ?_;refine Ag ?_;refine Aa ?_
   repeat (with_reducible refine Au ?_)
   refine Round1.next (k+1) ⟨by omega,Y⟩ (by omega) (Ap rfl ⟨rfl,rfl,rfl,rfl,rfl,Y⟩ ⟨(by refine congrArg (fun r=>some (R.row 2 r)) ?_;rw [arcsL_at he1];simp [arcsOf,h22,h40,chunk,cStep]),Y⟩)
 try simp at h12
 refine Bb (Af (Ab ?_));refine Ag ?_;refine Aa (Am (Res.one U (.tmp U .nil) U ?_))
 unfold arcsAt;rw [List.take_of_length_le (by omega)];rfl
theorem specl14Letter (e:TEdge) (b:Bool) (h:0≤e.Label∧e.Label≤2):FnT Tryz.prog 185 [.agg (cEdge e),.one (.v (.bool b))] (.a (.one (.v (.int .i64 (reads e b))))):=by
 refine A7 Tryz.func185 U (by kernel_rfl) Tryz.ntmps185 U fun hlen w0=>?_
 try simp [cEdge,cGraph,cStep,cAutomaton,cProductStep] at hlen
 refine Af (Ad (Bm U U U (.tm U) (ts:=_) (by rfl)) U ?_);refine Ak ?_;refine Aa (Ae (Af (Ab ?_)));refine Aa (Ai (.tm U) (fun h5=>?_) (fun h5=>?_))
 · try simp at h5
   refine Af (Bg fl201_3 ?_);refine Aq ty3 ?_;refine Ad (Dn U (.no U) U (.const U) (.tm U) (fun _=>by omega)) U ?_;refine A8 ?_;refine Ag ?_;refine Aa (Am (Bp U U ?_))
   simp [reads,h5]
 try simp at h5
 refine Aj (Af (Bg fl201_3 ?_));refine Aq ty3 ?_;refine Ad (Dn U (.no U) U (.const U) (.tm U) (fun _=>by omega)) U ?_;refine Ag ?_;refine Aa (Am (Bp U U ?_))
 simp [reads,h5]
theorem specl14To (e:TEdge) (b:Bool):FnT Tryz.prog 186 [.agg (cEdge e),.one (.v (.bool b))] (.a (.one (.v (.int .i64 (toOf e b))))):=by
 refine A7 Tryz.func186 U (by kernel_rfl) Tryz.ntmps186 U fun hlen w0=>?_
 try simp [cEdge,cGraph,cStep,cAutomaton,cProductStep] at hlen
 refine Af (Ad (Bm U U U (.tm U) (ts:=_) (by rfl)) U ?_);refine Ak ?_;refine Aa (Ae (Af (Ab ?_)));refine Aa (Ai (.tm U) (fun h5=>?_) (fun h5=>?_))
 · try simp at h5
   refine Af (Bg fl201_1 ?_);refine Aq ty3 ?_;refine Ag ?_;refine Aa (Am (Bp U U ?_))
   simp [toOf,h5]
 try simp at h5
 refine Aj (Af (Bg fl201_2 ?_));refine Aq ty3 ?_;refine Ag ?_;refine Aa (Am (Bp U U ?_))
 simp [toOf,h5]
theorem specl14Steps (g:TGraph) (a:TAutomaton) (ha:validA a=true) (hg:validG g=true) (nd s v:Int) (hnd:0≤nd) (hndv:g.Values[nd.toNat]?=some v) (hst:0≤s∧s<a.Accept.length):FnT Tryz.prog 114 [.agg (cGraph g),.agg (cAutomaton a),.one (.v (.int .i64 nd)),.one (.v (.int .i64 s))] (.a (.one (.sl 4 ((stepsOf g a nd s).map cProductStep)))):=by
 refine A7 Tryz.func114 U (by kernel_rfl) Tryz.ntmps114 U fun hlen w0=>?_
 try simp [cEdge,cGraph,cStep,cAutomaton,cProductStep] at hlen
 have hA:=validA_len ha
 have hG:=validG_len hg
 have hv:=validG_val hg hndv
 have hcl:=closure_lt ha hv hst.2
 have hP:=pow_le_12 ha
 have hal:(arcsAt g nd).length≤24:=Nat.le_trans (arcsL_len _ _) (by omega)
 refine Af (Ad (Bm U U U (.tm U) (ts:=_) (by rfl)) U ?_);refine Ad (Bm U U U (.tm U) (ts:=_) (by rfl)) U ?_;refine Ak ?_;refine Cb (i:=8) 20001 4 U U ?_;refine Aa (Af (A6 (Cu 18 U U U Tryz.underlying72 ty77 U) U ?_));refine Ag ?_;refine Aa (Ae (B8 9 (nthB [[],[],[],[2],[],[2,3,4],[2,3,4,5],[0,1,2,3,4,5,6],[0,1,2,3,4,5,6,7]]) (by kernel_rfl) (by kernel_rfl) (by kernel_rfl) ?_));refine Bj Bt ?_;refine Aw ?_;refine B9 Cl ?_;refine Bj Bz ?_;refine Aw ?_;refine DrawC.s (fun _ hs=>(As U (.no U) (Ah hs U) (hs.tm U) (hs.tm U) Tryz.underlying40 ty3 (fun _=>⟨by omega,(by exact Al hndv)⟩))) ?_;refine Bj ty3 ?_;refine DrawC.s (fun _ hs=>Bc (FnT.fr (specl14Closure a ha s v ⟨by omega,hst.2⟩ hv)) U (.no U) (Ah hs U) (.cons (hs.tm U) (readA_sup hs U) (.cons (hs.tm U) (readA_sup hs U) (.cons (hs.tm U) (readA_sup hs U) .nil)))) ?_;refine DrawC.s (fun _ hs=>Da U (.no U) (Ah hs U) (hs.tm U)) ?_
 refine DrawC.fin U U ?_;refine Aa (Ae (Ar (Av [0,1,2,3,4,5,8,9,10] [20001,18]) ?_));refine Ac (Aq Bx ?_);refine Ab ?_;refine Ad (Bc (FnT.fr (specl4From g nd (by omega))) U (.no U) U (.cons (.tm U) U (.cons (.tm U) U .nil))) U ?_;refine Ag ?_;refine Aa (Ae (Af (Ak ?_)));refine Aa (AW.block (By (fun (i:Nat)=>(i≤(arcsAt g nd).length)∧True) (fun (i:Nat)=>⟨_,[(12,(true,.a (.one (.t (.v (.int .i64 (i:Nat))))))),(9,(true,.a (.one (.rf 18)))),(4,_),(5,_),(8,_),(10,_),(11,_)],[(18,.row 4 ((((arcsAt g nd).take i).flatMap (vertS a s v)).map cProductStep))]⟩) (fun (i:Nat)=>(arcsAt g nd).length-i) (0) ⟨Nat.zero_le _,Y⟩ (Ap U ⟨U,U,U,U,U,U,U,Y⟩ ⟨(by rfl),Y⟩) ?_))
 rintro i ⟨hk,he⟩
 refine Ae (Af (Ab ?_));refine Ab ?_;refine Be (.t) Tryz.underlying52 ?_;refine AWl.lt ?_;refine Aa (Ai (.tm U) (fun h33=>?_) (fun h33=>?_))
 · try simp only [bit_at,bit_zero,shr_zero] at h33
   try simp only [Int.toNat_natCast] at h33
   try simp at h33
   obtain⟨y,hy⟩:∃ ξ,(arcsAt g nd)[i]?=some ξ:=⟨_,List.getElem?_eq_getElem (by omega)⟩
   have hyo:=arcsAt_ok hg hy
   obtain⟨k1,e,hed,hy1,hy2,hy3⟩:=arcsAt_edge hg hy
   have hE:=validG_edge hg hed
   have hsy:((arcsAt g nd).map (·.step))[i]?=some y.step:=by (rw [List.getElem?_map,hy];rfl)
   have hix:edgeIndex g y.step.Edge=(k1:Int):=by rw [hy1];exact edgeIndex_at hg hed
   have hlet:FnT Tryz.prog 185 [.agg (cEdge e),.one (.v (.bool y.step.Inverse))] (.a (.one (.v (.int .i64 y.letter)))):=by (rw [hy2];exact specl14Letter e _ (by omega))
   have hto:FnT Tryz.prog 186 [.agg (cEdge e),.one (.v (.bool y.step.Inverse))] (.a (.one (.v (.int .i64 y.to)))):=by (rw [hy3];exact specl14To e _)
   have hfl:(((arcsAt g nd).take i).flatMap (vertS a s v)).length≤24*64:=Nat.le_trans (flatMap_len (b:=64) (vertS_len a s v) _) (Nat.mul_le_mul_right _ (by simp;omega))
   refine Aj (Ae (AW.block (Ae (B8 12 (nthB [[],[0],[],[],[],[3,4],[3,4,5],[3,4,5,6],[2,3,4,5,6,7],[0,1,2,3,4,5,6,7,8],[0,1,2,3,4,5,6,7,8,9],[]]) (by kernel_rfl) (by kernel_rfl) (by kernel_rfl) ?_))));refine B9 Cw ?_;refine Bj ty43 ?_;refine Bj Bx ?_;refine Aw ?_;refine Aw ?_;refine DrawC.s (fun _ hs=>(by exact As U (.no U) (Ah hs U) (hs.tm U) (hs.tm U) Tryz.underlying52 ty75 (fun _=>⟨by omega,(by exact Al hsy)⟩))) ?_;refine B9 fl75_0 ?_;refine Bj ty3 ?_;refine DrawC.s (fun _ hs=>Bc (FnT.fr (specEdgeIndex _ _)) U (.no U) (Ah hs U) (.cons (hs.tm U) (readA_sup hs U) (.cons (hs.tm U) (readA_sup hs U) .nil))) ?_;refine DrawC.s (fun _ hs=>(by exact As U (.no U) (Ah hs U) (hs.tm U) (hs.tm U) Tryz.underlying43 De (fun _=>⟨by omega,Al (l:=g.Edges) (x:=e) (by rw [hix];exact hed)⟩))) ?_;refine Bj De ?_;refine Dv U U U (Loc.of1 U fun σ' hs hf=>Bi 13 U U (Ah hs U) in201 U U hf) ?_
   refine DrawC.fin U U ?_;refine Az De ?_;refine Aa (Ae (Ar (Av [4,5,8,9,10,11,12,13] [18,13]) ?_));refine Ac (Ak ?_);refine Aa (Ae (Af (Ak ?_)));refine Aa (AW.block (Cz (fun (q:Nat) (m:Nat)=>(q≤a.Accept.length∧m<2^a.Accept.length)∧m=aftF a y.letter ((List.range q).filter (closure a s v).testBit) 0) (fun (q:Nat) (m:Nat)=>⟨_,[(15,(true,.a (.one (.t (.v (.int .i64 (q:Nat))))))),(14,(true,.a (.one (.t (.v (.int .i64 (m:Nat))))))),(4,_),(5,_),(8,_),(9,_),(10,_),(11,_),(12,_),(13,_)],[(18,.row 4 ((((arcsAt g nd).take i).flatMap (vertS a s v)).map cProductStep)),(13,.box [.t (.v (.int .i64 e.ID)),.t (.v (.int .i64 e.From)),.t (.v (.int .i64 e.To)),.t (.v (.int .i64 e.Label))])]⟩) (fun (q:Nat) (m:Nat)=>a.Accept.length-q) (0) (0) ⟨⟨Nat.zero_le _,Nat.two_pow_pos _⟩,U⟩ (Ap U ⟨U,U,U,U,U,U,U,U,U,U,Y⟩ ⟨(by rfl),U,Y⟩) ?_))
   rintro q m ⟨hk1,he1⟩
   refine Ae (Af (Ab ?_));refine Bg C0 ?_;refine Aq ty33 ?_;refine Be (.t) Tryz.underlying33 ?_;refine AWl.lt ?_;refine Aa (Ai (.tm U) (fun h51=>?_) (fun h51=>?_))
   · try simp only [bit_at,bit_zero,shr_zero] at h51
     try simp only [Int.toNat_natCast] at h51
     try simp at h51
     obtain⟨row,hr1,hr2,hr3,hn1,hn2⟩:=validA_next ha (s:=(q:Int)) (k:=y.letter) (by omega) (by omega) (by omega) (by omega)
     refine Aj (Ae (AW.block (Ae (B8 15 (nthB [[],[0],[],[0,1,2],[0,1,2,3],[],[],[],[6,7],[6,7,8],[6,7,8,9],[5,6,7,8,9,10],[0,1,2,3,4,5,6,7,8,9,10,11],[0,1,2,3,4,5,6,7,8,9,10,11,12],[0,1,2,3,4,5,6,7,8,9,10,11,12,13]]) (by kernel_rfl) (by kernel_rfl) (by kernel_rfl) ?_))));refine B9 C4 ?_;refine Bj ty34 ?_;refine Aw ?_;refine DrawC.s (fun _ hs=>(As U (.no U) (Ah hs U) (hs.tm U) (hs.tm U) Tryz.underlying34 Bz (fun _=>⟨by omega,(by exact Al hr1)⟩))) ?_;refine Bj Bz ?_;refine DrawC.s (fun _ hs=>(by exact Bk U (.no U) (Ah hs U) (hs.tm U) (hs.res _ _ U) De U U)) ?_;refine Aw ?_;refine Aw ?_;refine DrawC.s (fun _ hs=>(by exact As U (.no U) (Ah hs U) (hs.tm U) (hs.tm U) Tryz.underlying52 ty75 (fun _=>⟨by omega,(by exact Al hsy)⟩))) ?_;refine B9 fl75_1 ?_;refine Bj ty4 ?_
     refine DrawC.s (fun _ hs=>Bc (FnT.fr (hlet)) U (.no U) (Ah hs U) (.cons (hs.tm U) (readA_sup hs U) (.cons (hs.tm U) (readA_sup hs U) .nil))) ?_;refine DrawC.s (fun _ hs=>(by exact As U (.no U) (Ah hs U) (hs.tm U) (hs.tm U) Tryz.underlying40 ty3 (fun _=>⟨by omega,(by exact Al hr3)⟩))) ?_;refine Bj ty3 ?_;refine DrawC.s (fun _ hs=>Da U (.no U) (Ah hs U) (hs.tm U)) ?_;refine DrawC.fin U U ?_;refine Aa (Ae (Ar (Av [4,5,8,9,10,11,12,13,14,15,16] [18,13]) ?_));refine Ac (Ab ?_);refine Ab ?_;refine Ad (R_shr U (.no U) U (.tm U) (.tm U) (fun _=>by omega)) U ?_;refine Ad (R_and1 U (.no U) U (.tm U) (.const U) (fun _=>by first|exact Int.natCast_nonneg _|omega)) U ?_;refine Bs ?_;refine Ab ?_;refine Cm ?_;refine Ad (R_ge U (by exact .yes1 U U U U) U (.tmp U (by exact id)) (.const U)) U ?_;refine Ck ?_;refine Aa (Ai (.tm U) (fun h76=>?_) (fun h76=>?_))
     · try simp only [bit_at,bit_zero,shr_zero] at h76
       try simp only [Int.toNat_natCast] at h76
       try simp at h76
       have h2x:=pow_12 ha (x:=(nextOf a q y.letter).toNat) (by omega)
       have h2p:=Nat.two_pow_pos (nextOf a q y.letter).toNat
       refine Ar (Av [4,5,8,9,10,11,12,13,14,15,16] [18,13]) ?_;refine Ac (Ab ?_);refine Ab ?_;refine Ad (R_shlN U (.no U) U (.const U) (.tm U) (fun _=>by omega)) U ?_;refine Ad (R_or_int U (.no U) U (.tm U) (.tm U) (fun _=>by omega)) U ?_;refine Ag ?_;refine Aa (Ac (Ab ?_));refine A8 ?_;refine Ag ?_;refine Aa ?_
       repeat (with_reducible refine Au ?_)
       refine Round2.next (q+1) (m|||2^(nextOf a q y.letter).toNat) ⟨⟨by omega,or_pow_lt hk1.2 (by omega)⟩,by rw [range_filter_succ,h76.1,if_pos rfl,aftF_snoc,if_pos h76.2,he1]⟩ (by omega) (Ap rfl ⟨rfl,rfl,rfl,rfl,rfl,rfl,rfl,rfl,rfl,rfl,Y⟩ ⟨(by rfl),(by rfl),Y⟩)
     try simp only [bit_at,bit_zero,shr_zero] at h76
     try simp only [Int.toNat_natCast] at h76
     try simp at h76
     refine Aj (Ar (Av [4,5,8,9,10,11,12,13,14,15,16] [18,13]) ?_);refine Ac (Ab ?_);refine A8 ?_;refine Ag ?_;refine Aa ?_
     repeat (with_reducible refine Au ?_)
     refine Round2.next (q+1) (m) ⟨⟨by omega,hk1.2⟩,by rw [range_filter_succ];cases hb:(closure a s v).testBit q with|false=>(rw [if_neg (by simp),List.append_nil];exact he1)|true=>(rw [if_pos rfl,aftF_snoc,if_neg (by have:=h76 hb;omega)];exact he1)⟩ (by omega) (Ap rfl ⟨rfl,rfl,rfl,rfl,rfl,rfl,rfl,rfl,rfl,rfl,Y⟩ ⟨(by rfl),(by rfl),Y⟩)
   try simp only [bit_at,bit_zero,shr_zero] at h51
   try simp only [Int.toNat_natCast] at h51
   try simp at h51
   have hM:m=aft1 a s v y.letter:=by (rw [he1,show q=a.Accept.length by omega,aft1_eq ha hv hst.2])
   subst hM;refine Bb (Af (Ak ?_));refine Aa (AW.block (By (fun (r:Nat)=>(r≤a.Accept.length)∧True) (fun (r:Nat)=>⟨_,[(17,(true,.a (.one (.t (.v (.int .i64 (r:Nat))))))),(9,(true,.a (.one (.rf 18)))),(4,_),(5,_),(8,_),(10,_),(11,_),(12,_),(13,_),(14,_)],[(18,.row 4 ((((arcsAt g nd).take i).flatMap (vertS a s v)++((List.range r).filter (aft1 a s v y.letter).testBit).map fun (t:Nat)=>(⟨y.step,y.to,t⟩:TProductStep)).map cProductStep)),(13,.box [.t (.v (.int .i64 e.ID)),.t (.v (.int .i64 e.From)),.t (.v (.int .i64 e.To)),.t (.v (.int .i64 e.Label))])]⟩) (fun (r:Nat)=>a.Accept.length-r) (0) ⟨Nat.zero_le _,Y⟩ (Ap U ⟨U,U,U,U,U,U,U,U,U,U,Y⟩ ⟨(by (refine congrArg (fun r=>some (R.row 4 r)) ?_;simp;done)),U,Y⟩) ?_))
   rintro r ⟨hk2,he2⟩
   refine Ae (Af (Ab ?_));refine Bg C0 ?_;refine Aq ty33 ?_;refine Be (.t) Tryz.underlying33 ?_;refine AWl.lt ?_;refine Aa (Ai (.tm U) (fun h85=>?_) (fun h85=>?_))
   · try simp only [bit_at,bit_zero,shr_zero] at h85
     try simp only [Int.toNat_natCast] at h85
     try simp at h85
     have hfr:((List.range r).filter (aft1 a s v y.letter).testBit).length≤12:=Nat.le_trans (List.length_filter_le _ _) (by simp;omega)
     refine Aj (Ae (AW.block (Af (Ab ?_))));refine Ab ?_;refine Ad (R_shr U (.no U) U (.tm U) (.tm U) (fun _=>by omega)) U ?_;refine Ad (R_and1 U (.no U) U (.tm U) (.const U) (fun _=>by first|exact Int.natCast_nonneg _|omega)) U ?_;refine Bs ?_;refine Aa (Ai (.tm U) (fun h92=>?_) (fun h92=>?_))
     · try simp only [bit_at,bit_zero,shr_zero] at h92
       try simp only [Int.toNat_natCast] at h92
       try simp at h92
       refine Ar (Av [4,5,8,9,10,11,12,13,14,17] [18,13]) ?_;refine B8 15 (nthB [[],[],[],[1,2],[1,2,3],[],[],[],[6,7],[6,7,8],[6,7,8,9],[5,6,7,8,9,10],[],[1,2,3,4,5,6,7,8,9,10,11,12],[1,2,3,4,5,6,7,8,9,10,11,12,13]]) (by kernel_rfl) (by kernel_rfl) (by kernel_rfl) ?_;refine Aw ?_;refine Aw ?_;refine Aw ?_;refine DrawC.s (fun _ hs=>(by exact As U (.no U) (Ah hs U) (hs.tm U) (hs.tm U) Tryz.underlying52 ty75 (fun _=>⟨by omega,(by exact Al hsy)⟩))) ?_;refine Bj ty75 ?_;refine DrawC.s (fun _ hs=>(by exact Bk U (.no U) (Ah hs U) (hs.tm U) (hs.res _ _ U) De U U)) ?_;refine Aw ?_;refine Aw ?_;refine DrawC.s (fun _ hs=>(by exact As U (.no U) (Ah hs U) (hs.tm U) (hs.tm U) Tryz.underlying52 ty75 (fun _=>⟨by omega,(by exact Al hsy)⟩))) ?_;refine B9 fl75_1 ?_;refine Bj ty4 ?_
       refine DrawC.s (fun _ hs=>Bc (FnT.fr (hto)) U (.no U) (Ah hs U) (.cons (hs.tm U) (readA_sup hs U) (.cons (hs.tm U) (readA_sup hs U) .nil))) ?_;refine Aw ?_;refine DrawC.s (fun _ hs=>Bo (ps:=[(0,.tmp 97),(1,.tmp 104),(2,.tmp 105)]) U U (Ah hs U) in77 U U st77 (.cons (hs.tm U) U U fp77_0 (.cons (hs.tm U) U U fp77_1 (.cons (hs.tm U) U U fp77_2 .nil))) U) ?_;refine DrawC.s (fun _ hs=>B7 (xs:=[.tmp 106]) (rows:=[cProductStep ⟨y.step,y.to,r⟩]) U U (Ah hs U) (.cons (hs.tm U) U U .nil) Tryz.underlying72 in77 U U (U)) ?_;refine DrawC.fin U U ?_;refine Bl (Bw U U U (.tm U) U (.tm U) (by exact .t) (by rfl) Tryz.underlying72 in77 U (by (simp only [List.length_map,List.length_append,List.length_cons,List.length_nil,chunk];omega)) (by (unfold maxLen;simp only [List.length_map,List.length_append,List.length_cons,List.length_nil,chunk];omega))) U ?_
       refine Bq (Av [4,5,8,9,10,11,12,13,14,17,108] [18,13]) ?_;refine Ag ?_;refine Aa (Ac (Ab ?_));refine A8 ?_;refine Ag ?_;refine Aa ?_
       repeat (with_reducible refine Au ?_)
       refine Round1.next (r+1) ⟨by omega,Y⟩ (by omega) (Ap rfl ⟨rfl,rfl,rfl,rfl,rfl,rfl,rfl,rfl,rfl,rfl,Y⟩ ⟨(by (refine congrArg (fun r=>some (R.row 4 r)) ?_;first|(rw [range_filter_succ,h92];simp [chunk];done)|(rw [flatMap_at _ hy,vertS_eq ha hv hst.2 (by omega),show r=a.Accept.length by omega];done))),(by rfl),Y⟩)
     try simp only [bit_at,bit_zero,shr_zero] at h92
     try simp only [Int.toNat_natCast] at h92
     try simp at h92
     refine Aj (Ar (Av [4,5,8,9,10,11,12,13,14,17] [18,13]) ?_);refine Ac (Ab ?_);refine A8 ?_;refine Ag ?_;refine Aa ?_
     repeat (with_reducible refine Au ?_)
     refine Round1.next (r+1) ⟨by omega,Y⟩ (by omega) (Ap rfl ⟨rfl,rfl,rfl,rfl,rfl,rfl,rfl,rfl,rfl,rfl,Y⟩ ⟨(by (refine congrArg (fun r=>some (R.row 4 r)) ?_;first|(rw [range_filter_succ,h92];simp [chunk];done)|(rw [flatMap_at _ hy,vertS_eq ha hv hst.2 (by omega),show r=a.Accept.length by omega];done))),(by rfl),Y⟩)
   try simp only [bit_at,bit_zero,shr_zero] at h85
   try simp only [Int.toNat_natCast] at h85
   try simp at h85
   refine Bb (Ac (Ab ?_));refine A8 ?_;refine Ag ?_;refine Aa ?_
   repeat (with_reducible refine Au ?_)
   refine Round1.next (i+1) ⟨by omega,Y⟩ (by omega) (Ap rfl ⟨rfl,rfl,rfl,rfl,rfl,rfl,rfl,Y⟩ ⟨(by (refine congrArg (fun r=>some (R.row 4 r)) ?_;first|(rw [range_filter_succ,h92];simp [chunk];done)|(rw [flatMap_at _ hy,vertS_eq ha hv hst.2 (by omega),show r=a.Accept.length by omega];done))),Y⟩)
 try simp only [bit_at,bit_zero,shr_zero] at h33
 try simp only [Int.toNat_natCast] at h33
 try simp at h33
 refine Bb (Af (Ab ?_));refine Ag ?_;refine Aa (Am (Res.one U (.tmp U .nil) U ?_))
 unfold stepsOf;rw [hndv,List.take_of_length_le (by omega)];rfl
end Go.Proofs.YtbecibmlbiebeaaGreat
set_option maxHeartbeats 1000000
set_option maxRecDepth 100000
namespace Go.Q
open Go.D
def negs (out:List Int):Nat:=(out.filter fun x=>decide (x<0)).length
theorem negs_cons (x:Int) (l:List Int):negs (x::l)=(if x<0 then 1 else 0)+negs l:=by
 unfold negs
 rw [List.filter_cons]
 split<;>simp_all<;>omega
theorem negs_set {v:Int} (hv:0≤v):∀ {out:List Int} {k:Nat} {x:Int},out[k]?=some x→x<0→negs (out.set k v)+1=negs out
 | [],_,_,h,_=>by simp at h
 | y::l,0,x,h,hx=>by
  simp at h
  subst h
  rw [List.set_cons_zero,negs_cons,negs_cons,if_neg (by omega),if_pos hx]
  omega
 | y::l,k+1,x,h,hx=>by
  rw [List.set_cons_succ,negs_cons,negs_cons]
  have:=negs_set hv (out:=l) (k:=k) (by simpa using h) hx
  omega
theorem negs_le (out:List Int):negs out≤out.length:=List.length_filter_le _ _
def atI (out:List Int) (k:Int):Int:=out[k.toNat]?.getD 0
theorem atI_get {out:List Int} {k:Int} (h:k.toNat<out.length):out[k.toNat]?=some (atI out k):=by
 unfold atI;rw [List.getElem?_eq_getElem h];rfl
def rlx (q:Int) (st:List Int×List Int) (k:Int):List Int×List Int:=if atI st.1 k<0 then (st.1.set k.toNat (atI st.1 q+1),st.2++[k]) else st
def relax (q:Int) (l:List Int) (st:List Int×List Int):List Int×List Int:=l.foldl (rlx q) st
theorem relax_at {q:Int} {l:List Int} {j:Nat} {k:Int} (h:l[j]?=some k) (st:List Int×List Int):relax q (l.take (j+1)) st=rlx q (relax q (l.take j) st) k:=by
 unfold relax
 rw [take_at h,List.foldl_append]
 rfl
def bfs (nx:Nat→List Int):Nat→List Int→List Int→List Int
 | 0,out,_=>out
 | _+1,out,[]=>out
 | f+1,out,q::r=>bfs nx f (relax q (nx q.toNat) (out,r)).1 (relax q (nx q.toNat) (out,r)).2
structure BfsI (N:Nat) (out qu:List Int):Prop where
 len:out.length=N
 mem:∀ q∈qu,0≤q∧q<N
 val:∀ v∈out,-1≤v∧v+negs out≤N
theorem BfsI.rlx {N:Nat} {out qu:List Int} {q k:Int} (h:BfsI N out qu) (hq:0≤q∧q<N) (hk:0≤k∧k<N):BfsI N (rlx q (out,qu) k).1 (rlx q (out,qu) k).2∧negs (Go.Q.rlx q (out,qu) k).1+(Go.Q.rlx q (out,qu) k).2.length=negs out+qu.length∧negs (Go.Q.rlx q (out,qu) k).1≤negs out:=by
 unfold Go.Q.rlx
 dsimp only
 split
 · rename_i hneg
   have hkl:k.toNat<out.length:=by rw [h.len];omega
   have hql:q.toNat<out.length:=by rw [h.len];omega
   have hvq:=h.val _ (List.mem_of_getElem? (atI_get hql))
   have hn:=negs_set (v:=atI out q+1) (by omega) (atI_get hkl) hneg
   refine⟨⟨by simpa using h.len,fun x hx=>?_,fun v hv=>?_⟩,?_,?_⟩
   · rcases List.mem_append.1 hx with hx|hx
     · exact h.mem x hx
     rw [List.mem_singleton] at hx;subst hx;exact hk
   · show -1≤v∧v+(negs (out.set k.toNat (atI out q+1)):Int)≤N
     rcases List.mem_or_eq_of_mem_set hv with hv|rfl
     · have:=h.val v hv;omega
     omega
   · show negs (out.set k.toNat (atI out q+1))+(qu++[k]).length=_
     simp;omega
   show negs (out.set k.toNat (atI out q+1))≤_
   omega
 exact⟨h,rfl,Nat.le_refl _⟩
theorem BfsI.relax {N:Nat} {q:Int} (hq:0≤q∧q<N):∀ {l:List Int} {st:List Int×List Int},BfsI N st.1 st.2→(∀ k∈l,0≤k∧k<N)→BfsI N (relax q l st).1 (relax q l st).2∧negs (Go.Q.relax q l st).1+(Go.Q.relax q l st).2.length=negs st.1+st.2.length∧negs (Go.Q.relax q l st).1≤negs st.1
 | [],st,h,_=>⟨h,rfl,Nat.le_refl _⟩
 | k::l,st,h,hl=>by
  have e:Go.Q.relax q (k::l) st=Go.Q.relax q l (Go.Q.rlx q st k):=rfl
  have h1:BfsI N (Go.Q.rlx q st k).1 (Go.Q.rlx q st k).2∧negs (Go.Q.rlx q st k).1+(Go.Q.rlx q st k).2.length=negs st.1+st.2.length∧negs (Go.Q.rlx q st k).1≤negs st.1:=h.rlx (k:=k) hq (hl k (by simp))
  obtain⟨h1,h2,h3⟩:=h1
  obtain⟨g1,g2,g3⟩:=BfsI.relax hq (l:=l) h1 fun k hk=>hl k (by simp [hk])
  rw [e]
  exact⟨g1,by omega,by omega⟩
theorem BfsI.tail {N:Nat} {out qu:List Int} {q:Int} (h:BfsI N out (q::qu)):BfsI N out qu:=⟨h.len,fun x hx=>h.mem x (by simp [hx]),h.val⟩
theorem rlx_len (q:Int) (st:List Int×List Int) (k:Int):(rlx q st k).1.length=st.1.length:=by
 unfold rlx;split<;>simp
def zeroAll (from_:List Int) (out:List Int):List Int:=from_.foldl (fun out i=>out.set i.toNat 0) out
def spreadOf (nx:Nat→List Int) (N:Nat) (from_:List Int):List Int:=bfs nx (2*N+from_.length+1) (zeroAll from_ (List.replicate N (-1))) from_
theorem zeroAll_at {l:List Int} {j:Nat} {k:Int} (h:l[j]?=some k) (out:List Int):zeroAll (l.take (j+1)) out=(zeroAll (l.take j) out).set k.toNat 0:=by
 unfold zeroAll
 rw [take_at h,List.foldl_append]
 rfl
theorem zeroAll_len:∀ (l out:List Int),(zeroAll l out).length=out.length
 | [],_=>rfl
 | k::l,out=>(zeroAll_len l _).trans (by simp)
theorem zeroAll_val:∀ (l:List Int) {out:List Int},(∀ v∈out,v=-1∨v=0)→∀ v∈zeroAll l out,v=-1∨v=0
 | [],_,h=>h
 | k::l,out,h=>zeroAll_val l fun v hv=>by
  rcases List.mem_or_eq_of_mem_set hv with hv|rfl
  · exact h v hv
  exact .inr rfl
theorem bfs_start {N:Nat} {l:List Int} (hl:∀ q∈l,0≤q∧q<N):BfsI N (zeroAll l (List.replicate N (-1))) l:=by
 have hlen:(zeroAll l (List.replicate N (-1))).length=N:=by rw [zeroAll_len];simp
 refine⟨hlen,hl,fun v hv=>?_⟩
 have hn:=negs_le (zeroAll l (List.replicate N (-1)))
 rcases zeroAll_val l (fun v hv=>.inl (List.mem_replicate.1 hv).2) v hv with rfl|rfl<;>omega
theorem bfs_nil {nx:Nat→List Int} {f:Nat} {out:List Int} (h:0<f):bfs nx f out []=out:=by
 match f,h with
 | f+1,_=>rfl
theorem rlx_pre (q:Int) (out pre r:List Int) (k:Int):rlx q (out,pre++r) k=((rlx q (out,r) k).1,pre++(rlx q (out,r) k).2):=by
 unfold rlx;dsimp only
 split<;>simp
theorem relax_pre (q:Int):∀ (l out pre r:List Int),relax q l (out,pre++r)=((relax q l (out,r)).1,pre++(relax q l (out,r)).2)
 | [],_,_,_=>rfl
 | k::l,out,pre,r=>by
  have e:∀ st,relax q (k::l) st=relax q l (rlx q st k):=fun _=>rfl
  rw [e,e,rlx_pre,relax_pre q l]
def BfsAt (nx:Nat→List Int) (res out qu:List Int) (i:Nat):Prop:=∃ f,negs out+(qu.length-i)<f∧bfs nx f out (qu.drop i)=res
theorem BfsAt.next {nx:Nat→List Int} {N:Nat} {res out qu:List Int} {i:Nat} {q:Int} (h:BfsAt nx res out qu i) (hI:BfsI N out qu) (hq:qu[i]?=some q) (hn:∀ k∈nx q.toNat,0≤k∧k<N):BfsAt nx res (relax q (nx q.toNat) (out,qu)).1 (relax q (nx q.toNat) (out,qu)).2 (i+1):=by
 obtain⟨f,hf,e⟩:=h
 have hil:=(List.getElem?_eq_some_iff.1 hq).1
 have hd:qu.drop i=q::qu.drop (i+1):=by
  rw [List.drop_eq_getElem_cons hil,(List.getElem?_eq_some_iff.1 hq).2]
 obtain⟨f',rfl⟩:∃ f',f=f'+1:=⟨f-1,by omega⟩
 rw [hd,bfs] at e
 have hr:=BfsI.relax (N:=N) (hI.mem q (List.mem_of_getElem? hq)) (l:=nx q.toNat) (st:=(out,qu)) hI hn
 have e2:qu=qu.take (i+1)++qu.drop (i+1):=(List.take_append_drop _ _).symm
 have e3:=relax_pre q (nx q.toNat) out (qu.take (i+1)) (qu.drop (i+1))
 rw [←e2] at e3
 refine⟨f',?_,?_⟩
 · have h1:=hr.2.1
   have h2:i+1≤(relax q (nx q.toNat) (out,qu)).2.length:=by rw [e3];simp;omega
   dsimp only at h1
   omega
 rw [e3]
 dsimp only
 rw [List.drop_left' (by rw [List.length_take];omega)]
 exact e
theorem BfsAt.done {nx:Nat→List Int} {res out qu:List Int} {i:Nat} (h:BfsAt nx res out qu i) (hi:qu.length≤i):out=res:=by
 obtain⟨f,hf,e⟩:=h
 rw [List.drop_eq_nil_of_le hi,bfs_nil (by omega)] at e
 exact e
theorem BfsAt.start {nx:Nat→List Int} {N:Nat} {l:List Int}:BfsAt nx (spreadOf nx N l) (zeroAll l (List.replicate N (-1))) l 0:=by
 refine⟨2*N+l.length+1,?_,rfl⟩
 have:=negs_le (zeroAll l (List.replicate N (-1)))
 rw [zeroAll_len] at this
 simp at this
 omega
theorem nd_ok {n V p:Nat} (hn:1≤n) (hp:p<n*V):(0≤(p:Int) / (n:Int)∧(p:Int) / (n:Int)<V)∧0≤(p:Int)%(n:Int)∧(p:Int)%(n:Int)<n:=by
 have h1:p / n<V:=Nat.div_lt_of_lt_mul hp
 have h2:p%n<n:=Nat.mod_lt _ hn
 have e1:(p:Int) / (n:Int)=((p / n:Nat):Int):=by simp
 have e2:(p:Int)%(n:Int)=((p%n:Nat):Int):=by simp
 rw [e1,e2]
 exact⟨⟨Int.natCast_nonneg _,by exact_mod_cast h1⟩,Int.natCast_nonneg _,by exact_mod_cast h2⟩
theorem nxN_steps (g:TGraph) (a:TAutomaton) (p:Nat):nxN g a p=(stepsOf g a ((p:Int) / (a.Accept.length:Int)) ((p:Int)%(a.Accept.length:Int))).map fun (z:TProductStep)=>z.Node*(a.Accept.length:Int)+z.State:=by
 unfold nxN
 rw [nextsOf_eq]
 simp
theorem steps_ok {g:TGraph} {a:TAutomaton} (ha:validA a=true) (hg:validG g=true) {x s v:Int} (hv:g.Values[x.toNat]?=some v) (hs:s<a.Accept.length):∀ z∈stepsOf g a x s,0≤z.Node∧z.Node<g.Values.length∧0≤z.State∧z.State<a.Accept.length:=by
 intro z hz
 unfold stepsOf at hz
 rw [hv] at hz
 obtain⟨y,hy,hz⟩:=List.mem_flatMap.1 hz
 unfold vertS at hz
 obtain⟨t,ht,rfl⟩:=List.mem_map.1 hz
 obtain⟨j,hj⟩:=List.getElem?_of_mem hy
 have hyo:=arcsAt_ok hg hj
 have hvv:=validG_val hg hv
 have htl:=bits_lt (aft1_lt ha hvv hs (by omega)) ht
 dsimp only
 omega
theorem nxN_ok {g:TGraph} {a:TAutomaton} (ha:validA a=true) (hg:validG g=true) {p:Nat} (hp:p<a.Accept.length*g.Values.length):∀ k∈nxN g a p,0≤k∧k<((a.Accept.length*g.Values.length:Nat):Int):=by
 intro k hk
 have hA:=validA_len ha
 have hd:=nd_ok hA.1 hp
 rw [nxN_steps] at hk
 obtain⟨z,hz,rfl⟩:=List.mem_map.1 hk
 obtain⟨v,hv⟩:∃ v,g.Values[((p:Int) / (a.Accept.length:Int)).toNat]?=some v:=⟨_,List.getElem?_eq_getElem (by omega)⟩
 have hz:=steps_ok ha hg hv hd.2.2 z hz
 obtain⟨xn,hx⟩:=Int.eq_ofNat_of_zero_le hz.1
 obtain⟨sn,hs⟩:=Int.eq_ofNat_of_zero_le hz.2.2.1
 rw [hx,hs] at hz ⊢
 have:=idx_lt (x:=xn) (s:=sn) (n:=a.Accept.length) (V:=g.Values.length) (by omega) (by omega)
 constructor
 · exact Int.add_nonneg (Int.mul_nonneg (by omega) (by omega)) (by omega)
 exact_mod_cast this
theorem steps_len (g:TGraph) (a:TAutomaton) (x s:Int):(stepsOf g a x s).length≤(arcsAt g x).length*64:=flatMap_len (b:=64) (vertS_len a s _) _
theorem relax_more (q:Int) (l out qu:List Int):qu.length≤(relax q l (out,qu)).2.length:=by
 have:=relax_pre q l out qu []
 rw [List.append_nil] at this
 rw [this];simp
theorem relax_front (q:Int) (l out qu:List Int) {i:Nat} (hi:i<qu.length):(relax q l (out,qu)).2[i]?=qu[i]?:=by
 have:=relax_pre q l out qu []
 rw [List.append_nil] at this
 rw [this]
 dsimp only
 rw [List.getElem?_append_left hi]
theorem start_ok {g:TGraph} {a:TAutomaton} (ha:validA a=true) {x:Int} (hx:0≤x∧x<g.Values.length):0≤x*(a.Accept.length:Int)+a.Start∧x*(a.Accept.length:Int)+a.Start<((a.Accept.length*g.Values.length:Nat):Int):=by
 have hA:=validA_len ha
 obtain⟨xn,rfl⟩:=Int.eq_ofNat_of_zero_le hx.1
 obtain⟨sn,hs⟩:=Int.eq_ofNat_of_zero_le hA.2.2.2.1
 rw [hs] at hA ⊢
 have:=idx_lt (x:=xn) (s:=sn) (n:=a.Accept.length) (V:=g.Values.length) (by omega) (by omega)
 constructor
 · exact Int.add_nonneg (Int.mul_nonneg (by omega) (by omega)) (by omega)
 exact_mod_cast this
def ranksOf (g:TGraph) (a:TAutomaton) (x:Int):List Int:=spreadOf (nxN g a) (a.Accept.length*g.Values.length) [x*a.Accept.length+a.Start]
end Go.Q
namespace Go.Proofs.YtbecibmlbiebeaaGreat
open Go.RowKit Go.Q Go.D
theorem specl14Ranks (g:TGraph) (a:TAutomaton) (ha:validA a=true) (hg:validG g=true) (x:Int) (hx:0≤x∧x<g.Values.length):FnT Tryz.prog 102 [.agg (cGraph g),.agg (cAutomaton a),.one (.v (.int .i64 x))] (.a (.one (.sl 1 ((ranksOf g a x).map cInt)))):=by
 refine A7 Tryz.func102 U (by kernel_rfl) Tryz.ntmps102 U fun hlen w0=>?_
 try simp [cEdge,cGraph,cStep,cAutomaton,cProductStep] at hlen
 have hA:=validA_len ha
 have hG:=validG_len hg
 have hN:a.Accept.length*g.Values.length≤60:=Nat.mul_le_mul (by omega:a.Accept.length≤12) (by omega:g.Values.length≤5)
 have hcm:(g.Values.length:Int)*(a.Accept.length:Int)=((a.Accept.length*g.Values.length:Nat):Int):=by rw [Nat.mul_comm];simp
 have hs0:=start_ok ha hx
 have hq0:[x*(a.Accept.length:Int)+a.Start][(0:Int).toNat]?=some (x*(a.Accept.length:Int)+a.Start):=rfl
 have hr0:(List.replicate (a.Accept.length*g.Values.length) (-1:Int))[(x*(a.Accept.length:Int)+a.Start).toNat]?=some (-1):=by rw [List.getElem?_replicate,if_pos (by omega)]
 refine Af (Ad (Bm U U U (.tm U) (ts:=_) (by rfl)) U ?_);refine Ad (Bm U U U (.tm U) (ts:=_) (by rfl)) U ?_;refine Ak ?_;refine Cb (i:=6) 20001 1 U U ?_;refine Aa (Af (Bg C0 ?_));refine Aq ty33 ?_;refine Be (.t) Tryz.underlying33 ?_;refine Ag ?_;refine Aa (Af (A6 (Cu 18 U U U Tryz.underlying40 ty3 U) U ?_));refine Ag ?_;refine Aa (Ae (Af (Ak ?_)));refine Aa (AW.block (By (fun (k:Nat)=>(k≤a.Accept.length*g.Values.length)∧True) (fun (k:Nat)=>⟨_,[(9,(true,.a (.one (.t (.v (.int .i64 (k:Nat))))))),(8,(true,.a (.one (.rf 18)))),(2,_),(3,_),(4,_),(6,_),(7,_)],[(18,.row 1 ((List.replicate k (-1:Int)).map cInt))]⟩) (fun (k:Nat)=>a.Accept.length*g.Values.length-k) (0) ⟨Nat.zero_le _,Y⟩ A4 ?_))
 rintro k ⟨hk,he⟩
 refine Ae (Af (Ab ?_));refine Bg Cl ?_;refine Aq Bz ?_;refine Be (.t) Tryz.underlying40 ?_;refine Ab ?_;refine Ad (Dn U (.no U) U (.tm U) (.tm U) (fun _=>⟨by omega,by omega⟩)) U ?_;refine AWl.lt ?_;refine Aa (Ai (.tm U) (fun h25=>?_) (fun h25=>?_))
 · try simp at h25
   refine Aj (Ae (AW.block (Ar (Av [2,3,4,6,7,8,9] [18]) ?_)));refine Ac (Ab ?_);refine Bn (Ce (xs:=[.const (.int .i64 (-1))]) 29 U U U (.cons (.const U) U U .nil) Tryz.underlying40 in3 U U U U) U ?_;refine Bl (Bw U U U (.tm U) U (.tm U) (by exact .rf U) (by rfl) Tryz.underlying40 in3 U (by (simp [chunk];omega)) (by (unfold maxLen;simp [chunk];omega))) U ?_;refine Bq (Av [2,3,4,6,7,8,9,30] [18,29]) ?_;refine Ag ?_;refine Aa (Ac (Ab ?_));refine A8 ?_;refine Ag ?_;refine Aa ?_
   repeat (with_reducible refine Au ?_)
   refine Round1.next (k+1) ⟨by omega,Y⟩ (by omega) (Ap rfl ⟨rfl,rfl,rfl,rfl,rfl,rfl,rfl,Y⟩ ⟨(by refine congrArg (fun r=>some (R.row 1 r)) ?_;first|(rw [List.replicate_succ'];simp [chunk,cInt];done)|(rw [relax_at hzk];unfold rlx;rw [if_pos h87];simp [List.map_set,cInt];done)|(rw [relax_at hzk];unfold rlx;rw [if_neg (by omega)];done)|(rw [List.take_of_length_le (by omega)];done)),Y⟩)
 try simp at h25
 refine Bb (Ae (Ar (Av [2,3,4,6,7,8,9] [18]) ?_));refine Ac (Ab ?_);refine Ab ?_;refine Ad (Dn U (.no U) U (.tm U) (.tm U) (fun _=>⟨by omega,by omega⟩)) U ?_;refine Bg fl36_0 ?_;refine Aq ty3 ?_;refine Ad (C7 U (.no U) U (.tm U) (.tm U) (fun _=>⟨by omega,by omega⟩)) U ?_;refine Bn (Ce (xs:=[.tmp 36]) 37 U U U (.cons (.tm U) U U .nil) Tryz.underlying40 in3 U U U U) U ?_;refine Ag ?_;refine Aa (Ae (Ar (σ':=⟨_,[(2,_),(3,_),(4,_),(6,_),(7,_),(8,_),(9,_),(10,_)],[(18,.row 1 ((List.replicate (a.Accept.length*g.Values.length) (-1:Int)).map cInt)),(37,.row 1 ([x*(a.Accept.length:Int)+a.Start].map cInt))]⟩) (Ap U ⟨U,U,U,U,U,U,U,U,Y⟩ ⟨by rw [show k=a.Accept.length*g.Values.length by omega];rfl,U,Y⟩) ?_));refine Ac (Ab ?_);refine Ab ?_;refine Ad (Ax U (.no U) U (.tm U) U (.const U) Tryz.underlying40 ty3 (fun _=>⟨by omega,(by exact Al hq0)⟩)) U ?_
 refine Ad (Bu U (.no U) U (.tm U) U (by exact Al hq0) ty3 U U) U ?_;refine Ad (Ax U (.no U) U (.tm U) U (.tm U) Tryz.underlying40 ty3 (fun _=>⟨by omega,(by exact Al hr0)⟩)) U ?_;refine Ch (Cn U U U (.const U) U (.tm U) U (by exact Al hr0) ty3 U U U U) ?_;refine Aa (Ae (Ae (Ar (σ':=⟨_,[(2,_),(3,_),(4,_),(6,_),(7,_),(8,_),(9,_),(10,_)],[(18,.row 1 ((zeroAll [x*(a.Accept.length:Int)+a.Start] (List.replicate (a.Accept.length*g.Values.length) (-1:Int))).map cInt)),(37,_)]⟩) (Ap U ⟨U,U,U,U,U,U,U,U,Y⟩ ⟨by refine congrArg (fun r=>some (R.row 1 r)) ?_;simp [zeroAll,List.map_set,cInt],U,Y⟩) ?_)));refine Ac (Ak ?_)
 refine Aa (AW.block (C6 (fun (i:Nat) (O:List Int) (Q1:List Int)=>(i≤Q1.length∧BfsI (a.Accept.length*g.Values.length) O Q1∧Q1.length+negs O≤200)∧BfsAt (nxN g a) (ranksOf g a x) O Q1 i) (fun (i:Nat) (O:List Int) (Q1:List Int)=>⟨_,[(11,(true,.a (.one (.t (.v (.int .i64 (i:Nat))))))),(8,(true,.a (.one (.rf 18)))),(10,(true,.a (.one (.rf 37)))),(3,_),(4,_),(6,_),(7,_)],[(18,.row 1 (O.map cInt)),(37,.row 1 (Q1.map cInt))]⟩) (fun (i:Nat) (O:List Int) (Q1:List Int)=>negs O+(Q1.length-i)) (0) (zeroAll [x*a.Accept.length+a.Start] (List.replicate (a.Accept.length*g.Values.length) (-1))) ([x*a.Accept.length+a.Start]) ⟨⟨Nat.zero_le _,bfs_start (by simpa using hs0),by have:=negs_le (zeroAll [x*a.Accept.length+a.Start] (List.replicate (a.Accept.length*g.Values.length) (-1)));rw [zeroAll_len] at this;simp at this ⊢;omega⟩,BfsAt.start⟩ A4 ?_))
 rintro i O Q1 ⟨hk1,he1⟩
 refine Ae (Af (Ab ?_));refine Ab ?_;refine Be (.rf U) Tryz.underlying40 ?_;refine AWl.lt ?_;refine Aa (Ai (.tm U) (fun h46=>?_) (fun h46=>?_))
 · try simp at h46
   obtain⟨q,hq⟩:∃ ξ,Q1[i]?=some ξ:=⟨_,List.getElem?_eq_getElem (by omega)⟩
   have hqr:=hk1.2.1.mem q (List.mem_of_getElem? hq)
   obtain⟨p,rfl⟩:=Int.eq_ofNat_of_zero_le hqr.1
   have hpl:p<a.Accept.length*g.Values.length:=by omega
   have hdm:=nd_ok (by omega) hpl
   obtain⟨v,hv⟩:∃ v,g.Values[((p:Int) / (a.Accept.length:Int)).toNat]?=some v:=⟨_,List.getElem?_eq_getElem (by omega)⟩
   have hnx:=nxN_steps g a p
   have hS:(stepsOf g a ((p:Int) / (a.Accept.length:Int)) ((p:Int)%(a.Accept.length:Int))).length=(nxN g a p).length:=by rw [hnx,List.length_map]
   have hnk:=nxN_ok ha hg hpl
   have hal:(arcsAt g ((p:Int) / (a.Accept.length:Int))).length≤24:=Nat.le_trans (arcsL_len _ _) (by omega)
   have hSl:=steps_len g a ((p:Int) / (a.Accept.length:Int)) ((p:Int)%(a.Accept.length:Int))
   have hfull:=BfsI.relax hqr (l:=nxN g a p) (st:=(O,Q1)) hk1.2.1 hnk
   dsimp only at hfull
   have hlq:=relax_more (p:Int) (nxN g a p) O Q1
   refine Aj (Ae (AW.block (Ae (B8 16 (nthB [[],[],[],[],[2,3],[2,3,4],[],[2,3,4,5,6],[],[],[8,9],[8,9,10],[],[8,9,10,11,12],[0,1,2,3,4,5,6,7,8,9,10,11,12,13],[0,1,2,3,4,5,6,7,8,9,10,11,12,13,14]]) (by kernel_rfl) (by kernel_rfl) (by kernel_rfl) ?_))));refine Bj Bx ?_;refine Bj Bt ?_;refine Aw ?_;refine Aw ?_;refine DrawC.s (fun _ hs=>(Ax U (.no U) (Ah hs U) (hs.tm U) (hs.res _ _ U) (hs.tm U) Tryz.underlying40 ty3 (fun _=>⟨by omega,(by exact Al hq)⟩))) ?_;refine DrawC.s (fun _ hs=>(by exact Bu U (.no U) (Ah hs U) (hs.tm U) (hs.res _ _ U) (by exact Al hq) ty3 U U)) ?_;refine Aw ?_;refine DrawC.s (fun _ hs=>R_quo U (.no U) (Ah hs U) (hs.tm U) (hs.tm U) (fun _=>by omega)) ?_;refine Aw ?_;refine Aw ?_;refine DrawC.s (fun _ hs=>(by exact Ax U (.no U) (Ah hs U) (hs.tm U) (hs.res _ _ U) (hs.tm U) Tryz.underlying40 ty3 (fun _=>⟨by omega,(by exact Al hq)⟩))) ?_
   refine DrawC.s (fun _ hs=>(by exact Bu U (.no U) (Ah hs U) (hs.tm U) (hs.res _ _ U) (by exact Al hq) ty3 U U)) ?_;refine Aw ?_;refine DrawC.s (fun _ hs=>R_rem U (.no U) (Ah hs U) (hs.tm U) (hs.tm U) (fun _=>by omega)) ?_;refine DrawC.s (fun _ hs=>Bc (FnT.fr (specl14Steps g a ha hg ((p:Int) / (a.Accept.length:Int)) ((p:Int)%(a.Accept.length:Int)) v (by omega) hv (by omega))) U (.no U) (Ah hs U) (.cons (hs.tm U) (readA_sup hs U) (.cons (hs.tm U) (readA_sup hs U) (.cons (hs.tm U) (readA_sup hs U) (.cons (hs.tm U) (readA_sup hs U) .nil))))) ?_;refine DrawC.s (fun _ hs=>Da U (.no U) (Ah hs U) (hs.tm U)) ?_;refine DrawC.fin U U ?_;refine Aa (Ae (Ar (Av [3,4,6,7,8,10,11,12] [18,37]) ?_));refine Ac (Ak ?_)
   refine Aa (AW.block (By (fun (j:Nat)=>(j≤(nxN g a p).length)∧True) (fun (j:Nat)=>⟨_,[(13,(true,.a (.one (.t (.v (.int .i64 (j:Nat))))))),(8,(true,.a (.one (.rf 18)))),(10,(true,.a (.one (.rf 37)))),(3,_),(4,_),(6,_),(7,_),(11,_),(12,_)],[(18,.row 1 ((relax (p:Int) ((nxN g a p).take j) (O,Q1)).1.map cInt)),(37,.row 1 ((relax (p:Int) ((nxN g a p).take j) (O,Q1)).2.map cInt))]⟩) (fun (j:Nat)=>(nxN g a p).length-j) (0) ⟨Nat.zero_le _,Y⟩ A4 ?_))
   rintro j ⟨hk2,he2⟩
   refine Ae (Af (Ab ?_));refine Ab ?_;refine Be (.t) Tryz.underlying72 ?_;refine AWl.lt ?_;refine Aa (Ai (.tm U) (fun h67=>?_) (fun h67=>?_))
   · try simp at h67
     obtain⟨z,hz⟩:∃ ξ,(stepsOf g a ((p:Int) / (a.Accept.length:Int)) ((p:Int)%(a.Accept.length:Int)))[j]?=some ξ:=⟨_,List.getElem?_eq_getElem (by omega)⟩
     have hzk:(nxN g a p)[j]?=some (z.Node*(a.Accept.length:Int)+z.State):=by rw [hnx,List.getElem?_map,hz];rfl
     have hzo:=steps_ok ha hg hv (by omega) z (List.mem_of_getElem? hz)
     have hkk:=hnk _ (List.mem_of_getElem? hzk)
     have hzm:0≤z.Node*(a.Accept.length:Int):=Int.mul_nonneg hzo.1 (by omega)
     have hst:=BfsI.relax hqr (l:=(nxN g a p).take j) (st:=(O,Q1)) hk1.2.1 (fun k hk=>hnk k (List.mem_of_mem_take hk))
     dsimp only at hst
     have hgk:=atI_get (out:=(relax (p:Int) ((nxN g a p).take j) (O,Q1)).1) (k:=z.Node*(a.Accept.length:Int)+z.State) (by rw [hst.1.len];omega)
     have hgp:=atI_get (out:=(relax (p:Int) ((nxN g a p).take j) (O,Q1)).1) (k:=(p:Int)) (by rw [hst.1.len];omega)
     have hvp:=hst.1.val _ (List.mem_of_getElem? hgp)
     have hqi:(relax (p:Int) ((nxN g a p).take j) (O,Q1)).2[i]?=some (p:Int):=by rw [relax_front _ _ _ _ (by omega)];exact hq
     refine Aj (Ae (AW.block (Ae (B8 14 (nthB [[],[],[0,1],[0,1,2],[0,1,2,3],[],[0,1,2,3,4,5],[],[],[7,8],[7,8,9],[7,8,9,10],[0,1,2,3,4,5,6,7,8,9,10,11],[0,1,2,3,4,5,6,7,8,9,10,11,12]]) (by kernel_rfl) (by kernel_rfl) (by kernel_rfl) ?_))));refine Aw ?_;refine Aw ?_;refine DrawC.s (fun _ hs=>(As U (.no U) (Ah hs U) (hs.tm U) (hs.tm U) Tryz.underlying72 ty77 (fun _=>⟨by omega,(by exact Al hz)⟩))) ?_;refine B9 fl77_1 ?_;refine Bj ty3 ?_;refine Aw ?_;refine DrawC.s (fun _ hs=>Dn U (.no U) (Ah hs U) (hs.tm U) (hs.tm U) (fun _=>by omega)) ?_;refine Aw ?_;refine Aw ?_;refine DrawC.s (fun _ hs=>(by exact As U (.no U) (Ah hs U) (hs.tm U) (hs.tm U) Tryz.underlying72 ty77 (fun _=>⟨by omega,(by exact Al hz)⟩))) ?_;refine B9 fl77_2 ?_;refine Bj ty3 ?_;refine DrawC.s (fun _ hs=>C7 U (.no U) (Ah hs U) (hs.tm U) (hs.tm U) (fun _=>by omega)) ?_
     refine DrawC.s (fun _ hs=>Da U (.no U) (Ah hs U) (hs.tm U)) ?_;refine DrawC.fin U U ?_;refine Aa (Ae (Ar (Av [3,4,6,7,8,10,11,12,13,14] [18,37]) ?_));refine Ac (Ab ?_);refine Ab ?_;refine Ad (by exact Ax U (.no U) U (.tm U) U (.tm U) Tryz.underlying40 ty3 (fun _=>⟨by omega,(by exact Al hgk)⟩)) U ?_;refine Ad (Bu U (.no U) U (.tm U) U (by exact Al hgk) ty3 U U) U ?_;refine Du ?_;refine Aa (Ai (.tm U) (fun h87=>?_) (fun h87=>?_))
     · try simp at h87
       refine Af (Ab ?_);refine Ab ?_;refine Ab ?_;refine Ab ?_;refine Ab ?_;refine Ad (Ax U (.no U) U (.tm U) U (.tm U) Tryz.underlying40 ty3 (fun _=>⟨by omega,(by exact Al hqi)⟩)) U ?_;refine Ad (Bu U (.no U) U (.tm U) U (by exact Al hqi) ty3 U U) U ?_;refine Ad (Ax U (.no U) U (.tm U) U (.tm U) Tryz.underlying40 ty3 (fun _=>⟨by omega,(by exact Al hgp)⟩)) U ?_;refine Ad (Bu U (.no U) U (.tm U) U (by exact Al hgp) ty3 U U) U ?_;refine Ad (C7 U (.no U) U (.tm U) (.const U) (fun _=>⟨by omega,by omega⟩)) U ?_;refine Ad (Ax U (.no U) U (.tm U) U (.tm U) Tryz.underlying40 ty3 (fun _=>⟨by omega,(by exact Al hgk)⟩)) U ?_;refine Ch (Cn U U U (.tm U) U (.tm U) U (by exact Al hgk) ty3 U U U U) ?_;refine Aa (Ar (Av [3,4,6,7,8,10,11,12,13,14] [18,37]) ?_);refine Ac (Ab ?_);refine Ab ?_;refine Bn (Ce (xs:=[.tmp 100]) 101 U U U (.cons (.tm U) U U .nil) Tryz.underlying40 in3 U U U U) U ?_
       refine Bl (Bw U U U (.tm U) U (.tm U) (by exact .rf U) (by rfl) Tryz.underlying40 in3 U (by (simp [chunk];omega)) (by (unfold maxLen;simp [chunk];omega))) U ?_;refine Bq (Av [3,4,6,7,8,10,11,12,13,14,102] [18,37,101]) ?_;refine Ag ?_;refine Aa (Ac (Ab ?_));refine A8 ?_;refine Ag ?_;refine Aa ?_
       repeat (with_reducible refine Au ?_)
       refine Round1.next (j+1) ⟨by omega,Y⟩ (by omega) (Ap rfl ⟨rfl,rfl,rfl,rfl,rfl,rfl,rfl,rfl,rfl,Y⟩ ⟨(by refine congrArg (fun r=>some (R.row 1 r)) ?_;first|(rw [List.replicate_succ'];simp [chunk,cInt];done)|(rw [relax_at hzk];unfold rlx;rw [if_pos h87];simp [List.map_set,cInt];done)|(rw [relax_at hzk];unfold rlx;rw [if_neg (by omega)];done)|(rw [List.take_of_length_le (by omega)];done)),(by refine congrArg (fun r=>some (R.row 1 r)) ?_;first|rfl|(rw [relax_at hzk];unfold rlx;rw [if_pos h87];simp [cInt,chunk];done)|(rw [relax_at hzk];unfold rlx;rw [if_neg (by omega)];done)|(rw [List.take_of_length_le (by omega)];done)),Y⟩)
     try simp at h87
     refine Aj (Ac (Ab ?_));refine A8 ?_;refine Ag ?_;refine Aa ?_
     repeat (with_reducible refine Au ?_)
     refine Round1.next (j+1) ⟨by omega,Y⟩ (by omega) (Ap rfl ⟨rfl,rfl,rfl,rfl,rfl,rfl,rfl,rfl,rfl,Y⟩ ⟨(by refine congrArg (fun r=>some (R.row 1 r)) ?_;first|(rw [List.replicate_succ'];simp [chunk,cInt];done)|(rw [relax_at hzk];unfold rlx;rw [if_pos h87];simp [List.map_set,cInt];done)|(rw [relax_at hzk];unfold rlx;rw [if_neg (by omega)];done)|(rw [List.take_of_length_le (by omega)];done)),(by refine congrArg (fun r=>some (R.row 1 r)) ?_;first|rfl|(rw [relax_at hzk];unfold rlx;rw [if_pos h87];simp [cInt,chunk];done)|(rw [relax_at hzk];unfold rlx;rw [if_neg (by omega)];done)|(rw [List.take_of_length_le (by omega)];done)),Y⟩)
   try simp at h67
   refine Bb (Ac (Ab ?_));refine A8 ?_;refine Ag ?_;refine Aa ?_
   repeat (with_reducible refine Au ?_)
   refine Round3.next (i+1) ((relax (p:Int) (nxN g a p) (O,Q1)).1) ((relax (p:Int) (nxN g a p) (O,Q1)).2) ⟨⟨by omega,hfull.1,by omega⟩,BfsAt.next he1 hk1.2.1 hq hnk⟩ (by omega) (Ap rfl ⟨rfl,rfl,rfl,rfl,rfl,rfl,rfl,Y⟩ ⟨(by refine congrArg (fun r=>some (R.row 1 r)) ?_;first|(rw [List.replicate_succ'];simp [chunk,cInt];done)|(rw [relax_at hzk];unfold rlx;rw [if_pos h87];simp [List.map_set,cInt];done)|(rw [relax_at hzk];unfold rlx;rw [if_neg (by omega)];done)|(rw [List.take_of_length_le (by omega)];done)),(by refine congrArg (fun r=>some (R.row 1 r)) ?_;first|rfl|(rw [relax_at hzk];unfold rlx;rw [if_pos h87];simp [cInt,chunk];done)|(rw [relax_at hzk];unfold rlx;rw [if_neg (by omega)];done)|(rw [List.take_of_length_le (by omega)];done)),Y⟩)
 try simp at h46
 refine Bb (Af (Ab ?_));refine Ag ?_;refine Aa (Am (Res.one U (.tmp U .nil) U ?_))
 rw [BfsAt.done he1 (by omega)];rfl
end Go.Proofs.YtbecibmlbiebeaaGreat
