import Derived.Test.YtbecibmlbiebeaaGreatB21xb
import Derived.Test.YtbecibmlbiebeaaGreatB05xb
import Derived.Test.YtbecibmlbiebeaaGreatB14xb
set_option linter.unusedVariables false
set_option linter.unusedSimpArgs false
set_option maxRecDepth 100000
set_option maxHeartbeats 1000000
set_option maxRecDepth 100000
namespace Go.Q
open Go.D
theorem bfs_congr {nx nx':Nat→List Int} {N:Nat} (hn:∀ p,p<N→∀ k∈nx p,0≤k∧k<N) (he:∀ p,p<N→nx p=nx' p):∀ (f:Nat) (out qu:List Int),BfsI N out qu→bfs nx f out qu=bfs nx' f out qu
 | 0,_,_,_=>rfl
 | f+1,_,[],_=>rfl
 | f+1,out,q::r,h=>by
  have hq:=h.mem q (by simp)
  have hq':q.toNat<N:=by omega
  rw [bfs,bfs,←he _ hq']
  exact bfs_congr hn he f _ _ (BfsI.relax (N:=N) hq (l:=nx q.toNat) (st:=(out,r)) h.tail (hn _ hq')).1
theorem spread_congr {nx nx':Nat→List Int} {N:Nat} (hn:∀ p,p<N→∀ k∈nx p,0≤k∧k<N) (he:∀ p,p<N→nx p=nx' p) {l:List Int} (hl:∀ q∈l,0≤q∧q<(N:Int)):spreadOf nx N l=spreadOf nx' N l:=bfs_congr hn he _ _ _ (bfs_start hl)
theorem bfs_ok {nx:Nat→List Int} {N:Nat} (hn:∀ p,p<N→∀ k∈nx p,0≤k∧k<N):∀ (f:Nat) (out qu:List Int),BfsI N out qu→BfsI N (bfs nx f out qu) []
 | 0,out,qu,h=>⟨h.len,by simp,h.val⟩
 | f+1,out,[],h=>h
 | f+1,out,q::r,h=>by
  have hq:=h.mem q (by simp)
  rw [bfs]
  exact bfs_ok hn f _ _ (BfsI.relax (N:=N) hq (l:=nx q.toNat) (st:=(out,r)) h.tail (hn q.toNat (by omega))).1
theorem spread_ok {nx:Nat→List Int} {N:Nat} (hn:∀ p,p<N→∀ k∈nx p,0≤k∧k<N) {l:List Int} (hl:∀ q∈l,0≤q∧q<(N:Int)):(spreadOf nx N l).length=N∧∀ v∈spreadOf nx N l,-1≤v∧v≤N:=by
 have h:=bfs_ok hn (2*N+l.length+1) _ _ (bfs_start hl)
 exact⟨h.len,fun v hv=>by have:=h.val v hv;omega⟩
def sup1 (R:List Int) (i:Nat) (S:List Int) (k:Int):List Int:=if 0≤atI R i∧atI R k=atI R i+1 then S.set k.toNat (atI S k+1) else S
def supRow (R:List Int) (i:Nat) (S:List Int) (l:List Int):List Int:=l.foldl (sup1 R i) S
def supAll (nx:Nat→List Int) (R:List Int) (S:List Int):Nat→List Int
 | 0=>S
 | n+1=>supRow R n (supAll nx R S n) (nx n)
structure SupI (N:Nat) (b:Int) (S:List Int):Prop where
 len:S.length=N
 val:∀ v∈S,0≤v∧v≤b
theorem SupI.le {N:Nat} {b b':Int} {S:List Int} (h:SupI N b S) (hb:b≤b'):SupI N b' S:=⟨h.len,fun v hv=>by have:=h.val v hv;omega⟩
theorem SupI.at {N:Nat} {b:Int} {S:List Int} (h:SupI N b S) {k:Int} (hk:k.toNat<N):0≤atI S k∧atI S k≤b:=h.val _ (List.mem_of_getElem? (atI_get (by rw [h.len];exact hk)))
theorem SupI.one {N:Nat} {b:Int} {R S:List Int} {i:Nat} {k:Int} (h:SupI N b S) (hk:0≤k∧k<N):SupI N (b+1) (sup1 R i S k):=by
 unfold sup1
 split
 · refine⟨by simpa using h.len,fun v hv=>?_⟩
   rcases List.mem_or_eq_of_mem_set hv with hv|rfl
   · have:=h.val v hv;omega
   have:=h.at (k:=k) (by omega);omega
 exact h.le (by omega)
theorem SupI.row {N:Nat} {R:List Int} {i:Nat}:∀ {l:List Int} {b:Int} {S:List Int},SupI N b S→(∀ k∈l,0≤k∧k<N)→SupI N (b+l.length) (supRow R i S l)
 | [],b,S,h,_=>by simpa [supRow] using h
 | k::l,b,S,h,hl=>by
  have e:supRow R i S (k::l)=supRow R i (sup1 R i S k) l:=rfl
  rw [e]
  exact (SupI.row (h.one (hl k (by simp))) fun k hk=>hl k (by simp [hk])).le (by simp;omega)
theorem SupI.all {nx:Nat→List Int} {N c:Nat} {R:List Int} (hn:∀ p,p<N→∀ k∈nx p,0≤k∧k<N) (hc:∀ p,p<N→(nx p).length≤c):∀ {n:Nat},n≤N→SupI N ((n*c:Nat):Int) (supAll nx R (List.replicate N 0) n)
 | 0,_=>⟨by simp [supAll],fun v hv=>by rw [(List.mem_replicate.1 hv).2];simp⟩
 | n+1,h=>by
  rw [supAll,Nat.succ_mul]
  refine (SupI.row (SupI.all hn hc (n:=n) (by omega)) (hn n (by omega))).le ?_
  have:=hc n (by omega)
  omega
theorem nextsV_len (g:TGraph) (a:TAutomaton):(nextsV g a).length=a.Accept.length*g.Values.length:=by unfold nextsV;simp
theorem nextsV_at {g:TGraph} {a:TAutomaton} {p:Nat} (h:p<a.Accept.length*g.Values.length):nxL (nextsV g a) p=nxN g a p:=nxL_at (by unfold nextsV;rw [List.getElem?_map,List.getElem?_range h];rfl)
theorem nxN_len {g:TGraph} (a:TAutomaton) (hg:validG g=true) (p:Nat):(nxN g a p).length≤1536:=by
 have hG:=validG_len hg
 have h1:∀ x,(arcsAt g x).length≤24:=fun x=>Nat.le_trans (arcsL_len _ _) (by omega)
 rw [nxN_steps,List.length_map]
 exact Nat.le_trans (steps_len g a _ _) (by have:=h1 ((p:Int) / (a.Accept.length:Int));omega)
theorem prod_le {a:TAutomaton} {g:TGraph} (ha:validA a=true) (hg:validG g=true):1≤a.Accept.length*g.Values.length∧a.Accept.length*g.Values.length≤60:=by
 have hA:=validA_len ha
 have hG:=validG_len hg
 exact⟨Nat.mul_le_mul (show 1≤a.Accept.length by omega) (show 1≤g.Values.length by omega),Nat.mul_le_mul (by omega:a.Accept.length≤12) (by omega:g.Values.length≤5)⟩
theorem ranks_ok {g:TGraph} {a:TAutomaton} (ha:validA a=true) (hg:validG g=true) {x:Int} (hx:0≤x∧x<g.Values.length):(ranksOf g a x).length=a.Accept.length*g.Values.length∧∀ v∈ranksOf g a x,-1≤v∧v≤60:=by
 have hs0:=start_ok ha hx
 have h:=spread_ok (nx:=nxN g a) (N:=a.Accept.length*g.Values.length) (fun p hp=>nxN_ok ha hg hp) (l:=[x*a.Accept.length+a.Start]) (by simpa using hs0)
 have hN:=prod_le ha hg
 exact⟨h.1,fun v hv=>by have:=h.2 v hv;omega⟩
theorem ranks_nexts {g:TGraph} {a:TAutomaton} (ha:validA a=true) (hg:validG g=true) {x:Int} (hx:0≤x∧x<g.Values.length):spreadOf (nxL (nextsV g a)) (nextsV g a).length [x*a.Accept.length+a.Start]=ranksOf g a x:=by
 have hs0:=start_ok ha hx
 rw [nextsV_len]
 exact spread_congr (fun p hp k hk=>nxN_ok ha hg hp k (by rwa [nextsV_at hp] at hk)) (fun p hp=>nextsV_at hp) (by simpa using hs0)
theorem good_parts {g:TGraph} {a:TAutomaton} {x:Int} (h:goodB g a x 0=true):validG g=true∧validA a=true∧0≤x∧x<g.Values.length:=by
 unfold goodB inB at h
 simp only [Bool.and_eq_true,decide_eq_true_eq] at h
 exact⟨h.1.1.1,h.1.1.2,h.1.2.1,by omega⟩
theorem both_good (g:TGraph) (a:TAutomaton) (x:Int):bothB g a [x]=goodB g a x 0:=by
 unfold bothB goodB
 cases hv:validA a with
 | false=>simp
 | true=>
  have hA:=validA_len hv
  have e:inB 0 0 ((a.Accept.length:Int)-1)=true:=by unfold inB;simp;omega
  rw [e]
  simp only [List.all_cons,List.all_nil,Bool.and_true]
  cases inB x 0 ((g.Values.length:Int)-1)<;>cases validG g<;>rfl
end Go.Q
namespace Go.Proofs.YtbecibmlbiebeaaGreat
open Go.RowKit Go.Q Go.D
theorem implDistancesFrom (g:TGraph) (a:TAutomaton) (ha:validA a=true) (hg:validG g=true) (x:Int) (hx:0≤x∧x<g.Values.length):FnT Tryz.prog 177 [.agg (cGraph g),.agg (cAutomaton a),.one (.v (.int .i64 x))] (.a (.one (.sl 1 ((ranksOf g a x).map cInt)))):=by
 refine A7 Tryz.func177 U (by kernel_rfl) Tryz.ntmps177 U fun hlen w0=>?_
 try simp [cPair,cToken,cExpr,cEdge,cGraph,cStep,cWalk,cChange,cBatch,cHistory,cPositions,cAutomaton,cProductStep,cPathAtom,cConjunction,cView,cDelta,cRegistered,cRegistry] at hlen
 have hA:=validA_len ha
 have hG:=validG_len hg
 have hN:=prod_le ha hg
 have hs0:=start_ok ha hx
 have hb:bothB g a [x]=true:=by rw [both_good];unfold goodB inB;simp [ha,hg];omega
 have hxn:0≤x*(a.Accept.length:Int)∧x*(a.Accept.length:Int)≤60:=⟨Int.mul_nonneg hx.1 (by omega),Int.le_trans (Int.mul_le_mul (show x≤5 by omega) (show (a.Accept.length:Int)≤12 by omega) (by omega) (by omega)) (by omega)⟩
 have hsp:=implspread (nextsV g a) [x*(a.Accept.length:Int)+a.Start] (by rw [nextsV_len];omega) (fun p hp k hk=>by rw [nextsV_len] at hp ⊢;rw [nextsV_at hp] at hk;exact nxN_ok ha hg hp k hk) (fun p hp=>by rw [nextsV_len] at hp;rw [nextsV_at hp];have:=nxN_len a hg p;omega) (by rw [nextsV_len];simpa using hs0) (by simp)
 rw [ranks_nexts ha hg hx] at hsp
 refine Af (Ad (Bm U U U (.tm U) (ts:=_) (by rfl)) U ?_);refine Ad (Bm U U U (.tm U) (ts:=_) (by rfl)) U ?_;refine Ak ?_;refine Cb (i:=6) 20001 1 U U ?_;refine Aa (Ae (Af (Aq Bx ?_)));refine Aq Bt ?_;refine Ab ?_;refine Ad (B7 (xs:=[.tmp 9]) (rows:=[cInt x]) U U U (.cons (.tm U) U U .nil) Tryz.underlying40 in3 U U (U)) U ?_;refine Bv (implbothOk g a [x]) ?_;refine C1 ?_;refine Aa (Ai (.tm U) (fun h12=>?_) (fun h12=>?_))
 · exact absurd h12 (by simp [hb])
 try simp at h12
 refine Aj (Ae (Ar (Av [0,1,2,3,4,6] [20001]) ?_));refine B8 14 (nthB [[],[],[0,1],[],[],[4],[4,5],[3,4,5,6],[],[8],[3,4,5,6,7,8,9],[3,4,5,6,7,8,9,10],[0,1,2,3,4,5,6,7,8,9,10,11],[0,1,2,3,4,5,6,7,8,9,10,11,12]]) (by kernel_rfl) (by kernel_rfl) (by kernel_rfl) ?_;refine Bj Bx ?_;refine Bj Bt ?_;refine DrawC.s (fun _ hs=>Bc (FnT.fr (implnextVertices g a ha hg)) U (.no U) (Ah hs U) (.cons (hs.tm U) (readA_sup hs U) (.cons (hs.tm U) (readA_sup hs U) .nil))) ?_;refine Aw ?_;refine B9 C0 ?_;refine Bj ty33 ?_;refine DrawC.s (fun _ hs=>(Dp U (.no U) (Ah hs U) (hs.tm U) (by exact .t) Tryz.underlying33)) ?_;refine DrawC.s (fun _ hs=>Dn U (.no U) (Ah hs U) (hs.tm U) (hs.tm U) (fun _=>by omega)) ?_;refine B9 fl36_0 ?_;refine Bj ty3 ?_;refine DrawC.s (fun _ hs=>C7 U (.no U) (Ah hs U) (hs.tm U) (hs.tm U) (fun _=>by omega)) ?_
 refine DrawC.s (fun _ hs=>B7 (xs:=[.tmp 23]) (rows:=[cInt (x*(a.Accept.length:Int)+a.Start)]) U U (Ah hs U) (.cons (hs.tm U) U U .nil) Tryz.underlying40 in3 U U (U)) ?_;refine Dv U U U (Loc.ofs U fun σ' hs hf=>Cq 2500 (hsp) U U (Ah hs U) (.cons (hs.tm U) (readA_sup hs U) (.cons (hs.tm U) (readA_sup hs U) .nil)) U (all_fresh hf)) ?_;refine DrawC.s (fun _ hs=>Da U (.no U) (Ah hs U) (hs.tm U)) ?_;refine DrawC.fin U U ?_;refine Aa (Am (Res.one U (.tmp U .nil) U ?_))
 rfl
end Go.Proofs.YtbecibmlbiebeaaGreat
namespace Go.Q
open Go.D
def wB (l:List Int):Nat:=l.foldl (fun m k=>m|||2^k.toNat) 0
theorem foldl_or_test (j:Nat):∀ (l:List Int) (m:Nat),(l.foldl (fun m k=>m|||2^k.toNat) m).testBit j=(m.testBit j||l.any fun k=>decide (k.toNat=j))
 | [],m=>by simp
 | k::l,m=>by
  rw [List.foldl_cons,foldl_or_test j l,Nat.testBit_or,Nat.testBit_two_pow,List.any_cons,Bool.or_assoc]
theorem wB_test {l:List Int} (hl:∀ k∈l,0≤k) (j:Nat):(wB l).testBit j=true↔(j:Int)∈l:=by
 unfold wB
 rw [foldl_or_test,Nat.zero_testBit,Bool.false_or,List.any_eq_true]
 constructor
 · rintro⟨k,hk,h⟩
   have:=hl k hk
   have e:=of_decide_eq_true h
   rwa [show (j:Int)=k by omega]
 intro h
 exact⟨_,h,by simp⟩
theorem wB_snoc (l:List Int) (x:Int):wB (l++[x])=wB l|||2^x.toNat:=by unfold wB;rw [List.foldl_append];rfl
def setI (m b:Nat):List Int:=((List.range b).filter m.testBit).map fun (q:Nat)=>(q:Int)
theorem setI_succ (m b:Nat):setI m (b+1)=setI m b++if m.testBit b then [(b:Int)] else []:=by
 unfold setI
 rw [range_filter_succ,List.map_append]
 cases m.testBit b<;>rfl
theorem setI_len (m b:Nat):(setI m b).length≤b:=by
 unfold setI
 rw [List.length_map]
 exact Nat.le_trans (List.length_filter_le _ _) (by simp)
end Go.Q
namespace Go.Proofs.YtbecibmlbiebeaaGreat
open Go.RowKit Go.Q Go.D
theorem specl4Set (m:Nat) (hm:m<9223372036854775808):FnT Tryz.prog 166 [.one (.v (.int .i64 (m:Int)))] (.a (.one (.sl 1 ((setI m 30).map cInt)))):=by
 refine A7 Tryz.func166 U (by kernel_rfl) Tryz.ntmps166 U fun hlen w0=>?_
 try simp [cPair,cToken,cExpr,cEdge,cGraph,cStep,cWalk,cChange,cBatch,cHistory,cPositions,cAutomaton,cProductStep,cPathAtom,cConjunction,cView,cDelta,cRegistered,cRegistry] at hlen
 refine Af (Ak ?_);refine Cb (i:=2) 20001 1 U U ?_;refine Aa (Af (A6 (Cu 5 U U U Tryz.underlying40 ty3 U) U ?_));refine Ag ?_;refine Aa (Ae (Af (Ak ?_)));refine Aa (AW.block ?_);refine By (fun (i:Nat)=>(i≤30)∧True) (fun (i:Nat)=>⟨_,[(4,(true,.a (.one (.t (.v (.int .i64 (i:Nat))))))),(3,(true,.a (.one (.rf 5)))),(0,_),(2,_)],[(5,.row 1 ((setI m i).map cInt))]⟩) (fun (i:Nat)=>30-i) (0) ⟨by omega,Y⟩ A4 ?_
 rintro i ⟨hk,he⟩
 refine Ae (Af (Ab ?_));refine Du ?_;refine Aa (Ai (.tm U) (fun h7=>?_) (fun h7=>?_))
 · try simp only [bit_at,bit_zero,shr_zero] at h7
   try simp only [Int.toNat_natCast] at h7
   try simp at h7
   have hi30:i<30:=by (first|omega|(simp at h7;omega))
   have hsl:=setI_len m i
   refine Aj (Ae (AW.block (Af (Ab ?_))));refine Ab ?_;refine Ad (R_shr U (.no U) U (.tm U) (.tm U) (fun _=>by omega)) U ?_;refine Ad (R_and1 U (.no U) U (.tm U) (.const U) (fun _=>by first|exact Int.natCast_nonneg _|omega)) U ?_;refine Bs ?_;refine Aa (Ai (.tm U) (fun h14=>?_) (fun h14=>?_))
   · try simp only [bit_at,bit_zero,shr_zero] at h14
     try simp only [Int.toNat_natCast] at h14
     try simp at h14
     refine Ar (Av [0,2,3,4] [5]) ?_;refine Ac (Ab ?_);refine Ab ?_;refine Bn (Ce (xs:=[.tmp 16]) 17 U U U (.cons (.tm U) U U .nil) Tryz.underlying40 in3 U U U U) U ?_;refine Bl (Bw U U U (.tm U) U (.tm U) (by exact .rf U) (by rfl) Tryz.underlying40 in3 U (by (simp [chunk];omega)) (by (unfold maxLen;simp [chunk];omega))) U ?_;refine Bq (Av [0,2,3,4,18] [5,17]) ?_;refine Ag ?_;refine Aa (Ac (Ab ?_));refine A8 ?_;refine Ag ?_;refine Aa ?_
     repeat (with_reducible refine Au ?_)
     refine Round1.next (i+1) ⟨by omega,Y⟩ (by omega) (Ap rfl ⟨rfl,rfl,rfl,rfl,Y⟩ ⟨(by refine congrArg (fun r=>some (R.row 1 r)) ?_;first|(rw [setI_succ,if_pos (by simpa using h14)];simp [chunk,cInt];done)|(rw [setI_succ,if_neg (by simpa using h14)];simp;done)),Y⟩)
   try simp only [bit_at,bit_zero,shr_zero] at h14
   try simp only [Int.toNat_natCast] at h14
   try simp at h14
   refine Aj (Ar (Av [0,2,3,4] [5]) ?_);refine Ac (Ab ?_);refine A8 ?_;refine Ag ?_;refine Aa ?_
   repeat (with_reducible refine Au ?_)
   refine Round1.next (i+1) ⟨by omega,Y⟩ (by omega) (Ap rfl ⟨rfl,rfl,rfl,rfl,Y⟩ ⟨(by refine congrArg (fun r=>some (R.row 1 r)) ?_;first|(rw [setI_succ,if_pos (by simpa using h14)];simp [chunk,cInt];done)|(rw [setI_succ,if_neg (by simpa using h14)];simp;done)),Y⟩)
 try simp only [bit_at,bit_zero,shr_zero] at h7
 try simp only [Int.toNat_natCast] at h7
 try simp at h7
 refine Bb (Af (Ab ?_));refine Ag ?_;refine Aa (Am (Res.one U (.tmp U .nil) U ?_))
 rw [show i=30 by first|omega|(simp at h7;omega)];rfl
end Go.Proofs.YtbecibmlbiebeaaGreat
set_option maxHeartbeats 1000000
set_option maxRecDepth 100000
namespace Go.Q
open Go.D
inductive Rch (nx:Nat→List Int) (S:Int→Prop):Int→Prop where
 | base {q:Int}:S q→Rch nx S q
 | step {q k:Int}:Rch nx S q→k∈nx q.toNat→Rch nx S k
theorem Rch.mono {nx:Nat→List Int} {S S':Int→Prop} (h:∀ q,S q→Rch nx S' q) {k:Int} (hr:Rch nx S k):Rch nx S' k:=by
 induction hr with
 | base hq=>exact h _ hq
 | step _ hk ih=>exact .step ih hk
def visI (out:List Int) (j:Int):Prop:=0≤j∧j<out.length∧0≤atI out j
theorem atI_set {out:List Int} {k j:Int} {v:Int} (hk:0≤k∧k<out.length) (hj:0≤j):atI (out.set k.toNat v) j=if j=k then v else atI out j:=by
 unfold atI
 rw [List.getElem?_set]
 by_cases e:j=k
 · subst e;rw [if_pos rfl,if_pos (show j.toNat<out.length by omega),if_pos rfl];rfl
 rw [if_neg (by omega),if_neg e]
theorem set_vis {k j v:Int} {out:List Int} (hv:0≤v) (hk:0≤k∧k<out.length):visI (out.set k.toNat v) j↔visI out j∨j=k:=by
 unfold visI
 rw [List.length_set]
 constructor
 · rintro⟨h1,h3,h2⟩
   rw [atI_set hk h1] at h2
   by_cases e:j=k
   · exact .inr e
   rw [if_neg e] at h2;exact .inl ⟨h1,h3,h2⟩
 rintro (⟨h1,h3,h2⟩|rfl)
 · refine⟨h1,h3,?_⟩
   rw [atI_set hk h1]
   split<;>assumption
 refine⟨hk.1,hk.2,?_⟩
 rw [atI_set hk hk.1,if_pos rfl];exact hv
theorem rlx_vis {q k j:Int} {out r:List Int} (hq:visI out q) (hk:0≤k∧k<out.length):visI (rlx q (out,r) k).1 j↔visI out j∨j=k:=by
 unfold rlx
 dsimp only
 split
 · exact set_vis (by have:=hq.2.2;omega) hk
 rename_i hneg
 have hneg':¬ atI out k<0:=hneg
 constructor
 · exact .inl
 rintro (h|rfl)
 · exact h
 exact⟨hk.1,hk.2,Int.not_lt.1 hneg'⟩
theorem rlx_qu {q k j:Int} {out r:List Int} (hk:0≤k∧k<out.length):j∈(rlx q (out,r) k).2↔j∈r∨(j=k∧¬ visI out j):=by
 unfold rlx visI
 dsimp only
 split
 · simp only [List.mem_append,List.mem_singleton]
   constructor
   · rintro (h|rfl)
     · exact .inl h
     exact .inr ⟨rfl,fun h=>by omega⟩
   rintro (h|⟨rfl,_⟩)
   · exact .inl h
   exact .inr rfl
 constructor
 · exact .inl
 rintro (h|⟨rfl,h⟩)
 · exact h
 exact absurd ⟨hk.1,hk.2,by omega⟩ h
theorem relax_vis {q j:Int}:∀ {l out r:List Int},visI out q→(∀ k∈l,0≤k∧k<out.length)→(visI (relax q l (out,r)).1 j↔visI out j∨j∈l)∧(j∈(relax q l (out,r)).2↔j∈r∨(j∈l∧¬ visI out j))
 | [],out,r,_,_=>by simp [relax]
 | k::l,out,r,hq,hl=>by
  have hk:=hl k (by simp)
  have e:relax q (k::l) (out,r)=relax q l ((rlx q (out,r) k).1,(rlx q (out,r) k).2):=rfl
  have hlen:=rlx_len q (out,r) k
  have ih:=relax_vis (q:=q) (j:=j) (l:=l) (out:=(rlx q (out,r) k).1) (r:=(rlx q (out,r) k).2) ((rlx_vis hq hk).2 (.inl hq)) fun k' hk'=>by rw [hlen];exact hl k' (by simp [hk'])
  rw [e]
  have h1:=rlx_vis (q:=q) (j:=j) (r:=r) hq hk
  have h2:=rlx_qu (q:=q) (j:=j) (out:=out) (r:=r) hk
  constructor
  · rw [ih.1,h1,List.mem_cons];simp only [or_assoc]
  rw [ih.2,h1,h2,List.mem_cons]
  by_cases hv:visI out j<;>by_cases hjk:j=k<;>by_cases hjl:j∈l<;>simp [hv,hjk,hjl]<;>simp_all
theorem bfs_vis {nx:Nat→List Int} {N:Nat} (hn:∀ p,p<N→∀ k∈nx p,0≤k∧k<N) {j:Int}:∀ (f:Nat) (out qu:List Int),BfsI N out qu→negs out+qu.length<f→(∀ q∈qu,visI out q)→(∀ p,visI out p→p∈qu∨∀ k∈nx p.toNat,visI out k)→
 (visI (bfs nx f out qu) j↔Rch nx (visI out) j)
 | 0,_,_,_,h,_,_=>by omega
 | f+1,out,[],hI,_,_,hc=>by
  rw [bfs]
  constructor
  · exact .base
  intro h
  induction h with
  | base h=>exact h
  | step _ hk ih=>exact (hc _ ih).resolve_left (by simp) _ hk
 | f+1,out,q::r,hI,hf,hv,hc=>by
  rw [bfs]
  have hq:=hI.mem q (by simp)
  have hqv:=hv q (by simp)
  have hnq:=hn q.toNat (by omega)
  have hR:=BfsI.relax (N:=N) hq (l:=nx q.toNat) (st:=(out,r)) hI.tail hnq
  have hvis:=fun j=>relax_vis (q:=q) (j:=j) (l:=nx q.toNat) (out:=out) (r:=r) hqv fun k hk=>by rw [hI.len];exact hnq k hk
  have h2:=hR.2.1
  simp only [List.length_cons] at hf h2
  have ih:=bfs_vis hn (j:=j) f (relax q (nx q.toNat) (out,r)).1 (relax q (nx q.toNat) (out,r)).2 hR.1 (by omega) (fun p hp=>?_) (fun p hpv=>?_)
  · rw [ih]
    constructor
    · refine Rch.mono fun p hp=>?_
      rcases ((hvis p).1).1 hp with h|h
      · exact .base h
      exact .step (.base hqv) h
    exact Rch.mono fun p hp=>.base (((hvis p).1).2 (.inl hp))
  · rw [(hvis p).1]
    rcases ((hvis p).2).1 hp with h|⟨h,_⟩
    · exact .inl (hv p (by simp [h]))
    exact .inr h
  by_cases hpo:visI out p
  · rcases hc p hpo with h|h
    · rcases List.mem_cons.1 h with rfl|h
      · exact .inr fun k hk=>((hvis k).1).2 (.inr hk)
      exact .inl (((hvis p).2).2 (.inl h))
    exact .inr fun k hk=>((hvis k).1).2 (.inl (h k hk))
  rcases ((hvis p).1).1 hpv with h|h
  · exact absurd h hpo
  exact .inl (((hvis p).2).2 (.inr ⟨h,hpo⟩))
theorem zeroAll_vis {j:Int}:∀ {l out:List Int},(∀ q∈l,0≤q∧q<out.length)→(visI (zeroAll l out) j↔visI out j∨j∈l)
 | [],_,_=>by simp [zeroAll]
 | k::l,out,hl=>by
  have hk:=hl k (by simp)
  have e:zeroAll (k::l) out=zeroAll l (out.set k.toNat 0):=rfl
  rw [e,zeroAll_vis (fun q hq=>by rw [List.length_set];exact hl q (by simp [hq])),List.mem_cons,set_vis (by omega) hk,or_assoc]
theorem spread_vis {nx:Nat→List Int} {N:Nat} (hn:∀ p,p<N→∀ k∈nx p,0≤k∧k<N) {l:List Int} (hl:∀ q∈l,0≤q∧q<(N:Int)) {j:Int}:visI (spreadOf nx N l) j↔Rch nx (·∈l) j:=by
 have hz:∀ p,visI (zeroAll l (List.replicate N (-1))) p↔p∈l:=fun p=>by
  rw [zeroAll_vis fun q hq=>by simpa using hl q hq]
  constructor
  · rintro (⟨h1,h3,h2⟩|h)
    · exfalso
      unfold atI at h2
      rw [List.length_replicate] at h3
      rw [List.getElem?_replicate,if_pos (by omega)] at h2;simp at h2
    exact h
  exact .inr
 have hst:=bfs_start (N:=N) hl
 unfold spreadOf
 have hng:=negs_le (zeroAll l (List.replicate N (-1)))
 rw [zeroAll_len] at hng
 simp only [List.length_replicate] at hng
 rw [bfs_vis hn _ _ _ hst (by omega) (fun q hq=>(hz q).2 hq) (fun p hp=>.inl ((hz p).1 hp))]
 constructor
 · exact Rch.mono fun p hp=>.base ((hz p).1 hp)
 exact Rch.mono fun p hp=>.base ((hz p).2 hp)
def R1 (nx:Nat→List Int) (i:Nat) (k:Int):Prop:=Rch nx (·∈nx i) k
theorem R1.trans {nx:Nat→List Int} {i j:Nat} {k:Int} (h1:R1 nx i j) (h2:R1 nx j k):R1 nx i k:=by
 refine Rch.mono (fun q hq=>?_) h2;exact .step h1 (by simpa using hq)
def wK (nx:Nat→List Int):Nat→Nat→Nat
 | 0,i=>wB (nx i)
 | K+1,i=>if (wK nx K i).testBit K then wK nx K i|||wK nx K K else wK nx K i
theorem wK_test (nx:Nat→List Int) (K i j:Nat):(wK nx (K+1) i).testBit j=true↔(wK nx K i).testBit j=true∨((wK nx K i).testBit K=true∧(wK nx K K).testBit j=true):=by
 rw [wK]
 split
 · rename_i h;rw [Nat.testBit_or,Bool.or_eq_true];simp [h]
 rename_i h;simp [h]
theorem wK_self (nx:Nat→List Int) (K:Nat):wK nx (K+1) K=wK nx K K:=by
 rw [wK];split
 · exact Nat.or_self _
 rfl
theorem wK_sound {nx:Nat→List Int} (hn:∀ i,∀ k∈nx i,0≤k):∀ (K i j:Nat),(wK nx K i).testBit j=true→R1 nx i j
 | 0,i,j,h=>.base ((wB_test (hn i) j).1 h)
 | K+1,i,j,h=>by
  rcases (wK_test nx K i j).1 h with h|⟨h1,h2⟩
  · exact wK_sound hn K i j h
  exact (wK_sound hn K i K h1).trans (wK_sound hn K K j h2)
theorem wK_trans (nx:Nat→List Int):∀ (K m i j:Nat),m<K→(wK nx K i).testBit m=true→(wK nx K m).testBit j=true→(wK nx K i).testBit j=true
 | 0,m,i,j,h,_,_=>by omega
 | K+1,m,i,j,h,h1,h2=>by
  rw [wK_test] at h1 h2 ⊢
  by_cases e:m=K
  · subst e
    have h2':(wK nx m m).testBit j=true:=h2.elim id fun h=>h.2
    have h1':(wK nx m i).testBit m=true:=h1.elim id fun h=>h.1
    exact .inr ⟨h1',h2'⟩
  have hm:m<K:=by omega
  rcases h1 with h1|⟨h1,h1'⟩
  · rcases h2 with h2|⟨h2,h2'⟩
    · exact .inl (wK_trans nx K m i j hm h1 h2)
    exact .inr ⟨wK_trans nx K m i K hm h1 h2,h2'⟩
  rcases h2 with h2|⟨_,h2'⟩
  · exact .inr ⟨h1,wK_trans nx K m K j hm h1' h2⟩
  exact .inr ⟨h1,h2'⟩
theorem wK_more (nx:Nat→List Int):∀ (K i j:Nat),(wK nx 0 i).testBit j=true→(wK nx K i).testBit j=true
 | 0,_,_,h=>h
 | K+1,i,j,h=>(wK_test nx K i j).2 (.inl (wK_more nx K i j h))
theorem wK_full {nx:Nat→List Int} {N:Nat} (hn:∀ i,∀ k∈nx i,0≤k) (hN:∀ i,i<N→∀ k∈nx i,k<N) {i j:Nat} (hi:i<N):(wK nx N i).testBit j=true↔R1 nx i j:=by
 refine⟨wK_sound hn N i j,fun h=>?_⟩
 have key:∀ q:Int,R1 nx i q→0≤q∧q<N∧(wK nx N i).testBit q.toNat=true:=by
  intro q h
  induction h with
  | base hq=>exact⟨hn i _ hq,hN i hi _ hq,wK_more nx N i _ ((wB_test (hn i) _).2 (by have:=hn i _ hq;rwa [Int.toNat_of_nonneg this]))⟩
  | step _ hk ih=>
   obtain⟨h1,h2,h3⟩:=ih
   have hk0:=hn _ _ hk
   refine⟨hk0,hN _ (by omega) _ hk,wK_trans nx N _ i _ (by omega) h3 (wK_more nx N _ _ ((wB_test (hn _) _).2 (by rwa [Int.toNat_of_nonneg hk0])))⟩
 have:=(key j h).2.2
 simpa using this
theorem foldl_or_lt {N:Nat}:∀ (l:List Int) (m:Nat),m<2^N→(∀ k∈l,k.toNat<N)→l.foldl (fun m k=>m|||2^k.toNat) m<2^N
 | [],m,h,_=>h
 | k::l,m,h,hl=>by
  rw [List.foldl_cons]
  exact foldl_or_lt l _ (Nat.or_lt_two_pow h (Nat.pow_lt_pow_right (by omega) (hl k (by simp)))) fun k hk=>hl k (by simp [hk])
theorem wK_lt {nx:Nat→List Int} {N:Nat} (hN:∀ i,i<N→∀ k∈nx i,0≤k∧k<N):∀ (K:Nat),K≤N→∀ i,i<N→wK nx K i<2^N
 | 0,_,i,hi=>foldl_or_lt _ _ (Nat.two_pow_pos N) fun k hk=>by have:=hN i hi k hk;omega
 | K+1,hK,i,hi=>by
  rw [wK]
  split
  · exact Nat.or_lt_two_pow (wK_lt hN K (by omega) i hi) (wK_lt hN K (by omega) K (by omega))
  exact wK_lt hN K (by omega) i hi
section
variable (rel:Nat→Nat→Bool)
end
section
variable {rel:Nat→Nat→Bool}
end
def ltI (a b:Int):Bool:=decide (a<b)
theorem ltI_so:SO ltI:=by
 constructor<;>intros<;>simp only [ltI,decide_eq_true_eq,decide_eq_false_iff_not] at *<;>omega
def ascL (l:List Int):List Int:=setG ltI l
end Go.Q
namespace Go.Proofs
open Go.Shelf Go.RowKit Go.Lib Go.Sort
def Tryz.lays189_ren:Go.Shelf.Ren:=⟨fun|189=>217|125=>226|257=>225|128=>242|129=>243|294=>233|295=>234|296=>235|297=>236|298=>237|299=>238|216=>239|300=>240|301=>241|328=>246|329=>247|330=>248|331=>249|332=>250|215=>251|343=>254|n=>n,fun|28=>40|3=>3|46=>208|0=>0|51=>231|53=>234|4=>4|183=>243|182=>242|131=>197|5=>5|9=>9|218=>253|222=>257|228=>260|229=>185|n=>n,fun|n=>n⟩
theorem Tryz.lays189:Go.Proofs.Lays.n189 Tryz.prog Tryz.lays189_ren:={
 mixed:=by kernel_rfl
 f125:=Tryz.func226.trans (congrArg some (by kernel_rfl))
 f128:=Tryz.func242.trans (congrArg some (by kernel_rfl))
 f129:=Tryz.func243.trans (congrArg some (by kernel_rfl))
 f189:=Tryz.func217.trans (congrArg some (by kernel_rfl))
 f215:=Tryz.func251.trans (congrArg some (by kernel_rfl))
 f216:=Tryz.func239.trans (congrArg some (by kernel_rfl))
 f257:=Tryz.func225.trans (congrArg some (by kernel_rfl))
 f294:=Tryz.func233.trans (congrArg some (by kernel_rfl))
 f295:=Tryz.func234.trans (congrArg some (by kernel_rfl))
 f296:=Tryz.func235.trans (congrArg some (by kernel_rfl))
 f297:=Tryz.func236.trans (congrArg some (by kernel_rfl))
 f298:=Tryz.func237.trans (congrArg some (by kernel_rfl))
 f299:=Tryz.func238.trans (congrArg some (by kernel_rfl))
 f300:=Tryz.func240.trans (congrArg some (by kernel_rfl))
 f301:=Tryz.func241.trans (congrArg some (by kernel_rfl))
 f328:=Tryz.func246.trans (congrArg some (by kernel_rfl))
 f329:=Tryz.func247.trans (congrArg some (by kernel_rfl))
 f330:=Tryz.func248.trans (congrArg some (by kernel_rfl))
 f331:=Tryz.func249.trans (congrArg some (by kernel_rfl))
 f332:=Tryz.func250.trans (congrArg some (by kernel_rfl))
 f343:=Tryz.func254.trans (congrArg some (by kernel_rfl))
 t0:=Tryz.underlying0
 a0:=Tryz.isAgg0
 z0:=Tryz.sizeOf0
 v0:=Tryz.zeroValue0
 t3:=Tryz.underlying3
 a3:=Tryz.isAgg3
 z3:=Tryz.sizeOf3
 v3:=Tryz.zeroValue3
 t4:=Tryz.underlying4
 a4:=Tryz.isAgg4
 z4:=Tryz.sizeOf4
 v4:=Tryz.zeroValue4
 t5:=Tryz.underlying5
 a5:=Tryz.isAgg5
 z5:=Tryz.sizeOf5
 v5:=Tryz.zeroValue5
 t9:=Tryz.underlying9
 a9:=Tryz.isAgg9
 z9:=Tryz.sizeOf9
 v9:=Tryz.zeroValue9
 t28:=Tryz.underlying40
 a28:=Tryz.isAgg40
 z28:=Tryz.sizeOf40
 v28:=Tryz.zeroValue40
 t46:=Tryz.underlying208
 a46:=Tryz.isAgg208
 z46:=Tryz.sizeOf208
 v46:=Tryz.zeroValue208
 t51:=Tryz.underlying231
 a51:=Tryz.isAgg231
 z51:=Tryz.sizeOf231
 v51:=Tryz.zeroValue231
 t53:=Tryz.underlying234
 a53:=Tryz.isAgg234
 z53:=Tryz.sizeOf234
 v53:=Tryz.zeroValue234
 t131:=Tryz.underlying197
 a131:=Tryz.isAgg197
 z131:=Tryz.sizeOf197
 v131:=Tryz.zeroValue197
 t182:=Tryz.underlying242
 a182:=Tryz.isAgg242
 z182:=Tryz.sizeOf242
 v182:=Tryz.zeroValue242
 t183:=Tryz.underlying243
 a183:=Tryz.isAgg243
 z183:=Tryz.sizeOf243
 v183:=Tryz.zeroValue243
 t218:=Tryz.underlying253
 a218:=Tryz.isAgg253
 z218:=Tryz.sizeOf253
 v218:=Tryz.zeroValue253
 t222:=Tryz.underlying257
 a222:=Tryz.isAgg257
 z222:=Tryz.sizeOf257
 v222:=Tryz.zeroValue257
 t228:=Tryz.underlying260
 a228:=Tryz.isAgg260
 z228:=Tryz.sizeOf260
 v228:=Tryz.zeroValue260
 t229:=Tryz.underlying185
 a229:=Tryz.isAgg185
 z229:=Tryz.sizeOf185
 v229:=Tryz.zeroValue185 }
end Go.Proofs
namespace Go.Proofs.YtbecibmlbiebeaaGreat
open Go.RowKit Go.Q Go.D
theorem slicesSortInt (l:List Int) (hl:l.length<4611686018427387904):FnS1 Tryz.prog 217 1 (l.map cInt) ((sortG ltI l).map cInt):=by
 refine FnS1.ints ⟨_,Tryz.func217,by kernel_rfl,by kernel_rfl⟩ (fun _=>rfl) (sortG ltI) sortG_len (fun p cap w=>?_) (fun blk cap zs w hH hb hz=>?_) l hl
 · have hcon:=Any.slices_Sort_int_none Tryz.lays189 p cap w
   change Calls Tryz.prog 217 _ _ _ at hcon
   exact hcon
 have hcon:=Any.slices_Sort_int Tryz.lays189 blk 0 cap zs w hH hb hz
 change Calls Tryz.prog 217 _ _ _ at hcon
 have e:(fun x y:Int=>decide (x≤y))=leG ltI:=by
  funext x y
  unfold leG ltI
  by_cases h:x≤y<;>simp [h]<;>omega
 rw [e] at hcon
 exact hcon
theorem CompactInt (l:List Int) (hz:l.length≤1099511627776):FnC Tryz.prog 218 [(true,.one (.sl 1 (l.map cInt)))] (.a (.one (.sl 1 ((compactL l).map cInt)))):=by
 refine FnC.walk Tryz.func218 rfl (by kernel_rfl) Tryz.ntmps218 rfl (by rfl) fun w0=>?_
 refine Ar (Av [0] [1000]) ?_
 try simp [cPair,cToken,cExpr,cEdge,cGraph,cStep,cWalk,cChange,cBatch,cHistory,cPositions,cAutomaton,cProductStep,cPathAtom,cConjunction,cView,cDelta,cRegistered,cRegistry] at hlen
 refine Af (Ak ?_);refine Cb (i:=2) 20001 1 U U ?_;refine Aa (Ae (Af (Ab ?_)));refine Be (.rf U) Tryz.underlying40 ?_;refine Du ?_;refine Aa (Ai (.tm U) (fun h8=>?_) (fun h8=>?_))
 · try simp at h8
   refine Af (Ab ?_);refine Ag ?_;refine Aa (Am (Res.one U (.tmp U .nil) U ?_))
   rw [compactL_all (k:=1) (by omega) (fun j x y hj=>by omega)];rfl
 try simp at h8
 refine Aj (Ae (Af (Ak ?_)));refine Aa (AW.block ?_);refine By (fun (k:Nat)=>((1≤k∧k≤l.length)∧∀ j x y,j+1<k→l[j+1]?=some x→l[j]?=some y→y≠x)∧True) (fun (k:Nat)=>⟨_,[(3,(true,.a (.one (.t (.v (.int .i64 (k:Nat))))))),(0,_)],[(1000,.row 1 (l.map cInt))]⟩) (fun (k:Nat)=>l.length-k) (1) ⟨⟨⟨Nat.le_refl _,by omega⟩,fun j x y hj=>by omega⟩,Y⟩ A4 ?_
 rintro k ⟨hk,he⟩
 refine Ae (Af (Ab ?_));refine Ab ?_;refine Be (.rf U) Tryz.underlying40 ?_;refine AWl.lt ?_;refine Aa (Ai (.tm U) (fun h13=>?_) (fun h13=>?_))
 · try simp at h13
   obtain⟨x,hx⟩:∃ ξ,l[k]?=some ξ:=⟨_,List.getElem?_eq_getElem (by omega)⟩
   obtain⟨y,hy⟩:∃ ξ,l[k-1]?=some ξ:=⟨_,List.getElem?_eq_getElem (by omega)⟩
   have hy2:l[((k:Int)-1).toNat]?=some y:=by (rw [show ((k:Int)-1).toNat=k-1 by omega];exact hy)
   refine Aj (Ae (AW.block (Ae (B8 10 (nthB [[],[],[0,1],[0,1,2],[],[],[5],[4,5,6],[4,5,6,7],[0,1,2,3,4,5,6,7,8]]) (by kernel_rfl) (by kernel_rfl) (by kernel_rfl) ?_))));refine Aw ?_;refine Aw ?_;refine DrawC.s (fun _ hs=>(by exact Ax U (.no U) (Ah hs U) (hs.tm U) (hs.res _ _ U) (hs.tm U) Tryz.underlying40 ty3 (fun _=>⟨by omega,(by exact Al hx)⟩))) ?_;refine DrawC.s (fun _ hs=>(by exact Bu U (.no U) (Ah hs U) (hs.tm U) (hs.res _ _ U) (by exact Al hx) ty3 U U)) ?_;refine Aw ?_;refine Aw ?_;refine DrawC.s (fun _ hs=>Dx U (.no U) (Ah hs U) (hs.tm U) (.const U) (fun _=>by omega)) ?_;refine DrawC.s (fun _ hs=>(by exact Ax U (.no U) (Ah hs U) (hs.tm U) (hs.res _ _ U) (hs.tm U) Tryz.underlying40 ty3 (fun _=>⟨by omega,(by exact Al hy2)⟩))) ?_;refine DrawC.s (fun _ hs=>(by exact Bu U (.no U) (Ah hs U) (hs.tm U) (hs.res _ _ U) (by exact Al hy2) ty3 U U)) ?_
   refine DrawC.s (fun _ hs=>R_eq U (.no U) (Ah hs U) (hs.tm U) (hs.tm U)) ?_;refine DrawC.fin U U ?_;refine Aa (Ai (.tm U) (fun h25=>?_) (fun h25=>?_))
   · try simp at h25
     have hst:l.take k=compactL (l.take (k+1)):=by (obtain⟨k',rfl⟩:∃ k',k=k'+1:=⟨k-1,by omega⟩;rw [compactL_take hx hy,if_pos h25.symm,List.append_nil,compactL_id hk.1.2 hk.2])
     refine Ae (Ar (Av [0,3] [1000]) ?_);refine Ac (Ab ?_);refine Ab ?_;refine Ad ((by exact Cr (m:=k) U (.no U) U (.tm U) U (.yes (.tm U) (fun _=>by first|rfl|omega|(simp<;>omega))) Tryz.underlying40 ty3 (fun _=>by simp;omega))) U ?_;refine Ag ?_;refine Aa (Ae (Af (Ak ?_)));refine Aa (AW.block ?_);refine C6 (fun (k2:Nat) (k1:Nat) (Rr:List Int)=>((1≤k2∧k+k2≤l.length∧k1+1≤k+k2∧Rr.length=l.length))∧Rr.drop (k+k2-1)=l.drop (k+k2-1)∧Rr.take k1=compactL (l.take (k+k2))) (fun (k2:Nat) (k1:Nat) (Rr:List Int)=>⟨_,[(5,(true,.a (.one (.t (.v (.int .i64 (k2:Nat))))))),(3,(true,.a (.one (.t (.v (.int .i64 (k1:Nat))))))),(4,(true,.a (.one (.tl 1000 1 k)))),(0,_)],[(1000,.row 1 (Rr.map cInt))]⟩) (fun (k2:Nat) (k1:Nat) (Rr:List Int)=>l.length-k2) (1) (k) (l) ⟨⟨by omega,by omega,by omega,U⟩,U,hst⟩ A4 ?_
     rintro k2 k1 Rr ⟨hk1,he1⟩
     refine Ae (Af (Ab ?_));refine Ab ?_;refine Ad (R_len_tl U (.no U) U (.tm U) U Tryz.underlying40) U ?_;refine AWl.lt ?_;refine Aa (Ai (.tm U) (fun h32=>?_) (fun h32=>?_))
     · try simp at h32
       obtain⟨x2,hx2⟩:∃ ξ,l[k+k2]?=some ξ:=⟨_,List.getElem?_eq_getElem (by omega)⟩
       obtain⟨y2,hy2'⟩:∃ ξ,l[k+k2-1]?=some ξ:=⟨_,List.getElem?_eq_getElem (by omega)⟩
       have hx2R:Rr[k+(k2:Int).toNat]?=some x2:=by (rw [drop_get he1.1 (by omega)];exact hx2)
       have hy2R:Rr[k+((k2:Int)-1).toNat]?=some y2:=by (rw [show k+((k2:Int)-1).toNat=k+k2-1 by omega,drop_get he1.1 (by omega)];exact hy2')
       obtain⟨r1,hr1⟩:∃ ξ,Rr[k1]?=some ξ:=⟨_,List.getElem?_eq_getElem (by omega)⟩
       refine Aj (Ae (AW.block (Ae (B8 10 (nthB [[],[],[0,1],[0,1,2],[],[],[5],[4,5,6],[4,5,6,7],[0,1,2,3,4,5,6,7,8]]) (by kernel_rfl) (by kernel_rfl) (by kernel_rfl) ?_))));refine Aw ?_;refine Aw ?_;refine DrawC.s (fun _ hs=>(Dk U (.no U) (Ah hs U) (hs.tm U) (hs.res _ _ U) (hs.tm U) Tryz.underlying40 ty3 (fun _=>⟨by omega,(by exact Al hx2R)⟩))) ?_;refine DrawC.s (fun _ hs=>(by exact Bu U (.no U) (Ah hs U) (hs.tm U) (hs.res _ _ U) (by exact Al hx2R) ty3 U U)) ?_;refine Aw ?_;refine Aw ?_;refine DrawC.s (fun _ hs=>Dx U (.no U) (Ah hs U) (hs.tm U) (.const U) (fun _=>by omega)) ?_;refine DrawC.s (fun _ hs=>(by exact Dk U (.no U) (Ah hs U) (hs.tm U) (hs.res _ _ U) (hs.tm U) Tryz.underlying40 ty3 (fun _=>⟨by omega,(by exact Al hy2R)⟩))) ?_;refine DrawC.s (fun _ hs=>(by exact Bu U (.no U) (Ah hs U) (hs.tm U) (hs.res _ _ U) (by exact Al hy2R) ty3 U U)) ?_
       refine DrawC.s (fun _ hs=>R_ne U (.no U) (Ah hs U) (hs.tm U) (hs.tm U)) ?_;refine DrawC.fin U U ?_;refine Aa (Ai (.tm U) (fun h44=>?_) (fun h44=>?_))
       · try simp at h44
         refine Ae (Ar (Av [0,3,4,5] [1000]) ?_);refine Ac (Ab ?_);refine Ab ?_;refine Ab ?_;refine Ab ?_;refine Ad (by exact Dk U (.no U) U (.tm U) U (.tm U) Tryz.underlying40 ty3 (fun _=>⟨by omega,(by exact Al hx2R)⟩)) U ?_;refine Ad (Bu U (.no U) U (.tm U) U (by exact Al hx2R) ty3 U U) U ?_;refine Ad (Ax U (.no U) U (.tm U) U (.tm U) Tryz.underlying40 ty3 (fun _=>⟨by omega,Al hr1⟩)) U ?_;refine Ch (Cn U U U (.tm U) U (.tm U) U (Al hr1) ty3 U U U U) ?_;refine Aa (Ar (Av [0,3,4,5] [1000]) ?_);refine Ac (Ab ?_);refine A8 ?_;refine Ag ?_;refine Aa (Ac (Ab ?_));refine A8 ?_;refine Ag ?_;refine Aa ?_
         repeat (with_reducible refine Au ?_)
         refine Round3.next (k2+1) (k1+1) (Rr.set k1 x2) ⟨⟨by omega,by omega,by omega,by simp;omega⟩,by rw [set_drop (by omega)];exact drop_more he1.1 (by omega),by rw [set_take (by omega),he1.2,show k+(k2+1)=k+k2+1 by omega,compactL_take' (by omega) hx2 hy2',if_neg (fun e=>h44 e.symm)]⟩ (by omega) (Ap rfl ⟨rfl,rfl,rfl,rfl,Y⟩ ⟨(by (refine congrArg (fun r=>some (R.row _ r)) ?_;simp [chunk,List.map_set,cInt,cBool,cIntS,cPair,cToken,cExpr,cEdge,cGraph,cStep,cWalk,cChange,cBatch,cHistory,cPositions,cAutomaton,cProductStep,cPathAtom,cConjunction,cView,cDelta,cRegistered,cRegistry])),Y⟩)
       try simp at h44
       refine Aj (Ar (Av [0,3,4,5] [1000]) ?_);refine Ac (Ab ?_);refine A8 ?_;refine Ag ?_;refine Aa ?_
       repeat (with_reducible refine Au ?_)
       refine Round3.next (k2+1) (k1) (Rr) ⟨⟨by omega,by omega,by omega,hk1.2.2.2⟩,drop_more he1.1 (by omega),by rw [he1.2,show k+(k2+1)=k+k2+1 by omega,compactL_take' (by omega) hx2 hy2',if_pos h44.symm,List.append_nil]⟩ (by omega) (Ap rfl ⟨rfl,rfl,rfl,rfl,Y⟩ ⟨(by rfl),Y⟩)
     try simp at h32
     refine Bb (Af (Ab ?_));refine Ab ?_;refine Ad ((by exact Cr (m:=k1) U (.no U) U (.tm U) U (.yes (.tm U) (fun _=>by first|rfl|omega|(simp<;>omega))) Tryz.underlying40 ty3 (fun _=>by simp;omega))) U ?_;refine Ch (R_clear U U U (.tm U) U Tryz.underlying40 in3 U U) ?_;refine Aa (Ae (Ar (Av [0,3,4,5] [1000]) ?_));refine Ac (Ab ?_);refine Ab ?_;refine Bl (R_cut (m:=k1) U U U (.tm U) U (.yes (.tm U) (fun _=>by first|rfl|omega|(simp<;>omega))) Tryz.underlying40 ty3 (by simp;omega)) U ?_;refine Bq (Av [0,3,4,5,59] [1000]) ?_;refine Ag ?_;refine Aa (Am (Res.one U (.tmp U .nil) U ?_));refine congrArg (fun r=>[V0.one (T.sl 1 r)]) ?_;exact cut_rows (by rw [he1.2,List.take_of_length_le (by omega)]) (by omega)
   try simp at h25
   refine Aj (Ar (Av [0,3] [1000]) ?_);refine Ac (Ab ?_);refine A8 ?_;refine Ag ?_;refine Aa ?_
   repeat (with_reducible refine Au ?_)
   refine Round1.next (k+1) ⟨⟨by omega,fun j x' y' hj hx' hy'=>by rcases Nat.lt_or_eq_of_le (Nat.le_of_lt_succ hj) with h|h;exact hk.2 j x' y' h hx' hy';(subst h;rw [hx] at hx';rw [show j=j+1-1 by omega] at hy';rw [hy] at hy';cases hx';cases hy';exact fun e=>h25 e.symm)⟩,Y⟩ (by omega) (Ap rfl ⟨rfl,rfl,Y⟩ ⟨(by rfl),Y⟩)
 try simp at h13
 refine Bb (Af (Ab ?_));refine Ag ?_;refine Aa (Am (Res.one U (.tmp U .nil) U ?_))
 rw [compactL_all h13 (fun j x y hj=>hk.2 j x y (by omega))];rfl
theorem implascending (l:List Int) (hz:l.length≤1073741824):FnT Tryz.prog 175 [.one (.sl 1 (l.map cInt))] (.a (.one (.sl 1 ((ascL l).map cInt)))):=by
 refine A7 Tryz.func175 U (by kernel_rfl) Tryz.ntmps175 U fun hlen w0=>?_
 try simp [cPair,cToken,cExpr,cEdge,cGraph,cStep,cWalk,cChange,cBatch,cHistory,cPositions,cAutomaton,cProductStep,cPathAtom,cConjunction,cView,cDelta,cRegistered,cRegistry] at hlen
 refine Af (Ak ?_);refine Cb (i:=2) 20001 1 U U ?_;refine Aa (Af (Ab ?_));refine Cc (Cq 500 (implcopyInts l hz) U U U (.cons (.tm U) U .nil) U U) U ?_;refine Ag ?_;refine Aa (Af (Ab ?_));refine AWl.updput (R_sort1 U U U (.tm U) U (slicesSortInt l (by omega))) U ?_;refine Aa (Af (Ab ?_));apply AWl.consume
 case ho=>
  apply R_consume (xo:=.tmp 8) 900 (CompactInt (sortG ltI l) (by rw [sortG_len];omega)) rfl rfl rfl (.tm rfl)
  case ha=>rfl
  case hargs=>exact (ArgC.own .nil)
  all_goals rfl
 case hd=>rfl
 refine Ag ?_;refine Aa (Am (Res.one U (.tmp U .nil) U ?_))
 unfold ascL;rw [←compact_sort ltI_so];rfl
end Go.Proofs.YtbecibmlbiebeaaGreat
set_option maxHeartbeats 1000000
set_option maxRecDepth 100000
namespace Go.Q
open Go.D
theorem wK_congr {nx nx':Nat→List Int} {N:Nat} (he:∀ p,p<N→nx p=nx' p):∀ (K i:Nat),K≤N→i<N→wK nx K i=wK nx' K i
 | 0,i,_,hi=>by rw [wK,wK,he i hi]
 | K+1,i,hK,hi=>by rw [wK,wK,wK_congr he K i (by omega) hi,wK_congr he K K (by omega) (by omega)]
theorem wB_take {l:List Int} {k:Nat} {x:Int} (h:l[k]?=some x):wB (l.take (k+1))=wB (l.take k)|||2^x.toNat:=by
 unfold wB
 rw [take_at h,List.foldl_append];rfl
theorem wset {nx:Nat→List Int} {N K i:Nat} (h:(wK nx K i).testBit K=true):((List.range N).map fun p=>((if p<i then wK nx (K+1) p else wK nx K p:Nat):Int)).set i ((wK nx K i|||wK nx K K:Nat):Int)=(List.range N).map fun p=>((if p<i+1 then wK nx (K+1) p else wK nx K p:Nat):Int):=by
 rw [range_set]
 apply List.map_congr_left;intro p _
 by_cases e:p=i
 · subst e
   rw [if_pos rfl,if_pos (by omega),wK,if_pos h]
 rw [if_neg e]
 by_cases h2:p<i
 · rw [if_pos h2,if_pos (by omega)]
 rw [if_neg h2,if_neg (by omega)]
theorem wstay {nx:Nat→List Int} {N K i:Nat} (h:(wK nx K i).testBit K=false):((List.range N).map fun p=>((if p<i then wK nx (K+1) p else wK nx K p:Nat):Int))=(List.range N).map fun p=>((if p<i+1 then wK nx (K+1) p else wK nx K p:Nat):Int):=by
 apply List.map_congr_left;intro p _
 by_cases e:p=i
 · subst e
   rw [if_neg (by omega),if_pos (by omega),wK,if_neg (by rw [h];simp)]
 by_cases h2:p<i
 · rw [if_pos h2,if_pos (by omega)]
 rw [if_neg h2,if_neg (by omega)]
theorem wend {nx:Nat→List Int} {N K i:Nat} (h:N≤i):((List.range N).map fun p=>((if p<i then wK nx (K+1) p else wK nx K p:Nat):Int))=(List.range N).map fun p=>((wK nx (K+1) p:Nat):Int):=by
 apply List.map_congr_left;intro p hp
 have:=List.mem_range.1 hp
 rw [if_pos (by omega)]
def rB (next:List (List Int)) (i k:Nat):Bool:=decide (0≤atI (spreadOf (nxL next) next.length (ascL (nxL next i))) (k:Int))
def reachM (next:List (List Int)):List (List Bool):=(List.range next.length).map fun i=>(spreadOf (nxL next) next.length (ascL (nxL next i))).map fun d=>decide (0≤d)
theorem mem_ascL {l:List Int} {x:Int}:x∈ascL l↔x∈l:=mem_setG
theorem rB_eq {next:List (List Int)} (hn:∀ p,p<next.length→∀ k∈nxL next p,0≤k∧k<next.length) {i k:Nat} (hi:i<next.length) (hk:k<next.length):rB next i k=(wK (nxL next) next.length i).testBit k:=by
 have hn0:∀ p,∀ k∈nxL next p,0≤k:=fun p k hk=>by
  by_cases hp:p<next.length
  · exact (hn p hp k hk).1
  unfold nxL at hk;rw [List.getElem?_eq_none (by omega)] at hk;cases hk
 have h1:=spread_vis hn (l:=ascL (nxL next i)) (fun q hq=>hn i hi q (mem_ascL.1 hq)) (j:=(k:Int))
 have h2:=wK_full hn0 (fun p hp q hq=>(hn p hp q hq).2) hi (j:=k)
 have hl:=(spread_ok hn (l:=ascL (nxL next i)) (fun q hq=>hn i hi q (mem_ascL.1 hq))).1
 rw [Bool.eq_iff_iff,h2]
 unfold rB R1
 rw [decide_eq_true_eq]
 have h3:Rch (nxL next) (·∈ascL (nxL next i)) (k:Int)↔Rch (nxL next) (·∈nxL next i) (k:Int):=⟨Rch.mono fun q hq=>.base (mem_ascL.1 hq),Rch.mono fun q hq=>.base (mem_ascL.2 hq)⟩
 rw [←h3,←h1]
 unfold visI
 rw [hl]
 constructor
 · intro h;exact⟨by omega,by omega,h⟩
 intro h;exact h.2.2
theorem reachM_at {next:List (List Int)} (hn:∀ p,p<next.length→∀ k∈nxL next p,0≤k∧k<next.length) {i:Nat} (hi:i<next.length):∃ row,(reachM next)[i]?=some row∧∀ k,k<next.length→row[k]?=some (rB next i k):=by
 refine⟨_,by unfold reachM;exact range_get _ hi,fun k hk=>?_⟩
 have hl:=(spread_ok hn (l:=ascL (nxL next i)) (fun q hq=>hn i hi q (mem_ascL.1 hq))).1
 rw [List.getElem?_map,show (spreadOf (nxL next) next.length (ascL (nxL next i)))[k]?=some (atI _ (k:Int)) from atI_get (k:=(k:Int)) (by rw [hl];simpa using hk)]
 rfl
section
variable {rel:Nat→Nat→Bool} {N i k:Nat}
end
end Go.Q
namespace Go.Proofs.YtbecibmlbiebeaaGreat
open Go.RowKit Go.Q Go.D
theorem implreachable (next:List (List Int)) (hN:1≤next.length∧next.length≤65536) (hn:∀ p,p<next.length→∀ k∈nxL next p,0≤k∧k<next.length) (hz:∀ p,p<next.length→(nxL next p).length≤65536):FnT Tryz.prog 93 [.one (.sl 1 (next.map cIntS))] (.a (.one (.sl 1 ((reachM next).map cBoolS)))):=by
 refine A7 Tryz.func93 U (by kernel_rfl) Tryz.ntmps93 U fun hlen w0=>?_
 try simp [cPair,cToken,cExpr,cEdge,cGraph,cStep,cWalk,cChange,cBatch,cHistory,cPositions,cAutomaton,cProductStep,cPathAtom,cConjunction,cView,cDelta,cRegistered,cRegistry] at hlen
 have hrl:(reachM next).length=next.length:=by unfold reachM;simp
 refine Af (Ak ?_);refine Cb (i:=2) 20001 1 U U ?_;refine Aa (Af (A6 (Cu 9 U U U Tryz.underlying131 ty33 U) U ?_));refine Ag ?_;refine Aa (Ae (Af (Ab ?_)));refine Be (.t) Tryz.underlying34 ?_;refine Ad (Bh U (.no U) U (.const U)) U ?_;refine Aa (AW.block (By (fun (i:Nat)=>(i≤next.length)∧True) (fun (i:Nat)=>⟨_,[(12,(true,.a (.one (.t (.v (.int .i64 (i:Nat))))))),(3,(true,.a (.one (.rf 9)))),(0,_),(2,_),(10,_),(11,_)],[(9,.row 1 (((reachM next).take i).map cBoolS))]⟩) (fun (i:Nat)=>next.length-i) (0) ⟨Nat.zero_le _,Y⟩ A4 ?_))
 rintro i ⟨hk,he⟩
 refine Af (AWl.lt ?_);refine Aa (Ae (Ai (.tm U) (fun h13=>?_) (fun h13=>?_)))
 · try simp at h13
   obtain⟨l,hl⟩:∃ ξ,next[i]?=some ξ:=⟨_,List.getElem?_eq_getElem (by omega)⟩
   have hln:=nxL_at hl
   have hzl:l.length≤65536:=by (rw [←hln];exact hz i (by omega))
   have hal:(ascL l).length≤65536:=Nat.le_trans (setG_len _) hzl
   have har:∀ q∈ascL l,0≤q∧q<(next.length:Int):=fun q hq=>hn i (by omega) q (by rw [hln];exact mem_ascL.1 hq)
   have hso:=spread_ok hn har
   have hrow:(reachM next)[i]?=some ((spreadOf (nxL next) next.length (ascL l)).map fun d=>decide (0≤d)):=by (unfold reachM;rw [range_get _ (by omega),hln])
   refine Aj (Ae (AW.block (Af (Ad (As U (.no U) U (.tm U) (.tm U) Tryz.underlying34 Bz (fun _=>⟨by omega,(by exact Al hl)⟩)) U ?_))));refine Aq Bz ?_;refine Ag ?_;refine Aa (Af (A6 (Cu 16 U U U Tryz.underlying33 ty4 U) U ?_));refine Ag ?_;refine Aa (Ae (Af (Ab ?_)));refine Ab ?_;refine Ad (Bc (FnT.fr (implascending l (by omega))) U (.no U) U (.cons (.tm U) U .nil)) U ?_;refine Ad (Bc (FnT.fr (implspread next (ascL l) hN hn (fun p hp=>Nat.le_trans (hz p hp) (by omega)) har hal)) U (.no U) U (.cons (.tm U) U (.cons (.tm U) U .nil))) U ?_;refine Be (.t) Tryz.underlying40 ?_;refine Ad (Bh U (.no U) U (.const U)) U ?_
   refine Aa (AW.block (By (fun (j:Nat)=>(j≤next.length)∧True) (fun (j:Nat)=>⟨_,[(22,(true,.a (.one (.t (.v (.int .i64 (j:Nat))))))),(6,(true,.a (.one (.rf 16)))),(0,_),(2,_),(3,_),(10,_),(11,_),(12,_),(20,_),(21,_)],[(16,.row 1 ((((spreadOf (nxL next) next.length (ascL l)).take j).map fun d=>decide (0≤d)).map cBool)),(9,.row 1 (((reachM next).take i).map cBoolS))]⟩) (fun (j:Nat)=>next.length-j) (0) ⟨Nat.zero_le _,Y⟩ A4 ?_))
   rintro j ⟨hk1,he1⟩
   refine Af (AWl.lt ?_);refine Aa (Ae (Ai (.tm U) (fun h23=>?_) (fun h23=>?_)))
   · try simp at h23
     obtain⟨d,hd0⟩:∃ ξ,(spreadOf (nxL next) next.length (ascL l))[j]?=some ξ:=⟨_,List.getElem?_eq_getElem (by omega)⟩
     refine Aj (Ae (AW.block (Af (Ad (As U (.no U) U (.tm U) (.tm U) Tryz.underlying40 ty3 (fun _=>⟨by omega,(by exact Al hd0)⟩)) U ?_))));refine Aq ty3 ?_;refine Ag ?_;refine Aa (Ac (Ab ?_));refine Ab ?_;refine AWl.gd ?_;refine Ad (B7 (xs:=[.tmp 28]) (rows:=[cBool (decide (0≤d))]) U U U (.cons (.tm U) U U .nil) Tryz.underlying33 in4 U U (U)) U ?_;refine Bl (Bw U U U (.tm U) U (.tm U) (by exact .t) (by rfl) Tryz.underlying33 in4 U (by (simp [chunk];omega)) (by (unfold maxLen;simp [chunk];omega))) U ?_;refine Bq (Av [0,2,3,6,8,10,11,12,20,21,22,23,30] [16,9]) ?_;refine Ag ?_;refine Aa (Ac (A8 ?_));refine Ab ?_;refine Aa ?_
     repeat (with_reducible refine Au ?_)
     refine Round1.next (j+1) ⟨by omega,Y⟩ (by omega) (Ap rfl ⟨rfl,rfl,rfl,rfl,rfl,rfl,rfl,rfl,rfl,rfl,Y⟩ ⟨(by refine congrArg (fun r=>some (R.row 1 r)) ?_;rw [take_at hd0];simp [chunk]),(by refine congrArg (fun r=>some (R.row 1 r)) ?_;first|rfl|(rw [take_at hrow,List.take_of_length_le (l:=spreadOf (nxL next) next.length (ascL l)) (by omega)];simp [cBoolS,chunk];done)),Y⟩)
   try simp at h23
   refine Bb (Ac (Ab ?_));refine Ab ?_;refine Bn (Ce (xs:=[.tmp 33]) 34 U U U (.cons (.tm U) U U .nil) Tryz.underlying131 in33 U U U U) U ?_;refine Dr (R_append_own U U U (.tm U) U (.tm U) U U Tryz.underlying131 in33 U (by (simp [chunk];omega)) (by (unfold maxLen;simp [chunk];omega))) U ?_;refine Bq (Av [0,2,3,6,10,11,12,20,21,22,23,35] [9]) ?_;refine Ag ?_;refine Aa (Ac (A8 ?_));refine Ab ?_;refine Aa ?_
   repeat (with_reducible refine Au ?_)
   refine Round1.next (i+1) ⟨by omega,Y⟩ (by omega) (Ap rfl ⟨rfl,rfl,rfl,rfl,rfl,rfl,Y⟩ ⟨(by refine congrArg (fun r=>some (R.row 1 r)) ?_;first|rfl|(rw [take_at hrow,List.take_of_length_le (l:=spreadOf (nxL next) next.length (ascL l)) (by omega)];simp [cBoolS,chunk];done)),Y⟩)
 try simp at h13
 refine Bb (Af (Ab ?_));refine Ag ?_;refine Aa (Am (Res.one U (.tmp U .nil) U ?_))
 rw [List.take_of_length_le (by omega)];rfl
end Go.Proofs.YtbecibmlbiebeaaGreat
set_option maxHeartbeats 1000000
set_option maxRecDepth 100000
namespace Go.Q
open Go.D
def NP (g:TGraph) (a:TAutomaton):Nat:=a.Accept.length*g.Values.length
theorem nexts_ok {g:TGraph} {a:TAutomaton} (ha:validA a=true) (hg:validG g=true):∀ p,p<(nextsV g a).length→∀ k∈nxL (nextsV g a) p,0≤k∧k<(nextsV g a).length:=fun p hp k hk=>by
 rw [nextsV_len] at hp ⊢
 rw [nextsV_at hp] at hk
 exact nxN_ok ha hg hp k hk
theorem wK_nexts (g:TGraph) (a:TAutomaton) {i:Nat} (hi:i<NP g a):wK (nxN g a) (NP g a) i=wK (nxL (nextsV g a)) (nextsV g a).length i:=by
 rw [nextsV_len]
 exact wK_congr (N:=NP g a) (fun p hp=>(nextsV_at hp).symm) _ _ (Nat.le_refl _) hi
def goodC (g:TGraph) (a:TAutomaton):Bool:=validG g&&validA a
theorem good_c (g:TGraph) (a:TAutomaton):goodB g a 0 0=goodC g a:=by
 unfold goodB goodC
 cases hg:validG g with
 | false=>simp
 | true=>
  cases ha:validA a with
  | false=>simp
  | true=>
   have hA:=validA_len ha
   have hG:=validG_len hg
   unfold inB;simp;omega
end Go.Q
namespace Go.Proofs.YtbecibmlbiebeaaGreat
open Go.RowKit Go.Q Go.D
theorem specl24Reach (g:TGraph) (a:TAutomaton) (ha:validA a=true) (hg:validG g=true):FnT Tryz.prog 97 [.agg (cGraph g),.agg (cAutomaton a)] (.a (.one (.sl 1 (((List.range (NP g a)).map fun p=>((wK (nxN g a) (NP g a) p:Nat):Int)).map cInt)))):=by
 refine A7 Tryz.func97 U (by kernel_rfl) Tryz.ntmps97 U fun hlen w0=>?_
 try simp [cPair,cToken,cExpr,cEdge,cGraph,cStep,cWalk,cChange,cBatch,cHistory,cPositions,cAutomaton,cProductStep,cPathAtom,cConjunction,cView,cDelta,cRegistered,cRegistry] at hlen
 have hA:=validA_len ha
 have hG:=validG_len hg
 have hN:1≤NP g a∧NP g a≤60:=prod_le ha hg
 have hNe:NP g a=a.Accept.length*g.Values.length:=rfl
 have hcm:(a.Accept.length:Int)*(g.Values.length:Int)=((NP g a:Nat):Int):=by rw [hNe];simp
 have hnk:=fun p (hp:p<NP g a)=>nxN_ok ha hg (p:=p) hp
 have hwl:=fun K (hK:K≤NP g a) i (hi:i<NP g a)=>Nat.lt_of_lt_of_le (wK_lt (nx:=nxN g a) (N:=NP g a) (fun i hi k hk=>by have:=hnk i hi k hk;exact⟨this.1,by rw [hNe];exact this.2⟩) K hK i hi) (Nat.pow_le_pow_right (by omega) hN.2)
 refine Af (Ad (Bm U U U (.tm U) (ts:=_) (by rfl)) U ?_);refine Ad (Bm U U U (.tm U) (ts:=_) (by rfl)) U ?_;refine Ak ?_;refine Cb (i:=4) 20001 1 U U ?_;refine Aa (Af (Bg C0 ?_));refine Aq ty33 ?_;refine Be (.t) Tryz.underlying33 ?_;refine Ag ?_;refine Aa (Af (A6 (Cu 16 U U U Tryz.underlying40 ty3 U) U ?_));refine Ag ?_;refine Aa (Ae (Af (Ab ?_)));refine Bg Cl ?_;refine Aq Bz ?_;refine Be (.t) Tryz.underlying40 ?_;refine Ad (Dn U (.no U) U (.tm U) (.tm U) (fun _=>by rw [hcm];omega)) U ?_;refine AWl.gc ?_;refine Aa (Ai (.tm U) (fun h22=>?_) (fun h22=>?_))
 · exact absurd h22 (by (simp only [decide_eq_true_eq];rw [hcm];omega))
 try simp only [bit_at,bit_zero,shr_zero] at h22
 try simp only [Int.toNat_natCast] at h22
 try simp at h22
 refine Aj (Ae (Ae (Ar (Av [0,1,2,3,4,5,6] [20001,16]) ?_)));refine Ac (Ak ?_);refine Aa (AW.block (By (fun (i:Nat)=>(i≤NP g a)∧True) (fun (i:Nat)=>⟨_,[(7,(true,.a (.one (.t (.v (.int .i64 (i:Nat))))))),(6,(true,.a (.one (.rf 16)))),(2,_),(3,_),(4,_),(5,_)],[(16,.row 1 (((List.range i).map fun p=>((wB (nxN g a p):Nat):Int)).map cInt))]⟩) (fun (i:Nat)=>NP g a-i) (0) ⟨Nat.zero_le _,Y⟩ (Ap U ⟨U,U,U,U,U,U,Y⟩ ⟨(by refine congrArg (fun r=>some (R.row 1 r)) ?_;first|rfl|(rw [hie];rfl)|(simp;done)),Y⟩) ?_))
 rintro i ⟨hk,he⟩
 refine Ae (Af (Ab ?_));refine Ab ?_;refine Bg Cl ?_;refine Aq Bz ?_;refine Be (.t) Tryz.underlying40 ?_;refine Ad (Dn U (.no U) U (.tm U) (.tm U) (fun _=>by rw [hcm];omega)) U ?_;refine AWl.lt ?_;refine Aa (Ai (.tm U) (fun h30=>?_) (fun h30=>?_))
 · skip
   rw [hcm] at h30
   have hpl:i<NP g a:=by (simp only [decide_eq_true_eq] at h30;omega)
   have hdm:=nd_ok (n:=a.Accept.length) (V:=g.Values.length) (by omega) hpl
   obtain⟨v,hv⟩:∃ v,g.Values[((i:Int) / (a.Accept.length:Int)).toNat]?=some v:=⟨_,List.getElem?_eq_getElem (by omega)⟩
   have hnx:=nxN_steps g a i
   have hS:(stepsOf g a ((i:Int) / (a.Accept.length:Int)) ((i:Int)%(a.Accept.length:Int))).length=(nxN g a i).length:=by rw [hnx,List.length_map]
   have hni:=hnk i hpl
   have hSl:=nxN_len a hg i
   refine Aj (Ae (AW.block (Ae (Ar (Av [2,3,4,5,6,7] [16]) ?_))));refine Ac (Ak ?_);refine Aa (Ae (B8 10 (nthB [[],[],[],[],[2,3],[],[],[5,6],[0,1,2,3,4,5,6,7],[0,1,2,3,4,5,6,7,8]]) (by kernel_rfl) (by kernel_rfl) (by kernel_rfl) ?_));refine Bj Bx ?_;refine Bj Bt ?_;refine Aw ?_;refine Aw ?_;refine DrawC.s (fun _ hs=>R_quo U (.no U) (Ah hs U) (hs.tm U) (hs.tm U) (fun _=>by omega)) ?_;refine Aw ?_;refine Aw ?_;refine DrawC.s (fun _ hs=>R_rem U (.no U) (Ah hs U) (hs.tm U) (hs.tm U) (fun _=>by omega)) ?_;refine DrawC.s (fun _ hs=>Bc (FnT.fr (specl14Steps g a ha hg ((i:Int) / (a.Accept.length:Int)) ((i:Int)%(a.Accept.length:Int)) v (by omega) hv (by omega))) U (.no U) (Ah hs U) (.cons (hs.tm U) (readA_sup hs U) (.cons (hs.tm U) (readA_sup hs U) (.cons (hs.tm U) (readA_sup hs U) (.cons (hs.tm U) (readA_sup hs U) .nil))))) ?_;refine DrawC.s (fun _ hs=>Da U (.no U) (Ah hs U) (hs.tm U)) ?_
   refine DrawC.fin U U ?_;refine Aa (Ae (Ae (Ar (Av [2,3,4,5,6,7,8,9] [16]) ?_)));refine Ac (Ak ?_);refine Aa (AW.block (Cz (fun (k:Nat) (m:Nat)=>(k≤(nxN g a i).length∧m<2^60)∧m=wB ((nxN g a i).take k)) (fun (k:Nat) (m:Nat)=>⟨_,[(10,(true,.a (.one (.t (.v (.int .i64 (k:Nat))))))),(8,(true,.a (.one (.t (.v (.int .i64 (m:Nat))))))),(2,_),(3,_),(4,_),(5,_),(6,_),(7,_),(9,_)],[(16,.row 1 (((List.range i).map fun p=>((wB (nxN g a p):Nat):Int)).map cInt))]⟩) (fun (k:Nat) (m:Nat)=>(nxN g a i).length-k) (0) (0) ⟨⟨Nat.zero_le _,by decide⟩,U⟩ (Ap U ⟨U,U,U,U,U,U,U,U,U,Y⟩ ⟨(by refine congrArg (fun r=>some (R.row 1 r)) ?_;first|rfl|(rw [hie];rfl)|(simp;done)),Y⟩) ?_))
   rintro k m ⟨hk1,he1⟩
   refine Ae (Af (Ab ?_));refine Ab ?_;refine Be (.t) Tryz.underlying72 ?_;refine AWl.lt ?_;refine Aa (Ai (.tm U) (fun h45=>?_) (fun h45=>?_))
   · try simp only [bit_at,bit_zero,shr_zero] at h45
     try simp only [Int.toNat_natCast] at h45
     try simp at h45
     obtain⟨z,hz⟩:∃ ξ,(stepsOf g a ((i:Int) / (a.Accept.length:Int)) ((i:Int)%(a.Accept.length:Int)))[k]?=some ξ:=⟨_,List.getElem?_eq_getElem (by omega)⟩
     have hzk:(nxN g a i)[k]?=some (z.Node*(a.Accept.length:Int)+z.State):=by rw [hnx,List.getElem?_map,hz];rfl
     have hzo:=steps_ok ha hg hv (by omega) z (List.mem_of_getElem? hz)
     have hkk:0≤z.Node*(a.Accept.length:Int)+z.State∧z.Node*(a.Accept.length:Int)+z.State<60:=by (have:=hni _ (List.mem_of_getElem? hzk);omega)
     have hzm:0≤z.Node*(a.Accept.length:Int):=Int.mul_nonneg hzo.1 (by omega)
     have h2x:2^(z.Node*(a.Accept.length:Int)+z.State).toNat≤576460752303423488:=Nat.le_trans (Nat.pow_le_pow_right (n:=2) (by omega) (show (z.Node*(a.Accept.length:Int)+z.State).toNat≤59 by omega)) (by decide)
     have h2p:=Nat.two_pow_pos (z.Node*(a.Accept.length:Int)+z.State).toNat
     refine Aj (Ae (AW.block (B8 16 (nthB [[],[],[],[1,2],[1,2,3],[1,2,3,4],[],[1,2,3,4,5,6],[],[],[8,9],[8,9,10],[8,9,10,11],[1,2,3,4,5,6,7,8,9,10,11,12],[1,2,3,4,5,6,7,8,9,10,11,12,13],[0,1,2,3,4,5,6,7,8,9,10,11,12,13,14]]) (by kernel_rfl) (by kernel_rfl) (by kernel_rfl) ?_)));refine Aw ?_;refine Aw ?_;refine Aw ?_;refine DrawC.s (fun _ hs=>(by exact As U (.no U) (Ah hs U) (hs.tm U) (hs.tm U) Tryz.underlying72 ty77 (fun _=>⟨by omega,(by exact Al hz)⟩))) ?_;refine B9 fl77_1 ?_;refine Bj ty3 ?_;refine Aw ?_;refine DrawC.s (fun _ hs=>Dn U (.no U) (Ah hs U) (hs.tm U) (hs.tm U) (fun _=>by omega)) ?_;refine Aw ?_;refine Aw ?_;refine DrawC.s (fun _ hs=>(by exact As U (.no U) (Ah hs U) (hs.tm U) (hs.tm U) Tryz.underlying72 ty77 (fun _=>⟨by omega,(by exact Al hz)⟩))) ?_;refine B9 fl77_2 ?_;refine Bj ty3 ?_
     refine DrawC.s (fun _ hs=>C7 U (.no U) (Ah hs U) (hs.tm U) (hs.tm U) (fun _=>by omega)) ?_;refine DrawC.s (fun _ hs=>R_shlN U (.no U) (Ah hs U) (.const U) (hs.tm U) (fun _=>by omega)) ?_;refine DrawC.s (fun _ hs=>R_or_int U (.no U) (Ah hs U) (hs.tm U) (hs.tm U) (fun _=>by omega)) ?_;refine DrawC.fin U U ?_;refine Ag ?_;refine Aa (Ar (Av [2,3,4,5,6,7,8,9,10] [16]) ?_);refine Ac (Ab ?_);refine A8 ?_;refine Ag ?_;refine Aa ?_
     repeat (with_reducible refine Au ?_)
     refine Round2.next (k+1) (m|||2^(z.Node*(a.Accept.length:Int)+z.State).toNat) ⟨⟨by omega,or_pow_lt hk1.2 (by omega)⟩,by rw [wB_take hzk,he1]⟩ (by omega) (Ap rfl ⟨rfl,rfl,rfl,rfl,rfl,rfl,rfl,rfl,rfl,Y⟩ ⟨(by refine congrArg (fun r=>some (R.row 1 r)) ?_;first|rfl|(rw [List.range_succ,hmw];simp [chunk,cInt];done)|(exact (List.map_set (f:=cInt)).symm.trans (congrArg (List.map cInt) (wset h87)))|(rw [wstay (by simpa using h87)];done)|(rw [wend (by omega)];done)),Y⟩)
   try simp only [bit_at,bit_zero,shr_zero] at h45
   try simp only [Int.toNat_natCast] at h45
   try simp at h45
   have hmw:m=wB (nxN g a i):=by (rw [he1,List.take_of_length_le (by omega)])
   refine Bb (Ac (Ab ?_));refine Ab ?_;refine Ad (B7 (xs:=[.tmp 65]) (rows:=[cInt ((m:Nat):Int)]) U U U (.cons (.tm U) U U .nil) Tryz.underlying40 in3 U U (U)) U ?_;refine Bl (Bw U U U (.tm U) U (.tm U) (by exact .t) (by rfl) Tryz.underlying40 in3 U (by (simp [chunk];omega)) (by (unfold maxLen;simp [chunk];omega))) U ?_;refine Bq (Av [2,3,4,5,6,7,8,9,10,45,67] [16]) ?_;refine Ag ?_;refine Aa (Ac (Ab ?_));refine A8 ?_;refine Ag ?_;refine Aa ?_
   repeat (with_reducible refine Au ?_)
   refine Round1.next (i+1) ⟨by omega,Y⟩ (by omega) (Ap rfl ⟨rfl,rfl,rfl,rfl,rfl,rfl,Y⟩ ⟨(by refine congrArg (fun r=>some (R.row 1 r)) ?_;first|rfl|(rw [List.range_succ,hmw];simp [chunk,cInt];done)|(exact (List.map_set (f:=cInt)).symm.trans (congrArg (List.map cInt) (wset h87)))|(rw [wstay (by simpa using h87)];done)|(rw [wend (by omega)];done)),Y⟩)
 skip
 rw [hcm] at h30
 have hie:i=NP g a:=by (simp only [decide_eq_false_iff_not] at h30;omega)
 refine Bb (Ae (Ae (Ar (Av [2,3,4,5,6,7] [16]) ?_)));refine Ac (Ak ?_);refine Aa (AW.block (By (fun (K:Nat)=>(K≤NP g a)∧True) (fun (K:Nat)=>⟨_,[(11,(true,.a (.one (.t (.v (.int .i64 (K:Nat))))))),(6,(true,.a (.one (.rf 16)))),(4,_)],[(16,.row 1 (((List.range (NP g a)).map fun p=>((wK (nxN g a) K p:Nat):Int)).map cInt))]⟩) (fun (K:Nat)=>NP g a-K) (0) ⟨Nat.zero_le _,Y⟩ (Ap U ⟨U,U,U,Y⟩ ⟨(by refine congrArg (fun r=>some (R.row 1 r)) ?_;first|rfl|(rw [hie];rfl)|(simp;done)),Y⟩) ?_))
 rintro K ⟨hk2,he2⟩
 refine Ae (Af (Ab ?_));refine Ab ?_;refine Be (.rf U) Tryz.underlying40 ?_;refine AWl.lt ?_;refine Aa (Ai (.tm U) (fun h71=>?_) (fun h71=>?_))
 · try simp only [bit_at,bit_zero,shr_zero] at h71
   try simp only [Int.toNat_natCast] at h71
   try simp at h71
   have hKN:K<NP g a:=by omega
   refine Aj (Ae (AW.block (Af (Ak ?_))));refine Aa (AW.block (By (fun (q:Nat)=>(q≤NP g a)∧True) (fun (q:Nat)=>⟨_,[(12,(true,.a (.one (.t (.v (.int .i64 (q:Nat))))))),(6,(true,.a (.one (.rf 16)))),(4,_),(11,_)],[(16,.row 1 (((List.range (NP g a)).map fun p=>((if p<q then wK (nxN g a) (K+1) p else wK (nxN g a) K p:Nat):Int)).map cInt))]⟩) (fun (q:Nat)=>NP g a-q) (0) ⟨Nat.zero_le _,Y⟩ (Ap U ⟨U,U,U,U,Y⟩ ⟨(by refine congrArg (fun r=>some (R.row 1 r)) ?_;first|rfl|(rw [hie];rfl)|(simp;done)),Y⟩) ?_))
   rintro q ⟨hk3,he3⟩
   refine Ae (Af (Ab ?_));refine Ab ?_;refine Be (.rf U) Tryz.underlying40 ?_;refine AWl.lt ?_;refine Aa (Ai (.tm U) (fun h77=>?_) (fun h77=>?_))
   · try simp only [bit_at,bit_zero,shr_zero] at h77
     try simp only [Int.toNat_natCast] at h77
     try simp at h77
     have hqN:q<NP g a:=by omega
     have hgi:((List.range (NP g a)).map fun p=>((if p<q then wK (nxN g a) (K+1) p else wK (nxN g a) K p:Nat):Int))[q]?=some ((wK (nxN g a) K q:Nat):Int):=by (rw [range_get _ hqN];simp)
     have hgK:((List.range (NP g a)).map fun p=>((if p<q then wK (nxN g a) (K+1) p else wK (nxN g a) K p:Nat):Int))[K]?=some ((wK (nxN g a) K K:Nat):Int):=by (rw [range_get _ hKN];simp [wK_self])
     have hw1:=hwl K (by omega) q hqN
     have hw2:=hwl K (by omega) K hKN
     refine Aj (Ae (AW.block (Af (Ab ?_))));refine Ab ?_;refine Ad (Ax U (.no U) U (.tm U) U (.tm U) Tryz.underlying40 ty3 (fun _=>⟨by omega,(by exact Al hgi)⟩)) U ?_;refine Ad (Bu U (.no U) U (.tm U) U (by exact Al hgi) ty3 U U) U ?_;refine Ab ?_;refine Ad (R_shr U (.no U) U (.tm U) (.tm U) (fun _=>by omega)) U ?_;refine Ad (R_and1 U (.no U) U (.tm U) (.const U) (fun _=>by first|exact Int.natCast_nonneg _|omega)) U ?_;refine Bs ?_;refine Aa (Ai (.tm U) (fun h87=>?_) (fun h87=>?_))
     · try simp only [bit_at,bit_zero,shr_zero] at h87
       try simp only [Int.toNat_natCast] at h87
       try simp at h87
       refine Ar (Av [4,6,11,12] [16]) ?_;refine B8 12 (nthB [[],[],[],[],[2,3],[2,3,4],[],[],[6,7],[6,7,8],[2,3,4,5,6,7,8,9],[0,1,2,3,4,5,6,7,8,9,10]]) (by kernel_rfl) (by kernel_rfl) (by kernel_rfl) ?_;refine Aw ?_;refine Aw ?_;refine Aw ?_;refine Aw ?_;refine DrawC.s (fun _ hs=>(by exact Ax U (.no U) (Ah hs U) (hs.tm U) (hs.res _ _ U) (hs.tm U) Tryz.underlying40 ty3 (fun _=>⟨by omega,(by exact Al hgi)⟩))) ?_;refine DrawC.s (fun _ hs=>(by exact Bu U (.no U) (Ah hs U) (hs.tm U) (hs.res _ _ U) (by exact Al hgi) ty3 U U)) ?_;refine Aw ?_;refine Aw ?_;refine DrawC.s (fun _ hs=>(by exact Ax U (.no U) (Ah hs U) (hs.tm U) (hs.res _ _ U) (hs.tm U) Tryz.underlying40 ty3 (fun _=>⟨by omega,(by exact Al hgK)⟩))) ?_;refine DrawC.s (fun _ hs=>(by exact Bu U (.no U) (Ah hs U) (hs.tm U) (hs.res _ _ U) (by exact Al hgK) ty3 U U)) ?_
       refine DrawC.s (fun _ hs=>R_or_int U (.no U) (Ah hs U) (hs.tm U) (hs.tm U) (fun _=>by omega)) ?_;refine DrawC.s (fun _ hs=>(by exact Ax U (.no U) (Ah hs U) (hs.tm U) (hs.res _ _ U) (hs.tm U) Tryz.underlying40 ty3 (fun _=>⟨by omega,(by exact Al hgi)⟩))) ?_;refine DrawC.fin U U ?_;refine Ch (Cn U U U (.tm U) U (.tm U) U (by exact Al hgi) ty3 U U U U) ?_;refine Aa (Ar (Av [4,6,11,12] [16]) ?_);refine Ac (Ab ?_);refine A8 ?_;refine Ag ?_;refine Aa ?_
       repeat (with_reducible refine Au ?_)
       refine Round1.next (q+1) ⟨by omega,Y⟩ (by omega) (Ap rfl ⟨rfl,rfl,rfl,rfl,Y⟩ ⟨(by refine congrArg (fun r=>some (R.row 1 r)) ?_;first|rfl|(rw [List.range_succ,hmw];simp [chunk,cInt];done)|(exact (List.map_set (f:=cInt)).symm.trans (congrArg (List.map cInt) (wset h87)))|(rw [wstay (by simpa using h87)];done)|(rw [wend (by omega)];done)),Y⟩)
     try simp only [bit_at,bit_zero,shr_zero] at h87
     try simp only [Int.toNat_natCast] at h87
     try simp at h87
     refine Aj (Ar (Av [4,6,11,12] [16]) ?_);refine Ac (Ab ?_);refine A8 ?_;refine Ag ?_;refine Aa ?_
     repeat (with_reducible refine Au ?_)
     refine Round1.next (q+1) ⟨by omega,Y⟩ (by omega) (Ap rfl ⟨rfl,rfl,rfl,rfl,Y⟩ ⟨(by refine congrArg (fun r=>some (R.row 1 r)) ?_;first|rfl|(rw [List.range_succ,hmw];simp [chunk,cInt];done)|(exact (List.map_set (f:=cInt)).symm.trans (congrArg (List.map cInt) (wset h87)))|(rw [wstay (by simpa using h87)];done)|(rw [wend (by omega)];done)),Y⟩)
   try simp only [bit_at,bit_zero,shr_zero] at h77
   try simp only [Int.toNat_natCast] at h77
   try simp at h77
   refine Bb (Ac (Ab ?_));refine A8 ?_;refine Ag ?_;refine Aa ?_
   repeat (with_reducible refine Au ?_)
   refine Round1.next (K+1) ⟨by omega,Y⟩ (by omega) (Ap rfl ⟨rfl,rfl,rfl,Y⟩ ⟨(by refine congrArg (fun r=>some (R.row 1 r)) ?_;first|rfl|(rw [List.range_succ,hmw];simp [chunk,cInt];done)|(exact (List.map_set (f:=cInt)).symm.trans (congrArg (List.map cInt) (wset h87)))|(rw [wstay (by simpa using h87)];done)|(rw [wend (by omega)];done)),Y⟩)
 try simp only [bit_at,bit_zero,shr_zero] at h71
 try simp only [Int.toNat_natCast] at h71
 try simp at h71
 refine Bb (Af (Ab ?_));refine Ag ?_;refine Aa (Am (Res.one U (.tmp U .nil) U ?_))
 rw [show K=NP g a by omega];rfl
end Go.Proofs.YtbecibmlbiebeaaGreat
