import Derived.Test.YtbecibmlbiebeaaGreatB24xa
set_option linter.unusedVariables false
set_option linter.unusedSimpArgs false
set_option maxHeartbeats 1000000
set_option maxRecDepth 100000
namespace Go.Q
open Go.D
theorem cntRep_le {rel:Nat→Nat→Bool} (i:Nat):cntRep rel i≤i:=by
 unfold cntRep
 exact Nat.le_trans List.countP_le_length (by simp)
theorem cnt_max {rel:Nat→Nat→Bool} (ht:∀ a b c,rel a b=true→rel b c=true→rel a c=true) (i:Nat):max ((cntRep rel i:Int)-1) ((numOf rel i:Nat):Int)=(cntRep rel (i+1):Int)-1:=by
 have h:=cntRep_succ (rel:=rel) i
 cases hr:isRep rel i with
 | true=>rw [hr,if_pos rfl] at h;rw [numOf_rep hr,h];omega
 | false=>
  have h2:=numOf_lt ht i
  rw [hr] at h
  simp only [Bool.false_eq_true,if_false,Nat.add_zero] at h
  rw [h] at h2 ⊢
  omega
theorem numOf_same {rel:Nat→Nat→Bool} (hs:∀ a b,rel a b=true→rel b a=true) (ht:∀ a b c,rel a b=true→rel b c=true→rel a c=true) {i p:Nat} (h:rel i p=true) (hp:p<i):numOf rel i=numOf rel p:=by
 unfold numOf
 rw [repOf_same hs ht h hp]
theorem wK_congr {nx nx':Nat→List Int} {N:Nat} (he:∀ p,p<N→nx p=nx' p):∀ (K i:Nat),K≤N→i<N→wK nx K i=wK nx' K i
 | 0,i,_,hi=>by rw [wK,wK,he i hi]
 | K+1,i,hK,hi=>by rw [wK,wK,wK_congr he K i (by omega) hi,wK_congr he K K (by omega) (by omega)]
theorem wB_take {l:List Int} {k:Nat} {x:Int} (h:l[k]?=some x):wB (l.take (k+1))=wB (l.take k)|||2^x.toNat:=by
 unfold wB
 rw [take_at h,List.foldl_append];rfl
theorem wset {nx:Nat→List Int} {N K i:Nat} (h:(wK nx K i).testBit K=true):((List.range N).map fun p=>((if p<i then wK nx (K+1) p else wK nx K p:Nat):Int)).set i ((wK nx K i|||wK nx K K:Nat):Int)=(List.range N).map fun p=>((if p<i+1 then wK nx (K+1) p else wK nx K p:Nat):Int):=by
 rw [range_set]
 apply List.map_congr_left;intro p _
 by_cases e:p=i
 · subst e
   rw [if_pos rfl,if_pos (by omega),wK,if_pos h]
 · rw [if_neg e]
   by_cases h2:p<i
   · rw [if_pos h2,if_pos (by omega)]
   · rw [if_neg h2,if_neg (by omega)]
theorem wstay {nx:Nat→List Int} {N K i:Nat} (h:(wK nx K i).testBit K=false):((List.range N).map fun p=>((if p<i then wK nx (K+1) p else wK nx K p:Nat):Int))=(List.range N).map fun p=>((if p<i+1 then wK nx (K+1) p else wK nx K p:Nat):Int):=by
 apply List.map_congr_left;intro p _
 by_cases e:p=i
 · subst e
   rw [if_neg (by omega),if_pos (by omega),wK,if_neg (by rw [h];simp)]
 · by_cases h2:p<i
   · rw [if_pos h2,if_pos (by omega)]
   · rw [if_neg h2,if_neg (by omega)]
theorem wend {nx:Nat→List Int} {N K i:Nat} (h:N≤i):((List.range N).map fun p=>((if p<i then wK nx (K+1) p else wK nx K p:Nat):Int))=(List.range N).map fun p=>((wK nx (K+1) p:Nat):Int):=by
 apply List.map_congr_left;intro p hp
 have:=List.mem_range.1 hp
 rw [if_pos (by omega)]
def rB (next:List (List Int)) (i k:Nat):Bool:=decide (0≤atI (spreadOf (nxL next) next.length (ascL (nxL next i))) (k:Int))
def reachM (next:List (List Int)):List (List Bool):=(List.range next.length).map fun i=>(spreadOf (nxL next) next.length (ascL (nxL next i))).map fun d=>decide (0≤d)
theorem mem_ascL {l:List Int} {x:Int}:x∈ascL l↔x∈l:=mem_setG
theorem rB_eq {next:List (List Int)} (hn:∀ p,p<next.length→∀ k∈nxL next p,0≤k∧k<next.length) {i k:Nat} (hi:i<next.length) (hk:k<next.length):rB next i k=(wK (nxL next) next.length i).testBit k:=by
 have hn0:∀ p,∀ k∈nxL next p,0≤k:=fun p k hk=>by
  by_cases hp:p<next.length
  · exact (hn p hp k hk).1
  · unfold nxL at hk;rw [List.getElem?_eq_none (by omega)] at hk;cases hk
 have h1:=spread_vis hn (l:=ascL (nxL next i)) (fun q hq=>hn i hi q (mem_ascL.1 hq)) (j:=(k:Int))
 have h2:=wK_full hn0 (fun p hp q hq=>(hn p hp q hq).2) hi (j:=k)
 have hl:=(spread_ok hn (l:=ascL (nxL next i)) (fun q hq=>hn i hi q (mem_ascL.1 hq))).1
 rw [Bool.eq_iff_iff,h2]
 unfold rB R1
 rw [decide_eq_true_eq]
 have h3:Rch (nxL next) (·∈ascL (nxL next i)) (k:Int)↔Rch (nxL next) (·∈nxL next i) (k:Int):=⟨Rch.mono fun q hq=>.base (mem_ascL.1 hq),Rch.mono fun q hq=>.base (mem_ascL.2 hq)⟩
 rw [←h3,←h1]
 unfold visI
 rw [hl]
 constructor
 · intro h;exact⟨by omega,by omega,h⟩
 · intro h;exact h.2.2
theorem reachM_at {next:List (List Int)} (hn:∀ p,p<next.length→∀ k∈nxL next p,0≤k∧k<next.length) {i:Nat} (hi:i<next.length):∃ row,(reachM next)[i]?=some row∧∀ k,k<next.length→row[k]?=some (rB next i k):=by
 refine⟨_,by unfold reachM;exact range_get _ hi,fun k hk=>?_⟩
 have hl:=(spread_ok hn (l:=ascL (nxL next i)) (fun q hq=>hn i hi q (mem_ascL.1 hq))).1
 rw [List.getElem?_map,show (spreadOf (nxL next) next.length (ascL (nxL next i)))[k]?=some (atI _ (k:Int)) from atI_get (k:=(k:Int)) (by rw [hl];simpa using hk)]
 rfl
def compRow (rel:Nat→Nat→Bool) (N i k:Nat):List Int:=(List.range N).map fun p=>if repOf rel p<i then ((numOf rel p:Nat):Int) else if p<k∧(p=i∨(i<p∧rel i p=true)) then ((cntRep rel i:Nat):Int) else -1
section
variable {rel:Nat→Nat→Bool} {N i k:Nat}
theorem repOf_at (hs:∀ a b,rel a b=true→rel b a=true) (ht:∀ a b c,rel a b=true→rel b c=true→rel a c=true) (hi:repOf rel i=i) {p:Nat} (h:p=i∨(i<p∧rel i p=true)):repOf rel p=i:=by
 rcases h with rfl|⟨h1,h2⟩
 · exact hi
 · rw [repOf_same hs ht (hs _ _ h2) h1,hi]
theorem compRow_skip (ht:∀ a b c,rel a b=true→rel b c=true→rel a c=true) (hi:repOf rel i<i):compRow rel N i i=compRow rel N (i+1) (i+1):=by
 apply List.map_congr_left;intro p _
 have hne:repOf rel p≠i:=fun e=>by
  have h1:=repOf_rep ht p
  rw [e] at h1
  rcases repOf_spec (rel:=rel) i with ⟨_,h2⟩|⟨h2,h3,_⟩
  · omega
  · rw [isRep_iff.1 h1 _ h2] at h3;cases h3
 by_cases h:repOf rel p<i
 · rw [if_pos h,if_pos (by omega)]
 · rw [if_neg h,if_neg (by omega),if_neg (by omega),if_neg (by omega)]
theorem compRow_set (hs:∀ a b,rel a b=true→rel b a=true) (ht:∀ a b c,rel a b=true→rel b c=true→rel a c=true) (hi:repOf rel i=i) (h:k=i∨(i<k∧rel i k=true)):(compRow rel N i k).set k ((cntRep rel i:Nat):Int)=compRow rel N i (k+1):=by
 unfold compRow
 rw [range_set]
 apply List.map_congr_left;intro p _
 by_cases e:p=k
 · subst e
   have:=repOf_at hs ht hi h
   rw [if_pos rfl,if_neg (by omega),if_pos ⟨by omega,h⟩]
 · rw [if_neg e]
   have:p<k+1↔p<k:=by omega
   simp only [this]
theorem compRow_stay (h:¬ (k=i∨(i<k∧rel i k=true))):compRow rel N i k=compRow rel N i (k+1):=by
 apply List.map_congr_left;intro p _
 by_cases e:p=k
 · subst e
   have h1:¬ (p<p∧(p=i∨i<p∧rel i p=true)):=fun h=>by omega
   have h2:¬ (p<p+1∧(p=i∨i<p∧rel i p=true)):=fun h'=>h h'.2
   rw [if_neg h1,if_neg h2]
 · have:p<k+1↔p<k:=by omega
   simp only [this]
theorem compRow_next (hs:∀ a b,rel a b=true→rel b a=true) (ht:∀ a b c,rel a b=true→rel b c=true→rel a c=true) (hi:repOf rel i=i) (hk:N≤k):compRow rel N i k=compRow rel N (i+1) (i+1):=by
 apply List.map_congr_left;intro p hp
 have hp:=List.mem_range.1 hp
 by_cases h:repOf rel p<i
 · rw [if_pos h,if_pos (by omega)]
 · rw [if_neg h]
   by_cases h2:p=i∨(i<p∧rel i p=true)
   · have h3:=repOf_at hs ht hi h2
     rw [if_pos ⟨by omega,h2⟩,if_pos (by omega)]
     unfold numOf;rw [h3]
   · have h3:repOf rel p≠i:=fun e=>by
      rcases repOf_spec (rel:=rel) p with ⟨_,g⟩|⟨g1,g2,_⟩
      · exact h2 (.inl (g.symm.trans e))
      · rw [e] at g1 g2;exact h2 (.inr ⟨g1,hs _ _ g2⟩)
     have h4:¬ (p<k∧(p=i∨i<p∧rel i p=true)):=fun h'=>h2 h'.2
     have h5:¬ (p<i+1∧(p=i+1∨i+1<p∧rel (i+1) p=true)):=fun h'=>by omega
     rw [if_neg h4,if_neg (by omega),if_neg h5]
theorem compRow_end (hN:N≤i):compRow rel N i i=(List.range N).map fun p=>((numOf rel p:Nat):Int):=by
 apply List.map_congr_left;intro p hp
 have hp:=List.mem_range.1 hp
 have:=repOf_le (rel:=rel) p
 rw [if_pos (by omega)]
end
def relN (next:List (List Int)) (i k:Nat):Bool:=(wK (nxL next) next.length i).testBit k&&(wK (nxL next) next.length k).testBit i
theorem relN_symm (next:List (List Int)) (a b:Nat) (h:relN next a b=true):relN next b a=true:=by
 unfold relN at *
 rw [Bool.and_comm];exact h
theorem relN_trans {next:List (List Int)} (hn:∀ p,p<next.length→∀ k∈nxL next p,0≤k∧k<next.length) (a b c:Nat) (h1:relN next a b=true) (h2:relN next b c=true):relN next a c=true:=by
 have hn0:∀ p,∀ k∈nxL next p,0≤k∧k<next.length:=fun p k hk=>by
  by_cases hp:p<next.length
  · exact hn p hp k hk
  · unfold nxL at hk;rw [List.getElem?_eq_none (by omega)] at hk;cases hk
 unfold relN at *
 simp only [Bool.and_eq_true] at *
 have hb:b<next.length:=by
  have h3:=wK_sound (fun p k hk=>(hn0 p k hk).1) _ _ _ h1.1
  unfold R1 at h3
  cases h3 with
  | base h=>have:=hn0 _ _ h;omega
  | step _ h=>have:=hn0 _ _ h;omega
 exact⟨wK_trans _ _ b a c hb h1.1 h2.1,wK_trans _ _ b c a hb h2.2 h1.2⟩
end Go.Q
namespace Go.Proofs.YtbecibmlbiebeaaGreat
open Go.RowKit Go.Q Go.D
theorem implreachable (next:List (List Int)) (hN:1≤next.length∧next.length≤65536) (hn:∀ p,p<next.length→∀ k∈nxL next p,0≤k∧k<next.length) (hz:∀ p,p<next.length→(nxL next p).length≤65536):FnT Tryz.prog 93 [.one (.sl 1 (next.map cIntS))] (.a (.one (.sl 1 ((reachM next).map cBoolS)))):=by
 refine Ba Tryz.func93 U (by kernel_rfl) Tryz.ntmps93 U fun hlen w0=>?_
 try simp [cEdge,cGraph,cAutomaton] at hlen
 have hrl:(reachM next).length=next.length:=by unfold reachM;simp
 refine Ah (Av ?_);refine Bw (i:=2) 20001 1 U U ?_;refine Aa (Ah (Bh (Cp 9 U U U Tryz.underlying131 Dc U) U ?_));refine Ak ?_;refine Aa (Af (Ah (Ac ?_)));refine Ab (Bd U (.no U) U (.tm U) (by exact .t) Tryz.underlying34) U ?_;refine Ab (Ar U (.no U) U (.const U)) U ?_;refine Aa (AW.block (Bs (fun (i:Nat)=>(i≤next.length)∧True) (fun (i:Nat)=>⟨_,[(12,(true,.a (.one (.t (.v (.int .i64 (i:Nat))))))),(3,(true,.a (.one (.rf 9)))),(0,_),(2,_),(10,_),(11,_)],[(9,.row 1 (((reachM next).take i).map cBoolS))]⟩) (fun (i:Nat)=>next.length-i) (0) ⟨Nat.zero_le _,Y⟩ Ai ?_))
 rintro i ⟨hk,he⟩
 refine Ah (Ab (Bz U (.no U) U (.tm U) (.tm U)) U ?_);refine Aa (Af (Aq (.tm U) (fun h13=>?_) (fun h13=>?_)))
 · try simp at h13
   obtain⟨l,hl⟩:∃ ξ,next[i]?=some ξ:=⟨_,List.getElem?_eq_getElem (by omega)⟩
   have hln:=nxL_at hl
   have hzl:l.length≤65536:=by (rw [←hln];exact hz i (by omega))
   have hal:(ascL l).length≤65536:=Nat.le_trans (setG_len _) hzl
   have har:∀ q∈ascL l,0≤q∧q<(next.length:Int):=fun q hq=>hn i (by omega) q (by rw [hln];exact mem_ascL.1 hq)
   have hso:=spread_ok hn har
   have hrow:(reachM next)[i]?=some ((spreadOf (nxL next) next.length (ascL l)).map fun d=>decide (0≤d)):=by (unfold reachM;rw [range_get _ (by omega),hln])
   refine As (Af (AW.block (Ah (Ab (Aw U (.no U) U (.tm U) (.tm U) Tryz.underlying34 By (fun _=>⟨by omega,(by exact Ax hl)⟩)) U ?_))));refine Ab (Ap U (.no U) U (.tm U) By U U) U ?_;refine Ak ?_;refine Aa (Ah (Bh (Cp 16 U U U Tryz.underlying33 ty4 U) U ?_));refine Ak ?_;refine Aa (Af (Ah (Ac ?_)));refine Ac ?_;refine Ab (A6 (FnT.fr (implascending l (by omega))) U (.no U) U (.cons (.tm U) U .nil)) U ?_;refine Ab (A6 (FnT.fr (implspread next (ascL l) hN hn (fun p hp=>Nat.le_trans (hz p hp) (by omega)) har hal)) U (.no U) U (.cons (.tm U) U (.cons (.tm U) U .nil))) U ?_;refine Ab (Bd U (.no U) U (.tm U) (by exact .t) Tryz.underlying40) U ?_;refine Ab (Ar U (.no U) U (.const U)) U ?_
   refine Aa (AW.block (Bs (fun (j:Nat)=>(j≤next.length)∧True) (fun (j:Nat)=>⟨_,[(22,(true,.a (.one (.t (.v (.int .i64 (j:Nat))))))),(6,(true,.a (.one (.rf 16)))),(0,_),(2,_),(3,_),(10,_),(11,_),(12,_),(20,_),(21,_)],[(16,.row 1 ((((spreadOf (nxL next) next.length (ascL l)).take j).map fun d=>decide (0≤d)).map cBool)),(9,.row 1 (((reachM next).take i).map cBoolS))]⟩) (fun (j:Nat)=>next.length-j) (0) ⟨Nat.zero_le _,Y⟩ Ai ?_))
   rintro j ⟨hk1,he1⟩
   refine Ah (Ab (Bz U (.no U) U (.tm U) (.tm U)) U ?_);refine Aa (Af (Aq (.tm U) (fun h23=>?_) (fun h23=>?_)))
   · try simp at h23
     obtain⟨d,hd0⟩:∃ ξ,(spreadOf (nxL next) next.length (ascL l))[j]?=some ξ:=⟨_,List.getElem?_eq_getElem (by omega)⟩
     refine As (Af (AW.block (Ah (Ab (Aw U (.no U) U (.tm U) (.tm U) Tryz.underlying40 ty3 (fun _=>⟨by omega,(by exact Ax hd0)⟩)) U ?_))));refine Ab (Ap U (.no U) U (.tm U) ty3 U U) U ?_;refine Ak ?_;refine Aa (Ae (Ac ?_));refine Ac ?_;refine Ab (R_ge U (.no U) U (.tm U) (.const U)) U ?_;refine Ab (B6 (xs:=[.tmp 28]) (rows:=[cBool (decide (0≤d))]) U U U (.cons (.tm U) U U .nil) Tryz.underlying33 in4 U U (U)) U ?_;refine Bk (Bt U U U (.tm U) U (.tm U) (by exact .t) (by rfl) Tryz.underlying33 in4 U (by (simp [chunk];omega)) (by (unfold maxLen;simp [chunk];omega))) U ?_;refine Bq (σ':=⟨_,[(0,_),(2,_),(3,_),(6,_),(8,_),(10,_),(11,_),(12,_),(20,_),(21,_),(22,_),(23,_),(30,_)],[(16,_),(9,_)]⟩) Ai ?_;refine Ak ?_;refine Aa (Ae (Ab (Be U (.no U) U (.tm U) (.const U) (fun _=>by omega)) U ?_));refine Ac ?_;refine Aa ?_
     repeat (with_reducible refine Az ?_)
     refine Round1.next (j+1) ⟨by omega,Y⟩ (by omega) (An rfl ⟨rfl,rfl,rfl,rfl,rfl,rfl,rfl,rfl,rfl,rfl,Y⟩ ⟨(by refine congrArg (fun r=>some (R.row 1 r)) ?_;rw [take_at hd0];simp [chunk]),(by refine congrArg (fun r=>some (R.row 1 r)) ?_;first|rfl|(rw [take_at hrow,List.take_of_length_le (l:=spreadOf (nxL next) next.length (ascL l)) (by omega)];simp [cBoolS,chunk];done)),Y⟩)
   · try simp at h23
     refine Bf (Ae (Ac ?_));refine Ac ?_;refine Bp (Cc (xs:=[.tmp 33]) 34 U U U (.cons (.tm U) U U .nil) Tryz.underlying131 in33 U U U U) U ?_;refine AWl.abschgput (R_append_own U U U (.tm U) U (.tm U) U U Tryz.underlying131 in33 U (by (simp [chunk];omega)) (by (unfold maxLen;simp [chunk];omega))) U ?_;refine Bq (σ':=⟨_,[(0,_),(2,_),(3,_),(6,_),(10,_),(11,_),(12,_),(20,_),(21,_),(22,_),(23,_),(35,_)],[(9,_)]⟩) Ai ?_;refine Ak ?_;refine Aa (Ae (Ab (Be U (.no U) U (.tm U) (.const U) (fun _=>by omega)) U ?_));refine Ac ?_;refine Aa ?_
     repeat (with_reducible refine Az ?_)
     refine Round1.next (i+1) ⟨by omega,Y⟩ (by omega) (An rfl ⟨rfl,rfl,rfl,rfl,rfl,rfl,Y⟩ ⟨(by refine congrArg (fun r=>some (R.row 1 r)) ?_;first|rfl|(rw [take_at hrow,List.take_of_length_le (l:=spreadOf (nxL next) next.length (ascL l)) (by omega)];simp [cBoolS,chunk];done)),Y⟩)
 · try simp at h13
   refine Bf (Ah (Ac ?_));refine Ak ?_;refine Aa (A3 (Res.one U (.tmp U .nil) U ?_))
   rw [List.take_of_length_le (by omega)];rfl
theorem implcomponents (next:List (List Int)) (hN:1≤next.length∧next.length≤65536) (hn:∀ p,p<next.length→∀ k∈nxL next p,0≤k∧k<next.length) (hz:∀ p,p<next.length→(nxL next p).length≤65536):FnT Tryz.prog 107 [.one (.sl 1 (next.map cIntS))] (.a (.one (.sl 1 (((List.range next.length).map fun p=>((numOf (relN next) p:Nat):Int)).map cInt)))):=by
 refine Ba Tryz.func107 U (by kernel_rfl) Tryz.ntmps107 U fun hlen w0=>?_
 try simp [cEdge,cGraph,cAutomaton] at hlen
 have hs:=relN_symm next
 have ht:=relN_trans hn
 refine Ah (Av ?_);refine Bw (i:=2) 20001 1 U U ?_;refine Aa (Ah (Ac ?_));refine Ab (A6 (FnT.fr (implreachable next hN hn hz)) U (.no U) U (.cons (.tm U) U .nil)) U ?_;refine Ak ?_;refine Aa (Ah (Ab (B6 (xs:=[.const (.int .i64 (-1))]) (rows:=[cInt (-1)]) U U U (.cons (.const U) U U .nil) Tryz.underlying40 in3 U U (U)) U ?_));refine Ac ?_;refine Ab (Bd U (.no U) U (.tm U) (by exact .t) Tryz.underlying34) U ?_;refine B8 (Cl 1300 (slicesRepeat1 (-1) next.length hN.1 hN.2) U U U (.cons (.tm U) U (.cons (.tm U) U .nil)) U U) U ?_;refine Ak ?_;refine Aa (Af (A4 (σ':=⟨_,[(0,_),(2,_),(3,_),(4,_)],[(20001,_),(1300,_)]⟩) Ai ?_));refine Ae (Av ?_);refine Aa (Af (Ah (Ac ?_)));refine Ab (Bd U (.no U) U (.tm U) (by exact .t) Tryz.underlying34) U ?_;refine Ab (Ar U (.no U) U (.const U)) U ?_
 refine Aa (AW.block (Cj (fun (i:Nat) (n:Nat)=>(i≤next.length∧n=cntRep (relN next) i)∧True) (fun (i:Nat) (n:Nat)=>⟨_,[(16,(true,.a (.one (.t (.v (.int .i64 (i:Nat))))))),(5,(true,.a (.one (.t (.v (.int .i64 (n:Nat))))))),(0,_),(2,_),(3,_),(4,_),(15,_)],[(1300,.row 1 ((compRow (relN next) next.length i i).map cInt))]⟩) (fun (i:Nat) (n:Nat)=>next.length-i) (0) (0) ⟨⟨Nat.zero_le _,U⟩,Y⟩ (An U ⟨U,U,U,U,U,U,U,Y⟩ ⟨(by refine congrArg (fun r=>some (R.row 1 r)) ?_;first|rfl|(unfold compRow;apply List.ext_getElem<;>simp;done)),Y⟩) ?_))
 rintro i n ⟨hk,he⟩
 refine Ah (Ab (Bz U (.no U) U (.tm U) (.tm U)) U ?_);refine Aa (Af (Aq (.tm U) (fun h17=>?_) (fun h17=>?_)))
 · try simp at h17
   have hcl:=cntRep_le (rel:=relN next) i
   have hgi:(compRow (relN next) next.length i i)[i]?=some (if repOf (relN next) i<i then ((numOf (relN next) i:Nat):Int) else -1):=by (unfold compRow;rw [range_get _ (by omega)];congr 1;split;rfl;rw [if_neg (by omega)])
   refine As (Af (AW.block (Ah (Ac ?_))));refine Ak ?_;refine Aa (Af (Ah (Ac ?_)));refine Ac ?_;refine Ab (A9 U (.no U) U (.tm U) U (.tm U) Tryz.underlying40 ty3 (fun _=>⟨by omega,(by exact Ax hgi)⟩)) U ?_;refine Ab (Bv U (.no U) U (.tm U) U (by exact Ax hgi) ty3 U U) U ?_;refine Ab (R_ge U (.no U) U (.tm U) (.const U)) U ?_;refine Aa (Aq (.tm U) (fun h23=>?_) (fun h23=>?_))
   · try simp at h23
     have hri:repOf (relN next) i<i:=by (by_cases h:repOf (relN next) i<i;exact h;(rw [if_neg h] at h23;omega))
     have hnr:isRep (relN next) i=false:=by (rcases repOf_spec (rel:=relN next) i with ⟨_,h⟩|⟨h1,h2,_⟩;omega;(cases hr:isRep (relN next) i with|false=>rfl|true=>(rw [isRep_iff.1 hr _ h1] at h2;cases h2)))
     refine Bf (A4 (σ':=⟨_,[(0,_),(2,_),(3,_),(4,_),(5,_),(6,_),(15,_),(16,_)],[(1300,_)]⟩) Ai ?_);refine Ae (Ab (Be U (.no U) U (.tm U) (.const U) (fun _=>by omega)) U ?_);refine Ac ?_;refine Aa ?_
     repeat (with_reducible refine Az ?_)
     refine Round2.next (i+1) (n) ⟨⟨by omega,by rw [hk.2,cntRep_succ,hnr];rfl⟩,Y⟩ (by omega) (An rfl ⟨rfl,rfl,rfl,rfl,rfl,rfl,rfl,Y⟩ ⟨(by refine congrArg (fun r=>some (R.row 1 r)) ?_;first|(rw [←compRow_set hs ht hyr.2 hsel,hk.2];simp [List.map_set,cInt];done)|(rw [←compRow_stay hsel];done)|(rw [compRow_skip ht hri];done)|(rw [compRow_next hs ht hyr.2 (by omega)];done)),Y⟩)
   · try simp at h23
     have hri:¬ repOf (relN next) i<i:=fun h=>by (rw [if_pos h] at h23;omega)
     have hyr:isRep (relN next) i=true∧repOf (relN next) i=i:=by (rcases repOf_spec (rel:=relN next) i with h|⟨h1,_,_⟩;exact h;omega)
     refine As (Af (Af (A4 (σ':=⟨_,[(0,_),(2,_),(3,_),(4,_),(5,_),(6,_),(15,_),(16,_)],[(1300,_)]⟩) Ai ?_)));refine Ae (Ac ?_);refine Ak ?_;refine Aa (AW.block (Bs (fun (k:Nat)=>(i≤k∧k≤next.length)∧True) (fun (k:Nat)=>⟨_,[(7,(true,.a (.one (.t (.v (.int .i64 (k:Nat))))))),(0,_),(2,_),(3,_),(4,_),(5,_),(6,_),(15,_),(16,_)],[(1300,.row 1 ((compRow (relN next) next.length i k).map cInt))]⟩) (fun (k:Nat)=>next.length-k) (i) ⟨⟨Nat.le_refl _,by omega⟩,Y⟩ (An U ⟨U,U,U,U,U,U,U,U,U,Y⟩ ⟨(by refine congrArg (fun r=>some (R.row 1 r)) ?_;first|rfl|(unfold compRow;apply List.ext_getElem<;>simp;done)),Y⟩) ?_))
     rintro k ⟨hk1,he1⟩
     refine Af (Ah (Ac ?_));refine Ac ?_;refine Ab (Bd U (.no U) U (.tm U) (by exact .t) Tryz.underlying34) U ?_;refine Ab (Bz U (.no U) U (.tm U) (.tm U)) U ?_;refine Aa (Aq (.tm U) (fun h28=>?_) (fun h28=>?_))
     · try simp at h28
       obtain⟨ri,hri1,hri2⟩:=reachM_at hn (i:=i) (by omega)
       obtain⟨rk,hrk1,hrk2⟩:=reachM_at hn (i:=k) (by omega)
       have hb1:=hri2 k (by omega)
       have hb2:=hrk2 i (by omega)
       have hrel:relN next i k=(rB next i k&&rB next k i):=by (rw [rB_eq hn (by omega) (by omega),rB_eq hn (by omega) (by omega)];rfl)
       obtain⟨ok,hok⟩:∃ ξ,(compRow (relN next) next.length i k)[k]?=some ξ:=⟨_,List.getElem?_eq_getElem (by unfold compRow;simp;omega)⟩
       refine As (Af (AW.block (Ah (Ac ?_))));refine Ac ?_;refine Ab (B7 U (.no U) U (.tm U) (.tm U)) U ?_;refine Ac ?_;refine Ab (Ar U (by exact .not1 U U U U) U (.tmp U (by exact fun _=>rfl))) U ?_;refine Ab (Ar U (by exact .not1 U U U U) U (.tmp U (by exact fun _=>rfl))) U ?_;refine Ab (by exact Aw U (by exact .not1 U U U U) U (.tmp U (by exact id)) (.tmp U (by exact id)) Tryz.underlying131 Dc (fun hq=>by (try simp at hq);exact⟨by omega,(by exact Ax hri1)⟩)) U ?_;refine Ab (Ap U (by exact .not1 U U U U) U (.tmp U (by exact id)) Dc U U) U ?_;refine Ab (Ar U (by exact .not1 U U U U) U (.tmp U (by exact fun _=>rfl))) U ?_;refine Ab (by exact Aw U (by exact .not1 U U U U) U (.tmp U (by exact id)) (.tmp U (by exact id)) Tryz.underlying33 ty4 (fun hq=>by (try simp at hq);exact⟨by omega,(by exact Ax hb1)⟩)) U ?_;refine Ab (Ap U (by exact .not1 U U U U) U (.tmp U (by exact id)) ty4 U U) U ?_
       refine Ab (Ar U (by exact .not1 U U U U) U (.tmp U (by exact id))) U ?_;refine Ab (Ar U (by exact .yes U U U U) U (.tmp U (by exact fun _=>rfl))) U ?_;refine Ab (Ar U (by exact .yes U U U U) U (.tmp U (by exact fun _=>rfl))) U ?_;refine Ab (by exact Aw U (by exact .yes U U U U) U (.tmp U (by exact id)) (.tmp U (by exact id)) Tryz.underlying131 Dc (fun hq=>by (try simp at hq);exact⟨by omega,(by exact Ax hrk1)⟩)) U ?_;refine Ab (Ap U (by exact .yes U U U U) U (.tmp U (by exact id)) Dc U U) U ?_;refine Ab (Ar U (by exact .yes U U U U) U (.tmp U (by exact fun _=>rfl))) U ?_;refine Ab (by exact Aw U (by exact .yes U U U U) U (.tmp U (by exact id)) (.tmp U (by exact id)) Tryz.underlying33 ty4 (fun hq=>by (try simp at hq);exact⟨by omega,(by exact Ax hb2)⟩)) U ?_;refine Ab (Ap U (by exact .yes U U U U) U (.tmp U (by exact id)) ty4 U U) U ?_
       refine Ab (Cf U (by exact .not1 U U U U) U (.tmp U (by exact id)) (.tmp U (by exact id))) U ?_;refine Ab (R_or U (.no U) U (.tm U) (.tmp U (by exact id))) U ?_;refine Aa (Aq (.tm U) (fun h51=>?_) (fun h51=>?_))
       · try simp at h51
         have hsel:k=i∨(i<k∧relN next i k=true):=by (rcases h51 with h|⟨h1,h2⟩;exact .inl (by omega);(by_cases e:k=i;exact .inl e;exact .inr ⟨by omega,by rw [hrel,h1,h2];rfl⟩))
         refine A4 (σ':=⟨_,[(0,_),(2,_),(3,_),(4,_),(5,_),(6,_),(7,_),(15,_),(16,_)],[(1300,_)]⟩) Ai ?_;refine Ae (Ac ?_);refine Ac ?_;refine Ac ?_;refine Ab (A9 U (.no U) U (.tm U) U (.tm U) Tryz.underlying40 ty3 (fun _=>⟨by omega,(by exact Ax hok)⟩)) U ?_;refine Ci (Cm U U U (.tm U) U (.tm U) U (by exact Ax hok) ty3 U U U U) ?_;refine Aa (Ae (Ac ?_));refine Ab (Be U (.no U) U (.tm U) (.const U) (fun _=>by omega)) U ?_;refine Ak ?_;refine Aa ?_
         repeat (with_reducible refine Az ?_)
         refine Round1.next (k+1) ⟨⟨by omega,by omega⟩,Y⟩ (by omega) (An rfl ⟨rfl,rfl,rfl,rfl,rfl,rfl,rfl,rfl,rfl,Y⟩ ⟨(by refine congrArg (fun r=>some (R.row 1 r)) ?_;first|(rw [←compRow_set hs ht hyr.2 hsel,hk.2];simp [List.map_set,cInt];done)|(rw [←compRow_stay hsel];done)|(rw [compRow_skip ht hri];done)|(rw [compRow_next hs ht hyr.2 (by omega)];done)),Y⟩)
       · try simp at h51
         have hsel:¬ (k=i∨(i<k∧relN next i k=true)):=fun h=>by (rcases h with h|⟨h1,h2⟩;exact h51.1 (by omega);(rw [hrel,Bool.and_eq_true] at h2;rw [h51.2 h2.1] at h2;exact absurd h2.2 (by simp)))
         refine As (A4 (σ':=⟨_,[(0,_),(2,_),(3,_),(4,_),(5,_),(6,_),(7,_),(15,_),(16,_)],[(1300,_)]⟩) Ai ?_);refine Ae (Ac ?_);refine Ab (Be U (.no U) U (.tm U) (.const U) (fun _=>by omega)) U ?_;refine Ak ?_;refine Aa ?_
         repeat (with_reducible refine Az ?_)
         refine Round1.next (k+1) ⟨⟨by omega,by omega⟩,Y⟩ (by omega) (An rfl ⟨rfl,rfl,rfl,rfl,rfl,rfl,rfl,rfl,rfl,Y⟩ ⟨(by refine congrArg (fun r=>some (R.row 1 r)) ?_;first|(rw [←compRow_set hs ht hyr.2 hsel,hk.2];simp [List.map_set,cInt];done)|(rw [←compRow_stay hsel];done)|(rw [compRow_skip ht hri];done)|(rw [compRow_next hs ht hyr.2 (by omega)];done)),Y⟩)
     · try simp at h28
       refine Bf (Ae (Ac ?_));refine Ab (Be U (.no U) U (.tm U) (.const U) (fun _=>by omega)) U ?_;refine Ak ?_;refine Aa (A4 (σ':=⟨_,[(0,_),(2,_),(3,_),(4,_),(5,_),(6,_),(7,_),(15,_),(16,_)],[(1300,_)]⟩) Ai ?_);refine Ae (Ab (Be U (.no U) U (.tm U) (.const U) (fun _=>by omega)) U ?_);refine Ac ?_;refine Aa ?_
       repeat (with_reducible refine Az ?_)
       refine Round2.next (i+1) (n+1) ⟨⟨by omega,by rw [hk.2,cntRep_succ,hyr.1];rfl⟩,Y⟩ (by omega) (An rfl ⟨rfl,rfl,rfl,rfl,rfl,rfl,rfl,Y⟩ ⟨(by refine congrArg (fun r=>some (R.row 1 r)) ?_;first|(rw [←compRow_set hs ht hyr.2 hsel,hk.2];simp [List.map_set,cInt];done)|(rw [←compRow_stay hsel];done)|(rw [compRow_skip ht hri];done)|(rw [compRow_next hs ht hyr.2 (by omega)];done)),Y⟩)
 · try simp at h17
   refine Bf (Ah (Ac ?_));refine Ak ?_;refine Aa (A3 (Res.one U (.tmp U .nil) U ?_))
   rw [compRow_end (by omega)];rfl
end Go.Proofs.YtbecibmlbiebeaaGreat
set_option maxHeartbeats 1000000
set_option maxRecDepth 100000
namespace Go.Q
open Go.D
def NP (g:TGraph) (a:TAutomaton):Nat:=a.Accept.length*g.Values.length
theorem nexts_ok {g:TGraph} {a:TAutomaton} (ha:validA a=true) (hg:validG g=true):∀ p,p<(nextsV g a).length→∀ k∈nxL (nextsV g a) p,0≤k∧k<(nextsV g a).length:=fun p hp k hk=>by
 rw [nextsV_len] at hp ⊢
 rw [nextsV_at hp] at hk
 exact nxN_ok ha hg hp k hk
theorem wK_nexts (g:TGraph) (a:TAutomaton) {i:Nat} (hi:i<NP g a):wK (nxN g a) (NP g a) i=wK (nxL (nextsV g a)) (nextsV g a).length i:=by
 rw [nextsV_len]
 exact wK_congr (N:=NP g a) (fun p hp=>(nextsV_at hp).symm) _ _ (Nat.le_refl _) hi
theorem relN_nexts (g:TGraph) (a:TAutomaton) {i k:Nat} (hi:i<NP g a) (hk:k<NP g a):relN (nextsV g a) i k=((wK (nxN g a) (NP g a) i).testBit k&&(wK (nxN g a) (NP g a) k).testBit i):=by
 rw [wK_nexts g a hi,wK_nexts g a hk];rfl
def goodC (g:TGraph) (a:TAutomaton):Bool:=validG g&&validA a
theorem good_c (g:TGraph) (a:TAutomaton):goodB g a 0 0=goodC g a:=by
 unfold goodB goodC
 cases hg:validG g with
 | false=>simp
 | true=>
  cases ha:validA a with
  | false=>simp
  | true=>
   have hA:=validA_len ha
   have hG:=validG_len hg
   unfold inB;simp;omega
theorem both_c (g:TGraph) (a:TAutomaton):bothB g a []=goodC g a:=by
 unfold bothB goodC;simp
def compsOf (g:TGraph) (a:TAutomaton):List Int:=if goodC g a then (List.range (NP g a)).map fun p=>((numOf (relN (nextsV g a)) p:Nat):Int) else []
def cntOf (g:TGraph) (a:TAutomaton):Nat:=if goodC g a then cntRep (relN (nextsV g a)) (NP g a) else 0
def cycOf (g:TGraph) (a:TAutomaton) (c:Int):Bool:=goodC g a&&(List.range (NP g a)).any fun i=>decide (((numOf (relN (nextsV g a)) i:Nat):Int)=c)&&(wK (nxN g a) (NP g a) i).testBit i
theorem anyR_at {p:Nat→Bool} {N i:Nat} (hi:i<N) (h:p i=true):(List.range N).any p=true:=List.any_eq_true.2 ⟨i,List.mem_range.2 hi,h⟩
theorem anyR_none {p:Nat→Bool} {N:Nat} (h:∀ i,i<N→p i=false):(List.range N).any p=false:=by
 rw [List.any_eq_false]
 intro i hi
 rw [h i (List.mem_range.1 hi)];simp
def maxL (l:List Int):Int:=l.foldl max (l[0]?.getD 0)
theorem foldl_max_ge:∀ (l:List Int) (x:Int),x≤l.foldl max x
 | [],x=>Int.le_refl x
 | y::l,x=>Int.le_trans (Int.le_max_left x y) (foldl_max_ge l (max x y))
theorem foldl_max_le:∀ (l:List Int) (x b:Int),x≤b→(∀ y∈l,y≤b)→l.foldl max x≤b
 | [],x,b,h,_=>h
 | y::l,x,b,h,hl=>foldl_max_le l (max x y) b (Int.max_le.2 ⟨h,hl y (by simp)⟩) fun z hz=>hl z (by simp [hz])
theorem foldl_max_start:∀ (l:List Int) (x y:Int),(∀ z∈l,y≤z)→l≠[]→x≤y→x≤(l.foldl max x)∧l.foldl max (l[0]?.getD 0)=l.foldl max x
 | [],x,y,_,h,_=>absurd rfl h
 | z::l,x,y,h,_,hx=>by
  refine⟨foldl_max_ge _ _,?_⟩
  have hz:=h z (by simp)
  show (z::l).foldl max z=(z::l).foldl max x
  rw [List.foldl_cons,List.foldl_cons,Int.max_self,Int.max_eq_right (by omega)]
end Go.Q
namespace Go.Proofs.YtbecibmlbiebeaaGreat
open Go.RowKit Go.Q Go.D
theorem specl24Reach (g:TGraph) (a:TAutomaton) (ha:validA a=true) (hg:validG g=true):FnT Tryz.prog 97 [.agg (cGraph g),.agg (cAutomaton a)] (.a (.one (.sl 1 (((List.range (NP g a)).map fun p=>((wK (nxN g a) (NP g a) p:Nat):Int)).map cInt)))):=by
 refine Ba Tryz.func97 U (by kernel_rfl) Tryz.ntmps97 U fun hlen w0=>?_
 try simp [cEdge,cGraph,cAutomaton] at hlen
 have hA:=validA_len ha
 have hG:=validG_len hg
 have hN:1≤NP g a∧NP g a≤60:=prod_le ha hg
 have hNe:NP g a=a.Accept.length*g.Values.length:=rfl
 have hcm:(a.Accept.length:Int)*(g.Values.length:Int)=((NP g a:Nat):Int):=by rw [hNe];simp
 have hnk:=fun p (hp:p<NP g a)=>nxN_ok ha hg (p:=p) hp
 have hwl:=fun K (hK:K≤NP g a) i (hi:i<NP g a)=>Nat.lt_of_lt_of_le (wK_lt (nx:=nxN g a) (N:=NP g a) (fun i hi k hk=>by have:=hnk i hi k hk;exact⟨this.1,by rw [hNe];exact this.2⟩) K hK i hi) (Nat.pow_le_pow_right (by omega) hN.2)
 refine Ah (Ab (Bm U U U (.tm U) (ts:=_) (by rfl)) U ?_);refine Ab (Bm U U U (.tm U) (ts:=_) (by rfl)) U ?_;refine Av ?_;refine Bw (i:=4) 20001 1 U U ?_;refine Aa (Ah (Ab (Ao U (.no U) U (.tm U) Cw) U ?_));refine Ab (Ap U (.no U) U (.tm U) Dc U U) U ?_;refine Ab (Bd U (.no U) U (.tm U) (by exact .t) Tryz.underlying33) U ?_;refine Ak ?_;refine Aa (Ah (Bh (Cp 16 U U U Tryz.underlying40 ty3 U) U ?_));refine Ak ?_;refine Aa (Af (Ah (Ac ?_)));refine Ab (Ao U (.no U) U (.tm U) Ck) U ?_;refine Ab (Ap U (.no U) U (.tm U) By U U) U ?_;refine Ab (Bd U (.no U) U (.tm U) (by exact .t) Tryz.underlying40) U ?_;refine Ab (Dd U (.no U) U (.tm U) (.tm U) (fun _=>by rw [hcm];omega)) U ?_;refine Ab (R_gt U (.no U) U (.tm U) (.const U)) U ?_;refine Aa (Aq (.tm U) (fun h22=>?_) (fun h22=>?_))
 · exact absurd h22 (by (simp only [decide_eq_true_eq];rw [hcm];omega))
 · try simp only [bit_at,bit_zero,shr_zero] at h22
   try simp only [Int.toNat_natCast] at h22
   try simp at h22
   refine As (Af (Af (A4 (σ':=⟨_,[(0,_),(1,_),(2,_),(3,_),(4,_),(5,_),(6,_)],[(20001,_),(16,_)]⟩) Ai ?_)));refine Ae (Av ?_);refine Aa (AW.block (Bs (fun (i:Nat)=>(i≤NP g a)∧True) (fun (i:Nat)=>⟨_,[(7,(true,.a (.one (.t (.v (.int .i64 (i:Nat))))))),(6,(true,.a (.one (.rf 16)))),(2,_),(3,_),(4,_),(5,_)],[(16,.row 1 (((List.range i).map fun p=>((wB (nxN g a p):Nat):Int)).map cInt))]⟩) (fun (i:Nat)=>NP g a-i) (0) ⟨Nat.zero_le _,Y⟩ (An U ⟨U,U,U,U,U,U,Y⟩ ⟨(by refine congrArg (fun r=>some (R.row 1 r)) ?_;first|rfl|(rw [hie];rfl)|(simp;done)),Y⟩) ?_))
   rintro i ⟨hk,he⟩
   refine Af (Ah (Ac ?_));refine Ac ?_;refine Ab (Ao U (.no U) U (.tm U) Ck) U ?_;refine Ab (Ap U (.no U) U (.tm U) By U U) U ?_;refine Ab (Bd U (.no U) U (.tm U) (by exact .t) Tryz.underlying40) U ?_;refine Ab (Dd U (.no U) U (.tm U) (.tm U) (fun _=>by rw [hcm];omega)) U ?_;refine Ab (Bz U (.no U) U (.tm U) (.tm U)) U ?_;refine Aa (Aq (.tm U) (fun h30=>?_) (fun h30=>?_))
   · skip
     rw [hcm] at h30
     have hpl:i<NP g a:=by (simp only [decide_eq_true_eq] at h30;omega)
     have hdm:=nd_ok (n:=a.Accept.length) (V:=g.Values.length) (by omega) hpl
     obtain⟨v,hv⟩:∃ v,g.Values[((i:Int) / (a.Accept.length:Int)).toNat]?=some v:=⟨_,List.getElem?_eq_getElem (by omega)⟩
     have hnx:=nxN_steps g a i
     have hS:(stepsOf g a ((i:Int) / (a.Accept.length:Int)) ((i:Int)%(a.Accept.length:Int))).length=(nxN g a i).length:=by rw [hnx,List.length_map]
     have hni:=hnk i hpl
     have hSl:=nxN_len a hg i
     refine As (Af (AW.block (Af (A4 (σ':=⟨_,[(2,_),(3,_),(4,_),(5,_),(6,_),(7,_)],[(16,_)]⟩) Ai ?_))));refine Ae (Av ?_);refine Aa (Af (B9 10 (nthB [[],[],[],[],[2,3],[],[],[5,6],[0,1,2,3,4,5,6,7],[0,1,2,3,4,5,6,7,8]]) (by kernel_rfl) (by kernel_rfl) (by kernel_rfl) ?_));refine Ad U U U (Aj U fun σ' hs=>(by exact Ap U (.no U) (Ag hs U) (.tm (hs.slots _ _ U)) Bu U U)) ?_;refine Ad U U U (Aj U fun σ' hs=>(by exact Ap U (.no U) (Ag hs U) (.tm (hs.slots _ _ U)) Br U U)) ?_;refine Ad U U U (Aj U fun σ' hs=>Ar U (.no U) (Ag hs U) (.tm (hs.slots _ _ U))) ?_;refine Ad U U U (Aj U fun σ' hs=>Ar U (.no U) (Ag hs U) (.tm (hs.slots _ _ U))) ?_;refine Ad U U U (Aj U fun σ' hs=>R_quo U (.no U) (Ag hs U) (.tm (hs.slots _ _ U)) (.tm (hs.slots _ _ U)) (fun _=>by omega)) ?_;refine Ad U U U (Aj U fun σ' hs=>Ar U (.no U) (Ag hs U) (.tm (hs.slots _ _ U))) ?_
     refine Ad U U U (Aj U fun σ' hs=>Ar U (.no U) (Ag hs U) (.tm (hs.slots _ _ U))) ?_;refine Ad U U U (Aj U fun σ' hs=>R_rem U (.no U) (Ag hs U) (.tm (hs.slots _ _ U)) (.tm (hs.slots _ _ U)) (fun _=>by omega)) ?_;refine Ad U U U (Aj U fun σ' hs=>A6 (FnT.fr (specl14Steps g a ha hg ((i:Int) / (a.Accept.length:Int)) ((i:Int)%(a.Accept.length:Int)) v (by omega) hv (by omega))) U (.no U) (Ag hs U) (.cons (.tm (hs.slots _ _ U)) (readA_sup hs U) (.cons (.tm (hs.slots _ _ U)) (readA_sup hs U) (.cons (.tm (hs.slots _ _ U)) (readA_sup hs U) (.cons (.tm (hs.slots _ _ U)) (readA_sup hs U) .nil))))) ?_;refine Ad U U U (Aj U fun σ' hs=>C1 U (.no U) (Ag hs U) (.tm (hs.slots _ _ U))) ?_;refine Bx U U ?_;refine Aa (Af (Af (A4 (σ':=⟨_,[(2,_),(3,_),(4,_),(5,_),(6,_),(7,_),(8,_),(9,_)],[(16,_)]⟩) Ai ?_)));refine Ae (Av ?_)
     refine Aa (AW.block (Cj (fun (k:Nat) (m:Nat)=>(k≤(nxN g a i).length∧m<2^60)∧m=wB ((nxN g a i).take k)) (fun (k:Nat) (m:Nat)=>⟨_,[(10,(true,.a (.one (.t (.v (.int .i64 (k:Nat))))))),(8,(true,.a (.one (.t (.v (.int .i64 (m:Nat))))))),(2,_),(3,_),(4,_),(5,_),(6,_),(7,_),(9,_)],[(16,.row 1 (((List.range i).map fun p=>((wB (nxN g a p):Nat):Int)).map cInt))]⟩) (fun (k:Nat) (m:Nat)=>(nxN g a i).length-k) (0) (0) ⟨⟨Nat.zero_le _,by decide⟩,U⟩ (An U ⟨U,U,U,U,U,U,U,U,U,Y⟩ ⟨(by refine congrArg (fun r=>some (R.row 1 r)) ?_;first|rfl|(rw [hie];rfl)|(simp;done)),Y⟩) ?_))
     rintro k m ⟨hk1,he1⟩
     refine Af (Ah (Ac ?_));refine Ac ?_;refine Ab (Bd U (.no U) U (.tm U) (by exact .t) Tryz.underlying72) U ?_;refine Ab (Bz U (.no U) U (.tm U) (.tm U)) U ?_;refine Aa (Aq (.tm U) (fun h45=>?_) (fun h45=>?_))
     · try simp only [bit_at,bit_zero,shr_zero] at h45
       try simp only [Int.toNat_natCast] at h45
       try simp at h45
       obtain⟨z,hz⟩:∃ ξ,(stepsOf g a ((i:Int) / (a.Accept.length:Int)) ((i:Int)%(a.Accept.length:Int)))[k]?=some ξ:=⟨_,List.getElem?_eq_getElem (by omega)⟩
       have hzk:(nxN g a i)[k]?=some (z.Node*(a.Accept.length:Int)+z.State):=by rw [hnx,List.getElem?_map,hz];rfl
       have hzo:=steps_ok ha hg hv (by omega) z (List.mem_of_getElem? hz)
       have hkk:0≤z.Node*(a.Accept.length:Int)+z.State∧z.Node*(a.Accept.length:Int)+z.State<60:=by (have:=hni _ (List.mem_of_getElem? hzk);omega)
       have hzm:0≤z.Node*(a.Accept.length:Int):=Int.mul_nonneg hzo.1 (by omega)
       have h2x:2^(z.Node*(a.Accept.length:Int)+z.State).toNat≤576460752303423488:=Nat.le_trans (Nat.pow_le_pow_right (n:=2) (by omega) (show (z.Node*(a.Accept.length:Int)+z.State).toNat≤59 by omega)) (by decide)
       have h2p:=Nat.two_pow_pos (z.Node*(a.Accept.length:Int)+z.State).toNat
       refine As (Af (AW.block (B9 16 (nthB [[],[],[],[1,2],[1,2,3],[1,2,3,4],[],[1,2,3,4,5,6],[],[],[8,9],[8,9,10],[8,9,10,11],[1,2,3,4,5,6,7,8,9,10,11,12],[1,2,3,4,5,6,7,8,9,10,11,12,13],[0,1,2,3,4,5,6,7,8,9,10,11,12,13,14]]) (by kernel_rfl) (by kernel_rfl) (by kernel_rfl) ?_)));refine Ad U U U (Aj U fun σ' hs=>Ar U (.no U) (Ag hs U) (.tm (hs.slots _ _ U))) ?_;refine Ad U U U (Aj U fun σ' hs=>Ar U (.no U) (Ag hs U) (.tm (hs.slots _ _ U))) ?_;refine Ad U U U (Aj U fun σ' hs=>Ar U (.no U) (Ag hs U) (.tm (hs.slots _ _ U))) ?_;refine Ad U U U (Aj U fun σ' hs=>(Aw U (.no U) (Ag hs U) (.tm (hs.slots _ _ U)) (.tm (hs.slots _ _ U)) Tryz.underlying72 ty77 (fun _=>⟨by omega,(by exact Ax hz)⟩))) ?_;refine Ad U U U (Aj U fun σ' hs=>(by exact Ao U (.no U) (Ag hs U) (.tm (hs.slots _ _ U)) fl77_1)) ?_
       refine Ad U U U (Aj U fun σ' hs=>(by exact Ap U (.no U) (Ag hs U) (.tm (hs.slots _ _ U)) ty3 U U)) ?_;refine Ad U U U (Aj U fun σ' hs=>Ar U (.no U) (Ag hs U) (.tm (hs.slots _ _ U))) ?_;refine Ad U U U (Aj U fun σ' hs=>Dd U (.no U) (Ag hs U) (.tm (hs.slots _ _ U)) (.tm (hs.slots _ _ U)) (fun _=>by omega)) ?_;refine Ad U U U (Aj U fun σ' hs=>Ar U (.no U) (Ag hs U) (.tm (hs.slots _ _ U))) ?_;refine Ad U U U (Aj U fun σ' hs=>Ar U (.no U) (Ag hs U) (.tm (hs.slots _ _ U))) ?_;refine Ad U U U (Aj U fun σ' hs=>(by exact Aw U (.no U) (Ag hs U) (.tm (hs.slots _ _ U)) (.tm (hs.slots _ _ U)) Tryz.underlying72 ty77 (fun _=>⟨by omega,(by exact Ax hz)⟩))) ?_;refine Ad U U U (Aj U fun σ' hs=>(by exact Ao U (.no U) (Ag hs U) (.tm (hs.slots _ _ U)) fl77_2)) ?_;refine Ad U U U (Aj U fun σ' hs=>(by exact Ap U (.no U) (Ag hs U) (.tm (hs.slots _ _ U)) ty3 U U)) ?_
       refine Ad U U U (Aj U fun σ' hs=>Be U (.no U) (Ag hs U) (.tm (hs.slots _ _ U)) (.tm (hs.slots _ _ U)) (fun _=>by omega)) ?_;refine Ad U U U (Aj U fun σ' hs=>R_shlN U (.no U) (Ag hs U) (.const U) (.tm (hs.slots _ _ U)) (fun _=>by omega)) ?_;refine Ad U U U (Aj U fun σ' hs=>R_or_int U (.no U) (Ag hs U) (.tm (hs.slots _ _ U)) (.tm (hs.slots _ _ U)) (fun _=>by omega)) ?_;refine Bx U U ?_;refine Ak ?_;refine Aa (A4 (σ':=⟨_,[(2,_),(3,_),(4,_),(5,_),(6,_),(7,_),(8,_),(9,_),(10,_)],[(16,_)]⟩) Ai ?_);refine Ae (Ac ?_);refine Ab (Be U (.no U) U (.tm U) (.const U) (fun _=>by omega)) U ?_;refine Ak ?_;refine Aa ?_
       repeat (with_reducible refine Az ?_)
       refine Round2.next (k+1) (m|||2^(z.Node*(a.Accept.length:Int)+z.State).toNat) ⟨⟨by omega,or_pow_lt hk1.2 (by omega)⟩,by rw [wB_take hzk,he1]⟩ (by omega) (An rfl ⟨rfl,rfl,rfl,rfl,rfl,rfl,rfl,rfl,rfl,Y⟩ ⟨(by refine congrArg (fun r=>some (R.row 1 r)) ?_;first|rfl|(rw [List.range_succ,hmw];simp [chunk,cInt];done)|(exact (List.map_set (f:=cInt)).symm.trans (congrArg (List.map cInt) (wset h87)))|(rw [wstay (by simpa using h87)];done)|(rw [wend (by omega)];done)),Y⟩)
     · try simp only [bit_at,bit_zero,shr_zero] at h45
       try simp only [Int.toNat_natCast] at h45
       try simp at h45
       have hmw:m=wB (nxN g a i):=by (rw [he1,List.take_of_length_le (by omega)])
       refine Bf (Ae (Ac ?_));refine Ac ?_;refine Ab (B6 (xs:=[.tmp 65]) (rows:=[cInt ((m:Nat):Int)]) U U U (.cons (.tm U) U U .nil) Tryz.underlying40 in3 U U (U)) U ?_;refine Bk (Bt U U U (.tm U) U (.tm U) (by exact .t) (by rfl) Tryz.underlying40 in3 U (by (simp [chunk];omega)) (by (unfold maxLen;simp [chunk];omega))) U ?_;refine Bq (σ':=⟨_,[(2,_),(3,_),(4,_),(5,_),(6,_),(7,_),(8,_),(9,_),(10,_),(45,_),(67,_)],[(16,_)]⟩) Ai ?_;refine Ak ?_;refine Aa (Ae (Ac ?_));refine Ab (Be U (.no U) U (.tm U) (.const U) (fun _=>by omega)) U ?_;refine Ak ?_;refine Aa ?_
       repeat (with_reducible refine Az ?_)
       refine Round1.next (i+1) ⟨by omega,Y⟩ (by omega) (An rfl ⟨rfl,rfl,rfl,rfl,rfl,rfl,Y⟩ ⟨(by refine congrArg (fun r=>some (R.row 1 r)) ?_;first|rfl|(rw [List.range_succ,hmw];simp [chunk,cInt];done)|(exact (List.map_set (f:=cInt)).symm.trans (congrArg (List.map cInt) (wset h87)))|(rw [wstay (by simpa using h87)];done)|(rw [wend (by omega)];done)),Y⟩)
   · skip
     rw [hcm] at h30
     have hie:i=NP g a:=by (simp only [decide_eq_false_iff_not] at h30;omega)
     refine Bf (Af (Af (A4 (σ':=⟨_,[(2,_),(3,_),(4,_),(5,_),(6,_),(7,_)],[(16,_)]⟩) Ai ?_)));refine Ae (Av ?_);refine Aa (AW.block (Bs (fun (K:Nat)=>(K≤NP g a)∧True) (fun (K:Nat)=>⟨_,[(11,(true,.a (.one (.t (.v (.int .i64 (K:Nat))))))),(6,(true,.a (.one (.rf 16)))),(4,_)],[(16,.row 1 (((List.range (NP g a)).map fun p=>((wK (nxN g a) K p:Nat):Int)).map cInt))]⟩) (fun (K:Nat)=>NP g a-K) (0) ⟨Nat.zero_le _,Y⟩ (An U ⟨U,U,U,Y⟩ ⟨(by refine congrArg (fun r=>some (R.row 1 r)) ?_;first|rfl|(rw [hie];rfl)|(simp;done)),Y⟩) ?_))
     rintro K ⟨hk2,he2⟩
     refine Af (Ah (Ac ?_));refine Ac ?_;refine Ab (Bd U (.no U) U (.tm U) (by exact .rf U) Tryz.underlying40) U ?_;refine Ab (Bz U (.no U) U (.tm U) (.tm U)) U ?_;refine Aa (Aq (.tm U) (fun h71=>?_) (fun h71=>?_))
     · try simp only [bit_at,bit_zero,shr_zero] at h71
       try simp only [Int.toNat_natCast] at h71
       try simp at h71
       have hKN:K<NP g a:=by omega
       refine As (Af (AW.block (Ah (Av ?_))));refine Aa (AW.block (Bs (fun (q:Nat)=>(q≤NP g a)∧True) (fun (q:Nat)=>⟨_,[(12,(true,.a (.one (.t (.v (.int .i64 (q:Nat))))))),(6,(true,.a (.one (.rf 16)))),(4,_),(11,_)],[(16,.row 1 (((List.range (NP g a)).map fun p=>((if p<q then wK (nxN g a) (K+1) p else wK (nxN g a) K p:Nat):Int)).map cInt))]⟩) (fun (q:Nat)=>NP g a-q) (0) ⟨Nat.zero_le _,Y⟩ (An U ⟨U,U,U,U,Y⟩ ⟨(by refine congrArg (fun r=>some (R.row 1 r)) ?_;first|rfl|(rw [hie];rfl)|(simp;done)),Y⟩) ?_))
       rintro q ⟨hk3,he3⟩
       refine Af (Ah (Ac ?_));refine Ac ?_;refine Ab (Bd U (.no U) U (.tm U) (by exact .rf U) Tryz.underlying40) U ?_;refine Ab (Bz U (.no U) U (.tm U) (.tm U)) U ?_;refine Aa (Aq (.tm U) (fun h77=>?_) (fun h77=>?_))
       · try simp only [bit_at,bit_zero,shr_zero] at h77
         try simp only [Int.toNat_natCast] at h77
         try simp at h77
         have hqN:q<NP g a:=by omega
         have hgi:((List.range (NP g a)).map fun p=>((if p<q then wK (nxN g a) (K+1) p else wK (nxN g a) K p:Nat):Int))[q]?=some ((wK (nxN g a) K q:Nat):Int):=by (rw [range_get _ hqN];simp)
         have hgK:((List.range (NP g a)).map fun p=>((if p<q then wK (nxN g a) (K+1) p else wK (nxN g a) K p:Nat):Int))[K]?=some ((wK (nxN g a) K K:Nat):Int):=by (rw [range_get _ hKN];simp [wK_self])
         have hw1:=hwl K (by omega) q hqN
         have hw2:=hwl K (by omega) K hKN
         refine As (Af (AW.block (Ah (Ac ?_))));refine Ac ?_;refine Ab (A9 U (.no U) U (.tm U) U (.tm U) Tryz.underlying40 ty3 (fun _=>⟨by omega,(by exact Ax hgi)⟩)) U ?_;refine Ab (Bv U (.no U) U (.tm U) U (by exact Ax hgi) ty3 U U) U ?_;refine Ac ?_;refine Ab (R_shr U (.no U) U (.tm U) (.tm U) (fun _=>by omega)) U ?_;refine Ab (R_and1 U (.no U) U (.tm U) (.const U) (fun _=>by first|exact Int.natCast_nonneg _|omega)) U ?_;refine Ab (B7 U (.no U) U (.tm U) (.const U)) U ?_;refine Aa (Aq (.tm U) (fun h87=>?_) (fun h87=>?_))
         · try simp only [bit_at,bit_zero,shr_zero] at h87
           try simp only [Int.toNat_natCast] at h87
           try simp at h87
           refine A4 (σ':=⟨_,[(4,_),(6,_),(11,_),(12,_)],[(16,_)]⟩) Ai ?_;refine B9 12 (nthB [[],[],[],[],[2,3],[2,3,4],[],[],[6,7],[6,7,8],[2,3,4,5,6,7,8,9],[0,1,2,3,4,5,6,7,8,9,10]]) (by kernel_rfl) (by kernel_rfl) (by kernel_rfl) ?_;refine Ad U U U (Aj U fun σ' hs=>Ar U (.no U) (Ag hs U) (.tm (hs.slots _ _ U))) ?_;refine Ad U U U (Aj U fun σ' hs=>Ar U (.no U) (Ag hs U) (.tm (hs.slots _ _ U))) ?_;refine Ad U U U (Aj U fun σ' hs=>Ar U (.no U) (Ag hs U) (.tm (hs.slots _ _ U))) ?_;refine Ad U U U (Aj U fun σ' hs=>Ar U (.no U) (Ag hs U) (.tm (hs.slots _ _ U))) ?_;refine Ad U U U (Aj U fun σ' hs=>(A9 U (.no U) (Ag hs U) (.tm (hs.slots _ _ U)) (hs.res _ _ U) (.tm (hs.slots _ _ U)) Tryz.underlying40 ty3 (fun _=>⟨by omega,(by exact Ax hgi)⟩))) ?_;refine Ad U U U (Aj U fun σ' hs=>(by exact Bv U (.no U) (Ag hs U) (.tm (hs.slots _ _ U)) (hs.res _ _ U) (by exact Ax hgi) ty3 U U)) ?_
           refine Ad U U U (Aj U fun σ' hs=>Ar U (.no U) (Ag hs U) (.tm (hs.slots _ _ U))) ?_;refine Ad U U U (Aj U fun σ' hs=>Ar U (.no U) (Ag hs U) (.tm (hs.slots _ _ U))) ?_;refine Ad U U U (Aj U fun σ' hs=>(by exact A9 U (.no U) (Ag hs U) (.tm (hs.slots _ _ U)) (hs.res _ _ U) (.tm (hs.slots _ _ U)) Tryz.underlying40 ty3 (fun _=>⟨by omega,(by exact Ax hgK)⟩))) ?_;refine Ad U U U (Aj U fun σ' hs=>(by exact Bv U (.no U) (Ag hs U) (.tm (hs.slots _ _ U)) (hs.res _ _ U) (by exact Ax hgK) ty3 U U)) ?_;refine Ad U U U (Aj U fun σ' hs=>R_or_int U (.no U) (Ag hs U) (.tm (hs.slots _ _ U)) (.tm (hs.slots _ _ U)) (fun _=>by omega)) ?_;refine Ad U U U (Aj U fun σ' hs=>(by exact A9 U (.no U) (Ag hs U) (.tm (hs.slots _ _ U)) (hs.res _ _ U) (.tm (hs.slots _ _ U)) Tryz.underlying40 ty3 (fun _=>⟨by omega,(by exact Ax hgi)⟩))) ?_;refine Bx U U ?_
           refine Ci (Cm U U U (.tm U) U (.tm U) U (by exact Ax hgi) ty3 U U U U) ?_;refine Aa (A4 (σ':=⟨_,[(4,_),(6,_),(11,_),(12,_)],[(16,_)]⟩) Ai ?_);refine Ae (Ac ?_);refine Ab (Be U (.no U) U (.tm U) (.const U) (fun _=>by omega)) U ?_;refine Ak ?_;refine Aa ?_
           repeat (with_reducible refine Az ?_)
           refine Round1.next (q+1) ⟨by omega,Y⟩ (by omega) (An rfl ⟨rfl,rfl,rfl,rfl,Y⟩ ⟨(by refine congrArg (fun r=>some (R.row 1 r)) ?_;first|rfl|(rw [List.range_succ,hmw];simp [chunk,cInt];done)|(exact (List.map_set (f:=cInt)).symm.trans (congrArg (List.map cInt) (wset h87)))|(rw [wstay (by simpa using h87)];done)|(rw [wend (by omega)];done)),Y⟩)
         · try simp only [bit_at,bit_zero,shr_zero] at h87
           try simp only [Int.toNat_natCast] at h87
           try simp at h87
           refine As (A4 (σ':=⟨_,[(4,_),(6,_),(11,_),(12,_)],[(16,_)]⟩) Ai ?_);refine Ae (Ac ?_);refine Ab (Be U (.no U) U (.tm U) (.const U) (fun _=>by omega)) U ?_;refine Ak ?_;refine Aa ?_
           repeat (with_reducible refine Az ?_)
           refine Round1.next (q+1) ⟨by omega,Y⟩ (by omega) (An rfl ⟨rfl,rfl,rfl,rfl,Y⟩ ⟨(by refine congrArg (fun r=>some (R.row 1 r)) ?_;first|rfl|(rw [List.range_succ,hmw];simp [chunk,cInt];done)|(exact (List.map_set (f:=cInt)).symm.trans (congrArg (List.map cInt) (wset h87)))|(rw [wstay (by simpa using h87)];done)|(rw [wend (by omega)];done)),Y⟩)
       · try simp only [bit_at,bit_zero,shr_zero] at h77
         try simp only [Int.toNat_natCast] at h77
         try simp at h77
         refine Bf (Ae (Ac ?_));refine Ab (Be U (.no U) U (.tm U) (.const U) (fun _=>by omega)) U ?_;refine Ak ?_;refine Aa ?_
         repeat (with_reducible refine Az ?_)
         refine Round1.next (K+1) ⟨by omega,Y⟩ (by omega) (An rfl ⟨rfl,rfl,rfl,Y⟩ ⟨(by refine congrArg (fun r=>some (R.row 1 r)) ?_;first|rfl|(rw [List.range_succ,hmw];simp [chunk,cInt];done)|(exact (List.map_set (f:=cInt)).symm.trans (congrArg (List.map cInt) (wset h87)))|(rw [wstay (by simpa using h87)];done)|(rw [wend (by omega)];done)),Y⟩)
     · try simp only [bit_at,bit_zero,shr_zero] at h71
       try simp only [Int.toNat_natCast] at h71
       try simp at h71
       refine Bf (Ah (Ac ?_));refine Ak ?_;refine Aa (A3 (Res.one U (.tmp U .nil) U ?_))
       rw [show K=NP g a by omega];rfl
theorem specl24Components (N:Nat) (W:Nat→Nat) (rel:Nat→Nat→Bool) (hW:∀ i,i<N→W i<2^60) (hN:N≤60) (hrel:∀ i k,i<N→k<N→rel i k=((W i).testBit k&&(W k).testBit i)) (hs:∀ a b,rel a b=true→rel b a=true) (ht:∀ a b c,rel a b=true→rel b c=true→rel a c=true):FnT Tryz.prog 108 [.one (.sl 1 (((List.range N).map fun i=>((W i:Nat):Int)).map cInt))] (.a (.one (.sl 1 (((List.range N).map fun i=>((numOf rel i:Nat):Int)).map cInt)))):=by
 refine Ba Tryz.func108 U (by kernel_rfl) Tryz.ntmps108 U fun hlen w0=>?_
 try simp [cEdge,cGraph,cAutomaton] at hlen
 refine Ah (Av ?_);refine Bw (i:=2) 20001 1 U U ?_;refine Aa (Ah (Bh (Cp 8 U U U Tryz.underlying40 ty3 U) U ?_));refine Ak ?_;refine Aa (Af (Ah (Av ?_)));refine Aa (AW.block (Bs (fun (i:Nat)=>(i≤N)∧True) (fun (i:Nat)=>⟨_,[(4,(true,.a (.one (.t (.v (.int .i64 (i:Nat))))))),(3,(true,.a (.one (.rf 8)))),(0,_),(2,_)],[(8,.row 1 (((List.range i).map fun p=>((numOf rel p:Nat):Int)).map cInt))]⟩) (fun (i:Nat)=>N-i) (0) ⟨Nat.zero_le _,Y⟩ Ai ?_))
 rintro i ⟨hk,he⟩
 refine Af (Ah (Ac ?_));refine Ac ?_;refine Ab (Bd U (.no U) U (.tm U) (by exact .t) Tryz.underlying40) U ?_;refine Ab (Bz U (.no U) U (.tm U) (.tm U)) U ?_;refine Aa (Aq (.tm U) (fun h12=>?_) (fun h12=>?_))
 · try simp only [bit_at,bit_zero,shr_zero] at h12
   try simp only [Int.toNat_natCast] at h12
   try simp at h12
   have hiN:i<N:=by omega
   have hgi:((List.range N).map fun i=>((W i:Nat):Int))[i]?=some ((W i:Nat):Int):=range_get _ hiN
   have hwi:=hW i hiN
   have hcl:=cntRep_le (rel:=rel) i
   refine As (Af (AW.block (Ah (Av ?_))));refine Aa (Ah (Av ?_));refine Aa (Af (Ah (Av ?_)));refine Aa (AW.block ?_);refine C4 (fun (k:Nat) (c:Int) (tp:Int)=>(k≤i∧ -1≤c∧c≤64)∧tp=(cntRep rel k:Int)-1∧((c=-1∧∀ p,p<k→rel i p=false)∨∃ p,p<k∧rel i p=true∧c=((numOf rel p:Nat):Int))) (fun (k:Nat) (c:Int) (tp:Int)=>⟨_,[(7,(true,.a (.one (.t (.v (.int .i64 (k:Nat))))))),(5,(true,.a (.one (.t (.v (.int .i64 c)))))),(6,(true,.a (.one (.t (.v (.int .i64 tp)))))),(0,_),(2,_),(3,_),(4,_)],[(8,.row 1 (((List.range i).map fun p=>((numOf rel p:Nat):Int)).map cInt))]⟩) (fun (k:Nat) (c:Int) (tp:Int)=>i-k) (0) (-1) (-1) ⟨⟨Nat.zero_le _,by omega,by omega⟩,U,.inl ⟨U,fun p hp=>by omega⟩⟩ Ai ?_
   rintro k c tp ⟨hk1,he1⟩
   refine Af (Ah (Ac ?_));refine Ac ?_;refine Ab (Bz U (.no U) U (.tm U) (.tm U)) U ?_;refine Aa (Aq (.tm U) (fun h17=>?_) (fun h17=>?_))
   · try simp only [bit_at,bit_zero,shr_zero] at h17
     try simp only [Int.toNat_natCast] at h17
     try simp at h17
     have hki:k<i:=by omega
     have hgn:((List.range i).map fun p=>((numOf rel p:Nat):Int))[k]?=some ((numOf rel k:Nat):Int):=range_get _ hki
     have hgk:((List.range N).map fun i=>((W i:Nat):Int))[k]?=some ((W k:Nat):Int):=range_get _ (by omega)
     have hwk:=hW k (by omega)
     have hnl:=numOf_lt ht k
     have hcl1:=cntRep_le (rel:=rel) (k+1)
     have hclk:=cntRep_le (rel:=rel) k
     refine As (Af (AW.block (Ah (Ac ?_))));refine Ac ?_;refine Ac ?_;refine Ab (A9 U (.no U) U (.tm U) U (.tm U) Tryz.underlying40 ty3 (fun _=>⟨by omega,(by exact Ax hgn)⟩)) U ?_;refine Ab (Bv U (.no U) U (.tm U) U (by exact Ax hgn) ty3 U U) U ?_;refine Ab (R_max U (.no U) U (.tm U) (.tm U)) U ?_;refine Ak ?_;refine Aa (Af (A4 (σ':=⟨_,[(0,_),(2,_),(3,_),(4,_),(5,_),(6,_),(7,_)],[(8,_)]⟩) Ai ?_));refine Ae (Ac ?_);refine Ac ?_;refine Ab (Aw U (.no U) U (.tm U) (.tm U) Tryz.underlying40 ty3 (fun _=>⟨by omega,(by exact Ax hgi)⟩)) U ?_;refine Ab (Ap U (.no U) U (.tm U) ty3 U U) U ?_;refine Ac ?_;refine Ab (R_shr U (.no U) U (.tm U) (.tm U) (fun _=>by omega)) U ?_;refine Ab (R_and1 U (.no U) U (.tm U) (.const U) (fun _=>by first|exact Int.natCast_nonneg _|omega)) U ?_;refine Ab (B7 U (.no U) U (.tm U) (.const U)) U ?_;refine Ac ?_
     refine Ab (Ar U (by exact .yes1 U U U U) U (.tmp U (by exact fun _=>rfl))) U ?_;refine Ab (Ar U (by exact .yes1 U U U U) U (.tmp U (by exact fun _=>rfl))) U ?_;refine Ab (by exact Aw U (by exact .yes1 U U U U) U (.tmp U (by exact id)) (.tmp U (by exact id)) Tryz.underlying40 ty3 (fun hq=>by (try simp at hq);exact⟨by omega,(by exact Ax hgk)⟩)) U ?_;refine Ab (Ap U (by exact .yes1 U U U U) U (.tmp U (by exact id)) ty3 U U) U ?_;refine Ab (Ar U (by exact .yes1 U U U U) U (.tmp U (by exact fun _=>rfl))) U ?_;refine Ab (R_shr U (by exact .yes1 U U U U) U (.tmp U (by exact id)) (.tmp U (by exact id)) (fun hq=>by first|omega|(simp at hq;omega))) U ?_;refine Ab (R_and1 U (by exact .yes1 U U U U) U (.tmp U (by exact id)) (.const U) (fun _=>by first|exact Int.natCast_nonneg _|omega)) U ?_;refine Ab (B7 U (by exact .yes1 U U U U) U (.tmp U (by exact id)) (.const U)) U ?_
     refine Ab (Cf U (.no U) U (.tm U) (.tmp U (by exact id))) U ?_;refine Aa (Aq (.tm U) (fun h43=>?_) (fun h43=>?_))
     · try simp only [bit_at,bit_zero,shr_zero] at h43
       try simp only [Int.toNat_natCast] at h43
       try simp at h43
       have hr1:rel i k=true:=by (rw [hrel i k hiN (by omega)];simpa using h43)
       refine A4 (σ':=⟨_,[(0,_),(2,_),(3,_),(4,_),(5,_),(6,_),(7,_)],[(8,_)]⟩) Ai ?_;refine Ae (Ac ?_);refine Ac ?_;refine Ab (A9 U (.no U) U (.tm U) U (.tm U) Tryz.underlying40 ty3 (fun _=>⟨by omega,(by exact Ax hgn)⟩)) U ?_;refine Ab (Bv U (.no U) U (.tm U) U (by exact Ax hgn) ty3 U U) U ?_;refine Ak ?_;refine Aa (Ae (Ac ?_));refine Ab (Be U (.no U) U (.tm U) (.const U) (fun _=>by omega)) U ?_;refine Ak ?_;refine Aa ?_
       repeat (with_reducible refine Az ?_)
       refine Round3.next (k+1) (((numOf rel k:Nat):Int)) (max tp ((numOf rel k:Nat):Int)) ⟨⟨by omega,by omega,by omega⟩,by rw [he1.1,cnt_max ht],.inr ⟨k,by omega,hr1,rfl⟩⟩ (by omega) (An rfl ⟨rfl,rfl,rfl,rfl,rfl,rfl,rfl,Y⟩ ⟨(by refine congrArg (fun r=>some (R.row 1 r)) ?_;first|rfl|(rw [List.range_succ];simp [chunk,cInt];done)),Y⟩)
     · try simp only [bit_at,bit_zero,shr_zero] at h43
       try simp only [Int.toNat_natCast] at h43
       try simp at h43
       have hr0:rel i k=false:=by (rw [hrel i k hiN (by omega)];simpa using h43)
       have hr2:(c=-1∧∀ p,p<k+1→rel i p=false)∨∃ p,p<k+1∧rel i p=true∧c=((numOf rel p:Nat):Int):=by (rcases he1.2 with ⟨g1,g2⟩|⟨p,g1,g2,g3⟩;exact .inl ⟨g1,fun p hp=>by rcases Nat.lt_or_eq_of_le (Nat.le_of_lt_succ hp) with h|h;exact g2 p h;(subst h;exact hr0)⟩;exact .inr ⟨p,by omega,g2,g3⟩)
       refine As (A4 (σ':=⟨_,[(0,_),(2,_),(3,_),(4,_),(5,_),(6,_),(7,_)],[(8,_)]⟩) Ai ?_);refine Ae (Ac ?_);refine Ab (Be U (.no U) U (.tm U) (.const U) (fun _=>by omega)) U ?_;refine Ak ?_;refine Aa ?_
       repeat (with_reducible refine Az ?_)
       refine Round3.next (k+1) (c) (max tp ((numOf rel k:Nat):Int)) ⟨⟨by omega,by omega,by omega⟩,by rw [he1.1,cnt_max ht],hr2⟩ (by omega) (An rfl ⟨rfl,rfl,rfl,rfl,rfl,rfl,rfl,Y⟩ ⟨(by refine congrArg (fun r=>some (R.row 1 r)) ?_;first|rfl|(rw [List.range_succ];simp [chunk,cInt];done)),Y⟩)
   · try simp only [bit_at,bit_zero,shr_zero] at h17
     try simp only [Int.toNat_natCast] at h17
     try simp at h17
     have hke:k=i:=by omega
     have hclk2:=cntRep_le (rel:=rel) k
     refine Bf (Af (Ah (Ac ?_)));refine Ab (Bz U (.no U) U (.tm U) (.const U)) U ?_;refine Aa (Aq (.tm U) (fun h49=>?_) (fun h49=>?_))
     · try simp only [bit_at,bit_zero,shr_zero] at h49
       try simp only [Int.toNat_natCast] at h49
       try simp at h49
       have hnum:tp+1=((numOf rel i:Nat):Int):=by (subst hke;rcases he1.2 with ⟨g1,g2⟩|⟨p,g1,g2,g3⟩;(rw [he1.1,numOf_rep (isRep_iff.2 g2)];omega);omega)
       refine Ae (Ac ?_);refine Ab (Be U (.no U) U (.tm U) (.const U) (fun _=>by rw [he1.1];omega)) U ?_;refine Ak ?_;refine Aa (A4 (σ':=⟨_,[(0,_),(2,_),(3,_),(4,_),(5,_),(6,_),(7,_)],[(8,_)]⟩) Ai ?_);refine Ae (Ac ?_);refine Ac ?_;refine Ab (B6 (xs:=[.tmp 53]) (rows:=[cInt ((numOf rel i:Nat):Int)]) U U U (.cons (.tm U) U U .nil) Tryz.underlying40 in3 U U ((by (rw [←hnum];rfl)))) U ?_;refine Bk (Bt U U U (.tm U) U (.tm U) (by exact .t) (by rfl) Tryz.underlying40 in3 U (by (simp [chunk];omega)) (by (unfold maxLen;simp [chunk];omega))) U ?_;refine Bq (σ':=⟨_,[(0,_),(2,_),(3,_),(4,_),(5,_),(6,_),(7,_),(55,_)],[(8,_)]⟩) Ai ?_;refine Ak ?_;refine Aa (Ae (Ac ?_));refine Ab (Be U (.no U) U (.tm U) (.const U) (fun _=>by omega)) U ?_;refine Ak ?_;refine Aa ?_
       repeat (with_reducible refine Az ?_)
       refine Round1.next (i+1) ⟨by omega,Y⟩ (by omega) (An rfl ⟨rfl,rfl,rfl,rfl,Y⟩ ⟨(by refine congrArg (fun r=>some (R.row 1 r)) ?_;first|rfl|(rw [List.range_succ];simp [chunk,cInt];done)),Y⟩)
     · try simp only [bit_at,bit_zero,shr_zero] at h49
       try simp only [Int.toNat_natCast] at h49
       try simp at h49
       have hnum:c=((numOf rel i:Nat):Int):=by (subst hke;rcases he1.2 with ⟨g1,g2⟩|⟨p,g1,g2,g3⟩;omega;(rw [g3,numOf_same hs ht g2 g1]))
       refine As (Ae (Ac ?_));refine Ac ?_;refine Ab (B6 (xs:=[.tmp 53]) (rows:=[cInt ((numOf rel i:Nat):Int)]) U U U (.cons (.tm U) U U .nil) Tryz.underlying40 in3 U U ((by (rw [←hnum];rfl)))) U ?_;refine Bk (Bt U U U (.tm U) U (.tm U) (by exact .t) (by rfl) Tryz.underlying40 in3 U (by (simp [chunk];omega)) (by (unfold maxLen;simp [chunk];omega))) U ?_;refine Bq (σ':=⟨_,[(0,_),(2,_),(3,_),(4,_),(5,_),(6,_),(7,_),(17,_),(49,_),(55,_)],[(8,_)]⟩) Ai ?_;refine Ak ?_;refine Aa (Ae (Ac ?_));refine Ab (Be U (.no U) U (.tm U) (.const U) (fun _=>by omega)) U ?_;refine Ak ?_;refine Aa ?_
       repeat (with_reducible refine Az ?_)
       refine Round1.next (i+1) ⟨by omega,Y⟩ (by omega) (An rfl ⟨rfl,rfl,rfl,rfl,Y⟩ ⟨(by refine congrArg (fun r=>some (R.row 1 r)) ?_;first|rfl|(rw [List.range_succ];simp [chunk,cInt];done)),Y⟩)
 · try simp only [bit_at,bit_zero,shr_zero] at h12
   try simp only [Int.toNat_natCast] at h12
   try simp at h12
   refine Bf (Ah (Ac ?_));refine Ak ?_;refine Aa (A3 (Res.one U (.tmp U .nil) U ?_))
   rw [show i=N by omega];rfl
theorem specComps (g:TGraph) (a:TAutomaton) (ha:validA a=true) (hg:validG g=true):FnT Tryz.prog 108 [.one (.sl 1 (((List.range (NP g a)).map fun p=>((wK (nxN g a) (NP g a) p:Nat):Int)).map cInt))] (.a (.one (.sl 1 (((List.range (NP g a)).map fun p=>((numOf (relN (nextsV g a)) p:Nat):Int)).map cInt)))):=by
 have hN:1≤NP g a∧NP g a≤60:=prod_le ha hg
 exact specl24Components (NP g a) (wK (nxN g a) (NP g a)) (relN (nextsV g a)) (fun i hi=>Nat.lt_of_lt_of_le (wK_lt (nx:=nxN g a) (N:=NP g a) (fun i hi k hk=>nxN_ok ha hg hi k hk) (NP g a) (Nat.le_refl _) i hi) (Nat.pow_le_pow_right (by omega) hN.2)) hN.2 (fun i k hi hk=>relN_nexts g a hi hk) (relN_symm _) (relN_trans (nexts_ok ha hg))
theorem specProductComponents (g:TGraph) (a:TAutomaton):FnT Tryz.prog 44 [.agg (cGraph g),.agg (cAutomaton a)] (.a (.one (.sl 1 ((compsOf g a).map cInt)))):=by
 refine Ba Tryz.func44 U (by kernel_rfl) Tryz.ntmps44 U fun hlen w0=>?_
 try simp [cEdge,cGraph,cAutomaton] at hlen
 skip
 refine Ah (Ab (Bm U U U (.tm U) (ts:=_) (by rfl)) U ?_);refine Ab (Bm U U U (.tm U) (ts:=_) (by rfl)) U ?_;refine Av ?_;refine Bw (i:=4) 20001 1 U U ?_;refine Aa (Af (Ah (Ab (Ap U (.no U) U (.tm U) Bu U U) U ?_)));refine Ab (Ap U (.no U) U (.tm U) Br U U) U ?_;refine Ab (A6 (FnT.fr (specl14Good g a 0 0)) U (.no U) U (.cons (.tm U) U (.cons (.tm U) U (.cons (.const U) U (.cons (.const U) U .nil))))) U ?_;refine Ab (Cq U (.no U) U (.tm U)) U ?_;refine Aa (Aq (.tm U) (fun h8=>?_) (fun h8=>?_))
 · skip
   rw [good_c] at h8
   refine Ah (Bh (Cp 9 U U U Tryz.underlying40 ty3 U) U ?_);refine Ak ?_;refine Aa (A3 (Res.one U (.tmp U .nil) U ?_))
   unfold compsOf;rw [if_neg (by simpa using h8)];rfl
 · skip
   rw [good_c] at h8
   have hgc:goodC g a=true:=by simpa using h8
   obtain⟨hg,ha⟩:validG g=true∧validA a=true:=by (unfold goodC at hgc;simpa using hgc)
   refine As (Ah (Ab (Ap U (.no U) U (.tm U) Bu U U) U ?_));refine Ab (Ap U (.no U) U (.tm U) Br U U) U ?_;refine Ab (A6 (FnT.fr (specl24Reach g a ha hg)) U (.no U) U (.cons (.tm U) U (.cons (.tm U) U .nil))) U ?_;refine B8 (Cl 1300 (specComps g a ha hg) U U U (.cons (.tm U) U .nil) U U) U ?_;refine Ak ?_;refine Aa (A3 (Res.one U (.tmp U .nil) U ?_))
   unfold compsOf;rw [if_pos hgc];rfl
end Go.Proofs.YtbecibmlbiebeaaGreat
