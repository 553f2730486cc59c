import Derived.Test.YtdhojcaoljhbiaaGreatB14xc
import Derived.Test.YtdhojcaoljhbiaaGreatB07xc
import Derived.Test.YtdhojcaoljhbiaaGreatB55xc
import Derived.Test.YtdhojcaoljhbiaaGreatAbsOxc
import Derived.Test.YtdhojcaoljhbiaaGreatKnnxc
import Derived.Test.YtdhojcaoljhbiaaGreatB08xc
import Derived.Test.YtdhojcaoljhbiaaGreatB98xc
import Derived.Test.YtdhojcaoljhbiaaGreatB151xc
set_option linter.unusedVariables false
set_option linter.unusedSimpArgs false
set_option maxRecDepth 100000
set_option maxHeartbeats 1000000
open Go.Proofs.Tryz renaming underlying40->Z9,underlying48->ZF,prog->ZJ,underlying34->ZM,func126->Abe,ntmps126->Abf,func63->Abh,ntmps63->Abi,underlying33->Abj,func116->Abk,ntmps116->Abl,func26->Abm,ntmps26->Abn,func23->Abo,ntmps23->Abp
open Int renaming toNat_of_nonneg->ZA,toNat_natCast->ZK,natCast_mul->ZZ,natCast_add->Aaa,mul_comm->Aau,add_comm->Aav,eq_ofNat_of_zero_le->Aaz
open List renaming mem_filter->ZB,mem_map->ZC,range->ZD,mem_range->ZE,mem_cons->ZG,getElem?_eq_getElem->ZI,mem_flatMap->ZL,mem_singleton->ZN,length_map->ZO,mem_append->ZQ,take_of_length_le->ZS,any_eq_true->ZU,map_append->ZV,length_filter_le->ZW,replicate->ZX,foldl_cons->Aab,foldl_append->Aae,mem_of_getElem?->Aaf,all_cons->Aai,all_nil->Aaj,length_set->Aal,length_replicate->Aam,range_succ->Aan,flatMap_append->Aao,length_append->Aap,pairwise_map->Aaq,ext_getElem->Aaw,set_set->Aax,append_assoc->Aay,getElem?_eq_some_iff->Abb,drop_eq_getElem_cons->Abc,drop_eq_nil_of_le->Abd
open Nat renaming zero_le->ZH,le_trans->ZP,le_refl->ZR,lt_or_ge->ZT,testBit_two_pow->Aac,zero_testBit->Aad,succ_mul->Aag,mul_le_mul->Aah,lt_pow_two_of_testBit->Aas,mod_lt->Aba
open Bool renaming and_eq_true->ZY,and_true->Aak
namespace Go.Q
open Go.D Go.Proofs.YtdhojcaoljhbiaaGreat
def wB (l:List Int):Nat:=l.foldl (fun m k=>m|||2^k.toNat) 0
theorem Kn (j:Nat):∀ (l:List Int) (m:Nat),(l.foldl (fun m k=>m|||2^k.toNat) m).testBit j=(m.testBit j||l.any fun k=>decide (k.toNat=j))
 | [],m=>by simp
 | k::l,m=>by
  rw [Aab,Kn j l,Nat.testBit_or,Aac,List.any_cons,Bool.or_assoc]
theorem PF {l:List Int} (hl:∀ k∈l,0≤k) (j:Nat):(wB l).testBit j=true↔(j:Int)∈l:=by
 unfold wB
 rw [Kn,Aad,Bool.false_or,ZU]
 constructor
 · rintro⟨k,hk,h⟩
   have:=hl k hk
   have e:=of_decide_eq_true h
   rwa [show (j:Int)=k by omega]
 intro h
 exact⟨_,h,by simp⟩
theorem W8 (l:List Int) (x:Int):wB (l++[x])=wB l|||2^x.toNat:=by unfold wB;rw [Aae];rfl
def N4 (m b:Nat):List Int:=((ZD b).filter m.testBit).map fun (q:Nat)=>(q:Int)
theorem JD (m b:Nat):N4 m (b+1)=N4 m b++if m.testBit b then [(b:Int)] else []:=by
 unfold N4
 rw [AY,ZV]
 cases m.testBit b<;>rfl
theorem Vb (m b:Nat):(N4 m b).length≤b:=by
 unfold N4
 rw [ZO]
 exact ZP (ZW _ _) (by simp)
open Go.RowKit
theorem Un (m:Nat) (hm:m<9223372036854775808):FnT ZJ 126 [.one (.v (.int .i64 (m:Int)))] (.a (.one (.sl 1 ((N4 m 30).map AQ)))):=by
 refine A8 Abe U (by kernel_rfl) Abf U fun hlen w0=>?_
 try simp [BC,AP,AG,AE] at hlen
 refine Af (An ?_);refine Ch (i:=2) 20001 1 U U ?_;refine Aa (Af (A6 (C7 5 U U U Z9 ty3 U) U ?_));refine Ah ?_;refine Aa (Ae (Af (An ?_)));refine Aa (AW.block ?_);refine B9 (fun (i:Nat)=>(i≤30)∧True) (fun (i:Nat)=>⟨_,[(4,(true,.a (.one (.t (.v (.int .i64 (i:Nat))))))),(3,(true,.a (.one (.rf 5)))),(0,_),(2,_)],[(5,.row 1 ((N4 m i).map AQ))]⟩) (fun (i:Nat)=>30-i) (0) ⟨by omega,Y⟩ Aw ?_
 rintro i ⟨hk,he⟩
 refine Ae (Af (Ab ?_));refine D7 ?_;refine Aa (Ai (.tm U) (fun h7=>?_) (fun h7=>?_))
 · try simp only [BE,AN,AM] at h7
   try simp only [ZK] at h7
   try simp at h7
   have hi30:i<30:=by (first|omega|(simp at h7;omega))
   have hsl:=Vb m i
   refine Am (Ae (AW.block (Af (Ab ?_))));refine Ab ?_;refine Ac (J3 U (.no U) U (.tm U) (.tm U) (fun _=>by omega)) U ?_;refine Ac (Hz U (.no U) U (.tm U) (.const U) (fun _=>by first|exact Int.natCast_nonneg _|omega)) U ?_;refine Bw ?_;refine Aa (Ai (.tm U) (fun h14=>?_) (fun h14=>?_))
   · try simp only [BE,AN,AM] at h14
     try simp only [ZK] at h14
     try simp at h14
     refine As (Ay [0,2,3,4] [5]) ?_;refine Ad (Ab ?_);refine Ab ?_;refine Bp (Ce (xs:=[.tmp 16]) 17 U U U (.cons (.tm U) U U .nil) Z9 in3 U U U U) U ?_;refine Bt (B8 U U U (.tm U) U (.tm U) (by exact .rf U) (by rfl) Z9 in3 U (by (simp [AH];omega)) (by (unfold maxLen;simp [AH];omega))) U ?_;refine Bv (Ay [0,2,3,4,18] [5,17]) ?_;refine Ah ?_;refine Aa (Ad (Ab ?_));refine A9 ?_;refine Ah ?_;refine Aa ?_
     repeat (with_reducible refine Av ?_)
     refine BF.next (i+1) ⟨by omega,Y⟩ (by omega) (Au rfl ⟨rfl,rfl,rfl,rfl,Y⟩ ⟨(by refine congrArg (fun r=>some (R.row 1 r)) ?_;first|(rw [JD,if_pos (by simpa using h14)];simp [AH,AQ];done)|(rw [JD,if_neg (by simpa using h14)];simp;done)),Y⟩)
   try simp only [BE,AN,AM] at h14
   try simp only [ZK] at h14
   try simp at h14
   refine Am (As (Ay [0,2,3,4] [5]) ?_);refine Ad (Ab ?_);refine A9 ?_;refine Ah ?_;refine Aa ?_
   repeat (with_reducible refine Av ?_)
   refine BF.next (i+1) ⟨by omega,Y⟩ (by omega) (Au rfl ⟨rfl,rfl,rfl,rfl,Y⟩ ⟨(by refine congrArg (fun r=>some (R.row 1 r)) ?_;first|(rw [JD,if_pos (by simpa using h14)];simp [AH,AQ];done)|(rw [JD,if_neg (by simpa using h14)];simp;done)),Y⟩)
 try simp only [BE,AN,AM] at h7
 try simp only [ZK] at h7
 try simp at h7
 refine Bf (Af (Ab ?_));refine Ah ?_;refine Aa (Aq (Res.one U (.tmp U .nil) U ?_))
 rw [show i=30 by first|omega|(simp at h7;omega)];rfl
theorem Wd {nx:Nat→List Int} {N:Nat} (hn:∀ p,p<N→∀ k∈nx p,0≤k∧k<N):∀ (f:Nat) (out qu:List Int),FM N out qu→FM N (bfs nx f out qu) []
 | 0,out,qu,h=>⟨h.len,by simp,h.val⟩
 | f+1,out,[],h=>h
 | f+1,out,q::r,h=>by
  have hq:=h.mem q (by simp)
  rw [bfs]
  exact Wd hn f _ _ (FM.relax (N:=N) hq (l:=nx q.toNat) (st:=(out,r)) h.tail (hn q.toNat (by omega))).1
theorem JB {nx:Nat→List Int} {N:Nat} (hn:∀ p,p<N→∀ k∈nx p,0≤k∧k<N) {l:List Int} (hl:∀ q∈l,0≤q∧q<(N:Int)):(Es nx N l).length=N∧∀ v∈Es nx N l,-1≤v∧v≤N:=by
 have h:=Wd hn (2*N+l.length+1) _ _ (HK hl)
 exact⟨h.len,fun v hv=>by have:=h.val v hv;omega⟩
def WI (R:List Int) (i:Nat) (S:List Int) (k:Int):List Int:=if 0≤atI R i∧atI R k=atI R i+1 then S.set k.toNat (atI S k+1) else S
def Ns (R:List Int) (i:Nat) (S:List Int) (l:List Int):List Int:=l.foldl (WI R i) S
def PJ (nx:Nat→List Int) (R:List Int) (S:List Int):Nat→List Int
 | 0=>S
 | n+1=>Ns R n (PJ nx R S n) (nx n)
structure Kb (N:Nat) (b:Int) (S:List Int):Prop where
 len:S.length=N
 val:∀ v∈S,0≤v∧v≤b
theorem Kb.le {N:Nat} {b b':Int} {S:List Int} (h:Kb N b S) (hb:b≤b'):Kb N b' S:=⟨h.len,fun v hv=>by have:=h.val v hv;omega⟩
theorem Kb.at {N:Nat} {b:Int} {S:List Int} (h:Kb N b S) {k:Int} (hk:k.toNat<N):0≤atI S k∧atI S k≤b:=h.val _ (Aaf (CT (by rw [h.len];exact hk)))
theorem Kb.one {N:Nat} {b:Int} {R S:List Int} {i:Nat} {k:Int} (h:Kb N b S) (hk:0≤k∧k<N):Kb N (b+1) (WI R i S k):=by
 unfold WI
 split
 · refine⟨by simpa using h.len,fun v hv=>?_⟩
   rcases List.mem_or_eq_of_mem_set hv with hv|rfl
   · have:=h.val v hv;omega
   have:=h.at (k:=k) (by omega);omega
 exact h.le (by omega)
theorem Kb.row {N:Nat} {R:List Int} {i:Nat}:∀ {l:List Int} {b:Int} {S:List Int},Kb N b S→(∀ k∈l,0≤k∧k<N)→Kb N (b+l.length) (Ns R i S l)
 | [],b,S,h,_=>by simpa [Ns] using h
 | k::l,b,S,h,hl=>by
  have e:Ns R i S (k::l)=Ns R i (WI R i S k) l:=rfl
  rw [e]
  exact (Kb.row (h.one (hl k (by simp))) fun k hk=>hl k (by simp [hk])).le (by simp;omega)
theorem Kb.all {nx:Nat→List Int} {N c:Nat} {R:List Int} (hn:∀ p,p<N→∀ k∈nx p,0≤k∧k<N) (hc:∀ p,p<N→(nx p).length≤c):∀ {n:Nat},n≤N→Kb N ((n*c:Nat):Int) (PJ nx R (ZX N 0) n)
 | 0,_=>⟨by simp [PJ],fun v hv=>by rw [(List.mem_replicate.1 hv).2];simp⟩
 | n+1,h=>by
  rw [PJ,Aag]
  refine (Kb.row (Kb.all hn hc (n:=n) (by omega)) (hn n (by omega))).le ?_
  have:=hc n (by omega)
  omega
theorem La {a:AA} {g:AC} (ha:AJ a=true) (hg:AI g=true):1≤a.Accept.length*g.Values.length∧a.Accept.length*g.Values.length≤60:=by
 have hA:=AR ha
 have hG:=CA hg
 exact⟨Aah (show 1≤a.Accept.length by omega) (show 1≤g.Values.length by omega),Aah (by omega:a.Accept.length≤12) (by omega:g.Values.length≤5)⟩
theorem Rg {g:AC} {a:AA} (ha:AJ a=true) (hg:AI g=true) {x:Int} (hx:0≤x∧x<g.Values.length):(Eh g a x).length=a.Accept.length*g.Values.length∧∀ v∈Eh g a x,-1≤v∧v≤60:=by
 have hs0:=FV ha hx
 have h:=JB (nx:=nxN g a) (N:=a.Accept.length*g.Values.length) (fun p hp=>Qa ha hg hp) (l:=[x*a.Accept.length+a.Start]) (by simpa using hs0)
 have hN:=La ha hg
 exact⟨h.1,fun v hv=>by have:=h.2 v hv;omega⟩
theorem Ik {g:AC} {a:AA} {x:Int} (h:HG g a x 0=true):AI g=true∧AJ a=true∧0≤x∧x<g.Values.length:=by
 unfold HG inB at h
 simp only [ZY,decide_eq_true_eq] at h
 exact⟨h.1.1.1,h.1.1.2,h.1.2.1,by omega⟩
theorem JQ (g:AC) (a:AA) (x:Int):II g a [x]=HG g a x 0:=by
 unfold II HG
 cases hv:AJ a with
 | false=>simp
 | true=>
  have hA:=AR hv
  have e:inB 0 0 ((a.Accept.length:Int)-1)=true:=by unfold inB;simp;omega
  rw [e]
  simp only [Aai,Aaj,Aak]
  cases inB x 0 ((g.Values.length:Int)-1)<;>cases AI g<;>rfl
section
variable {P:Program} {ops:Array Oper} {o:Oper} {σ:St} {q:Bool}
end
inductive Rch (nx:Nat→List Int) (S:Int→Prop):Int→Prop where
 | base {q:Int}:S q→Rch nx S q
 | step {q k:Int}:Rch nx S q→k∈nx q.toNat→Rch nx S k
theorem Rch.mono {nx:Nat→List Int} {S S':Int→Prop} (h:∀ q,S q→Rch nx S' q) {k:Int} (hr:Rch nx S k):Rch nx S' k:=by
 induction hr with
 | base hq=>exact h _ hq
 | step _ hk ih=>exact .step ih hk
def DI (out:List Int) (j:Int):Prop:=0≤j∧j<out.length∧0≤atI out j
theorem Lt {out:List Int} {k j:Int} {v:Int} (hk:0≤k∧k<out.length) (hj:0≤j):atI (out.set k.toNat v) j=if j=k then v else atI out j:=by
 unfold atI
 rw [List.getElem?_set]
 by_cases e:j=k
 · subst e;rw [if_pos rfl,if_pos (show j.toNat<out.length by omega),if_pos rfl];rfl
 rw [if_neg (by omega),if_neg e]
theorem Tx {k j v:Int} {out:List Int} (hv:0≤v) (hk:0≤k∧k<out.length):DI (out.set k.toNat v) j↔DI out j∨j=k:=by
 unfold DI
 rw [Aal]
 constructor
 · rintro⟨h1,h3,h2⟩
   rw [Lt hk h1] at h2
   by_cases e:j=k
   · exact .inr e
   rw [if_neg e] at h2;exact .inl ⟨h1,h3,h2⟩
 rintro (⟨h1,h3,h2⟩|rfl)
 · refine⟨h1,h3,?_⟩
   rw [Lt hk h1]
   split<;>assumption
 refine⟨hk.1,hk.2,?_⟩
 rw [Lt hk hk.1,if_pos rfl];exact hv
theorem MS {q k j:Int} {out r:List Int} (hq:DI out q) (hk:0≤k∧k<out.length):DI (rlx q (out,r) k).1 j↔DI out j∨j=k:=by
 unfold rlx
 dsimp only
 split
 · exact Tx (by have:=hq.2.2;omega) hk
 rename_i hneg
 have hneg':¬ atI out k<0:=hneg
 constructor
 · exact .inl
 rintro (h|rfl)
 · exact h
 exact⟨hk.1,hk.2,Int.not_lt.1 hneg'⟩
theorem Yw {q k j:Int} {out r:List Int} (hk:0≤k∧k<out.length):j∈(rlx q (out,r) k).2↔j∈r∨(j=k∧¬ DI out j):=by
 unfold rlx DI
 dsimp only
 split
 · simp only [ZQ,ZN]
   constructor
   · rintro (h|rfl)
     · exact .inl h
     exact .inr ⟨rfl,fun h=>by omega⟩
   rintro (h|⟨rfl,_⟩)
   · exact .inl h
   exact .inr rfl
 constructor
 · exact .inl
 rintro (h|⟨rfl,h⟩)
 · exact h
 exact absurd ⟨hk.1,hk.2,by omega⟩ h
theorem L9 {q j:Int}:∀ {l out r:List Int},DI out q→(∀ k∈l,0≤k∧k<out.length)→(DI (relax q l (out,r)).1 j↔DI out j∨j∈l)∧(j∈(relax q l (out,r)).2↔j∈r∨(j∈l∧¬ DI out j))
 | [],out,r,_,_=>by simp [relax]
 | k::l,out,r,hq,hl=>by
  have hk:=hl k (by simp)
  have e:relax q (k::l) (out,r)=relax q l ((rlx q (out,r) k).1,(rlx q (out,r) k).2):=rfl
  have hlen:=T2 q (out,r) k
  have ih:=L9 (q:=q) (j:=j) (l:=l) (out:=(rlx q (out,r) k).1) (r:=(rlx q (out,r) k).2) ((MS hq hk).2 (.inl hq)) fun k' hk'=>by rw [hlen];exact hl k' (by simp [hk'])
  rw [e]
  have h1:=MS (q:=q) (j:=j) (r:=r) hq hk
  have h2:=Yw (q:=q) (j:=j) (out:=out) (r:=r) hk
  constructor
  · rw [ih.1,h1,ZG];simp only [or_assoc]
  rw [ih.2,h1,h2,ZG]
  by_cases hv:DI out j<;>by_cases hjk:j=k<;>by_cases hjl:j∈l<;>simp [hv,hjk,hjl]<;>simp_all
theorem TV {nx:Nat→List Int} {N:Nat} (hn:∀ p,p<N→∀ k∈nx p,0≤k∧k<N) {j:Int}:∀ (f:Nat) (out qu:List Int),FM N out qu→Eo out+qu.length<f→(∀ q∈qu,DI out q)→(∀ p,DI out p→p∈qu∨∀ k∈nx p.toNat,DI out k)→
 (DI (bfs nx f out qu) j↔Rch nx (DI out) j)
 | 0,_,_,_,h,_,_=>by omega
 | f+1,out,[],hI,_,_,hc=>by
  rw [bfs]
  constructor
  · exact .base
  intro h
  induction h with
  | base h=>exact h
  | step _ hk ih=>exact (hc _ ih).resolve_left (by simp) _ hk
 | f+1,out,q::r,hI,hf,hv,hc=>by
  rw [bfs]
  have hq:=hI.mem q (by simp)
  have hqv:=hv q (by simp)
  have hnq:=hn q.toNat (by omega)
  have hR:=FM.relax (N:=N) hq (l:=nx q.toNat) (st:=(out,r)) hI.tail hnq
  have hvis:=fun j=>L9 (q:=q) (j:=j) (l:=nx q.toNat) (out:=out) (r:=r) hqv fun k hk=>by rw [hI.len];exact hnq k hk
  have h2:=hR.2.1
  simp only [List.length_cons] at hf h2
  have ih:=TV hn (j:=j) f (relax q (nx q.toNat) (out,r)).1 (relax q (nx q.toNat) (out,r)).2 hR.1 (by omega) (fun p hp=>?_) (fun p hpv=>?_)
  · rw [ih]
    constructor
    · refine Rch.mono fun p hp=>?_
      rcases ((hvis p).1).1 hp with h|h
      · exact .base h
      exact .step (.base hqv) h
    exact Rch.mono fun p hp=>.base (((hvis p).1).2 (.inl hp))
  · rw [(hvis p).1]
    rcases ((hvis p).2).1 hp with h|⟨h,_⟩
    · exact .inl (hv p (by simp [h]))
    exact .inr h
  by_cases hpo:DI out p
  · rcases hc p hpo with h|h
    · rcases ZG.1 h with rfl|h
      · exact .inr fun k hk=>((hvis k).1).2 (.inr hk)
      exact .inl (((hvis p).2).2 (.inl h))
    exact .inr fun k hk=>((hvis k).1).2 (.inl (h k hk))
  rcases ((hvis p).1).1 hpv with h|h
  · exact absurd h hpo
  exact .inl (((hvis p).2).2 (.inr ⟨h,hpo⟩))
theorem IN {j:Int}:∀ {l out:List Int},(∀ q∈l,0≤q∧q<out.length)→(DI (CC l out) j↔DI out j∨j∈l)
 | [],_,_=>by simp [CC]
 | k::l,out,hl=>by
  have hk:=hl k (by simp)
  have e:CC (k::l) out=CC l (out.set k.toNat 0):=rfl
  rw [e,IN (fun q hq=>by rw [Aal];exact hl q (by simp [hq])),ZG,Tx (by omega) hk,or_assoc]
theorem Kz {nx:Nat→List Int} {N:Nat} (hn:∀ p,p<N→∀ k∈nx p,0≤k∧k<N) {l:List Int} (hl:∀ q∈l,0≤q∧q<(N:Int)) {j:Int}:DI (Es nx N l) j↔Rch nx (·∈l) j:=by
 have hz:∀ p,DI (CC l (ZX N (-1))) p↔p∈l:=fun p=>by
  rw [IN fun q hq=>by simpa using hl q hq]
  constructor
  · rintro (⟨h1,h3,h2⟩|h)
    · exfalso
      unfold atI at h2
      rw [Aam] at h3
      rw [List.getElem?_replicate,if_pos (by omega)] at h2;simp at h2
    exact h
  exact .inr
 have hst:=HK (N:=N) hl
 unfold Es
 have hng:=JH (CC l (ZX N (-1)))
 rw [Ew] at hng
 simp only [Aam] at hng
 rw [TV hn _ _ _ hst (by omega) (fun q hq=>(hz q).2 hq) (fun p hp=>.inl ((hz p).1 hp))]
 constructor
 · exact Rch.mono fun p hp=>.base ((hz p).1 hp)
 exact Rch.mono fun p hp=>.base ((hz p).2 hp)
def R1 (nx:Nat→List Int) (i:Nat) (k:Int):Prop:=Rch nx (·∈nx i) k
theorem R1.trans {nx:Nat→List Int} {i j:Nat} {k:Int} (h1:R1 nx i j) (h2:R1 nx j k):R1 nx i k:=by
 refine Rch.mono (fun q hq=>?_) h2;exact .step h1 (by simpa using hq)
section
variable (rel:Nat→Nat→Bool)
end
section
variable {rel:Nat→Nat→Bool}
end
def ltI (a b:Int):Bool:=decide (a<b)
theorem SH:SO ltI:=by
 constructor<;>intros<;>simp only [ltI,decide_eq_true_eq,decide_eq_false_iff_not] at *<;>omega
def YC (l:List Int):List Int:=H4 ltI l
end Go.Q
namespace Go.Proofs
open Go.Shelf Go.RowKit Go.Lib Go.Sort
end Go.Proofs
namespace Go.Q
open Go.RowKit Go.D Go.Proofs.YtdhojcaoljhbiaaGreat
def Ep (i:Nat) (l:List Int) (k:Nat):List Int:=(l.filter fun y=>decide (y.toNat=k)).map fun _=>(i:Int)
def EE (nx:Nat→List Int) (p:Nat) (k:Nat):List Int:=(ZD p).flatMap fun i=>Ep i (nx i) k
def CE (next:List (List Int)):List (List Int):=(ZD next.length).map fun k=>EE (nxL next) next.length k
theorem IR (nx:Nat→List Int) (p k:Nat):EE nx (p+1) k=EE nx p k++Ep p (nx p) k:=by
 unfold EE;rw [Aan,Aao];simp
theorem KN {i:Nat} {l:List Int} {j:Nat} {y:Int} (h:l[j]?=some y) (k:Nat):Ep i (l.take (j+1)) k=Ep i (l.take j) k++if k=y.toNat then [(i:Int)] else []:=by
 unfold Ep
 rw [CO h,List.filter_append,ZV]
 by_cases e:k=y.toNat
 · subst e;simp
 have:¬ y.toNat=k:=fun h=>e h.symm
 simp [e,this]
theorem Mg (i:Nat) (l:List Int) (k:Nat):(Ep i l k).length≤l.length:=by
 unfold Ep;rw [ZO];exact ZW _ _
theorem Kv {nx:Nat→List Int} {b N:Nat} (hb:∀ p,p<N→(nx p).length≤b) (k:Nat):∀ p,p≤N→(EE nx p k).length≤p*b
 | 0,_=>by simp [EE]
 | p+1,h=>by
  rw [IR,Aap,Aag]
  have:=Kv hb k p (by omega)
  have:=hb p (by omega)
  have:=Mg p (nx p) k
  omega
theorem GM {nx:Nat→List Int} {p k:Nat} {q:Int}:q∈EE nx p k↔∃ i:Nat,i<p∧q=(i:Int)∧∃ y∈nx i,y.toNat=k:=by
 unfold EE Ep
 simp only [ZL,ZE,ZC,ZB,decide_eq_true_eq]
 constructor
 · rintro⟨i,hi,y,⟨hy,h⟩,rfl⟩;exact⟨i,hi,rfl,y,hy,h⟩
 rintro⟨i,hi,rfl,y,hy,h⟩;exact⟨i,hi,y,⟨hy,h⟩,rfl⟩
theorem DU (next:List (List Int)):(CE next).length=next.length:=by unfold CE;simp
theorem GE {next:List (List Int)} {k:Nat} (hk:k<next.length):nxL (CE next) k=EE (nxL next) next.length k:=Qb (by unfold CE;exact CD _ hk)
theorem GD {next:List (List Int)}:∀ p,p<next.length→∀ k∈nxL (CE next) p,0≤k∧k<next.length:=fun p hp k hk=>by
 rw [GE hp] at hk
 obtain⟨i,hi,rfl,_⟩:=GM.1 hk
 omega
theorem Sp {next:List (List Int)} (hn:∀ p,p<next.length→∀ k∈nxL next p,0≤k∧k<next.length) {gl:List Int} {G:Nat→Bool} (hG:∀ i:Nat,i<next.length→((i:Int)∈gl↔G i=true)) (hgl:∀ q∈gl,0≤q∧q<(next.length:Int)) {j:Nat} (hj:j<next.length):Rch (nxL (CE next)) (·∈gl) (j:Int)↔GZ (nxL next) G j:=by
 constructor
 · intro h
   have key:∀ q:Int,Rch (nxL (CE next)) (·∈gl) q→0≤q∧q<next.length∧GZ (nxL next) G q.toNat:=by
    intro q h
    induction h with
    | base h=>have:=hgl _ h;exact⟨this.1,this.2,.goal ((hG _ (by omega)).1 (by rwa [ZA this.1]))⟩
    | @step q k _ hk ih=>
     have hq:q.toNat<next.length:=by omega
     rw [GE hq] at hk
     obtain⟨i,hi,rfl,y,hy,e⟩:=GM.1 hk
     exact⟨by omega,by omega,.step (z:=y) (by simpa using hy) (by rw [e];exact ih.2.2)⟩
   have:=(key _ h).2.2
   simpa using this
 intro h
 induction h with
 | goal h=>exact .base ((hG _ hj).2 h)
 | @step i z hz _ ih=>
  have hb:=hn i hj z hz
  have:=ih (by omega)
  rw [ZA hb.1] at this
  exact .step this (by rw [GE (by omega)];exact GM.2 ⟨i,hj,rfl,z,hz,rfl⟩)
theorem NK {l:List Int} {x:Int}:x∈YC l↔x∈l:=Rt
section
variable {rel:Nat→Nat→Bool} {N i k:Nat}
end
def NP (g:AC) (a:AA):Nat:=a.Accept.length*g.Values.length
def EA (g:AC) (a:AA):Bool:=AI g&&AJ a
theorem Qh (g:AC) (a:AA):HG g a 0 0=EA g a:=by
 unfold HG EA
 cases hg:AI g with
 | false=>simp
 | true=>
  cases ha:AJ a with
  | false=>simp
  | true=>
   have hA:=AR ha
   have hG:=CA hg
   unfold inB;simp;omega
theorem YA (g:AC) (a:AA):II g a []=EA g a:=by
 unfold II EA;simp
theorem Zu {w:World} {v:Value} {F:List Nat} {k:Nat} (h:C false w (.v (.slice none 0 0)) v F):C false w (.sl k []) v F:=by
 simp only [C] at h
 obtain⟨rfl,rfl,_⟩:=h
 unfold C
 exact⟨none,0,0,rfl,rfl,ZR _,ZH _,.inl ⟨rfl,rfl,by simp⟩⟩
theorem JK {g:AC} {a:AA} (h:EA g a=true):AI g=true∧AJ a=true:=by unfold EA at h;simpa using h
theorem NV (g:AC) (a:AA):FnT ZJ 53 [.agg (AG g),.agg (AE a),.one (.v (.slice none 0 0))] (.a (.one (.v (.bool (EA g a))))):=by
 have h:=NW g a []
 rw [YA] at h
 refine⟨h.1,fun w vs F hG hv=>h.2 w vs F hG ?_⟩
 obtain⟨v1,r1,G1,G2,e1,h1,⟨v2,r2,G3,G4,e2,h2,⟨v3,r3,G5,G6,e3,h3,h4,e4⟩,e5⟩,e6⟩:=hv
 exact⟨v1,r1,G1,G2,e1,h1,⟨v2,r2,G3,G4,e2,h2,⟨v3,r3,G5,G6,e3,Zu h3,h4,e4⟩,e5⟩,e6⟩
def OH (g:AC) (a:AA) (RK:List Int) (p:Nat):Bool:=decide (0≤atI RK (p:Int))&&acc a ((p:Int)%(a.Accept.length:Int)) (g.Values[((p:Int) / (a.Accept.length:Int)).toNat]?.getD 0)
def Hj (g:AC) (a:AA) (RK:List Int) (i:Nat):List Int:=((ZD i).filter (OH g a RK)).map fun (p:Nat)=>(p:Int) / (a.Accept.length:Int)
theorem Oa (g:AC) (a:AA) (RK:List Int) (i:Nat):Hj g a RK (i+1)=Hj g a RK i++if OH g a RK i then [(i:Int) / (a.Accept.length:Int)] else []:=by
 unfold Hj
 rw [AY,ZV]
 cases OH g a RK i<;>rfl
theorem U8 (g:AC) (a:AA) (RK:List Int) (i:Nat):(Hj g a RK i).length≤i:=by
 unfold Hj
 rw [ZO]
 exact ZP (ZW _ _) (by simp)
theorem LM {g:AC} {a:AA} (ha:AJ a=true) {RK:List Int} {i:Nat} (hi:i≤a.Accept.length*g.Values.length):∀ y∈Hj g a RK i,0≤y∧y<g.Values.length:=by
 intro y hy
 unfold Hj at hy
 obtain⟨p,hp,rfl⟩:=ZC.1 hy
 have:=ZE.1 (ZB.1 hp).1
 exact (Rq (by have:=AR ha;omega) (show p<a.Accept.length*g.Values.length by omega)).1
def Lu (g:AC) (a:AA) (x:Int):List Int:=YC (Hj g a (Eh g a x) (a.Accept.length*g.Values.length))
theorem QW (m b:Nat):EB ltI (N4 m b):=by
 unfold N4 EB
 rw [Aaq]
 refine List.Pairwise.filter _ ?_;refine List.Pairwise.imp ?_ List.pairwise_lt_range;intro p q h
 unfold ltI
 simp;omega
theorem Vc {l:List Int} {b:Nat} (hl:∀ x∈l,0≤x∧x<b):N4 (wB l) b=YC l:=by
 refine HT SH (QW _ _) (IX SH l) fun x=>?_
 rw [NK]
 unfold N4
 simp only [ZC,ZB,ZE]
 constructor
 · rintro⟨q,⟨_,h2⟩,rfl⟩
   exact (PF (fun k hk=>(hl k hk).1) q).1 h2
 intro h
 have:=hl x h
 refine⟨x.toNat,⟨by omega,?_⟩,by omega⟩
 exact (PF (fun k hk=>(hl k hk).1) _).2 (by rwa [ZA this.1])
theorem Wj {g:AC} {a:AA} (ha:AJ a=true) {x:Int}:∀ y∈Lu g a x,0≤y∧y<g.Values.length:=fun y hy=>LM ha (ZR _) y (NK.1 hy)
theorem RU {g:AC} {a:AA} (ha:AJ a=true) (hg:AI g=true) (x:Int):(Lu g a x).length≤60:=ZP (N5 _) (ZP (U8 _ _ _ _) (La ha hg).2)
def Gm (g:AC) (a:AA) (i:Nat):List CU:=(ZD i).flatMap fun (x:Nat)=>(Lu g a x).map fun y=>⟨(x:Int),y⟩
theorem I3 (g:AC) (a:AA) (i:Nat):Gm g a (i+1)=Gm g a i++(Lu g a i).map fun y=>⟨(i:Int),y⟩:=by
 unfold Gm
 rw [Aan,Aao];simp
def KF (g:AC) (a:AA):List CU:=if EA g a then Gm g a g.Values.length else []
theorem Pm {g:AC} {a:AA} {i:Nat} {p:CU}:p∈Gm g a i↔(0≤p.From∧p.From<i)∧p.To∈Lu g a p.From:=by
 unfold Gm
 simp only [ZL,ZE,ZC]
 constructor
 · rintro⟨x,hx,y,hy,rfl⟩
   exact⟨⟨by simp,by simpa using hx⟩,hy⟩
 rintro⟨h1,h2⟩
 have e:((p.From.toNat:Nat):Int)=p.From:=by omega
 exact⟨p.From.toNat,by omega,p.To,by rw [e];exact h2,by rw [e]⟩
theorem Lv (g:AC) (a:AA):∀ i,EB El (Gm g a i)
 | 0=>by unfold Gm EB;simp
 | i+1=>by
  rw [I3]
  unfold EB
  rw [List.pairwise_append]
  refine⟨Lv g a i,?_,?_⟩
  · rw [Aaq]
    refine List.Pairwise.imp ?_ (IX SH (Hj g a (Eh g a i) (a.Accept.length*g.Values.length)));intro y z h
    unfold ltI at h
    unfold El
    simpa using h
  intro p hp q hq
  obtain⟨y,_,rfl⟩:=ZC.1 hq
  have:=(Pm.1 hp).1
  unfold El
  simp;omega
theorem P5 {g:AC} {a:AA} (ha:AJ a=true) (hg:AI g=true):∀ i,(Gm g a i).length≤60*i
 | 0=>by simp [Gm]
 | i+1=>by
  rw [I3,Aap,ZO]
  have:=P5 ha hg i
  have:=RU ha hg (x:=i)
  omega
theorem L7 (l:List CU) (x:CU):H4 El (l++[x])=GL El (H4 El l) x:=by unfold H4;rw [Aae];rfl
theorem Vz {g:AC} {a:AA} {x y:Int}:y∈Lu g a x↔∃ i:Nat,i<NP g a∧OH g a (Eh g a x) i=true∧(i:Int) / (a.Accept.length:Int)=y:=by
 unfold Lu
 rw [NK]
 unfold Hj
 simp only [ZC,ZB,ZE]
 constructor
 · rintro⟨i,⟨h1,h2⟩,h3⟩;exact⟨i,h1,h2,h3⟩
 rintro⟨i,h1,h2,h3⟩;exact⟨i,⟨h1,h2⟩,h3⟩
theorem YT {l:List Int} {b:Nat} (h:∀ x∈l,0≤x∧x<b):wB l<2^b:=Aas _ fun i hi=>by
 cases ht:(wB l).testBit i with
 | false=>rfl
 | true=>
  have h1:=(PF (fun k hk=>(h k hk).1) i).1 ht
  have:=h _ h1
  omega
theorem V9 {g:AC} {a:AA} (ha:AJ a=true) {RK:List Int} {i:Nat} (hi:i≤a.Accept.length*g.Values.length) (hv:g.Values.length≤5):wB (Hj g a RK i)<2^5:=
 YT fun x hx=>by have:=LM ha hi x hx;omega
theorem QT (g:AC) (a:AA) (ha:AJ a=true) (hg:AI g=true) (x:Int) (hx:0≤x∧x<g.Values.length):FnT ZJ 63 [.agg (AG g),.agg (AE a),.one (.v (.int .i64 x))] (.a (.one (.sl 1 ((Lu g a x).map AQ)))):=by
 refine A8 Abh U (by kernel_rfl) Abi U fun hlen w0=>?_
 try simp [BC,AP,AG,AE] at hlen
 have hA:=AR ha
 have hG:=CA hg
 have hN:1≤NP g a∧NP g a≤60:=La ha hg
 have hRK:=Rg ha hg hx
 have hRl:(Eh g a x).length=NP g a:=hRK.1
 refine Af (Ac (Bg U U U (.tm U) (ts:=_) (by rfl)) U ?_);refine Ac (Bg U U U (.tm U) (ts:=_) (by rfl)) U ?_;refine An ?_;refine Ch (i:=6) 20001 1 U U ?_;refine Aa (Af (A7 Db ?_));refine Aj FU ?_;refine Bi (.t) Abj ?_;refine Ah ?_;refine Aa (Af (Aj B7 ?_));refine Aj B6 ?_;refine Ab ?_;refine By (PN g a ha hg x hx) ?_;refine Ah ?_;refine Aa (Ae (As (Ay [0,1,2,3,4,6,7,8] [20001]) ?_));refine Ad (An ?_);refine Aa (Ae (Af (An ?_)));refine Aa (AW.block (Cp (fun (i:Nat) (m:Nat)=>(i≤NP g a∧m<2^60)∧m=wB (Hj g a (Eh g a x) i)) (fun (i:Nat) (m:Nat)=>⟨_,[(10,(true,.a (.one (.t (.v (.int .i64 (i:Nat))))))),(9,(true,.a (.one (.t (.v (.int .i64 (m:Nat))))))),(3,_),(4,_),(6,_),(7,_),(8,_)],[]⟩) (fun (i:Nat) (m:Nat)=>NP g a-i) (0) (0) ⟨⟨ZH _,by decide⟩,U⟩ (Au U ⟨U,U,U,U,U,U,U,Y⟩ trivial) ?_))
 rintro i m ⟨hk,he⟩
 refine Ae (Af (Ab ?_));refine Ab ?_;refine Bi (.t) Z9 ?_;refine AWl.lt ?_;refine Aa (Ai (.tm U) (fun h21=>?_) (fun h21=>?_))
 · try simp at h21
   have hiN:i<NP g a:=by omega
   have hdm:=Rq (p:=i) hA.1 (show i<NP g a from hiN)
   obtain⟨v,hv⟩:∃ v,g.Values[((i:Int) / (a.Accept.length:Int)).toNat]?=some v:=⟨_,ZI (by omega)⟩
   have hgi:=CT (out:=Eh g a x) (k:=(i:Int)) (by omega)
   refine Am (Ae (AW.block (Ae (Bx 16 (DM [[],[],[0,1],[0,1,2],[0,1,2,3],[0,1,2,3,4],[0,1,2,3,4,5],[0,1,2,3,4,5],[0,1,2,3,4,5],[0,1,2,3,4,5],[0,1,2,3,4,5,8,9],[0,1,2,3,4,5],[0,1,2,3,4,5],[0,1,2,3,4,5,11,12],[0,1,2,3,4,5,6,7,8,9,10,11,12,13],[0,1,2,3,4,5,6,7,8,9,10,11,12,13,14]]) (by kernel_rfl) (by kernel_rfl) (by kernel_rfl) ?_))));refine Az ?_;refine Az ?_;refine AB.s (fun _ hs=>(by exact Ak U (.no U) (Ag hs U) (hs.tm U) (hs.tm U) Z9 ty3 (fun _=>⟨by omega,(Ao hgi)⟩))) ?_;refine A5 ty3 ?_;refine AB.s (fun _ hs=>O0 U (.no U) (Ag hs U) (hs.tm U) (.const U)) ?_;refine Az ?_;refine AB.s (fun _ hs=>(by exact Br U (by exact hs.y1) (Ag hs U) (hs.tm U) B7 U U)) ?_;refine AB.s (fun _ hs=>(by exact Br U (by exact hs.y1) (Ag hs U) (hs.tm U) B6 U U)) ?_;refine AB.s (fun _ hs=>Bh U (by exact hs.y1) (Ag hs U) (hs.tm U)) ?_
   refine AB.s (fun _ hs=>Bh U (by exact hs.y1) (Ag hs U) (hs.tm U)) ?_;refine AB.s (fun _ hs=>Uc U (by exact hs.y1) (Ag hs U) (hs.ti U) (hs.ti U) (fun hq=>by first|omega|(simp at hq;omega))) ?_;refine AB.s (fun _ hs=>Bh U (by exact hs.y1) (Ag hs U) (hs.tm U)) ?_;refine AB.s (fun _ hs=>Bh U (by exact hs.y1) (Ag hs U) (hs.tm U)) ?_;refine AB.s (fun _ hs=>Sc U (by exact hs.y1) (Ag hs U) (hs.ti U) (hs.ti U) (fun hq=>by first|omega|(simp at hq;omega))) ?_;refine AB.s (fun _ hs=>Cw U (by exact hs.y1) (Ag hs U) (.cons (hs.ti U) (AD hs U) (.cons (hs.ti U) (AD hs U) (.cons (hs.ti U) (AD hs U) (.cons (hs.ti U) (AD hs U) .nil)))) fun hq=>FnT.fr (IV g a ha hg ((i:Int) / (a.Accept.length:Int)) ((i:Int)%(a.Accept.length:Int)) v (by omega) hv (by omega))) ?_;refine AB.s (fun _ hs=>IJ U (.no U) (Ag hs U) (hs.tm U) (hs.ti U)) ?_
   refine Bs U U ?_;refine Aa (Ai (.tm U) (fun h39=>?_) (fun h39=>?_))
   · try simp at h39
     have hhit:OH g a (Eh g a x) i=true:=by (unfold OH;rw [hv,Option.getD_some];simpa using h39)
     have h2x:2^((i:Int) / (a.Accept.length:Int)).toNat≤2^5:=Nat.pow_le_pow_right (by omega) (by omega)
     have h2p:=Nat.two_pow_pos ((i:Int) / (a.Accept.length:Int)).toNat
     refine As (Ay [3,4,6,7,8,9,10] []) ?_;refine Ad (Ab ?_);refine Ab ?_;refine Ab ?_;refine Ac (Uc U (.no U) U (.tm U) (.tm U) (fun _=>by omega)) U ?_;refine Ac (F9 U (.no U) U (.const U) (.tm U) (fun _=>by omega)) U ?_;refine Ac (HN U (.no U) U (.tm U) (.tm U) (fun _=>by omega)) U ?_;refine Ah ?_;refine Aa (As (Ay [3,4,6,7,8,9,10] []) ?_);refine Ad (Ab ?_);refine A9 ?_;refine Ah ?_;refine Aa ?_
     repeat (with_reducible refine Av ?_)
     refine BV.next (i+1) (m|||2^((i:Int) / (a.Accept.length:Int)).toNat) ⟨⟨by omega,Fp hk.2 (by omega)⟩,(by rw [Oa,hhit,if_pos rfl,W8,←he])⟩ (by omega) (Au rfl ⟨rfl,rfl,rfl,rfl,rfl,rfl,rfl,Y⟩ trivial)
   try simp at h39
   have hhit:OH g a (Eh g a x) i=false:=by (unfold OH;rw [hv,Option.getD_some];simpa using h39)
   refine Am (As (Ay [3,4,6,7,8,9,10] []) ?_);refine Ad (Ab ?_);refine A9 ?_;refine Ah ?_;refine Aa ?_
   repeat (with_reducible refine Av ?_)
   refine BV.next (i+1) (m) ⟨⟨by omega,hk.2⟩,(by rw [Oa,hhit];simpa using he)⟩ (by omega) (Au rfl ⟨rfl,rfl,rfl,rfl,rfl,rfl,rfl,Y⟩ trivial)
 try simp at h21
 have hM:m=wB (Hj g a (Eh g a x) (NP g a)):=by (rw [he,show i=NP g a by omega])
 subst hM;refine Bf (Af (Ab ?_));refine Cj (Dc 4700 (Un (wB (Hj g a (Eh g a x) (NP g a))) (Nat.lt_trans (V9 ha (ZR _) (by omega)) (by decide))) U U U (.cons (.tm U) U .nil) U U) U ?_;refine Ah ?_;refine Aa (Aq (Res.one U (.tmp U .nil) U ?_))
 unfold Lu;rw [Vc (fun z hz=>by have:=LM ha (ZR _) z hz;omega)];rfl
def GB (g:AC) (a:AA) (x y:Int):Bool:=HG g a x 0&&HG g a y 0
theorem Me {g:AC} {a:AA} {x y:Int}:II g a [x,y]=GB g a x y:=by
 unfold GB
 rw [←JQ,←JQ]
 unfold II
 simp only [Aai,Aaj,Aak]
 cases inB x 0 ((g.Values.length:Int)-1)<;>cases inB y 0 ((g.Values.length:Int)-1)<;>cases AI g<;>cases AJ a<;>rfl
theorem G8 {g:AC} {a:AA} {y v:Int} (ha:AJ a=true) (hy:0≤y∧y<g.Values.length):∀ q∈EZ a y v,0≤q∧q<(NP g a:Int):=by
 intro q hq
 unfold EZ at hq
 obtain⟨s,hs,rfl⟩:=ZC.1 hq
 have hsl:=ZE.1 (ZB.1 hs).1
 have hA:=AR ha
 have h0:0≤y*(a.Accept.length:Int):=Int.mul_nonneg hy.1 (by omega)
 have h1:y*(a.Accept.length:Int)≤((g.Values.length:Int)-1)*(a.Accept.length:Int):=Int.mul_le_mul_of_nonneg_right (by omega) (by omega)
 have h2:((g.Values.length:Int)-1)*(a.Accept.length:Int)=(a.Accept.length:Int)*g.Values.length-a.Accept.length:=by rw [Int.sub_mul,Int.one_mul,Aau]
 have h3:((NP g a:Nat):Int)=(a.Accept.length:Int)*g.Values.length:=by unfold NP;simp
 exact⟨by show 0≤y*(a.Accept.length:Int)+(s:Int);omega,by show y*(a.Accept.length:Int)+(s:Int)<_;omega⟩
theorem Pt {g:AC} {a:AA} {y v:Int} (ha:AJ a=true) (hy:0≤y) (hv:g.Values[y.toNat]?=some v) {i:Nat} (hi:i<NP g a):(i:Int)∈EZ a y v↔Eu g a y i=true:=by
 have hA:=AR ha
 have hd:=Rq hA.1 (show i<a.Accept.length*g.Values.length from hi)
 have hdm:=Int.mul_ediv_add_emod (i:Int) (a.Accept.length:Int)
 unfold EZ Eu
 simp only [ZC,ZB,ZE,ZY,decide_eq_true_eq]
 constructor
 · rintro⟨s,⟨hs,hacc⟩,e⟩
   have h1:(i:Int) / (a.Accept.length:Int)=y:=by
    rw [←e,Aav,Int.add_mul_ediv_right _ _ (by omega),Int.ediv_eq_zero_of_lt (by omega) (by omega),Int.zero_add]
   have h2:(i:Int)%(a.Accept.length:Int)=s:=by
    rw [←e,Aav,Int.add_mul_emod_self_right,Int.emod_eq_of_lt (by omega) (by omega)]
   refine⟨h1,?_⟩
   rw [h1,h2,hv];exact hacc
 rintro⟨h1,h2⟩
 rw [h1,hv] at h2
 refine⟨((i:Int)%(a.Accept.length:Int)).toNat,⟨by omega,?_⟩,?_⟩
 · rw [ZA hd.2.1];exact h2
 rw [ZA hd.2.1,←h1,Aau];exact hdm
theorem GZ.congr {nx nx':Nat→List Int} {G:Nat→Bool} {N:Nat} (hn:∀ p,p<N→∀ k∈nx p,0≤k∧k<(N:Int)) (he:∀ p,p<N→nx p=nx' p) {i:Nat} (h:GZ nx G i):i<N→GZ nx' G i:=by
 induction h with
 | goal h=>exact fun _=>.goal h
 | @step i z hz _ ih=>
  intro hi
  have hb:=hn i hi z hz
  exact .step (by rw [←he i hi];exact hz) (ih (by omega))
theorem SJ (next:List (List Int)) (hN:next.length≤65536) (hn:∀ p,p<next.length→∀ k∈nxL next p,0≤k∧k<next.length) (hz:∀ p,p<next.length→(nxL next p).length≤65536):FnT ZJ 116 [.one (.sl 1 (next.map DV))] (.a (.one (.sl 1 ((CE next).map DV)))):=by
 refine A8 Abk U (by kernel_rfl) Abl U fun hlen w0=>?_
 try simp [BC,AP,AG,AE] at hlen
 skip
 refine Af (An ?_);refine Ch (i:=2) 20001 1 U U ?_;refine Aa (Af (Ab ?_));refine Bi (.t) ZM ?_;refine A6 (Ho 10 U U U (.tm U) ZM U5 U U U U (by omega)) U ?_;refine Bv (Le.nilRow (id:=10) 1 U) ?_;refine Ah ?_;refine Aa (Ae (Af (Ab ?_)));refine Bi (.t) ZM ?_;refine Ac (Bh U (.no U) U (.const U)) U ?_;refine Aa (AW.block (B9 (fun (i:Nat)=>(i≤next.length)∧True) (fun (i:Nat)=>⟨_,[(13,(true,.a (.one (.t (.v (.int .i64 (i:Nat))))))),(3,(true,.a (.one (.rf 10)))),(2,_),(11,_),(12,_)],[(10,.row 1 ((ZD next.length).map fun (k:Nat)=>[T.sl 1 ((EE (nxL next) i k).map AQ)]))]⟩) (fun (i:Nat)=>next.length-i) (0) ⟨ZH _,Y⟩ (Au U ⟨U,U,U,U,U,Y⟩ ⟨congrArg (fun r=>some (R.row 1 r)) (by apply Aaw<;>simp [EE,Ep]),Y⟩) ?_))
 rintro i ⟨hk,he⟩
 refine Af (AWl.lt ?_);refine Aa (Ae (Ai (.tm U) (fun h14=>?_) (fun h14=>?_)))
 · try simp at h14
   obtain⟨l,hl⟩:∃ ξ,next[i]?=some ξ:=⟨_,ZI (by omega)⟩
   have hnl:nxL next i=l:=Qb hl
   have hiN:i<next.length:=by omega
   have hll:l.length≤65536:=by rw [←hnl];exact hz i hiN
   refine Am (Ae (AW.block (Af (Ab ?_))));refine Ac (Ak U (.no U) U (.tm U) (.tm U) ZM Cc (fun _=>⟨by omega,(by exact Ao hl)⟩)) U ?_;refine Aj Cc ?_;refine Ah ?_;refine Ah ?_;refine Aa (Af (Ab ?_));refine Bi (.t) Z9 ?_;refine Ac (Bh U (.no U) U (.const U)) U ?_;refine Aa (AW.block (B9 (fun (j:Nat)=>(j≤l.length)∧True) (fun (j:Nat)=>⟨_,[(20,(true,.a (.one (.t (.v (.int .i64 (j:Nat))))))),(3,(true,.a (.one (.rf 10)))),(2,_),(4,_),(11,_),(12,_),(13,_),(18,_),(19,_)],[(10,.row 1 ((ZD next.length).map fun (k:Nat)=>[T.sl 1 ((EE (nxL next) i k++Ep i (l.take j) k).map AQ)]))]⟩) (fun (j:Nat)=>l.length-j) (0) ⟨ZH _,Y⟩ (Au U ⟨U,U,U,U,U,U,U,U,U,Y⟩ ⟨congrArg (fun r=>some (R.row 1 r)) (by apply Aaw<;>simp [EE,Ep]),Y⟩) ?_))
   rintro j ⟨hk1,he1⟩
   refine Af (AWl.lt ?_);refine Aa (Ae (Ai (.tm U) (fun h21=>?_) (fun h21=>?_)))
   · try simp at h21
     obtain⟨y,hy⟩:∃ ξ,l[j]?=some ξ:=⟨_,ZI (by omega)⟩
     have hyb:=hn i hiN y (by rw [hnl];exact Aaf hy)
     have hl1:=Kv (nx:=nxL next) (b:=65536) (N:=next.length) hz y.toNat i (by omega)
     have hl2:=Mg i (l.take j) y.toNat
     have hl3:(l.take j).length≤65536:=by (have:=hz i hiN;rw [hnl] at this;rw [List.length_take];omega)
     have hl4:(EE (nxL next) i y.toNat).length+(Ep i (l.take j) y.toNat).length≤4295032832:=by omega
     refine Am (Ae (AW.block (Af (Ac (Ak U (.no U) U (.tm U) (.tm U) Z9 ty3 (fun _=>⟨by omega,(by exact Ao hy)⟩)) U ?_))));refine Aj ty3 ?_;refine Ah ?_;refine Aa (AW.takeR (id:=10) (i:=y.toNat) (p:=0) 291 292 U (CD _ (by omega)) U (fun _=>rfl) (fun _=>rfl) fun c29=>?_);refine Ad (Ab ?_);refine Ab ?_;refine Ab ?_;refine Ab ?_;refine Ac ((A3 U (.no U) U (.tm U) U (.tm U) ZM Cc (fun _=>⟨by omega,BP _ (CD _ (by omega))⟩))) U ?_;refine Ac ((Ca U (.no U) U (.tm U) U (BP _ (CD _ (by omega))) Cc U U)) U ?_;refine Ab ?_;refine Ac (Cf (xs:=[.tmp 30]) (rows:=[AQ (i:Int)]) U U U (.cons (.tm U) U U .nil) Z9 in3 U U (U)) U ?_;refine Bt (Hq (id:=291) (hid:=292) U U U (.tm U) U U (.tm U) (by exact .t) (by rfl) Z9 in3 U (by (simp [AH];omega)) (by (unfold maxLen;simp [AH];omega))) U ?_
     refine Bv (Ay [2,3,4,7,11,12,13,18,19,20,21,24,25,32] [10,291,292]) ?_;refine Ac ((A3 U (.no U) U (.tm U) U (.tm U) ZM Cc (fun _=>⟨by omega,BP _ (CD _ (by omega))⟩))) U ?_;refine Cu (C0 U U U (.tm U) U (.tm U) U (BP _ (CD _ (by omega))) Cc U U U U) ?_;refine Aa (Ad (A9 ?_));refine Ab ?_;refine Aa ?_
     repeat (with_reducible refine Av ?_)
     refine BF.next (j+1) ⟨by omega,Y⟩ (by omega) (Au rfl ⟨rfl,rfl,rfl,rfl,rfl,rfl,rfl,rfl,rfl,Y⟩ ⟨(by refine congrArg (fun r=>some (R.row 1 r)) ?_;first|(simp only [Aax];refine (H6 1 AQ (fun k=>EE (nxL next) i k++Ep i (l.take j) k) (i:Int)).trans ?_;congr 1;funext k;rw [KN hy,Aay];done)|(congr 1;funext k;rw [IR,hnl,ZS (by omega)];done)|(congr 1;funext k;simp [Ep];done)),Y⟩)
   try simp at h21
   refine Bf (Ad (A9 ?_));refine Ab ?_;refine Aa ?_
   repeat (with_reducible refine Av ?_)
   refine BF.next (i+1) ⟨by omega,Y⟩ (by omega) (Au rfl ⟨rfl,rfl,rfl,rfl,rfl,Y⟩ ⟨(by refine congrArg (fun r=>some (R.row 1 r)) ?_;first|(simp only [Aax];refine (H6 1 AQ (fun k=>EE (nxL next) i k++Ep i (l.take j) k) (i:Int)).trans ?_;congr 1;funext k;rw [KN hy,Aay];done)|(congr 1;funext k;rw [IR,hnl,ZS (by omega)];done)|(congr 1;funext k;simp [Ep];done)),Y⟩)
 try simp at h14
 refine Bf (Af (Ab ?_));refine Ah ?_;refine Aa (Aq (Res.one U (.tmp U .nil) U ?_))
 rw [show i=next.length by omega];unfold CE;rw [List.map_map];rfl
section
variable {rel:Nat→Nat→Bool}
end
structure OI (N n:Nat) (C:Nat→Int) (r:Nat→Nat→Bool) (out:List Int):Prop where
 nd:out.Nodup
 rg:∀ c∈out,0≤c∧c<n
 cl:∀ c∈out,∀ i k,i<N→k<N→C k=c→r i k=true→C i∈out
def XW (N:Nat) (C:Nat→Int) (r:Nat→Nat→Bool) (out:List Int) (c:Int):Prop:=c∉out∧∀ i k,i<N→k<N→C k=c→C i≠c→r i k=true→C i∈out
section
variable {N n:Nat} {C:Nat→Int} {r:Nat→Nat→Bool} {e:Nat→Nat→Prop} {out:List Int} {c:Int}
theorem OI.add (h:OI N n C r out) (hf:XW N C r out c) (hc:0≤c∧c<n):OI N n C r (out++[c]):=by
 refine⟨?_,fun d hd=>?_,fun d hd i k hi hk a1 a2=>?_⟩
 · rw [List.nodup_append]
   refine⟨h.nd,by simp,fun a ha b hb=>?_⟩
   rw [ZN] at hb
   subst hb;exact fun e=>hf.1 (by rw [←e];exact ha)
 · rcases ZQ.1 hd with hd|hd
   · exact h.rg d hd
   rw [ZN] at hd;subst hd;exact hc
 rw [ZQ,ZN]
 rcases ZQ.1 hd with hd|hd
 · exact .inl (h.cl d hd i k hi hk a1 a2)
 rw [ZN] at hd
 subst hd
 by_cases g:C i=d
 · exact .inr g
 exact .inl (hf.2 i k hi hk a1 g a2)
end
section
variable (g:AC) (a:AA)
end
def CZ (c v w:Int):Bool:=if c=0 then true else if c=1 then decide (v=w) else if c=2 then decide (v≤w) else if c=3 then decide (v<w) else if c=4 then !decide (v=w) else false
def AL (g:AC) (x:Int):Int:=g.Values[x.toNat]?.getD 0
def CB (g:AC) (c x:Int):List DB:=(AV g x).filter fun y=>CZ c (AL g x) (AL g y.to)
def nxC (g:AC) (a:AA) (c:Int) (i:Nat):List Int:=(CB g c ((i / a.Accept.length:Nat):Int)).flatMap (E5 a ((i%a.Accept.length:Nat):Int) (AL g ((i / a.Accept.length:Nat):Int)))
def CQ (g:AC) (a:AA) (c:Int):List (List Int):=(ZD (NP g a)).map (nxC g a c)
theorem G7 (g:AC) (a:AA) (c:Int):(CQ g a c).length=NP g a:=by unfold CQ;simp
theorem H8 {g:AC} {a:AA} {c:Int} {p:Nat} (h:p<NP g a):nxL (CQ g a c) p=nxC g a c p:=Qb (by unfold CQ;exact CD _ h)
theorem Xa {g:AC} {a:AA} {c:Int} {i:Nat}:∀ k∈nxC g a c i,k∈nxN g a i:=by
 intro k hk
 unfold nxC at hk
 obtain⟨y,hy,hk⟩:=ZL.1 hk
 unfold nxN Lg
 exact ZL.2 ⟨y,(ZB.1 hy).1,hk⟩
theorem Je {g:AC} {a:AA} (ha:AJ a=true) (hg:AI g=true) {c:Int} {p:Nat} (hp:p<NP g a):∀ k∈nxC g a c p,0≤k∧k<(NP g a:Int):=fun k hk=>Qa ha hg hp k (Xa k hk)
theorem NH {g:AC} {a:AA} (ha:AJ a=true) (hg:AI g=true) (c:Int):∀ p,p<(CQ g a c).length→∀ k∈nxL (CQ g a c) p,0≤k∧k<(CQ g a c).length:=fun p hp k hk=>by
 rw [G7] at hp ⊢
 rw [H8 hp] at hk
 exact Je ha hg hp k hk
def Fv (g:AC) (a:AA) (c y v:Int):List Int:=Es (nxL (CE (CQ g a c))) (CE (CQ g a c)).length (EZ a y v)
theorem PH {g:AC} {a:AA} (ha:AJ a=true) (hg:AI g=true) (c:Int) {y v:Int} (hy:0≤y∧y<g.Values.length) (hv:g.Values[y.toNat]?=some v):(Fv g a c y v).length=NP g a∧∀ i,i<NP g a→(0≤atI (Fv g a c y v) (i:Int)↔GZ (nxC g a c) (Eu g a y) i):=by
 have hnl:(CQ g a c).length=NP g a:=G7 g a c
 have htl:(CE (CQ g a c)).length=NP g a:=by rw [DU,hnl]
 have hl:(Fv g a c y v).length=NP g a:=by unfold Fv;rw [(JB (fun p hp k hk=>by rw [DU] at hp ⊢;exact GD p hp k hk) (by rw [htl];exact G8 ha hy)).1,htl]
 refine⟨hl,fun i hi=>?_⟩
 have h1:=Kz (nx:=nxL (CE (CQ g a c))) (N:=(CE (CQ g a c)).length) (fun p hp k hk=>by rw [DU] at hp ⊢;exact GD p hp k hk) (l:=EZ a y v) (by rw [htl];exact G8 ha hy) (j:=(i:Int))
 have h2:=Sp (next:=CQ g a c) (NH ha hg c) (gl:=EZ a y v) (G:=Eu g a y) (fun j hj=>Pt ha hy.1 hv (by rw [←hnl];exact hj)) (by rw [hnl];exact G8 ha hy) (j:=i) (by rw [hnl];exact hi)
 rw [h2] at h1
 have h3:GZ (nxL (CQ g a c)) (Eu g a y) i↔GZ (nxC g a c) (Eu g a y) i:=
  ⟨fun h=>h.congr (N:=NP g a) (fun p hp k hk=>by rw [←hnl] at hp ⊢;exact NH ha hg c p hp k hk) (fun p hp=>H8 hp) hi,fun h=>h.congr (N:=NP g a) (fun p hp=>Je ha hg hp) (fun p hp=>(H8 hp).symm) hi⟩
 rw [←h3,←h1]
 unfold DI
 constructor
 · intro h;exact⟨by omega,by show (i:Int)<((Fv g a c y v).length:Int);omega,h⟩
 exact fun h=>h.2.2
theorem Eg {m q:Nat}:q∈DA m↔q<64∧m.testBit q=true:=by unfold DA;rw [ZB,ZE]
theorem On {a:AA} {k:Int} {t:Nat}:∀ {l:List Nat} {m:Nat},(FJ a k l m).testBit t=true↔m.testBit t=true∨∃ s∈l,0≤CJ a s k∧(CJ a s k).toNat=t
 | [],m=>by simp [FJ]
 | s::l,m=>by
  have ih:=On (a:=a) (k:=k) (t:=t) (l:=l) (m:=if 0≤CJ a s k then m|||2^(CJ a s k).toNat else m)
  show (FJ a k l (if 0≤CJ a s k then m|||2^(CJ a s k).toNat else m)).testBit t=true↔_
  rw [ih]
  by_cases h:0≤CJ a s k
  · rw [if_pos h,GF,Bool.or_eq_true,decide_eq_true_eq]
    constructor
    · rintro ((h1|h1)|⟨s',h1,h2⟩)
      · exact .inl h1
      · exact .inr ⟨s,by simp,h,h1⟩
      exact .inr ⟨s',by simp [h1],h2⟩
    rintro (h1|⟨s',h1,h2⟩)
    · exact .inl (.inl h1)
    rcases ZG.1 h1 with rfl|h1
    · exact .inl (.inr h2.2)
    exact .inr ⟨s',h1,h2⟩
  rw [if_neg h]
  constructor
  · rintro (h1|⟨s',h1,h2⟩)
    · exact .inl h1
    exact .inr ⟨s',by simp [h1],h2⟩
  rintro (h1|⟨s',h1,h2⟩)
  · exact .inl h1
  rcases ZG.1 h1 with rfl|h1
  · exact absurd h2.1 h
  exact .inr ⟨s',h1,h2⟩
theorem RV {a:AA} {s v k:Int} {t:Nat}:(Gw a s v k).testBit t=true↔∃ r∈DA (BS a s v),0≤CJ a r k∧(CJ a r k).toNat=t:=by
 unfold Gw;rw [On];simp
theorem P6 {a:AA} {v k:Int} {t:Nat}:∀ {l:List Nat} {o:Nat},(l.foldl (fun out (s:Nat)=>FJ a k (DA (BS a s v)) out) o).testBit t=true↔o.testBit t=true∨∃ q∈l,(Gw a (q:Nat) v k).testBit t=true
 | [],o=>by simp
 | s::l,o=>by
  rw [Aab,P6 (l:=l),On]
  constructor
  · rintro ((h1|h1)|⟨s',h1,h2⟩)
    · exact .inl h1
    · exact .inr ⟨s,by simp,RV.2 h1⟩
    exact .inr ⟨s',by simp [h1],h2⟩
  rintro (h1|⟨s',h1,h2⟩)
  · exact .inl (.inl h1)
  rcases ZG.1 h1 with rfl|h1
  · exact .inl (.inr (RV.1 h2))
  exact .inr ⟨s',h1,h2⟩
theorem Jx {a:AA} {m:Nat} {v k:Int} {t:Nat}:(DX a m v k).testBit t=true↔∃ q∈DA m,(Gw a (q:Nat) v k).testBit t=true:=by
 unfold DX;rw [P6];simp
theorem SG {m n:Nat} (h:∀ t,m.testBit t=true→t<n):m<2^n:=Aas _ fun i hi=>by
 cases ht:m.testBit i with
 | false=>rfl
 | true=>exact absurd (h i ht) (by omega)
theorem JU {a:AA} (ha:AJ a=true) {m:Nat} (hm:m<2^a.Accept.length) {v k:Int} (hv:0≤v∧v≤2) (hk:0≤k∧k<9):DX a m v k<2^a.Accept.length:=SG fun t ht=>by
 obtain⟨q,hq,h⟩:=Jx.1 ht
 have hqn:=ES hm hq
 have hlt:=I5 ha hv (s:=(q:Int)) (by omega) hk
 cases ZT t a.Accept.length with
 | inl h1=>exact h1
 | inr h1=>rw [Ff hlt h1] at h;cases h
theorem Wc {m t:Nat} (h:m.testBit t=true):m≠0:=fun e=>by rw [e,Aad] at h;cases h
inductive J0 (g:AC) (a:AA) (c x:Int):Int→Nat→Prop where
 | start:J0 g a c x x (2^a.Start.toNat)
 | step {u:Int} {m:Nat} {y:DB}:J0 g a c x u m→y∈CB g c u→DX a m (AL g u) y.letter≠0→J0 g a c x y.to (DX a m (AL g u) y.letter)
theorem DO {g:AC} (hg:AI g=true) {x:Int} {y:DB} (hy:y∈AV g x):0≤y.letter∧y.letter<6∧0≤y.to∧y.to<g.Values.length:=by
 obtain⟨j,hj⟩:=List.getElem?_of_mem hy
 exact JT hg hj
theorem CH {g:AC} (hg:AI g=true) {x:Int} (hx:0≤x∧x<g.Values.length):g.Values[x.toNat]?=some (AL g x)∧0≤AL g x∧AL g x≤2:=by
 have h:g.Values[x.toNat]?=some (g.Values[x.toNat]'(by omega)):=ZI _
 have e:AL g x=g.Values[x.toNat]'(by omega):=by unfold AL;rw [h];rfl
 rw [e]
 exact⟨h,GA hg h⟩
theorem J0.rng {g:AC} {a:AA} (ha:AJ a=true) (hg:AI g=true) {c x:Int} (hx:0≤x∧x<g.Values.length) {u:Int} {m:Nat} (h:J0 g a c x u m):(0≤u∧u<g.Values.length)∧m<2^a.Accept.length:=by
 induction h with
 | start=>have hA:=AR ha;exact⟨hx,Nat.pow_lt_pow_right (by omega) (by omega)⟩
 | @step u m y _ hy _ ih=>
  have h1:=DO hg (ZB.1 hy).1
  exact⟨h1.2.2,JU ha ih.2 (CH hg ih.1).2 ⟨h1.1,by omega⟩⟩
def vtx (a:AA) (u:Int) (q:Nat):Nat:=u.toNat*a.Accept.length+q
theorem Yn {a:AA} {g:AC} {c u:Int} (hu:0≤u) {q t:Nat} (hq:q<a.Accept.length) {y:DB} (hy:y∈CB g c u) (h0:0≤y.to) (ht:t∈DA (Gw a (q:Nat) (AL g u) y.letter)):∃ z∈nxC g a c (vtx a u q),z.toNat=vtx a y.to t:=by
 have hd:=FQ (x:=u.toNat) hq
 refine⟨y.to*a.Accept.length+t,?_,?_⟩
 · unfold nxC vtx
   rw [hd.1,hd.2,ZA hu]
   exact ZL.2 ⟨y,hy,ZC.2 ⟨t,ht,rfl⟩⟩
 unfold vtx
 obtain⟨k,hk⟩:=Aaz h0
 rw [hk]
 show ((k:Int)*(a.Accept.length:Int)+(t:Int)).toNat=k*a.Accept.length+t
 rw [←ZZ,←Aaa,ZK]
theorem J0.can {g:AC} {a:AA} (ha:AJ a=true) (hg:AI g=true) {c x:Int} (hx:0≤x∧x<g.Values.length) {G:Nat→Bool} {u:Int} {m:Nat} (h:J0 g a c x u m):∀ q,m.testBit q=true→GZ (nxC g a c) G (vtx a u q)→GZ (nxC g a c) G (vtx a x a.Start.toNat):=by
 have hA:=AR ha
 induction h with
 | start=>
  intro q hq hc
  rw [Aac,decide_eq_true_eq] at hq
  rw [hq];exact hc
 | @step u m y hr hy _ ih=>
  intro t ht hc
  have hur:=hr.rng ha hg hx
  obtain⟨q,hq,h1⟩:=Jx.1 ht
  have hqn:=ES hur.2 hq
  have h2:=DO hg (ZB.1 hy).1
  have hlt:=I5 ha (CH hg hur.1).2 (s:=(q:Int)) (by omega) (k:=y.letter) ⟨h2.1,by omega⟩
  have htn:t<a.Accept.length:=by
   cases ZT t a.Accept.length with
   | inl h=>exact h
   | inr h=>rw [Ff hlt h] at h1;cases h1
  obtain⟨z,hz,e⟩:=Yn hur.1.1 hqn hy h2.2.2.1 (Eg.2 ⟨by omega,h1⟩)
  exact ih q (Eg.1 hq).2 (.step hz (by rw [e];exact hc))
theorem Wa {g:AC} {a:AA} (ha:AJ a=true) (hg:AI g=true) {c x y:Int} (hx:0≤x∧x<g.Values.length) {i:Nat} (h:GZ (nxC g a c) (Eu g a y) i):i<NP g a→∀ u m,J0 g a c x u m→u.toNat=i / a.Accept.length→m.testBit (i%a.Accept.length)=true→∃ m',J0 g a c x y m'∧Hy a m' (AL g y)=true:=by
 have hA:=AR ha
 induction h with
 | @goal i h=>
  intro hi u m hr hu hm
  have hur:=hr.rng ha hg hx
  unfold Eu at h
  simp only [ZY,decide_eq_true_eq] at h
  have hdi:((i:Int) / (a.Accept.length:Int))=((i / a.Accept.length:Nat):Int):=rfl
  have hmi:((i:Int)%(a.Accept.length:Int))=((i%a.Accept.length:Nat):Int):=rfl
  have huy:u=y:=by rw [←h.1,hdi,←hu,ZA hur.1.1]
  have hqn:i%a.Accept.length<a.Accept.length:=Aba _ (by omega)
  refine⟨m,huy▸hr,?_⟩
  unfold Hy
  refine ZU.2 ⟨i%a.Accept.length,Eg.2 ⟨by omega,hm⟩,?_⟩
  rw [h.1,hmi] at h
  exact h.2
 | @step i z hz _ ih=>
  intro hi u m hr hu hm
  have hur:=hr.rng ha hg hx
  have hqn:i%a.Accept.length<a.Accept.length:=Aba _ (by omega)
  have hzr:=Je ha hg hi z hz
  unfold nxC at hz
  rw [←hu,ZA hur.1.1] at hz
  obtain⟨y',hy,hz⟩:=ZL.1 hz
  obtain⟨t,ht,rfl⟩:=ZC.1 hz
  have h2:=DO hg (ZB.1 hy).1
  have hlt:=I5 ha (CH hg hur.1).2 (s:=((i%a.Accept.length:Nat):Int)) (by omega) (k:=y'.letter) ⟨h2.1,by omega⟩
  have htn:=ES hlt ht
  have hb:(DX a m (AL g u) y'.letter).testBit t=true:=Jx.2 ⟨i%a.Accept.length,Eg.2 ⟨by omega,hm⟩,(Eg.1 ht).2⟩
  have hd:=FQ (x:=y'.to.toNat) htn
  have e:(y'.to*(a.Accept.length:Int)+(t:Int)).toNat=y'.to.toNat*a.Accept.length+t:=by
   obtain⟨k,hk⟩:=Aaz h2.2.2.1
   rw [hk]
   show ((k:Int)*(a.Accept.length:Int)+(t:Int)).toNat=k*a.Accept.length+t
   rw [←ZZ,←Aaa,ZK]
  rw [e] at ih
  have hlt2:y'.to.toNat*a.Accept.length+t<NP g a:=by
   have:(((y'.to.toNat*a.Accept.length+t:Nat)):Int)<(NP g a:Int):=by rw [←e,ZA hzr.1];exact hzr.2
   omega
  exact ih hlt2 y'.to _ (.step hr hy (Wc hb)) (by rw [hd.1]) (by rw [hd.2];exact hb)
def IH (g:AC) (a:AA) (c x y:Int):Bool:=decide (0≤atI (Fv g a c y (AL g y)) (x*a.Accept.length+a.Start))
theorem LQ {g:AC} {a:AA} (ha:AJ a=true) (hg:AI g=true) {c x y:Int} (hx:0≤x∧x<g.Values.length) (hy:0≤y∧y<g.Values.length):IH g a c x y=true↔∃ m,J0 g a c x y m∧Hy a m (AL g y)=true:=by
 have hA:=AR ha
 have hvy:=CH hg hy
 have hs:=FV (g:=g) ha hx
 have hNn:((NP g a:Nat):Int)=((a.Accept.length*g.Values.length:Nat):Int):=rfl
 have e:x*(a.Accept.length:Int)+a.Start=((vtx a x a.Start.toNat:Nat):Int):=by
  unfold vtx;rw [Aaa,ZZ,ZA hx.1,ZA hA.2.2.2.1]
 have hi:vtx a x a.Start.toNat<NP g a:=by omega
 unfold IH
 rw [decide_eq_true_eq,e,(PH ha hg c hy hvy.1).2 _ hi]
 have hsn:a.Start.toNat<a.Accept.length:=by omega
 have hd:=FQ (x:=x.toNat) hsn
 constructor
 · intro h
   exact Wa ha hg hx h hi x _ .start (by unfold vtx;rw [hd.1]) (by unfold vtx;rw [hd.2];simp)
 rintro⟨m,hr,hm⟩
 unfold Hy at hm
 obtain⟨q,hq,h1⟩:=ZU.1 hm
 have hur:=hr.rng ha hg hx
 have hqn:=ES hur.2 hq
 have hdq:=FQ (x:=y.toNat) hqn
 refine hr.can ha hg hx q (Eg.1 hq).2 (.goal ?_)
 unfold Eu vtx
 have e1:(((y.toNat*a.Accept.length+q:Nat):Int) / (a.Accept.length:Int))=y:=by
  show (((y.toNat*a.Accept.length+q) / a.Accept.length:Nat):Int)=y
  rw [hdq.1,ZA hy.1]
 have e2:(((y.toNat*a.Accept.length+q:Nat):Int)%(a.Accept.length:Int))=(q:Int):=by
  show (((y.toNat*a.Accept.length+q)%a.Accept.length:Nat):Int)=q
  rw [hdq.2]
 rw [e1,e2]
 simpa [AL] using h1
section
variable {N n:Nat} {C:Nat→Int} {r:Nat→Nat→Bool} {out:List Int}
def YK (N:Nat) (C:Nat→Int) (r:Nat→Nat→Bool) (out:List Int):Prop:=∀ j c,out[j]?=some c→∀ i k,i<N→k<N→C k=c→C i≠c→r i k=true→C i∈out.take j
theorem YK.add (h:YK N C r out) {c:Int} (hf:XW N C r out c):YK N C r (out++[c]):=by
 intro j d hd i k hi hk h1 h2 h3
 rcases ZT j out.length with hj|hj
 · rw [List.getElem?_append_left hj] at hd
   rw [List.take_append_of_le_length (by omega)]
   exact h j d hd i k hi hk h1 h2 h3
 have hjl:j<(out++[c]).length:=by
  rcases ZT j (out++[c]).length with h|h
  · exact h
  rw [List.getElem?_eq_none h] at hd;cases hd
 have e:j=out.length:=by simp at hjl;omega
 subst e
 rw [List.getElem?_append_right (by omega)] at hd
 simp at hd
 subst hd
 rw [List.take_left]
 exact hf.2 i k hi hk h1 h2 h3
end
theorem IW (g:AC) (a:AA):FnT ZJ 26 [.agg (AG g),.agg (AE a)] (.a (.one (.sl 2 ((KF g a).map BC)))):=by
 refine A8 Abm U (by kernel_rfl) Abn U fun hlen w0=>?_
 try simp [BC,AP,AG,AE] at hlen
 skip
 refine Af (Ac (Bg U U U (.tm U) (ts:=_) (by rfl)) U ?_);refine Ac (Bg U U U (.tm U) (ts:=_) (by rfl)) U ?_;refine An ?_;refine Ch (i:=4) 20001 2 U U ?_;refine Aa (Af (A6 (C7 9 U U U ZF Dq U) U ?_));refine Ah ?_;refine Aa (Ae (Af (An ?_)));refine Aa (AW.block (B9 (fun (i:Nat)=>(i≤g.Values.length∧(i=0∨EA g a=true))∧True) (fun (i:Nat)=>⟨_,[(6,(true,.a (.one (.t (.v (.int .i64 (i:Nat))))))),(5,(true,.a (.one (.rf 9)))),(2,_),(3,_),(4,_)],[(9,.row 2 ((Gm g a i).map BC))]⟩) (fun (i:Nat)=>g.Values.length-i) (0) ⟨⟨ZH _,.inl U⟩,Y⟩ (Au U ⟨U,U,U,U,U,Y⟩ ⟨(by refine congrArg (fun r=>some (R.row 2 r)) ?_;first|rfl|(simp [Gm];done)),Y⟩) ?_))
 rintro i ⟨hk,he⟩
 refine Ae (Af (Ab ?_));refine A7 Ci ?_;refine Aj Cc ?_;refine Bi (.t) Z9 ?_;refine AWl.lt ?_;refine Ab ?_;refine Ac (Br U (by exact .yes1 U U U U) U (.tmp U (by exact fun _=>rfl)) B7 U U) U ?_;refine Ac (Br U (by exact .yes1 U U U U) U (.tmp U (by exact fun _=>rfl)) B6 U U) U ?_;refine Ac (Cw U (by exact .yes1 U U U U) U (.cons (.tmp U (by exact id)) U (.cons (.tmp U (by exact id)) U (.cons (.const U) U (.cons (.const U) U .nil)))) fun hq=>FnT.fr (He g a 0 0)) U ?_;refine Cn ?_;refine Aa (Ai (.tm U) (fun h19=>?_) (fun h19=>?_))
 · skip
   rw [Qh] at h19
   have hgc:EA g a=true:=by simp at h19;exact h19.2
   have hiV:i<g.Values.length:=by simp at h19;omega
   obtain⟨hg,ha⟩:=JK hgc
   have hG:=CA hg
   refine Am (Ae (AW.block (Ae (As (Ay [2,3,4,5,6] [9]) ?_))));refine Ad (Aj B7 ?_);refine Aj B6 ?_;refine Ab ?_;refine Ac (Bc (FnT.fr (QT g a ha hg (i:Int) (by omega))) U (.no U) U (.cons (.tm U) U (.cons (.tm U) U (.cons (.tm U) U .nil)))) U ?_;refine Ah ?_;refine Aa (Af (An ?_));refine Aa (AW.block (B9 (fun (k:Nat)=>(k≤(Lu g a i).length)∧True) (fun (k:Nat)=>⟨_,[(8,(true,.a (.one (.t (.v (.int .i64 (k:Nat))))))),(5,(true,.a (.one (.rf 9)))),(2,_),(3,_),(4,_),(6,_),(7,_)],[(9,.row 2 ((Gm g a i++((Lu g a i).take k).map fun y=>(⟨(i:Int),y⟩:CU)).map BC))]⟩) (fun (k:Nat)=>(Lu g a i).length-k) (0) ⟨ZH _,Y⟩ (Au U ⟨U,U,U,U,U,U,U,Y⟩ ⟨(by refine congrArg (fun r=>some (R.row 2 r)) ?_;first|rfl|(simp [Gm];done)),Y⟩) ?_))
   rintro k ⟨hk1,he1⟩
   refine Ae (Af (Ab ?_));refine Ab ?_;refine Bi (.t) Z9 ?_;refine AWl.lt ?_;refine Aa (Ai (.tm U) (fun h29=>?_) (fun h29=>?_))
   · try simp at h29
     obtain⟨y,hy⟩:∃ ξ,(Lu g a i)[k]?=some ξ:=⟨_,ZI (by omega)⟩
     have hal:=P5 ha hg i
     have hkl:=RU ha hg (i:Int)
     refine Am (Ae (AW.block (Ad (Ab ?_))));refine Ab ?_;refine Ab ?_;refine Ab ?_;refine Ac (Ak U (.no U) U (.tm U) (.tm U) Z9 ty3 (fun _=>⟨by omega,(Ao hy)⟩)) U ?_;refine Aj ty3 ?_;refine Ac (Bm (ps:=[(0,.tmp 33),(1,.tmp 37)]) U U U NS U U Yu (.cons (.tm U) U U SS (.cons (.tm U) U U SR .nil)) U) U ?_;refine Bp (Ce (xs:=[.tmp 38]) 39 U U U (.cons (.tm U) U U .nil) ZF NS U U U U) U ?_;refine Bt (B8 U U U (.tm U) U (.tm U) (by exact .rf U) (by rfl) ZF NS U (by (simp [AH];omega)) (by (unfold maxLen;simp [AH];omega))) U ?_;refine Bv (Ay [2,3,4,5,6,7,8,29,40] [9,39]) ?_;refine Ah ?_;refine Aa (Ad (Ab ?_));refine A9 ?_;refine Ah ?_;refine Aa ?_
     repeat (with_reducible refine Av ?_)
     refine BF.next (k+1) ⟨by omega,Y⟩ (by omega) (Au rfl ⟨rfl,rfl,rfl,rfl,rfl,rfl,rfl,Y⟩ ⟨(by refine congrArg (fun r=>some (R.row 2 r)) ?_;first|(rw [CO hy];simp [AH,BC];done)|(rw [I3,ZS (by omega)];done)|(simp;done)),Y⟩)
   try simp at h29
   refine Bf (Ad (Ab ?_));refine A9 ?_;refine Ah ?_;refine Aa ?_
   repeat (with_reducible refine Av ?_)
   refine BF.next (i+1) ⟨⟨by omega,.inr hgc⟩,Y⟩ (by omega) (Au rfl ⟨rfl,rfl,rfl,rfl,rfl,Y⟩ ⟨(by refine congrArg (fun r=>some (R.row 2 r)) ?_;first|(rw [CO hy];simp [AH,BC];done)|(rw [I3,ZS (by omega)];done)|(simp;done)),Y⟩)
 skip
 rw [Qh] at h19
 have hv:KF g a=Gm g a i:=(by unfold KF;split;(rename_i hgc;have:i=g.Values.length:=(by have h:=h19;simp [hgc] at h;omega);rw [this]);(rename_i hgc;have:i=0:=(by rcases hk.2 with h|h;exact h;exact absurd h hgc);rw [this];simp [Gm]))
 refine Bf (Ae (As (Ay [2,3,4,5,6] [9]) ?_));refine Ad (Ab ?_);refine Ah ?_;refine Aa (Aq (Res.one U (.tmp U .nil) U ?_))
 rw [hv];rfl
theorem IB (l r:List CU):FnT ZJ 23 [.one (.sl 2 (l.map BC)),.one (.sl 2 (r.map BC))] (.a (.one (.v (.bool (decide (l=r)))))):=by
 refine A8 Abo U (by kernel_rfl) Abp U fun hlen w0=>?_
 try simp [BC,AP,AG,AE] at hlen
 skip
 refine Af (An ?_);refine Aa (Ae (Af (Ab ?_)));refine Bi (.t) ZF ?_;refine Ab ?_;refine Bi (.t) ZF ?_;refine Ac (GX U (.no U) U (.tm U) (.tm U)) U ?_;refine Aa (Ai (.tm U) (fun h10=>?_) (fun h10=>?_))
 · try simp at h10
   refine Af (An ?_);refine Aa (Aq (Bl U U ?_))
   have hne:l≠r:=(fun e=>by subst e;simp at h10);simp [hne]
 try simp at h10
 refine Am (Ae (Af (An ?_)));refine Aa (AW.block (B9 (fun (k:Nat)=>(k≤l.length∧l.length=r.length)∧decide (l=r)=decide (l.drop k=r.drop k)) (fun (k:Nat)=>⟨_,[(5,(true,.a (.one (.t (.v (.int .i64 (k:Nat))))))),(0,_),(1,_)],[]⟩) (fun (k:Nat)=>l.length-k) (0) ⟨⟨ZH _,by (try simp at h10);omega⟩,by simp⟩ (Au U ⟨U,U,U,Y⟩ trivial) ?_))
 rintro k ⟨hk,he⟩
 refine Ae (Af (Ab ?_));refine Ab ?_;refine Bi (.t) ZF ?_;refine AWl.lt ?_;refine Aa (Ai (.tm U) (fun h14=>?_) (fun h14=>?_))
 · try simp at h14
   have hkl:k<l.length:=(by omega)
   obtain⟨x,hx⟩:∃ ξ,l[k]?=some ξ:=⟨_,ZI hkl⟩
   obtain⟨y,hy⟩:∃ ξ,r[k]?=some ξ:=⟨_,ZI (show k<r.length by omega)⟩
   refine Am (Ae (AW.block (Ae (Bx 9 (DM [[],[],[0,1],[0,1,2],[],[],[4,5],[4,5,6],[0,1,2,3,4,5,6,7]]) (by kernel_rfl) (by kernel_rfl) (by kernel_rfl) ?_))));refine Az ?_;refine Az ?_;refine AB.s (fun _ hs=>(by exact Ak U (.no U) (Ag hs U) (hs.tm U) (hs.tm U) ZF Dq (fun _=>⟨by omega,Ao hx⟩))) ?_;refine A5 Dq ?_;refine Az ?_;refine Az ?_;refine AB.s (fun _ hs=>(by exact Ak U (.no U) (Ag hs U) (hs.tm U) (hs.tm U) ZF Dq (fun _=>⟨by omega,Ao hy⟩))) ?_;refine A5 Dq ?_;refine AB.s (fun _ hs=>Wx U (.no U) (Ag hs U) (hs.tm U) (hs.tm U) U U (by kernel_rfl) (YY _ _ _ _)) ?_;refine Bs U U ?_;refine Aa (Ai (.tm U) (fun h25=>?_) (fun h25=>?_))
   · skip
     skip
     have hne:l≠r:=(fun e=>by subst e;rw [hx] at hy;cases hy;simp at h25)
     refine Ae (As (Ay [0,1,5] []) ?_);refine Ad (An ?_);refine Aa (Aq (Bl U U ?_))
     simp [hne]
   skip
   skip
   have hx2:l[k]'hkl=r[k]'(by omega):=(by have e1:=(Abb.1 hx).2;have e2:=(Abb.1 hy).2;rw [e1,e2];cases x;cases y;simp at h25;simpa using h25)
   refine Am (As (Ay [0,1,5] []) ?_);refine Ad (Ab ?_);refine A9 ?_;refine Ah ?_;refine Aa ?_
   repeat (with_reducible refine Av ?_)
   refine BF.next (k+1) ⟨⟨by omega,hk.2⟩,by rw [he,Abc (show k<l.length by omega),Abc (show k<r.length by omega),hx2];simp only [List.cons.injEq,true_and]⟩ (by omega) (Au rfl ⟨rfl,rfl,rfl,Y⟩ trivial)
 try simp at h14
 refine Bf (Af (An ?_));refine Aa (Aq (Bl U U ?_))
 rw [he,Abd (show l.length≤k by first|omega|(simp at h14;omega)),Abd (show r.length≤k by first|omega|(simp at h14;omega))];simp
end Go.Q
