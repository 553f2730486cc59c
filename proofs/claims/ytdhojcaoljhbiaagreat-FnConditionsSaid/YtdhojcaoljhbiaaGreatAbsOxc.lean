import Derived.Test.YtdhojcaoljhbiaaGreatB18xc
import Derived.Test.YtdhojcaoljhbiaaGreatB15xc
import Derived.Laws.Cover3
set_option linter.unusedVariables false
set_option linter.unusedSimpArgs false
set_option maxHeartbeats 1000000
set_option maxRecDepth 100000
open Go.Proofs.Tryz renaming underlying40->Z9,underlying191->ZS,prog->Aaw,func125->Aax,ntmps125->Aay,underlying33->Aaz
open List renaming replicate->ZA,take_of_length_le->ZB,all_eq_true->ZC,getElem?_eq_getElem->ZD,mem_of_getElem?->ZF,map_set->ZH,mem_range->ZJ,getElem?_eq_some_iff->ZK,replicate_succ'->ZL,mem_of_mem_take->ZM,range->ZN,mem_append->ZO,length_take->ZP,take_succ_cons->ZV,drop_succ_cons->ZW,foldl_append->ZY,mem_singleton->ZZ,mem_or_eq_of_mem_set->Aaa,mem_replicate->Aac,take_append_drop->Aad,drop_eq_nil_of_le->Aae,mem_map->Aag,append_nil->Aai,getElem?_append_left->Aaj,any_eq_true->Aam,mem_cons->Aan,flatten_cons->Aao,take_append->Aap,drop_append->Aaq,getElem?_take->Aas,getElem?_eq_none->Aau,flatten_append->Aav
open Nat renaming beq->ZE,zero_le->ZR,eq_of_beq_eq_true->ZT,mul_le_mul_right->ZX,le_refl->Aab,zero_add->Aar
open Int renaming eq_ofNat_of_zero_le->ZG,mul_nonneg->ZQ,natCast_nonneg->Aaf,add_nonneg->Aah
open Bool renaming and_eq_true->ZI,false_or->Aak,or_eq_true->Aal
open Array renaming replicate->ZU
namespace Go.Q
open Go.D
def Eo (out:List Int):Nat:=(out.filter fun x=>decide (x<0)).length
theorem Fq (x:Int) (l:List Int):Eo (x::l)=(if x<0 then 1 else 0)+Eo l:=by
 unfold Eo
 rw [List.filter_cons]
 split<;>simp_all<;>omega
theorem Jg {v:Int} (hv:0≤v):∀ {out:List Int} {k:Nat} {x:Int},out[k]?=some x→x<0→Eo (out.set k v)+1=Eo out
 | [],_,_,h,_=>by simp at h
 | y::l,0,x,h,hx=>by
  simp at h
  subst h
  rw [List.set_cons_zero,Fq,Fq,if_neg (by omega),if_pos hx]
  omega
 | y::l,k+1,x,h,hx=>by
  rw [List.set_cons_succ,Fq,Fq]
  have:=Jg hv (out:=l) (k:=k) (by simpa using h) hx
  omega
theorem JH (out:List Int):Eo out≤out.length:=List.length_filter_le _ _
def atI (out:List Int) (k:Int):Int:=out[k.toNat]?.getD 0
theorem CT {out:List Int} {k:Int} (h:k.toNat<out.length):out[k.toNat]?=some (atI out k):=by
 unfold atI;rw [ZD h];rfl
def rlx (q:Int) (st:List Int×List Int) (k:Int):List Int×List Int:=if atI st.1 k<0 then (st.1.set k.toNat (atI st.1 q+1),st.2++[k]) else st
def relax (q:Int) (l:List Int) (st:List Int×List Int):List Int×List Int:=l.foldl (rlx q) st
theorem BZ {q:Int} {l:List Int} {j:Nat} {k:Int} (h:l[j]?=some k) (st:List Int×List Int):relax q (l.take (j+1)) st=rlx q (relax q (l.take j) st) k:=by
 unfold relax
 rw [CO h,ZY]
 rfl
def bfs (nx:Nat→List Int):Nat→List Int→List Int→List Int
 | 0,out,_=>out
 | _+1,out,[]=>out
 | f+1,out,q::r=>bfs nx f (relax q (nx q.toNat) (out,r)).1 (relax q (nx q.toNat) (out,r)).2
structure FM (N:Nat) (out qu:List Int):Prop where
 len:out.length=N
 mem:∀ q∈qu,0≤q∧q<N
 val:∀ v∈out,-1≤v∧v+Eo out≤N
theorem FM.rlx {N:Nat} {out qu:List Int} {q k:Int} (h:FM N out qu) (hq:0≤q∧q<N) (hk:0≤k∧k<N):FM N (rlx q (out,qu) k).1 (rlx q (out,qu) k).2∧Eo (Go.Q.rlx q (out,qu) k).1+(Go.Q.rlx q (out,qu) k).2.length=Eo out+qu.length∧Eo (Go.Q.rlx q (out,qu) k).1≤Eo out:=by
 unfold Go.Q.rlx
 dsimp only
 split
 · rename_i hneg
   have hkl:k.toNat<out.length:=by rw [h.len];omega
   have hql:q.toNat<out.length:=by rw [h.len];omega
   have hvq:=h.val _ (ZF (CT hql))
   have hn:=Jg (v:=atI out q+1) (by omega) (CT hkl) hneg
   refine⟨⟨by simpa using h.len,fun x hx=>?_,fun v hv=>?_⟩,?_,?_⟩
   · rcases ZO.1 hx with hx|hx
     · exact h.mem x hx
     rw [ZZ] at hx;subst hx;exact hk
   · show -1≤v∧v+(Eo (out.set k.toNat (atI out q+1)):Int)≤N
     rcases Aaa hv with hv|rfl
     · have:=h.val v hv;omega
     omega
   · show Eo (out.set k.toNat (atI out q+1))+(qu++[k]).length=_
     simp;omega
   show Eo (out.set k.toNat (atI out q+1))≤_
   omega
 exact⟨h,rfl,Aab _⟩
theorem FM.relax {N:Nat} {q:Int} (hq:0≤q∧q<N):∀ {l:List Int} {st:List Int×List Int},FM N st.1 st.2→(∀ k∈l,0≤k∧k<N)→FM N (relax q l st).1 (relax q l st).2∧Eo (Go.Q.relax q l st).1+(Go.Q.relax q l st).2.length=Eo st.1+st.2.length∧Eo (Go.Q.relax q l st).1≤Eo st.1
 | [],st,h,_=>⟨h,rfl,Aab _⟩
 | k::l,st,h,hl=>by
  have e:Go.Q.relax q (k::l) st=Go.Q.relax q l (Go.Q.rlx q st k):=rfl
  have h1:FM N (Go.Q.rlx q st k).1 (Go.Q.rlx q st k).2∧Eo (Go.Q.rlx q st k).1+(Go.Q.rlx q st k).2.length=Eo st.1+st.2.length∧Eo (Go.Q.rlx q st k).1≤Eo st.1:=h.rlx (k:=k) hq (hl k (by simp))
  obtain⟨h1,h2,h3⟩:=h1
  obtain⟨g1,g2,g3⟩:=FM.relax hq (l:=l) h1 fun k hk=>hl k (by simp [hk])
  rw [e]
  exact⟨g1,by omega,by omega⟩
theorem FM.tail {N:Nat} {out qu:List Int} {q:Int} (h:FM N out (q::qu)):FM N out qu:=⟨h.len,fun x hx=>h.mem x (by simp [hx]),h.val⟩
theorem T2 (q:Int) (st:List Int×List Int) (k:Int):(rlx q st k).1.length=st.1.length:=by
 unfold rlx;split<;>simp
def CC (from_:List Int) (out:List Int):List Int:=from_.foldl (fun out i=>out.set i.toNat 0) out
def Es (nx:Nat→List Int) (N:Nat) (from_:List Int):List Int:=bfs nx (2*N+from_.length+1) (CC from_ (ZA N (-1))) from_
theorem HO {l:List Int} {j:Nat} {k:Int} (h:l[j]?=some k) (out:List Int):CC (l.take (j+1)) out=(CC (l.take j) out).set k.toNat 0:=by
 unfold CC
 rw [CO h,ZY]
 rfl
theorem Ew:∀ (l out:List Int),(CC l out).length=out.length
 | [],_=>rfl
 | k::l,out=>(Ew l _).trans (by simp)
theorem IP:∀ (l:List Int) {out:List Int},(∀ v∈out,v=-1∨v=0)→∀ v∈CC l out,v=-1∨v=0
 | [],_,h=>h
 | k::l,out,h=>IP l fun v hv=>by
  rcases Aaa hv with hv|rfl
  · exact h v hv
  exact .inr rfl
theorem HK {N:Nat} {l:List Int} (hl:∀ q∈l,0≤q∧q<N):FM N (CC l (ZA N (-1))) l:=by
 have hlen:(CC l (ZA N (-1))).length=N:=by rw [Ew];simp
 refine⟨hlen,hl,fun v hv=>?_⟩
 have hn:=JH (CC l (ZA N (-1)))
 rcases IP l (fun v hv=>.inl (Aac.1 hv).2) v hv with rfl|rfl<;>omega
theorem TW {nx:Nat→List Int} {f:Nat} {out:List Int} (h:0<f):bfs nx f out []=out:=by
 match f,h with
 | f+1,_=>rfl
theorem WQ (q:Int) (out pre r:List Int) (k:Int):rlx q (out,pre++r) k=((rlx q (out,r) k).1,pre++(rlx q (out,r) k).2):=by
 unfold rlx;dsimp only
 split<;>simp
theorem JE (q:Int):∀ (l out pre r:List Int),relax q l (out,pre++r)=((relax q l (out,r)).1,pre++(relax q l (out,r)).2)
 | [],_,_,_=>rfl
 | k::l,out,pre,r=>by
  have e:∀ st,relax q (k::l) st=relax q l (rlx q st k):=fun _=>rfl
  rw [e,e,WQ,JE q l]
def J8 (nx:Nat→List Int) (res out qu:List Int) (i:Nat):Prop:=∃ f,Eo out+(qu.length-i)<f∧bfs nx f out (qu.drop i)=res
theorem J8.next {nx:Nat→List Int} {N:Nat} {res out qu:List Int} {i:Nat} {q:Int} (h:J8 nx res out qu i) (hI:FM N out qu) (hq:qu[i]?=some q) (hn:∀ k∈nx q.toNat,0≤k∧k<N):J8 nx res (relax q (nx q.toNat) (out,qu)).1 (relax q (nx q.toNat) (out,qu)).2 (i+1):=by
 obtain⟨f,hf,e⟩:=h
 have hil:=(ZK.1 hq).1
 have hd:qu.drop i=q::qu.drop (i+1):=by
  rw [List.drop_eq_getElem_cons hil,(ZK.1 hq).2]
 obtain⟨f',rfl⟩:∃ f',f=f'+1:=⟨f-1,by omega⟩
 rw [hd,bfs] at e
 have hr:=FM.relax (N:=N) (hI.mem q (ZF hq)) (l:=nx q.toNat) (st:=(out,qu)) hI hn
 have e2:qu=qu.take (i+1)++qu.drop (i+1):=(Aad _ _).symm
 have e3:=JE q (nx q.toNat) out (qu.take (i+1)) (qu.drop (i+1))
 rw [←e2] at e3
 refine⟨f',?_,?_⟩
 · have h1:=hr.2.1
   have h2:i+1≤(relax q (nx q.toNat) (out,qu)).2.length:=by rw [e3];simp;omega
   dsimp only at h1
   omega
 rw [e3]
 dsimp only
 rw [List.drop_left' (by rw [ZP];omega)]
 exact e
theorem J8.done {nx:Nat→List Int} {res out qu:List Int} {i:Nat} (h:J8 nx res out qu i) (hi:qu.length≤i):out=res:=by
 obtain⟨f,hf,e⟩:=h
 rw [Aae hi,TW (by omega)] at e
 exact e
theorem J8.start {nx:Nat→List Int} {N:Nat} {l:List Int}:J8 nx (Es nx N l) (CC l (ZA N (-1))) l 0:=by
 refine⟨2*N+l.length+1,?_,rfl⟩
 have:=JH (CC l (ZA N (-1)))
 rw [Ew] at this
 simp at this
 omega
theorem Rq {n V p:Nat} (hn:1≤n) (hp:p<n*V):(0≤(p:Int) / (n:Int)∧(p:Int) / (n:Int)<V)∧0≤(p:Int)%(n:Int)∧(p:Int)%(n:Int)<n:=by
 have h1:p / n<V:=Nat.div_lt_of_lt_mul hp
 have h2:p%n<n:=Nat.mod_lt _ hn
 have e1:(p:Int) / (n:Int)=((p / n:Nat):Int):=by simp
 have e2:(p:Int)%(n:Int)=((p%n:Nat):Int):=by simp
 rw [e1,e2]
 exact⟨⟨Aaf _,by exact_mod_cast h1⟩,Aaf _,by exact_mod_cast h2⟩
theorem Pj (g:AC) (a:AA) (p:Nat):nxN g a p=(Fy g a ((p:Int) / (a.Accept.length:Int)) ((p:Int)%(a.Accept.length:Int))).map fun (z:E3)=>z.Node*(a.Accept.length:Int)+z.State:=by
 unfold nxN
 rw [SD]
 simp
theorem QJ {g:AC} {a:AA} (ha:AJ a=true) (hg:AI g=true) {x s v:Int} (hv:g.Values[x.toNat]?=some v) (hs:s<a.Accept.length):∀ z∈Fy g a x s,0≤z.Node∧z.Node<g.Values.length∧0≤z.State∧z.State<a.Accept.length:=by
 intro z hz
 unfold Fy at hz
 rw [hv] at hz
 obtain⟨y,hy,hz⟩:=List.mem_flatMap.1 hz
 unfold IQ at hz
 obtain⟨t,ht,rfl⟩:=Aag.1 hz
 obtain⟨j,hj⟩:=List.getElem?_of_mem hy
 have hyo:=JT hg hj
 have hvv:=GA hg hv
 have htl:=ES (I5 ha hvv hs (by omega)) ht
 dsimp only
 omega
theorem Qa {g:AC} {a:AA} (ha:AJ a=true) (hg:AI g=true) {p:Nat} (hp:p<a.Accept.length*g.Values.length):∀ k∈nxN g a p,0≤k∧k<((a.Accept.length*g.Values.length:Nat):Int):=by
 intro k hk
 have hA:=AR ha
 have hd:=Rq hA.1 hp
 rw [Pj] at hk
 obtain⟨z,hz,rfl⟩:=Aag.1 hk
 obtain⟨v,hv⟩:∃ v,g.Values[((p:Int) / (a.Accept.length:Int)).toNat]?=some v:=⟨_,ZD (by omega)⟩
 have hz:=QJ ha hg hv hd.2.2 z hz
 obtain⟨xn,hx⟩:=ZG hz.1
 obtain⟨sn,hs⟩:=ZG hz.2.2.1
 rw [hx,hs] at hz ⊢
 have:=SN (x:=xn) (s:=sn) (n:=a.Accept.length) (V:=g.Values.length) (by omega) (by omega)
 constructor
 · exact Aah (ZQ (by omega) (by omega)) (by omega)
 exact_mod_cast this
theorem Uk (g:AC) (a:AA) (x s:Int):(Fy g a x s).length≤(AV g x).length*64:=Gb (b:=64) (ON a s _) _
theorem S7 (q:Int) (l out qu:List Int):qu.length≤(relax q l (out,qu)).2.length:=by
 have:=JE q l out qu []
 rw [Aai] at this
 rw [this];simp
theorem Rb (q:Int) (l out qu:List Int) {i:Nat} (hi:i<qu.length):(relax q l (out,qu)).2[i]?=qu[i]?:=by
 have:=JE q l out qu []
 rw [Aai] at this
 rw [this]
 dsimp only
 rw [Aaj hi]
theorem FV {g:AC} {a:AA} (ha:AJ a=true) {x:Int} (hx:0≤x∧x<g.Values.length):0≤x*(a.Accept.length:Int)+a.Start∧x*(a.Accept.length:Int)+a.Start<((a.Accept.length*g.Values.length:Nat):Int):=by
 have hA:=AR ha
 obtain⟨xn,rfl⟩:=ZG hx.1
 obtain⟨sn,hs⟩:=ZG hA.2.2.2.1
 rw [hs] at hA ⊢
 have:=SN (x:=xn) (s:=sn) (n:=a.Accept.length) (V:=g.Values.length) (by omega) (by omega)
 constructor
 · exact Aah (ZQ (by omega) (by omega)) (by omega)
 exact_mod_cast this
def Eh (g:AC) (a:AA) (x:Int):List Int:=Es (nxN g a) (a.Accept.length*g.Values.length) [x*a.Accept.length+a.Start]
open Go.RowKit
theorem PN (g:AC) (a:AA) (ha:AJ a=true) (hg:AI g=true) (x:Int) (hx:0≤x∧x<g.Values.length):FnT Aaw 125 [.agg (AG g),.agg (AE a),.one (.v (.int .i64 x))] (.a (.one (.sl 1 ((Eh g a x).map AQ)))):=by
 refine A8 Aax U (by kernel_rfl) Aay U fun hlen w0=>?_
 try simp [AP,AG,AE] at hlen
 have hA:=AR ha
 have hG:=CA hg
 have hN:a.Accept.length*g.Values.length≤60:=Nat.mul_le_mul (by omega:a.Accept.length≤12) (by omega:g.Values.length≤5)
 have hcm:(g.Values.length:Int)*(a.Accept.length:Int)=((a.Accept.length*g.Values.length:Nat):Int):=by rw [Nat.mul_comm];simp
 have hs0:=FV ha hx
 have hq0:[x*(a.Accept.length:Int)+a.Start][(0:Int).toNat]?=some (x*(a.Accept.length:Int)+a.Start):=rfl
 have hr0:(ZA (a.Accept.length*g.Values.length) (-1:Int))[(x*(a.Accept.length:Int)+a.Start).toNat]?=some (-1):=by rw [List.getElem?_replicate,if_pos (by omega)]
 refine Af (Ac (Bg U U U (.tm U) (ts:=_) (by rfl)) U ?_);refine Ac (Bg U U U (.tm U) (ts:=_) (by rfl)) U ?_;refine An ?_;refine Ch (i:=6) 20001 1 U U ?_;refine Aa (Af (A7 Db ?_));refine Aj FU ?_;refine Bi (.t) Aaz ?_;refine Ah ?_;refine Aa (Af (A6 (C7 18 U U U Z9 ty3 U) U ?_));refine Ah ?_;refine Aa (Ae (Af (An ?_)));refine Aa (AW.block (B9 (fun (k:Nat)=>(k≤a.Accept.length*g.Values.length)∧True) (fun (k:Nat)=>⟨_,[(9,(true,.a (.one (.t (.v (.int .i64 (k:Nat))))))),(8,(true,.a (.one (.rf 18)))),(2,_),(3,_),(4,_),(6,_),(7,_)],[(18,.row 1 ((ZA k (-1:Int)).map AQ))]⟩) (fun (k:Nat)=>a.Accept.length*g.Values.length-k) (0) ⟨ZR _,Y⟩ Aw ?_))
 rintro k ⟨hk,he⟩
 refine Ae (Af (Ab ?_));refine A7 Ci ?_;refine Aj Cc ?_;refine Bi (.t) Z9 ?_;refine Ab ?_;refine Ac (Ge U (.no U) U (.tm U) (.tm U) (fun _=>⟨by omega,by omega⟩)) U ?_;refine AWl.lt ?_;refine Aa (Ai (.tm U) (fun h25=>?_) (fun h25=>?_))
 · try simp at h25
   refine Am (Ae (AW.block (As (Ay [2,3,4,6,7,8,9] [18]) ?_)));refine Ad (Ab ?_);refine Bp (Ce (xs:=[.const (.int .i64 (-1))]) 29 U U U (.cons (.const U) U U .nil) Z9 in3 U U U U) U ?_;refine Bt (B8 U U U (.tm U) U (.tm U) (by exact .rf U) (by rfl) Z9 in3 U (by (simp [AH];omega)) (by (unfold maxLen;simp [AH];omega))) U ?_;refine Bv (Ay [2,3,4,6,7,8,9,30] [18,29]) ?_;refine Ah ?_;refine Aa (Ad (Ab ?_));refine A9 ?_;refine Ah ?_;refine Aa ?_
   repeat (with_reducible refine Av ?_)
   refine BF.next (k+1) ⟨by omega,Y⟩ (by omega) (Au rfl ⟨rfl,rfl,rfl,rfl,rfl,rfl,rfl,Y⟩ ⟨(by refine congrArg (fun r=>some (R.row 1 r)) ?_;first|(rw [ZL];simp [AH,AQ];done)|(rw [BZ hzk];unfold rlx;rw [if_pos h87];simp [ZH,AQ];done)|(rw [BZ hzk];unfold rlx;rw [if_neg (by omega)];done)|(rw [ZB (by omega)];done)),Y⟩)
 try simp at h25
 refine Bf (Ae (As (Ay [2,3,4,6,7,8,9] [18]) ?_));refine Ad (Ab ?_);refine Ab ?_;refine Ac (Ge U (.no U) U (.tm U) (.tm U) (fun _=>⟨by omega,by omega⟩)) U ?_;refine A7 Jn ?_;refine Aj ty3 ?_;refine Ac (Dn U (.no U) U (.tm U) (.tm U) (fun _=>⟨by omega,by omega⟩)) U ?_;refine Bp (Ce (xs:=[.tmp 36]) 37 U U U (.cons (.tm U) U U .nil) Z9 in3 U U U U) U ?_;refine Ah ?_;refine Aa (Ae (As (σ':=⟨_,[(2,_),(3,_),(4,_),(6,_),(7,_),(8,_),(9,_),(10,_)],[(18,.row 1 ((ZA (a.Accept.length*g.Values.length) (-1:Int)).map AQ)),(37,.row 1 ([x*(a.Accept.length:Int)+a.Start].map AQ))]⟩) (Au U ⟨U,U,U,U,U,U,U,U,Y⟩ ⟨by rw [show k=a.Accept.length*g.Values.length by omega];rfl,U,Y⟩) ?_));refine Ad (Ab ?_);refine Ab ?_;refine Ac (A3 U (.no U) U (.tm U) U (.const U) Z9 ty3 (fun _=>⟨by omega,(by exact Ao hq0)⟩)) U ?_
 refine Ac (Ca U (.no U) U (.tm U) U (by exact Ao hq0) ty3 U U) U ?_;refine Ac (A3 U (.no U) U (.tm U) U (.tm U) Z9 ty3 (fun _=>⟨by omega,(by exact Ao hr0)⟩)) U ?_;refine Cu (C0 U U U (.const U) U (.tm U) U (by exact Ao hr0) ty3 U U U U) ?_;refine Aa (Ae (Ae (As (σ':=⟨_,[(2,_),(3,_),(4,_),(6,_),(7,_),(8,_),(9,_),(10,_)],[(18,.row 1 ((CC [x*(a.Accept.length:Int)+a.Start] (ZA (a.Accept.length*g.Values.length) (-1:Int))).map AQ)),(37,_)]⟩) (Au U ⟨U,U,U,U,U,U,U,U,Y⟩ ⟨by refine congrArg (fun r=>some (R.row 1 r)) ?_;simp [CC,ZH,AQ],U,Y⟩) ?_)));refine Ad (An ?_)
 refine Aa (AW.block (Dz (fun (i:Nat) (O:List Int) (Q1:List Int)=>(i≤Q1.length∧FM (a.Accept.length*g.Values.length) O Q1∧Q1.length+Eo O≤200)∧J8 (nxN g a) (Eh g a x) O Q1 i) (fun (i:Nat) (O:List Int) (Q1:List Int)=>⟨_,[(11,(true,.a (.one (.t (.v (.int .i64 (i:Nat))))))),(8,(true,.a (.one (.rf 18)))),(10,(true,.a (.one (.rf 37)))),(3,_),(4,_),(6,_),(7,_)],[(18,.row 1 (O.map AQ)),(37,.row 1 (Q1.map AQ))]⟩) (fun (i:Nat) (O:List Int) (Q1:List Int)=>Eo O+(Q1.length-i)) (0) (CC [x*a.Accept.length+a.Start] (ZA (a.Accept.length*g.Values.length) (-1))) ([x*a.Accept.length+a.Start]) ⟨⟨ZR _,HK (by simpa using hs0),by have:=JH (CC [x*a.Accept.length+a.Start] (ZA (a.Accept.length*g.Values.length) (-1)));rw [Ew] at this;simp at this ⊢;omega⟩,J8.start⟩ Aw ?_))
 rintro i O Q1 ⟨hk1,he1⟩
 refine Ae (Af (Ab ?_));refine Ab ?_;refine Bi (.rf U) Z9 ?_;refine AWl.lt ?_;refine Aa (Ai (.tm U) (fun h46=>?_) (fun h46=>?_))
 · try simp at h46
   obtain⟨q,hq⟩:∃ ξ,Q1[i]?=some ξ:=⟨_,ZD (by omega)⟩
   have hqr:=hk1.2.1.mem q (ZF hq)
   obtain⟨p,rfl⟩:=ZG hqr.1
   have hpl:p<a.Accept.length*g.Values.length:=by omega
   have hdm:=Rq (by omega) hpl
   obtain⟨v,hv⟩:∃ v,g.Values[((p:Int) / (a.Accept.length:Int)).toNat]?=some v:=⟨_,ZD (by omega)⟩
   have hnx:=Pj g a p
   have hS:(Fy g a ((p:Int) / (a.Accept.length:Int)) ((p:Int)%(a.Accept.length:Int))).length=(nxN g a p).length:=by rw [hnx,List.length_map]
   have hnk:=Qa ha hg hpl
   have hal:(AV g ((p:Int) / (a.Accept.length:Int))).length≤24:=Nat.le_trans (FH _ _) (by omega)
   have hSl:=Uk g a ((p:Int) / (a.Accept.length:Int)) ((p:Int)%(a.Accept.length:Int))
   have hfull:=FM.relax hqr (l:=nxN g a p) (st:=(O,Q1)) hk1.2.1 hnk
   dsimp only at hfull
   have hlq:=S7 (p:Int) (nxN g a p) O Q1
   refine Am (Ae (AW.block (Ae (Bx 16 (DM [[],[],[],[],[2,3],[2,3,4],[],[2,3,4,5,6],[],[],[8,9],[8,9,10],[],[8,9,10,11,12],[0,1,2,3,4,5,6,7,8,9,10,11,12,13],[0,1,2,3,4,5,6,7,8,9,10,11,12,13,14]]) (by kernel_rfl) (by kernel_rfl) (by kernel_rfl) ?_))));refine A5 B7 ?_;refine A5 B6 ?_;refine Az ?_;refine Az ?_;refine AB.s (fun _ hs=>(A3 U (.no U) (Ag hs U) (hs.tm U) (hs.res _ _ U) (hs.tm U) Z9 ty3 (fun _=>⟨by omega,(by exact Ao hq)⟩))) ?_;refine AB.s (fun _ hs=>(by exact Ca U (.no U) (Ag hs U) (hs.tm U) (hs.res _ _ U) (by exact Ao hq) ty3 U U)) ?_;refine Az ?_;refine AB.s (fun _ hs=>Uc U (.no U) (Ag hs U) (hs.tm U) (hs.tm U) (fun _=>by omega)) ?_;refine Az ?_;refine Az ?_;refine AB.s (fun _ hs=>(by exact A3 U (.no U) (Ag hs U) (hs.tm U) (hs.res _ _ U) (hs.tm U) Z9 ty3 (fun _=>⟨by omega,(by exact Ao hq)⟩))) ?_
   refine AB.s (fun _ hs=>(by exact Ca U (.no U) (Ag hs U) (hs.tm U) (hs.res _ _ U) (by exact Ao hq) ty3 U U)) ?_;refine Az ?_;refine AB.s (fun _ hs=>Sc U (.no U) (Ag hs U) (hs.tm U) (hs.tm U) (fun _=>by omega)) ?_;refine AB.s (fun _ hs=>Bc (FnT.fr (PM g a ha hg ((p:Int) / (a.Accept.length:Int)) ((p:Int)%(a.Accept.length:Int)) v (by omega) hv (by omega))) U (.no U) (Ag hs U) (.cons (hs.tm U) (AD hs U) (.cons (hs.tm U) (AD hs U) (.cons (hs.tm U) (AD hs U) (.cons (hs.tm U) (AD hs U) .nil))))) ?_;refine AB.s (fun _ hs=>Cl U (.no U) (Ag hs U) (hs.tm U)) ?_;refine Bs U U ?_;refine Aa (Ae (As (Ay [3,4,6,7,8,10,11,12] [18,37]) ?_));refine Ad (An ?_)
   refine Aa (AW.block (B9 (fun (j:Nat)=>(j≤(nxN g a p).length)∧True) (fun (j:Nat)=>⟨_,[(13,(true,.a (.one (.t (.v (.int .i64 (j:Nat))))))),(8,(true,.a (.one (.rf 18)))),(10,(true,.a (.one (.rf 37)))),(3,_),(4,_),(6,_),(7,_),(11,_),(12,_)],[(18,.row 1 ((relax (p:Int) ((nxN g a p).take j) (O,Q1)).1.map AQ)),(37,.row 1 ((relax (p:Int) ((nxN g a p).take j) (O,Q1)).2.map AQ))]⟩) (fun (j:Nat)=>(nxN g a p).length-j) (0) ⟨ZR _,Y⟩ Aw ?_))
   rintro j ⟨hk2,he2⟩
   refine Ae (Af (Ab ?_));refine Ab ?_;refine Bi (.t) ZS ?_;refine AWl.lt ?_;refine Aa (Ai (.tm U) (fun h67=>?_) (fun h67=>?_))
   · try simp at h67
     obtain⟨z,hz⟩:∃ ξ,(Fy g a ((p:Int) / (a.Accept.length:Int)) ((p:Int)%(a.Accept.length:Int)))[j]?=some ξ:=⟨_,ZD (by omega)⟩
     have hzk:(nxN g a p)[j]?=some (z.Node*(a.Accept.length:Int)+z.State):=by rw [hnx,List.getElem?_map,hz];rfl
     have hzo:=QJ ha hg hv (by omega) z (ZF hz)
     have hkk:=hnk _ (ZF hzk)
     have hzm:0≤z.Node*(a.Accept.length:Int):=ZQ hzo.1 (by omega)
     have hst:=FM.relax hqr (l:=(nxN g a p).take j) (st:=(O,Q1)) hk1.2.1 (fun k hk=>hnk k (ZM hk))
     dsimp only at hst
     have hgk:=CT (out:=(relax (p:Int) ((nxN g a p).take j) (O,Q1)).1) (k:=z.Node*(a.Accept.length:Int)+z.State) (by rw [hst.1.len];omega)
     have hgp:=CT (out:=(relax (p:Int) ((nxN g a p).take j) (O,Q1)).1) (k:=(p:Int)) (by rw [hst.1.len];omega)
     have hvp:=hst.1.val _ (ZF hgp)
     have hqi:(relax (p:Int) ((nxN g a p).take j) (O,Q1)).2[i]?=some (p:Int):=by rw [Rb _ _ _ _ (by omega)];exact hq
     refine Am (Ae (AW.block (Ae (Bx 14 (DM [[],[],[0,1],[0,1,2],[0,1,2,3],[],[0,1,2,3,4,5],[],[],[7,8],[7,8,9],[7,8,9,10],[0,1,2,3,4,5,6,7,8,9,10,11],[0,1,2,3,4,5,6,7,8,9,10,11,12]]) (by kernel_rfl) (by kernel_rfl) (by kernel_rfl) ?_))));refine Az ?_;refine Az ?_;refine AB.s (fun _ hs=>(Ak U (.no U) (Ag hs U) (hs.tm U) (hs.tm U) ZS US (fun _=>⟨by omega,(by exact Ao hz)⟩))) ?_;refine Bz Xx ?_;refine A5 ty3 ?_;refine Az ?_;refine AB.s (fun _ hs=>Ge U (.no U) (Ag hs U) (hs.tm U) (hs.tm U) (fun _=>by omega)) ?_;refine Az ?_;refine Az ?_;refine AB.s (fun _ hs=>(by exact Ak U (.no U) (Ag hs U) (hs.tm U) (hs.tm U) ZS US (fun _=>⟨by omega,(by exact Ao hz)⟩))) ?_;refine Bz Xw ?_;refine A5 ty3 ?_;refine AB.s (fun _ hs=>Dn U (.no U) (Ag hs U) (hs.tm U) (hs.tm U) (fun _=>by omega)) ?_
     refine AB.s (fun _ hs=>Cl U (.no U) (Ag hs U) (hs.tm U)) ?_;refine Bs U U ?_;refine Aa (Ae (As (Ay [3,4,6,7,8,10,11,12,13,14] [18,37]) ?_));refine Ad (Ab ?_);refine Ab ?_;refine Ac (by exact A3 U (.no U) U (.tm U) U (.tm U) Z9 ty3 (fun _=>⟨by omega,(by exact Ao hgk)⟩)) U ?_;refine Ac (Ca U (.no U) U (.tm U) U (by exact Ao hgk) ty3 U U) U ?_;refine D7 ?_;refine Aa (Ai (.tm U) (fun h87=>?_) (fun h87=>?_))
     · try simp at h87
       refine Af (Ab ?_);refine Ab ?_;refine Ab ?_;refine Ab ?_;refine Ab ?_;refine Ac (A3 U (.no U) U (.tm U) U (.tm U) Z9 ty3 (fun _=>⟨by omega,(by exact Ao hqi)⟩)) U ?_;refine Ac (Ca U (.no U) U (.tm U) U (by exact Ao hqi) ty3 U U) U ?_;refine Ac (A3 U (.no U) U (.tm U) U (.tm U) Z9 ty3 (fun _=>⟨by omega,(by exact Ao hgp)⟩)) U ?_;refine Ac (Ca U (.no U) U (.tm U) U (by exact Ao hgp) ty3 U U) U ?_;refine Ac (Dn U (.no U) U (.tm U) (.const U) (fun _=>⟨by omega,by omega⟩)) U ?_;refine Ac (A3 U (.no U) U (.tm U) U (.tm U) Z9 ty3 (fun _=>⟨by omega,(by exact Ao hgk)⟩)) U ?_;refine Cu (C0 U U U (.tm U) U (.tm U) U (by exact Ao hgk) ty3 U U U U) ?_;refine Aa (As (Ay [3,4,6,7,8,10,11,12,13,14] [18,37]) ?_);refine Ad (Ab ?_);refine Ab ?_;refine Bp (Ce (xs:=[.tmp 100]) 101 U U U (.cons (.tm U) U U .nil) Z9 in3 U U U U) U ?_
       refine Bt (B8 U U U (.tm U) U (.tm U) (by exact .rf U) (by rfl) Z9 in3 U (by (simp [AH];omega)) (by (unfold maxLen;simp [AH];omega))) U ?_;refine Bv (Ay [3,4,6,7,8,10,11,12,13,14,102] [18,37,101]) ?_;refine Ah ?_;refine Aa (Ad (Ab ?_));refine A9 ?_;refine Ah ?_;refine Aa ?_
       repeat (with_reducible refine Av ?_)
       refine BF.next (j+1) ⟨by omega,Y⟩ (by omega) (Au rfl ⟨rfl,rfl,rfl,rfl,rfl,rfl,rfl,rfl,rfl,Y⟩ ⟨(by refine congrArg (fun r=>some (R.row 1 r)) ?_;first|(rw [ZL];simp [AH,AQ];done)|(rw [BZ hzk];unfold rlx;rw [if_pos h87];simp [ZH,AQ];done)|(rw [BZ hzk];unfold rlx;rw [if_neg (by omega)];done)|(rw [ZB (by omega)];done)),(by refine congrArg (fun r=>some (R.row 1 r)) ?_;first|rfl|(rw [BZ hzk];unfold rlx;rw [if_pos h87];simp [AQ,AH];done)|(rw [BZ hzk];unfold rlx;rw [if_neg (by omega)];done)|(rw [ZB (by omega)];done)),Y⟩)
     try simp at h87
     refine Am (Ad (Ab ?_));refine A9 ?_;refine Ah ?_;refine Aa ?_
     repeat (with_reducible refine Av ?_)
     refine BF.next (j+1) ⟨by omega,Y⟩ (by omega) (Au rfl ⟨rfl,rfl,rfl,rfl,rfl,rfl,rfl,rfl,rfl,Y⟩ ⟨(by refine congrArg (fun r=>some (R.row 1 r)) ?_;first|(rw [ZL];simp [AH,AQ];done)|(rw [BZ hzk];unfold rlx;rw [if_pos h87];simp [ZH,AQ];done)|(rw [BZ hzk];unfold rlx;rw [if_neg (by omega)];done)|(rw [ZB (by omega)];done)),(by refine congrArg (fun r=>some (R.row 1 r)) ?_;first|rfl|(rw [BZ hzk];unfold rlx;rw [if_pos h87];simp [AQ,AH];done)|(rw [BZ hzk];unfold rlx;rw [if_neg (by omega)];done)|(rw [ZB (by omega)];done)),Y⟩)
   try simp at h67
   refine Bf (Ad (Ab ?_));refine A9 ?_;refine Ah ?_;refine Aa ?_
   repeat (with_reducible refine Av ?_)
   refine Ef.next (i+1) ((relax (p:Int) (nxN g a p) (O,Q1)).1) ((relax (p:Int) (nxN g a p) (O,Q1)).2) ⟨⟨by omega,hfull.1,by omega⟩,J8.next he1 hk1.2.1 hq hnk⟩ (by omega) (Au rfl ⟨rfl,rfl,rfl,rfl,rfl,rfl,rfl,Y⟩ ⟨(by refine congrArg (fun r=>some (R.row 1 r)) ?_;first|(rw [ZL];simp [AH,AQ];done)|(rw [BZ hzk];unfold rlx;rw [if_pos h87];simp [ZH,AQ];done)|(rw [BZ hzk];unfold rlx;rw [if_neg (by omega)];done)|(rw [ZB (by omega)];done)),(by refine congrArg (fun r=>some (R.row 1 r)) ?_;first|rfl|(rw [BZ hzk];unfold rlx;rw [if_pos h87];simp [AQ,AH];done)|(rw [BZ hzk];unfold rlx;rw [if_neg (by omega)];done)|(rw [ZB (by omega)];done)),Y⟩)
 try simp at h46
 refine Bf (Af (Ab ?_));refine Ah ?_;refine Aa (Aq (Res.one U (.tmp U .nil) U ?_))
 rw [J8.done he1 (by omega)];rfl
section
variable {P:Program}
theorem Op1.le {ops:Array Oper} {o:Oper} {σ σ' σ2:St} (h:Op1 P ops o σ σ2) (hs:Sup σ' σ2):Op1 P ops o σ σ':=fun w0 a w hr K Q' hK=>h w0 a w hr K Q' fun a' w' hr'=>hK a' w' (Rel.of_look hr' hs.n.symm (fun t x h=>hs.slots t x h) (fun t x h=>hs.res t x h))
def Zt (P:Program) (w0:BB) (Q:Exit→St→Prop) (M e:Nat) (B:Nat→List Nat) (l:List Oper) (n:Nat) (sl:List (Nat×(Bool×S))) (rs:List (Nat×R)) (outs:List Out):Prop:=
 Gj (outs.map (·.1)) sl=sl∧Rk B ⟨n,sl,rs⟩ outs=true∧∃ σA σ1 σF,(∀ o,l[M]?=some o→Op1 P l.toArray o (stL (fun _=>true) 0 outs ⟨n,sl,rs⟩) σA)∧(∀ o,l[M]?=some o→Op1 P l.toArray o (stL (fun j=>!(ZE j e)) 0 outs ⟨n,sl,rs⟩) σ1)∧
 (∀ o,l[e]?=some o→Op1 P l.toArray o σ1 σF)∧Sup σF σA∧AWl P w0 l.toArray Q (l.drop (M+1)) σF
theorem Zt.mk {w0:BB} {Q:Exit→St→Prop} {M e:Nat} {B:Nat→List Nat} {l:List Oper} {n:Nat} {sl:List (Nat×(Bool×S))} {rs:List (Nat×R)} {outs:List Out} {oM oE:Oper} {σA σ1 σE:St} (σF:St) (hd:Gj (outs.map (·.1)) sl=sl) (hU:Rk B ⟨n,sl,rs⟩ outs=true) (hM:l[M]?=some oM) (hE:l[e]?=some oE)
 (hA:Op1 P l.toArray oM (stL (fun _=>true) 0 outs ⟨n,sl,rs⟩) σA) (h1:Op1 P l.toArray oM (stL (fun j=>!(ZE j e)) 0 outs ⟨n,sl,rs⟩) σ1) (hEE:Op1 P l.toArray oE σ1 σE) (hF:Sup σF σA) (hF2:Sup σF σE) (hfin:AWl P w0 l.toArray Q (l.drop (M+1)) σF):Zt P w0 Q M e B l n sl rs outs:=
 ⟨hd,hU,σA,σ1,σF,fun o h=>by rw [hM] at h;cases h;exact hA,fun o h=>by rw [hM] at h;cases h;exact h1,fun o h=>by rw [hE] at h;cases h;exact hEE.le hF2,hF,hfin⟩
end
section
variable {P:Program}
def CV (σt:St):Exit→St→Prop
 | .normal,σ=>Le σ σt
 | _,_=>False
theorem CV.run {ops:Array Oper} {o:Oper} {σ σt:St} (h:∀ w0,AWl P w0 ops (CV σt) [o] σ) {w0:BB} {a:Act} {w:World} (hr:Rel w0 σ a w) (K:Act→World→Prop) (Q:Exit→Act→World→Prop) (hK:∀ a' w',Rel w0 σt a' w'→K a' w') :
 if Region.wanted o (yielded ops a.tmps) then o.wp P a w K Q else K (a.put o.dst undef) w:=by
 have h1:=h w0 a w hr
 unfold wpList at h1
 have hN:∀ a' w',wpList P ops (lift w0 (CV σt)) [] a' w'→K a' w':=fun a' w' h=>by
  obtain⟨σ',h2,h3⟩:=h
  exact hK a' w' (h2 w0 a' w' h3)
 have hF:∀ e a' w',e≠Exit.normal→lift w0 (CV σt) e a' w'→False:=fun e a' w' he h=>by
  obtain⟨σ',h2,h3⟩:=h
  cases e<;>first|exact he rfl|exact h2
 have hL:LetsOut (lift w0 (CV σt))→False:=fun ⟨a',w',h⟩=>hF _ a' w' (by simp) h
 split
 · rename_i hw
   rw [if_pos hw] at h1
   rcases h1 with h1|⟨_,h1⟩
   · unfold Oper.wp at *
     generalize (execOp a.eval o).run P w=r at *
     cases r with
     | ok n w'=>
      cases n<;>simp only [Oper.upon] at h1 ⊢<;>
       first
        | exact hN _ _ h1
        | exact Calls.mono h1 (fun e w'' he=>by cases e<;>first|exact hN _ _ he|exact (hL he).elim|exact (hF _ _ _ (by simp) he).elim)
        | exact Rows.mono h1 (fun _ _ he=>hN _ _ he)
     | halt x w'=>cases x<;>simp only [Oper.upon] at h1 ⊢<;>first|exact h1.elim|exact (hF _ _ _ (by simp) h1).elim
   exact (hL h1).elim
 rename_i hw
 rw [if_neg hw] at h1
 exact hN _ _ h1
theorem Al {P:Program} {w0:BB} {ops:Array Oper} {σ s:St} {sl:List (Nat×(Bool×S))} {rs:List (Nat×R)} (ks js:List Nat) (h:KH σ.slots ks sl:=by (repeat (apply KH.cons;exact rfl));exact .nil) (h':KH σ.res js rs:=by (repeat (apply KH.cons;exact rfl));exact .nil) (e:s=⟨σ.n,sl,rs⟩:=by exact rfl):AWl P w0 ops (CV s) [] σ:=Aa (by subst e;exact Ay ks js h h')
def UG (l:List Oper) (N:Nat) (ms:List (List Nat)) (es:List (Nat×Nat×Nat)) (k:Nat):Bool:=
 (ZN ms.length).all (fun a=>match ms[a]? with
  | none=>false
  | some m=>((ZN N).all (fun i=>BI m i||(match l[i]? with
   | none=>false
   | some o=>!((Gu o).all (BI m))||es.any (fun e=>ZE e.1 a&&ZE e.2.1 i&&(match ms[e.2.2]? with
    | none=>false
    | some m'=>(ZN N).all fun j=>BI m' j == (ZE j i||BI m j))))))&&
   (ZE a k||(ZN N).any (fun i=>!(BI m i))))&&
 (match ms with|[]::_=>true|_=>false)
theorem AW.dag {w0:BB} {Q:Exit→St→Prop} {σ:St} {id:Nat} {l:List Oper} (N k:Nat) (ms:List (List Nat)) (es:List (Nat×Nat×Nat)) (st:Nat→St) (hm:P.follows .mixedOrders=true) (hB:E7 l.toArray N=true) (hP:UG l N ms es k=true)
 (hes:∀ e∈es,∀ o,l[e.2.1]?=some o→∀ w0,AWl P w0 l.toArray (CV (st e.2.2)) [o] (st e.1)) (hσ:Le σ (st 0)) (hfin:AWl P w0 l.toArray Q (l.drop N) (st k)):AW P w0 (.region id l.toArray true) Q σ:=by
 intro a w hr;refine wp_region_any hm ?_
 simp only [UG,ZI] at hP
 obtain⟨hP,hms⟩:=hP
 have hms0:ms[0]?=some []:=by
  match ms,hms with
  | []::_,_=>rfl
 have hlN:N≤l.length:=by
  have hB':=hB
  simp only [E7,ZI,decide_eq_true_eq] at hB'
  simpa using hB'.1.1.1
 have hdep:∀ i o,i<N→l[i]?=some o→∀ j∈Gu o,j<N:=fun i o hi ho j hj=>by
  have hB':=hB
  simp only [E7,ZI,decide_eq_true_eq] at hB'
  have:=ZC.1 hB'.1.1.2 i (ZJ.2 hi)
  have ho':l.toArray[i]?=some o:=by simpa using ho
  rw [ho'] at this
  have:=ZC.1 this j hj
  simp only [decide_eq_true_eq] at this
  omega
 have hat:∀ (b:Nat) (m:List Nat),ms[b]?=some m→((∀ i,i<N→BI m i=false→∀ o,l[i]?=some o→(∀ j∈Gu o,BI m j=true)→∃ e∈es,e.1=b∧e.2.1=i∧∃ m',ms[e.2.2]?=some m'∧∀ j,j<N→BI m' j=(ZE j i||BI m j))∧((∀ i,i<N→BI m i=true)→b=k)):=by
  intro b m hb
  have:=ZC.1 hP b (ZJ.2 (ZK.1 hb).1)
  rw [hb] at this
  simp only [ZI] at this
  refine⟨fun i hi hu o ho hd=>?_,fun hall=>?_⟩
  · have:=ZC.1 this.1 i (ZJ.2 hi)
    rw [hu,Aak,ho] at this
    simp only [Aal,Bool.not_eq_true'] at this
    rcases this with h|h
    · rw [ZC.2 hd] at h;cases h
    obtain⟨e,he,h⟩:=Aam.1 h
    simp only [ZI] at h
    obtain⟨⟨h1,h2⟩,h3⟩:=h
    refine⟨e,he,ZT h1,ZT h2,?_⟩
    split at h3
    · cases h3
    rename_i m' hm'
    exact⟨m',hm',fun j hj=>by simpa using ZC.1 h3 j (ZJ.2 hj)⟩
  have h2:=this.2
  simp only [Aal] at h2
  rcases h2 with h|h
  · exact ZT h
  obtain⟨i,hi,h⟩:=Aam.1 h
  rw [hall i (ZJ.1 hi)] at h;cases h
 have H:=Gz (P:=P) (Q:=lift w0 Q) (J:=fun listed a w=>∃ b m,ms[b]?=some m∧(∀ j,j<N→BI m j=listed.getD j false)∧Rel w0 (st b) a w) hB (fun i o hi ho listed a w inv hd hu hJ=>?_) (fun listed a w hall hJ=>?_)
  (unl N (ZU l.toArray.size false)) (ZU l.toArray.size false) a { w with drawn:=w.drawn+1 } rfl
  ⟨by simp,fun j oj _ hl=>(by rw [getD_replicate_false] at hl;cases hl),fun t _ ht=>getD_in (by simpa using ht) (getD_replicate_false _ _)⟩ ?_
 · have hu:unl N (ZU l.toArray.size false)=N:=by
    unfold unl
    rw [List.countP_eq_length.2 (fun j _=>by rw [getD_replicate_false];rfl),List.length_range]
   rw [hu,show N+(l.toArray.size-N)=l.toArray.size by simp;omega] at H
   exact H
 · obtain⟨b,m,hb,hmj,hr⟩:=hJ
   have ho0:l[i]?=some o:=by simpa using ho
   obtain⟨e,he,rfl,rfl,m',hm',hj'⟩:=(hat b m hb).1 i hi (by rw [hmj i hi];exact hu) o ho0 fun j hj=>by rw [hmj j (hdep i o hi ho0 j hj)];exact hd j hj
   intro K Q' hK;refine CV.run (hes e he o ho0) hr K Q' fun a' w' hr'=>hK a' w' ⟨e.2.2,m',hm',fun j hj=>?_,hr'⟩
   rw [hj' j hj,hmj j hj]
   by_cases ej:j=e.2.1
   · subst ej
     have:e.2.1<listed.size:=by rw [inv.size];simp;omega
     simp [this,Nat.beq_refl]
   rw [Fw ej,Aak,getD_set_ne false (fun h=>ej h.symm)]
 · obtain⟨b,m,hb,hmj,hr⟩:=hJ
   have:=(hat b m hb).2 fun i hi=>by rw [hmj i hi];exact hall i hi
   subst this;exact hfin a w hr
 refine⟨0,[],hms0,fun j _=>by rw [getD_replicate_false];rfl,?_⟩
 obtain⟨I,hI⟩:=hσ w0 a w hr
 exact⟨I,hI.later (Ext.refl w).drawn⟩
structure Dag (P:Program) (l:List Oper) (acc:List (Nat×St)) (es:List (Nat×Nat×Nat)) (Fin:(Nat→St)→Prop):Prop where
 pf:∃ st:Nat→St,(∀ k σ,look acc k=some σ→st k=σ)∧(∀ e∈es,∀ o,l[e.2.1]?=some o→∀ w0,AWl P w0 l.toArray (CV (st e.2.2)) [o] (st e.1))∧Fin st
variable {l:List Oper} {acc:List (Nat×St)} {es:List (Nat×Nat×Nat)} {Fin:(Nat→St)→Prop}
theorem Ar {a i b:Nat} {σ σ':St} {o:Oper} (ha:look acc a=some σ) (ho:l[i]?=some o) (hb:look acc b=none) (hE:∀ w0,AWl P w0 l.toArray (CV σ') [o] σ) (h:Dag P l ((b,σ')::acc) es Fin):Dag P l acc ((a,i,b)::es) Fin:=by
 obtain⟨st,h1,h2,h3⟩:=h.pf
 have hne:b≠a:=fun e=>by subst e;rw [hb] at ha;cases ha
 have h1':∀ k σ,look acc k=some σ→st k=σ:=fun k σ hk=>h1 k σ (by
  rw [AF,if_neg (fun e=>?_)]
  · exact hk
  subst e;rw [hb] at hk;cases hk)
 refine⟨st,h1',fun e he o' ho' w0=>?_,h3⟩
 rcases Aan.1 he with rfl|he
 · simp only at ho' ⊢
   rw [ho] at ho';cases ho'
   rw [h1' a σ ha,h1 b σ' (by rw [AF,if_pos rfl])]
   exact hE w0
 exact h2 e he o' ho' w0
theorem Ap {a i b:Nat} {σ σ':St} {o:Oper} (ha:look acc a=some σ) (ho:l[i]?=some o) (hb:look acc b=some σ') (hE:∀ w0,AWl P w0 l.toArray (CV σ') [o] σ) (h:Dag P l acc es Fin):Dag P l acc ((a,i,b)::es) Fin:=by
 obtain⟨st,h1,h2,h3⟩:=h.pf
 refine⟨st,h1,fun e he o' ho' w0=>?_,h3⟩
 rcases Aan.1 he with rfl|he
 · simp only at ho' ⊢
   rw [ho] at ho';cases ho'
   rw [h1 a σ ha,h1 b σ' hb]
   exact hE w0
 exact h2 e he o' ho' w0
theorem Dag.fin {w0:BB} {Q:Exit→St→Prop} {N k:Nat} {σ:St} (hk:look acc k=some σ) (h:AWl P w0 l.toArray Q (l.drop N) σ):Dag P l acc [] (fun st=>AWl P w0 l.toArray Q (l.drop N) (st k)):=
 ⟨fun i=>(look acc i).getD ⟨0,[],[]⟩,fun i σ' hi=>by simp [hi],fun e he=>(by cases he),by simpa [hk] using h⟩
theorem AW.dagn {w0:BB} {Q:Exit→St→Prop} {σ:St} {id:Nat} (N k:Nat) (ms:List (List Nat)) (es:List (Nat×Nat×Nat)) (hm:P.follows .mixedOrders=true) (hB:E7 l.toArray N=true) (hP:UG l N ms es k=true)
 (h:Dag P l [(0,σ)] es (fun st=>AWl P w0 l.toArray Q (l.drop N) (st k))):AW P w0 (.region id l.toArray true) Q σ:=by
 obtain⟨st,h1,h2,h3⟩:=h.pf
 exact AW.dag N k ms es st hm hB hP h2 (by rw [h1 0 σ U];exact Le.refl _) h3
end
section
variable {P:Program} {ops:Array Oper} {o:Oper} {σ:St} {q:Bool}
theorem Ui {b:Bool} {w:World}:∀ {ts:List T} {cs:List Value} (n:Nat),Cs b w ts cs []→Cs b w (ts.take n) (cs.take n) []∧Cs b w (ts.drop n) (cs.drop n) []
 | ts,cs,0,h=>by simpa [Cs] using h
 | [],cs,n+1,h=>by
  simp only [Cs] at h
  obtain⟨rfl,_⟩:=h
  simp [Cs]
 | t::ts,cs,n+1,h=>by
  simp only [Cs] at h
  obtain⟨c,cr,G1,G2,rfl,h2,h3,h4⟩:=h
  obtain⟨rfl,rfl⟩:=List.append_eq_nil_iff.1 h4.symm
  obtain⟨g1,g2⟩:=Ui n h3
  rw [ZV,ZV,ZW,ZW]
  refine⟨?_,g2⟩
  simp only [Cs]
  exact⟨c,_,[],[],rfl,h2,g1,rfl⟩
theorem F6 {α:Type} {k:Nat}:∀ {rows:List (List α)} (m:Nat),(∀ r∈rows,r.length=k)→(rows.take m).flatten=rows.flatten.take (m*k)∧(rows.drop m).flatten=rows.flatten.drop (m*k)
 | rows,0,_=>by simp
 | [],m+1,_=>by simp
 | r::rows,m+1,h=>by
  have hr:=h r (by simp)
  obtain⟨g1,g2⟩:=F6 m fun r' hr'=>h r' (List.mem_cons_of_mem r hr')
  rw [ZV,ZW,Aao,Aao,g1,g2,Nat.succ_mul]
  constructor
  · rw [Aap,hr,ZB (l:=r) (by omega)];congr 2;omega
  rw [Aaq,hr,@Aae _ r _ (by omega),List.nil_append];congr 1;omega
theorem Xm {r:List T} (n:Nat) (h:r.all T.isV=true):(ZA n r).flatten.all T.isV=true:=by
 rw [ZC]
 intro x hx
 rw [List.mem_flatten] at hx
 obtain⟨l,hl,hx⟩:=hx
 rw [(Aac.1 hl).2] at hx
 exact ZC.1 h x hx
theorem Tj {id k j c:Nat} {t t' e:TypeId} {x y:Operand} {A2:A} {ag:Bool} {rows rows2:List (List T)} (ho:o.op=.call { callee:=.builtin .copy,args:=#[x,y],argTypes:=#[t,t'] }) (hg:o.guard=none) (hd:o.dst.all (fun d=>Nat.blt d σ.n)=true)
 (hx:Get σ true x (.one (.tl id k j))) (hs:look σ.res id=some (.row k rows)) (hy:Get σ true y A2) (hq:Sq σ A2 k rows2) (hv1:rows.flatten.all T.isV=true) (hv2:rows2.flatten.all T.isV=true) (hu:P.underlying t=some (.slice e)) (hk:tyB P e ag k=true) (hc:c=min rows2.length (rows.length-j)) :
 Op1 P ops o σ ((σ.upd id (.row k (rows.take j++rows2.take c++rows.drop (j+c)))).put o.dst (true,.a (.one (.t (.v (.int .i64 c)))))):=
 .eff hg fun w0 a w ⟨I,hr⟩=>by
  obtain⟨a0,a',N,M,h1,h2,h3,h4,h5⟩:VE I w (.tl id k j) (a.eval x):=hx.va hr rfl
  have hC:C true w (.sl k rows) (I.hd id) (I.F id):=hr.res id _ hs
  have hC0:=hC
  have own:=hr.own id _ hs
  rw [h1] at hC
  obtain⟨e1,e2,e3⟩:=hC.hdr
  obtain⟨F2,hC2⟩:=hq.val hr (hy.va hr rfl)
  generalize hev:a.eval y=yv at hC2
  have hC2':=hC2
  simp only [C] at hC2'
  obtain⟨a2,m,cc,rfl,g2,g3,g4,g5⟩:=hC2'
  rw [g2,e1] at hc
  by_cases hc0:c=0
  · have hrun:(Builtin.copy_ #[t,t'] o.type #[a.eval x,.slice a2 m cc]).run P w=.ok (.int .i64 (0:Nat)) w:=by
     have hmin:Nat.min m (N-j)=0:=by rw [←hc0,hc]
     have hf:∀ w:World,(Builtin.firstCells k 0 (.slice a2 m cc)).run P w=.ok #[] w:=by
      intro w;cases a2<;>simp [Builtin.firstCells,loadCells,loadCellsFrom]
     rw [h2]
     cases a'<;>simp [Builtin.copy_,run_underlying hu,E6 hk,Builtin.lenOf,hmin,hf,storeCells,goInt]
    have er:rows.take j++rows2.take c++rows.drop (j+c)=rows:=by rw [hc0];simp
    rw [er,hc0]
    have hR:=hr.upd (G:=I.F id) (r:=.row k rows) hs (Chg.refl _ _) ⟨own.1,fun b hb=>⟨(own.2 b hb).1,(hr.lt id b hb).1,(own.2 b hb).2,.inl hb⟩⟩ (by show C true _ _ _ _;simpa [Ip.set] using hC0)
    exact⟨.int .i64 (0:Nat),w,by simp [execOp,ho,resolve,invoke,builtin,hev,hrun],_,hR.put hd (Ka _)⟩
  have hjN:j<N:=by omega
  obtain⟨g',rfl,rfl⟩:=h5 (by omega)
  rcases hC.blk with ⟨q1,_⟩|⟨g,G,cur,e',q1,q2,q3,q4,q5⟩
  · omega
  cases q1
  rcases g5 with ⟨g5,_⟩|⟨b2,off2,G2,rfl,rfl,g6,_,g8⟩
  · omega
  obtain⟨r1,news,r2,r3,r4⟩:=g8.flat
  obtain⟨r2',_⟩:=ED (o':=true) (w':=w) hv2 r2
  rw [g2] at r3
  obtain⟨s1,xs,s2,s3,s4⟩:=q5.flat
  simp only [Aar] at s4
  have hG:G=[]:=(ED (o':=true) (w':=w) hv1 s2).2
  subst hG
  rw [e1] at s3
  have hcm:c≤m:=by omega
  have hcN:j+c≤N:=by omega
  have hjk:j*k+c*k=(j+c)*k:=by rw [←Nat.add_mul]
  have hle1:c*k≤m*k:=ZX _ hcm
  have hle2:(j+c)*k≤N*k:=ZX _ hcN
  have hNM:N*k≤M*k:=ZX _ e2
  have hnl:(news.take (c*k)).length=c*k:=by rw [ZP,r3];omega
  have hnews:∀ p u,(news.take (c*k))[p]?=some u→w.cell? ((⟨b2,off2,none⟩:Addr).add p)=some u:=fun p u hp=>by
   rw [Aas] at hp
   split at hp
   · rw [Addr.add_lit];exact r4 p u hp
   cases hp
  have hone:∀ u∈news.take (c*k),u.oneCell'=true:=fun u hu=>r2.cell1' u (ZM hu)
  have hf:=run_firstCells_some (P:=P) w k c ⟨b2,off2,none⟩ m cc (news.take (c*k)) hnl hnews
  have hst:=run_storeCells_at P g' (j*k) e' (news.take (c*k)) 0 cur w q3 (by rw [hnl,q4];omega) hone
  simp only [Nat.add_zero] at hst
  have hrun:(Builtin.copy_ #[t,t'] o.type #[a.eval x,.slice (some ⟨b2,off2,none⟩) m cc]).run P w=.ok (.int .i64 c) (w.setRow g' (cur.toList.take (j*k)++news.take (c*k)++cur.toList.drop (j*k+(news.take (c*k)).length)).toArray):=by
   have hmin:Nat.min m (N-j)=c:=by rw [hc]
   rw [h2]
   simp [Builtin.copy_,run_underlying hu,E6 hk,Builtin.lenOf,hmin,hf,hst,goInt]
  rw [hnl,hjk] at hrun
  generalize harr:(cur.toList.take (j*k)++news.take (c*k)++cur.toList.drop ((j+c)*k)).toArray=arr at hrun
  have hgn:(w.setRow g' arr).heap[g']?=some (.cells arr e' (0,0)):=setRow_heap w g' cur _ e' _ q3
  have hcl:cur.toList.length=M*k:=by rw [←q4];rfl
  have hsz:arr.size=M*k:=by
   rw [←harr]
   simp only [List.size_toArray,List.length_append,hnl,ZP,List.length_drop,hcl] at *
   omega
  have hch:Chg w (w.setRow g' arr) (I.F id):=⟨rfl,rfl,rfl,by simp [World.setRow],fun b _ hb=>setRow_other w g' b _ (fun e=>hb (by rw [q2,e];simp))⟩
  rw [q2] at own
  have hxs:cur.toList.take (N*k)=xs:=by
   apply List.ext_getElem?;intro p
   by_cases hp:p<xs.length
   · have:=s4 p _ (ZD hp)
     simp only [World.cell?,q3] at this
     rw [Aas,if_pos (by omega),ZD hp]
     simpa using this
   rw [Aau (by simp;omega),Aau (by omega)]
  have hcur:cur.toList=xs++cur.toList.drop (N*k):=by rw [←hxs,Aad]
  have ht:cur.toList.take (j*k)=xs.take (j*k):=by
   rw [hcur,Aap,show j*k-xs.length=0 by rw [s3];omega];simp
  have hdr:cur.toList.drop ((j+c)*k)=xs.drop ((j+c)*k)++cur.toList.drop (N*k):=by
   conv=>lhs;rw [hcur]
   rw [Aaq,show (j+c)*k-xs.length=0 by rw [s3];omega,List.drop_zero]
  have harr2:arr.toList=(xs.take (j*k)++news.take (c*k)++xs.drop ((j+c)*k))++cur.toList.drop (N*k):=by
   rw [←harr,ht,hdr];simp
  have hrows:∀ r∈rows,r.length=k:=s1
  have hnl2:(rows.take j++rows2.take c++rows.drop (j+c)).length=N:=by simp;omega
  have hR:=hr.upd (G:=[g']) (r:=.row k (rows.take j++rows2.take c++rows.drop (j+c))) hs hch ⟨by simp,fun b hb=>by
   obtain⟨o1,o2⟩:=own.2 b hb
   refine⟨o1,Nat.lt_of_lt_of_le (hr.lt id b (by rw [q2];exact hb)).1 hch.size,?_,.inl (by rw [q2];exact hb)⟩
   rw [ZZ] at hb
   subst hb
   exact⟨.inl _,_,hgn⟩⟩ (by
   show C true _ _ _ _
   simp only [Ip.set,if_true]
   rw [h1]
   unfold C
   refine⟨_,_,_,rfl,hnl2,e2,e3,.inr ⟨g',0,[],rfl,rfl,(Array.getElem?_eq_some_iff.1 hgn).1,fun _=>⟨rfl,arr,e',hgn,hsz⟩,Rws.of (xs:=xs.take (j*k)++news.take (c*k)++xs.drop ((j+c)*k)) (fun row hm=>?_) ?_ fun p u hp=>?_⟩⟩
   · rcases ZO.1 hm with hm|hm
     · rcases ZO.1 hm with hm|hm
       · exact s1 row (ZM hm)
       exact r1 row (ZM hm)
     exact s1 row (List.mem_of_mem_drop hm)
   · rw [Aav,Aav,(F6 j hrows).1,(F6 (j+c) hrows).2,(F6 c r1).1]
     have c1:=(ED (o':=true) (w':=w.setRow g' arr) hv1 s2).1
     have c2:=(ED (o':=true) (w':=w.setRow g' arr) hv2 r2').1
     exact Cs.append (F:=[]) (Cs.append (F:=[]) (Ui _ c1).1 (Ui _ c2).1) (Ui _ c1).2
   simp only [World.cell?,hgn,Aar]
   have hlt:=(ZK.1 hp).1
   simp only [Option.isSome_none,Bool.false_eq_true,if_false]
   rw [←Array.getElem?_toList,harr2,Aaj hlt];exact hp)
  exact⟨.int .i64 c,_,by simp [execOp,ho,resolve,invoke,builtin,hev,hrun],_,hR.put hd (Ka _)⟩
theorem Mb {t t':TypeId} {x:Operand} {k0 k:IntKind} {n m:Int} (ho:o.op=.convert t t' x) (hg:Grd ops o σ q) (hd:o.dst.all (fun d=>Nat.blt d σ.n)=true) (hx:Get σ q x (.one (.t (.v (.int k0 n))))) (hu0:(P.underlying t).isSome=true) (hu:P.underlying t'=some (.int k)) (hm:q=true→k.wrap n=m) :
 Op1 P ops o σ (σ.put o.dst (q,.a (.one (.t (.v (.int k m)))))):=
 .val hg hd fun I w0 a w hr hq=>by
  have hv:=hx.int hr hq
  obtain⟨u0,hu0⟩:=Option.isSome_iff_exists.1 hu0
  exact⟨_,by simp [execOp,ho,hv,Go.convert,run_underlying hu0,run_underlying hu,Conv.intToInt,hm hq],Ka _⟩
end
end Go.Q
