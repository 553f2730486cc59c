import Derived.Test.YtdhojcaoljhbiaaGreatDoorB91xr
import Derived.Test.YtdhojcaoljhbiaaGreatDoorB90xr
import Derived.Shelf.Bits.Mul64
import Derived.Shelf.Abstract
import Derived.Ground.NamesProg
set_option linter.unusedVariables false
set_option linter.unusedSimpArgs false
set_option maxRecDepth 100000
namespace Go.Q
open Go.D
def cmpL:List Int→List Int→Int
 | [],[]=>0
 | [],_::_=> -1
 | _::_,[]=>1
 | x::l,y::r=>if x<y then -1 else if y<x then 1 else cmpL l r
theorem cmpL_drop {l r:List Int} {k:Nat} {x y:Int} (hx:l[k]?=some x) (hy:r[k]?=some y):cmpL (l.drop k) (r.drop k)=if x<y then -1 else if y<x then 1 else cmpL (l.drop (k+1)) (r.drop (k+1)):=by
 rw [drop_at hx,drop_at hy,cmpL]
theorem cmpL_end {l r:List Int} {k:Nat} (h:l.length≤k∨r.length≤k) (h1:k≤l.length) (h2:k≤r.length):cmpL (l.drop k) (r.drop k)=if l.length<r.length then -1 else if r.length<l.length then 1 else 0:=by
 by_cases e1:l.length=k
 · by_cases e2:r.length=k
   · rw [List.drop_eq_nil_of_le (by omega),List.drop_eq_nil_of_le (by omega),cmpL,if_neg (by omega),if_neg (by omega)]
   rw [List.drop_eq_nil_of_le (by omega),List.drop_eq_getElem_cons (l:=r) (by omega),cmpL,if_pos (by omega)]
 by_cases e2:r.length=k
 · rw [List.drop_eq_nil_of_le (show r.length≤k by omega),List.drop_eq_getElem_cons (l:=l) (by omega),cmpL,if_neg (by omega),if_pos (by omega)]
 omega
theorem cmpL_zero:∀ (l r:List Int),decide (cmpL l r=0)=decide (l=r)
 | [],[]=>by simp [cmpL]
 | [],_::_=>by simp [cmpL]
 | _::_,[]=>by simp [cmpL]
 | x::l,y::r=>by
  have ih:=cmpL_zero l r
  rw [cmpL]
  by_cases h1:x<y
  · rw [if_pos h1];simp;omega
  by_cases h2:y<x
  · rw [if_neg h1,if_pos h2];simp;omega
  rw [if_neg h1,if_neg h2,ih]
  have:x=y:=by omega
  simp [this]
end Go.Q
namespace Go.Proofs.YtdhojcaoljhbiaaGreatDoor
open Go.RowKit Go.Q Go.D
theorem specl2Cmp (l r:List Int):FnT Tryz.prog 43 [.one (.sl 1 (l.map cInt)),.one (.sl 1 (r.map cInt))] (.a (.one (.v (.int .i64 (cmpL l r))))):=by
 refine Bb Tryz.func43 U (by kernel_rfl) Tryz.ntmps43 U fun hlen w0=>?_
 try simp [cEdge,cGraph] at hlen
 refine Af (Aj ?_);refine Aa (Ae (Af (Aj ?_)));refine Aa (AW.block (C8 (β:=Nat) (fun x=>(x≤l.length∧x≤r.length)∧cmpL l r=cmpL (l.drop x) (r.drop x)) (fun x=>⟨_,[(5,(true,.a (.one (.t (.v (.int .i64 x)))))),(0,_),(1,_)],[]⟩) (fun x=>l.length-x) (0) ⟨⟨Nat.zero_le _,Nat.zero_le _⟩,U⟩ (A6 U ⟨U,U,U,Y⟩ trivial) ?_));intro k hk
 obtain⟨hk,he⟩:=hk
 refine Ae (Af (Ab ?_));refine Ab ?_;refine Bu (.t) Tryz.underlying34 ?_;refine AWl.lt ?_;refine Ab ?_;refine Da ?_;refine Da ?_;refine Ac (Cn U (by exact .yes1 U U U U) U (.tmp U (by exact id)) (by exact .t) Tryz.underlying34) U ?_;refine Ac (R_lt U (by exact .yes1 U U U U) U (.tmp U (by exact id)) (.tmp U (by exact id))) U ?_;refine C1 ?_;refine Aa (Al (.tm U) (fun hlt=>?_) (fun hlt=>?_))
 · try simp at hlt
   obtain⟨x,hx⟩:∃ x,l[k]?=some x:=⟨_,List.getElem?_eq_getElem (by omega)⟩
   obtain⟨y,hy⟩:∃ y,r[k]?=some y:=⟨_,List.getElem?_eq_getElem (by omega)⟩
   rw [cmpL_drop hx hy] at he
   refine Am (Ae (AW.block (Ae (Ae (Ar (Av [0,1,5] []) ?_)))));refine Cv 9 (nthB [[],[],[0,1],[0,1,2],[],[],[4,5],[4,5,6],[0,1,2,3,4,5,6,7]]) (by kernel_rfl) (by kernel_rfl) (by kernel_rfl) ?_;refine Bp ?_;refine Bp ?_;refine DrawC.s (fun _ hs=>(Aw U (.no U) (Ag hs U) (hs.tm U) (hs.tm U) Tryz.underlying34 ty3 (fun _=>⟨by omega,(by exact A5 (by assumption))⟩))) ?_;refine Cd ty3 ?_;refine Bp ?_;refine Bp ?_;refine DrawC.s (fun _ hs=>(by exact Aw U (.no U) (Ag hs U) (hs.tm U) (hs.tm U) Tryz.underlying34 ty3 (fun _=>⟨by omega,(by exact A5 (by assumption))⟩))) ?_;refine Cd ty3 ?_;refine DrawC.s (fun _ hs=>R_lt U (.no U) (Ag hs U) (hs.tm U) (hs.tm U)) ?_;refine Cm U U ?_;refine Aa (Al (.tm U) (fun h26=>?_) (fun h26=>?_))
   · try simp at h26
     refine Ae (Ar (Av [0,1,5] []) ?_);refine Ad (Aj ?_);refine Aa (Ap (By U U ?_))
     rw [he,if_pos h26]
   try simp at h26
   refine Am (Ae (Ar (Av [0,1,5] []) ?_));refine Cv 9 (nthB [[],[],[0,1],[0,1,2],[],[],[4,5],[4,5,6],[0,1,2,3,4,5,6,7]]) (by kernel_rfl) (by kernel_rfl) (by kernel_rfl) ?_;refine Bp ?_;refine Bp ?_;refine DrawC.s (fun _ hs=>(by exact Aw U (.no U) (Ag hs U) (hs.tm U) (hs.tm U) Tryz.underlying34 ty3 (fun _=>⟨by omega,(by exact A5 (by assumption))⟩))) ?_;refine Cd ty3 ?_;refine Bp ?_;refine Bp ?_;refine DrawC.s (fun _ hs=>(by exact Aw U (.no U) (Ag hs U) (hs.tm U) (hs.tm U) Tryz.underlying34 ty3 (fun _=>⟨by omega,(by exact A5 (by assumption))⟩))) ?_;refine Cd ty3 ?_;refine DrawC.s (fun _ hs=>R_gt U (.no U) (Ag hs U) (hs.tm U) (hs.tm U)) ?_;refine Cm U U ?_;refine Aa (Al (.tm U) (fun h35=>?_) (fun h35=>?_))
   · try simp at h35
     refine Ae (Ar (Av [0,1,5] []) ?_);refine Ad (Aj ?_);refine Aa (Ap (By U U ?_))
     rw [he,if_neg (by omega),if_pos h35]
   try simp at h35
   refine Am (Ar (Av [0,1,5] []) ?_);refine Ad (Ab ?_);refine Bs ?_;refine Ah ?_;refine Aa ?_;refine Round.next (k+1) ⟨by omega,by rw [he,if_neg (by omega),if_neg (by omega)]⟩ (by omega) (A6 rfl ⟨rfl,rfl,rfl,Y⟩ trivial)
 try simp at hlt
 rw [cmpL_end (by omega) (by omega) (by omega)] at he
 refine Bt (Ae (Ae (Ar (Av [0,1,5] []) ?_)));refine Ad (Ab ?_);refine Bu (.t) Tryz.underlying34 ?_;refine Ab ?_;refine Bu (.t) Tryz.underlying34 ?_;refine AWl.lt ?_;refine Aa (Al (.tm U) (fun h40=>?_) (fun h40=>?_))
 · try simp at h40
   refine Af (Aj ?_);refine Aa (Ap (By U U ?_))
   rw [he];grind
 try simp at h40
 refine Am (Ae (Af (Ab ?_)));refine Bu (.t) Tryz.underlying34 ?_;refine Ab ?_;refine Bu (.t) Tryz.underlying34 ?_;refine Ac (R_gt U (.no U) U (.tm U) (.tm U)) U ?_;refine Aa (Al (.tm U) (fun h45=>?_) (fun h45=>?_))
 · try simp at h45
   refine Ae (Ar (Av [0,1,5] []) ?_);refine Ad (Aj ?_);refine Aa (Ap (By U U ?_))
   rw [he];grind
 try simp at h45
 refine Am (Ae (Ar (Av [0,1,5] []) ?_));refine Ad (Aj ?_);refine Aa (Ap (By U U ?_))
 rw [he];grind
end Go.Proofs.YtdhojcaoljhbiaaGreatDoor
set_option maxHeartbeats 1000000
set_option maxRecDepth 100000
namespace Go.Q
open Go.D
def negs (out:List Int):Nat:=(out.filter fun x=>decide (x<0)).length
theorem negs_cons (x:Int) (l:List Int):negs (x::l)=(if x<0 then 1 else 0)+negs l:=by
 unfold negs
 rw [List.filter_cons]
 split<;>simp_all<;>omega
theorem negs_set {v:Int} (hv:0≤v):∀ {out:List Int} {k:Nat} {x:Int},out[k]?=some x→x<0→negs (out.set k v)+1=negs out
 | [],_,_,h,_=>by simp at h
 | y::l,0,x,h,hx=>by
  simp at h
  subst h
  rw [List.set_cons_zero,negs_cons,negs_cons,if_neg (by omega),if_pos hx]
  omega
 | y::l,k+1,x,h,hx=>by
  rw [List.set_cons_succ,negs_cons,negs_cons]
  have:=negs_set hv (out:=l) (k:=k) (by simpa using h) hx
  omega
theorem negs_le (out:List Int):negs out≤out.length:=List.length_filter_le _ _
def atI (out:List Int) (k:Int):Int:=out[k.toNat]?.getD 0
theorem atI_get {out:List Int} {k:Int} (h:k.toNat<out.length):out[k.toNat]?=some (atI out k):=by
 unfold atI;rw [List.getElem?_eq_getElem h];rfl
def rlx (q:Int) (st:List Int×List Int) (k:Int):List Int×List Int:=if atI st.1 k<0 then (st.1.set k.toNat (atI st.1 q+1),st.2++[k]) else st
def relax (q:Int) (l:List Int) (st:List Int×List Int):List Int×List Int:=l.foldl (rlx q) st
def bfs (nx:Nat→List Int):Nat→List Int→List Int→List Int
 | 0,out,_=>out
 | _+1,out,[]=>out
 | f+1,out,q::r=>bfs nx f (relax q (nx q.toNat) (out,r)).1 (relax q (nx q.toNat) (out,r)).2
structure BfsI (N:Nat) (out qu:List Int):Prop where
 len:out.length=N
 mem:∀ q∈qu,0≤q∧q<N
 val:∀ v∈out,-1≤v∧v+negs out≤N
theorem BfsI.rlx {N:Nat} {out qu:List Int} {q k:Int} (h:BfsI N out qu) (hq:0≤q∧q<N) (hk:0≤k∧k<N):BfsI N (rlx q (out,qu) k).1 (rlx q (out,qu) k).2∧negs (Go.Q.rlx q (out,qu) k).1+(Go.Q.rlx q (out,qu) k).2.length=negs out+qu.length∧negs (Go.Q.rlx q (out,qu) k).1≤negs out:=by
 unfold Go.Q.rlx
 dsimp only
 split
 · rename_i hneg
   have hkl:k.toNat<out.length:=by rw [h.len];omega
   have hql:q.toNat<out.length:=by rw [h.len];omega
   have hvq:=h.val _ (List.mem_of_getElem? (atI_get hql))
   have hn:=negs_set (v:=atI out q+1) (by omega) (atI_get hkl) hneg
   refine⟨⟨by simpa using h.len,fun x hx=>?_,fun v hv=>?_⟩,?_,?_⟩
   · rcases List.mem_append.1 hx with hx|hx
     · exact h.mem x hx
     rw [List.mem_singleton] at hx;subst hx;exact hk
   · show -1≤v∧v+(negs (out.set k.toNat (atI out q+1)):Int)≤N
     rcases List.mem_or_eq_of_mem_set hv with hv|rfl
     · have:=h.val v hv;omega
     omega
   · show negs (out.set k.toNat (atI out q+1))+(qu++[k]).length=_
     simp;omega
   show negs (out.set k.toNat (atI out q+1))≤_
   omega
 exact⟨h,rfl,Nat.le_refl _⟩
theorem BfsI.relax {N:Nat} {q:Int} (hq:0≤q∧q<N):∀ {l:List Int} {st:List Int×List Int},BfsI N st.1 st.2→(∀ k∈l,0≤k∧k<N)→BfsI N (relax q l st).1 (relax q l st).2∧negs (Go.Q.relax q l st).1+(Go.Q.relax q l st).2.length=negs st.1+st.2.length∧negs (Go.Q.relax q l st).1≤negs st.1
 | [],st,h,_=>⟨h,rfl,Nat.le_refl _⟩
 | k::l,st,h,hl=>by
  have e:Go.Q.relax q (k::l) st=Go.Q.relax q l (Go.Q.rlx q st k):=rfl
  have h1:BfsI N (Go.Q.rlx q st k).1 (Go.Q.rlx q st k).2∧negs (Go.Q.rlx q st k).1+(Go.Q.rlx q st k).2.length=negs st.1+st.2.length∧negs (Go.Q.rlx q st k).1≤negs st.1:=h.rlx (k:=k) hq (hl k (by simp))
  obtain⟨h1,h2,h3⟩:=h1
  obtain⟨g1,g2,g3⟩:=BfsI.relax hq (l:=l) h1 fun k hk=>hl k (by simp [hk])
  rw [e]
  exact⟨g1,by omega,by omega⟩
theorem BfsI.tail {N:Nat} {out qu:List Int} {q:Int} (h:BfsI N out (q::qu)):BfsI N out qu:=⟨h.len,fun x hx=>h.mem x (by simp [hx]),h.val⟩
def zeroAll (from_:List Int) (out:List Int):List Int:=from_.foldl (fun out i=>out.set i.toNat 0) out
def spreadOf (nx:Nat→List Int) (N:Nat) (from_:List Int):List Int:=bfs nx (2*N+from_.length+1) (zeroAll from_ (List.replicate N (-1))) from_
theorem zeroAll_len:∀ (l out:List Int),(zeroAll l out).length=out.length
 | [],_=>rfl
 | k::l,out=>(zeroAll_len l _).trans (by simp)
theorem bfs_nil {nx:Nat→List Int} {f:Nat} {out:List Int} (h:0<f):bfs nx f out []=out:=by
 match f,h with
 | f+1,_=>rfl
theorem rlx_pre (q:Int) (out pre r:List Int) (k:Int):rlx q (out,pre++r) k=((rlx q (out,r) k).1,pre++(rlx q (out,r) k).2):=by
 unfold rlx;dsimp only
 split<;>simp
theorem relax_pre (q:Int):∀ (l out pre r:List Int),relax q l (out,pre++r)=((relax q l (out,r)).1,pre++(relax q l (out,r)).2)
 | [],_,_,_=>rfl
 | k::l,out,pre,r=>by
  have e:∀ st,relax q (k::l) st=relax q l (rlx q st k):=fun _=>rfl
  rw [e,e,rlx_pre,relax_pre q l]
def BfsAt (nx:Nat→List Int) (res out qu:List Int) (i:Nat):Prop:=∃ f,negs out+(qu.length-i)<f∧bfs nx f out (qu.drop i)=res
theorem BfsAt.next {nx:Nat→List Int} {N:Nat} {res out qu:List Int} {i:Nat} {q:Int} (h:BfsAt nx res out qu i) (hI:BfsI N out qu) (hq:qu[i]?=some q) (hn:∀ k∈nx q.toNat,0≤k∧k<N):BfsAt nx res (relax q (nx q.toNat) (out,qu)).1 (relax q (nx q.toNat) (out,qu)).2 (i+1):=by
 obtain⟨f,hf,e⟩:=h
 have hil:=(List.getElem?_eq_some_iff.1 hq).1
 have hd:qu.drop i=q::qu.drop (i+1):=by
  rw [List.drop_eq_getElem_cons hil,(List.getElem?_eq_some_iff.1 hq).2]
 obtain⟨f',rfl⟩:∃ f',f=f'+1:=⟨f-1,by omega⟩
 rw [hd,bfs] at e
 have hr:=BfsI.relax (N:=N) (hI.mem q (List.mem_of_getElem? hq)) (l:=nx q.toNat) (st:=(out,qu)) hI hn
 have e2:qu=qu.take (i+1)++qu.drop (i+1):=(List.take_append_drop _ _).symm
 have e3:=relax_pre q (nx q.toNat) out (qu.take (i+1)) (qu.drop (i+1))
 rw [←e2] at e3
 refine⟨f',?_,?_⟩
 · have h1:=hr.2.1
   have h2:i+1≤(relax q (nx q.toNat) (out,qu)).2.length:=by rw [e3];simp;omega
   dsimp only at h1
   omega
 rw [e3]
 dsimp only
 rw [List.drop_left' (by rw [List.length_take];omega)]
 exact e
theorem BfsAt.done {nx:Nat→List Int} {res out qu:List Int} {i:Nat} (h:BfsAt nx res out qu i) (hi:qu.length≤i):out=res:=by
 obtain⟨f,hf,e⟩:=h
 rw [List.drop_eq_nil_of_le hi,bfs_nil (by omega)] at e
 exact e
theorem BfsAt.start {nx:Nat→List Int} {N:Nat} {l:List Int}:BfsAt nx (spreadOf nx N l) (zeroAll l (List.replicate N (-1))) l 0:=by
 refine⟨2*N+l.length+1,?_,rfl⟩
 have:=negs_le (zeroAll l (List.replicate N (-1)))
 rw [zeroAll_len] at this
 simp at this
 omega
end Go.Q
namespace Go.Proofs.YtdhojcaoljhbiaaGreatDoor
open Go.RowKit Go.Q Go.D
end Go.Proofs.YtdhojcaoljhbiaaGreatDoor
set_option maxHeartbeats 1000000
set_option maxRecDepth 100000
namespace Go.Q
open Go.D
end Go.Q
namespace Go.Proofs.YtdhojcaoljhbiaaGreatDoor
open Go.RowKit Go.Q Go.D
theorem implcopyInts (l:List Int) (hz:l.length≤1073741824):FnT Tryz.prog 53 [.one (.sl 1 (l.map cInt))] (.a (.one (.sl 1 (l.map cInt)))):=by
 refine Bb Tryz.func53 U (by kernel_rfl) Tryz.ntmps53 U fun hlen w0=>?_
 try simp [cEdge,cGraph] at hlen
 refine Af (Aj ?_);refine AWl.nilS (i:=2) 20001 1 U U ?_;refine Aa (Af (Au (Df 3 U U U Tryz.underlying34 ty3 U) U ?_));refine Ab ?_;refine Ce (Cc U U U (.tm U) U (.tm U) (by exact .t) (by exact isV_map (fun _=>rfl) _) Tryz.underlying34 in3 U (by (simp [chunk];omega)) (by (unfold maxLen;simp [chunk];omega))) U ?_;refine Bf (Av [0,2,5] [20001,3]) ?_;refine Ah ?_;refine Aa (Ap (Res.one U (.tmp U .nil) U ?_))
 rfl
end Go.Proofs.YtdhojcaoljhbiaaGreatDoor
set_option maxHeartbeats 1000000
set_option maxRecDepth 100000
namespace Go.Q
open Go.D
end Go.Q
namespace Go.Proofs.YtdhojcaoljhbiaaGreatDoor
open Go.RowKit Go.Q Go.D
end Go.Proofs.YtdhojcaoljhbiaaGreatDoor
set_option maxHeartbeats 1000000
set_option maxRecDepth 100000
namespace Go.Q
open Go.D
def sup1 (R:List Int) (i:Nat) (S:List Int) (k:Int):List Int:=if 0≤atI R i∧atI R k=atI R i+1 then S.set k.toNat (atI S k+1) else S
def supRow (R:List Int) (i:Nat) (S:List Int) (l:List Int):List Int:=l.foldl (sup1 R i) S
def supAll (nx:Nat→List Int) (R:List Int) (S:List Int):Nat→List Int
 | 0=>S
 | n+1=>supRow R n (supAll nx R S n) (nx n)
structure SupI (N:Nat) (b:Int) (S:List Int):Prop where
 len:S.length=N
 val:∀ v∈S,0≤v∧v≤b
theorem SupI.le {N:Nat} {b b':Int} {S:List Int} (h:SupI N b S) (hb:b≤b'):SupI N b' S:=⟨h.len,fun v hv=>by have:=h.val v hv;omega⟩
theorem SupI.at {N:Nat} {b:Int} {S:List Int} (h:SupI N b S) {k:Int} (hk:k.toNat<N):0≤atI S k∧atI S k≤b:=h.val _ (List.mem_of_getElem? (atI_get (by rw [h.len];exact hk)))
theorem SupI.one {N:Nat} {b:Int} {R S:List Int} {i:Nat} {k:Int} (h:SupI N b S) (hk:0≤k∧k<N):SupI N (b+1) (sup1 R i S k):=by
 unfold sup1
 split
 · refine⟨by simpa using h.len,fun v hv=>?_⟩
   rcases List.mem_or_eq_of_mem_set hv with hv|rfl
   · have:=h.val v hv;omega
   have:=h.at (k:=k) (by omega);omega
 exact h.le (by omega)
theorem SupI.row {N:Nat} {R:List Int} {i:Nat}:∀ {l:List Int} {b:Int} {S:List Int},SupI N b S→(∀ k∈l,0≤k∧k<N)→SupI N (b+l.length) (supRow R i S l)
 | [],b,S,h,_=>by simpa [supRow] using h
 | k::l,b,S,h,hl=>by
  have e:supRow R i S (k::l)=supRow R i (sup1 R i S k) l:=rfl
  rw [e]
  exact (SupI.row (h.one (hl k (by simp))) fun k hk=>hl k (by simp [hk])).le (by simp;omega)
theorem SupI.all {nx:Nat→List Int} {N c:Nat} {R:List Int} (hn:∀ p,p<N→∀ k∈nx p,0≤k∧k<N) (hc:∀ p,p<N→(nx p).length≤c):∀ {n:Nat},n≤N→SupI N ((n*c:Nat):Int) (supAll nx R (List.replicate N 0) n)
 | 0,_=>⟨by simp [supAll],fun v hv=>by rw [(List.mem_replicate.1 hv).2];simp⟩
 | n+1,h=>by
  rw [supAll,Nat.succ_mul]
  refine (SupI.row (SupI.all hn hc (n:=n) (by omega)) (hn n (by omega))).le ?_
  have:=hc n (by omega)
  omega
end Go.Q
namespace Go.Proofs.YtdhojcaoljhbiaaGreatDoor
open Go.RowKit Go.Q Go.D
end Go.Proofs.YtdhojcaoljhbiaaGreatDoor
set_option maxHeartbeats 1000000
set_option maxRecDepth 100000
namespace Go.Q
open Go.D
end Go.Q
namespace Go.Proofs.YtdhojcaoljhbiaaGreatDoor
open Go.RowKit Go.Q Go.D
end Go.Proofs.YtdhojcaoljhbiaaGreatDoor
set_option maxHeartbeats 1000000
set_option maxRecDepth 100000
namespace Go.Q
open Go.D
theorem del_rows {α:Type} {c:α→List T} {l:List α} {i m:Nat} {Z:List (List T)} (hi:i<l.length) (hm:m=i+(((l.map c).take (l.map c).length).drop (i+1)).length) :
 (((l.map c).take i++((l.map c).take (l.map c).length).drop (i+1)++(l.map c).drop (i+(((l.map c).take (l.map c).length).drop (i+1)).length)).take m++Z).take m=(l.take i++l.drop (i+1)).map c:=by
 have hX:((l.map c).take i++((l.map c).take (l.map c).length).drop (i+1)).length=m:=by rw [hm];simp;omega
 have h1:∀ (X B:List (List T)),X.length=m→(X++B).take m=X:=fun X B h=>by rw [List.take_append_of_le_length (by omega),List.take_of_length_le (by omega)]
 rw [h1 _ _ hX,h1 _ _ hX]
 rw [List.take_length,List.map_append,List.map_take,List.map_drop]
theorem rise_all {l:List TEdge} (h:∀ k x y,l[k]?=some x→l[k+1]?=some y→x.ID<y.ID):∀ (d k:Nat) (x y:TEdge),l[k]?=some x→l[k+d+1]?=some y→x.ID<y.ID
 | 0,k,x,y,hx,hy=>h k x y hx hy
 | d+1,k,x,y,hx,hy=>by
  have hl:=(List.getElem?_eq_some_iff.1 hy).1
  have hz:l[k+d+1]?=some (l[k+d+1]'(by omega)):=List.getElem?_eq_getElem _
  have h1:=rise_all h d k x _ hx hz
  have h2:=h (k+d+1) _ y hz (by rw [show k+d+1+1=k+(d+1)+1 by omega];exact hy)
  omega
theorem del_get {α:Type} {l:List α} {i k:Nat} (hi:i<l.length):(l.take i++l.drop (i+1))[k]?=if k<i then l[k]? else l[k+1]?:=by
 by_cases h:k<i
 · rw [if_pos h,List.getElem?_append_left (by rw [List.length_take];omega),List.getElem?_take,if_pos h]
 rw [if_neg h,List.getElem?_append_right (by rw [List.length_take];omega),List.getElem?_drop,List.length_take]
 congr 1;omega
def delG (g:TGraph) (id:Int):TGraph×Bool:=if validG g&&decide (0≤edgeIndex g id) then (⟨g.Values,g.Edges.take (edgeIndex g id).toNat++g.Edges.drop ((edgeIndex g id).toNat+1)⟩,true) else (g,false)
theorem validG_rise {g:TGraph} (hg:validG g=true):∀ k x y,g.Edges[k]?=some x→g.Edges[k+1]?=some y→x.ID<y.ID:=by
 intro k x y hx hy
 unfold validG at hg
 simp only [Bool.and_eq_true] at hg
 have hl:=(List.getElem?_eq_some_iff.1 hy).1
 have:=List.all_eq_true.1 hg.1.2 (k+1) (List.mem_range.2 hl)
 unfold edgeAt at this
 rw [hy] at this
 simp only [Nat.add_sub_cancel,hx,Option.getD_some,Bool.and_eq_true,Bool.not_eq_true',Bool.and_eq_false_iff,decide_eq_false_iff_not] at this
 rcases this.2 with h|h<;>omega
theorem delG_valid {g:TGraph} {id:Int} (h:(delG g id).2=true):validG (delG g id).1=true∧(delG g id).1.Values=g.Values∧validG g=true:=by
 unfold delG at *
 split at h
 · rename_i hc
   rw [if_pos hc]
   simp only [Bool.and_eq_true,decide_eq_true_eq] at hc
   obtain⟨hg,h0⟩:=hc
   refine⟨?_,rfl,hg⟩
   obtain⟨i,xi,hi,hix⟩:=edgeIndex_get h0
   rw [hix,Int.toNat_natCast]
   have hil:=(List.getElem?_eq_some_iff.1 hi).1
   have hri:=rise_all (validG_rise hg)
   have hg':=hg
   unfold validG at hg' ⊢
   simp only [Bool.and_eq_true,decide_eq_true_eq] at hg' ⊢
   refine⟨⟨hg'.1.1,List.all_eq_true.2 fun k hk=>?_⟩,hg'.2.1,?_⟩
   · have hk:=List.mem_range.1 hk
     rw [List.length_append,List.length_take,List.length_drop] at hk
     unfold edgeAt
     rw [del_get hil]
     have hlook:∀ q y,g.Edges[q]?=some y→edgeOk y (g.Values.length:Int)=true:=fun q y hy=>by
      have:=List.all_eq_true.1 hg'.1.2 q (List.mem_range.2 (List.getElem?_eq_some_iff.1 hy).1)
      unfold edgeAt at this
      rw [hy] at this
      simp only [Bool.and_eq_true] at this
      exact this.1
     by_cases hki:k<i
     · rw [if_pos hki]
       have hy:g.Edges[k]?=some (g.Edges[k]'(by omega)):=List.getElem?_eq_getElem _
       rw [hy]
       simp only [Bool.and_eq_true,Bool.not_eq_true',Bool.and_eq_false_iff,decide_eq_false_iff_not]
       refine⟨hlook k _ hy,?_⟩
       by_cases hk0:k=0
       · exact .inl (by omega)
       refine .inr ?_
       have hx:g.Edges[k-1]?=some (g.Edges[k-1]'(by omega)):=List.getElem?_eq_getElem _
       rw [del_get hil,if_pos (by omega),hx,Option.getD_some]
       have:=hri 0 (k-1) _ _ hx (by rw [show k-1+0+1=k by omega];exact hy)
       omega
     rw [if_neg hki]
     have hy:g.Edges[k+1]?=some (g.Edges[k+1]'(by omega)):=List.getElem?_eq_getElem _
     rw [hy]
     simp only [Bool.and_eq_true,Bool.not_eq_true',Bool.and_eq_false_iff,decide_eq_false_iff_not]
     refine⟨hlook (k+1) _ hy,?_⟩
     by_cases hk0:k=0
     · exact .inl (by omega)
     refine .inr ?_
     rw [del_get hil]
     by_cases hk1:k-1<i
     · have hx:g.Edges[k-1]?=some (g.Edges[k-1]'(by omega)):=List.getElem?_eq_getElem _
       rw [if_pos hk1,hx,Option.getD_some]
       have:=hri 1 (k-1) _ _ hx (by rw [show k-1+1+1=k+1 by omega];exact hy)
       omega
     have hx:g.Edges[k-1+1]?=some (g.Edges[k-1+1]'(by omega)):=List.getElem?_eq_getElem _
     rw [if_neg hk1,hx,Option.getD_some]
     have:=hri 0 (k-1+1) _ _ hx (by rw [show k-1+1+0+1=k+1 by omega];exact hy)
     omega
   have:=hg'.2.2
   rw [List.length_append,List.length_take,List.length_drop];omega
 cases h
end Go.Q
namespace Go.Proofs.YtdhojcaoljhbiaaGreatDoor
open Go.RowKit Go.Q Go.D
theorem DeleteEdge1 (l:List TEdge) (i:Nat) (hi:i<l.length) (hz:l.length≤1099511627776):FnC Tryz.prog 175 [(true,.one (.sl 4 (l.map cEdge))),(false,.one (.v (.int .i64 i))),(false,.one (.v (.int .i64 ((i+1:Nat):Int))))] (.a (.one (.sl 4 ((l.take i++l.drop (i+1)).map cEdge)))):=by
 refine FnC.walk Tryz.func175 rfl (by kernel_rfl) Tryz.ntmps175 rfl (by rfl) fun w0=>?_
 refine Ar (Av [0,1,2] [1000]) ?_
 try simp [cEdge,cGraph] at hlen
 refine Af (Aj ?_);refine AWl.nilS (i:=6) 20001 4 U U ?_;refine Aa (Af (Ab ?_));refine Ab ?_;refine Ab ?_;refine Ab ?_;refine Bu (.rf U) Tryz.underlying35 ?_;refine Ac (R_slice3 (n:=i) (m:=i+1) (r:=l.length) U (.no U) U (.tm U) U (.tm U) (.tm U) (.tm U) Tryz.underlying35 Ba (fun _=>by refine⟨?_,?_,?_⟩<;>first|omega|(simp<;>omega))) U ?_;refine Aa (Ae (Ae (Ar (Av [0,1,2,6] [1000,20001]) ?_)));refine Ad (Ab ?_);refine Ab ?_;refine AWl.eq ?_;refine Aa (Al (.tm U) (fun h16=>?_) (fun h16=>?_))
 · exact absurd h16 (by (simp;omega))
 try simp at h16
 refine Am (Af (Ab ?_));refine Bu (.rf U) Tryz.underlying35 ?_;refine Ah ?_;refine Aa (Ae (AW.dagn 8 26 [[],[0],[1],[3],[4],[0,1],[0,3],[0,4],[1,3],[1,4],[3,4],[0,1,2],[0,1,3],[0,1,4],[0,3,4],[1,3,4],[3,4,5],[0,1,2,3],[0,1,2,4],[0,1,3,4],[0,3,4,5],[1,3,4,5],[0,1,2,3,4],[0,1,3,4,5],[0,1,2,3,4,5],[0,1,2,3,4,5,6],[0,1,2,3,4,5,6,7]] [(0,0,1),(0,1,2),(0,3,3),(0,4,4),(1,1,5),(2,0,5),(1,3,6),(3,0,6),(1,4,7),(4,0,7),(2,3,8),(3,1,8),(2,4,9),(4,1,9),(3,4,10),(4,3,10),(5,2,11),(5,3,12),(8,0,12),(6,1,12),(5,4,13),(9,0,13),(7,1,13),(6,4,14),(10,0,14),(7,3,14),(8,4,15),(10,1,15),(9,3,15),(10,5,16),(11,3,17),(12,2,17),(11,4,18),(13,2,18),(12,4,19),(15,0,19),(14,1,19),(13,3,19),(14,5,20),(16,0,20),(15,5,21),(16,1,21),(17,4,22),(19,2,22),(18,3,22),(19,5,23),(21,0,23),(20,1,23),(22,5,24),(23,2,24),(24,6,25),(25,7,26)] (by kernel_rfl) (by kernel_rfl) (by kernel_rfl) ?_));apply Aq (i:=0)
 case ha|ho|hb=>rfl
 case hE=>
  intro w9;refine Ab ?_;exact Ak [0,1,2,6,7,16,20] [1000,20001]
 apply Aq (i:=1);rfl;rfl;rfl
 · intro w9;refine Ab ?_;exact Ak [0,1,2,6,7,16,21] [1000,20001]
 apply Aq (i:=3);rfl;rfl;rfl
 · intro w9;refine Ab ?_;exact Ak [0,1,2,6,7,16,23] [1000,20001]
 apply Aq (i:=4);rfl;rfl;rfl
 · intro w9;refine Ab ?_;exact Ak [0,1,2,6,7,16,24] [1000,20001]
 apply Aq (i:=1);rfl;rfl;rfl
 · intro w9;refine Ab ?_;exact Ak [0,1,2,6,7,16,20,21] [1000,20001]
 apply Ax (i:=0);rfl;rfl;rfl
 · intro w9;refine Ab ?_;exact Aa Ay
 apply Aq (i:=3);rfl;rfl;rfl
 · intro w9;refine Ab ?_;exact Ak [0,1,2,6,7,16,20,23] [1000,20001]
 apply Ax (i:=0);rfl;rfl;rfl
 · intro w9;refine Ab ?_;exact Aa Ay
 apply Aq (i:=4);rfl;rfl;rfl
 · intro w9;refine Ab ?_;exact Ak [0,1,2,6,7,16,20,24] [1000,20001]
 apply Ax (i:=0);rfl;rfl;rfl
 · intro w9;refine Ab ?_;exact Aa Ay
 apply Aq (i:=3);rfl;rfl;rfl
 · intro w9;refine Ab ?_;exact Ak [0,1,2,6,7,16,21,23] [1000,20001]
 apply Ax (i:=1);rfl;rfl;rfl
 · intro w9;refine Ab ?_;exact Aa Ay
 apply Aq (i:=4);rfl;rfl;rfl
 · intro w9;refine Ab ?_;exact Ak [0,1,2,6,7,16,21,24] [1000,20001]
 apply Ax (i:=1);rfl;rfl;rfl
 · intro w9;refine Ab ?_;exact Aa Ay
 apply Aq (i:=4);rfl;rfl;rfl
 · intro w9;refine Ab ?_;exact Ak [0,1,2,6,7,16,23,24] [1000,20001]
 apply Ax (i:=3);rfl;rfl;rfl
 · intro w9;refine Ab ?_;exact Aa Ay
 apply Aq (i:=2);rfl;rfl;rfl
 · intro w9;refine Ac (R_slice_pf (m:=i) U (.no U) U (.tm U) U (.yes (.tm U) (fun _=>by first|rfl|omega|(simp<;>omega))) Tryz.underlying35 Ba (fun _=>by first|omega|(simp<;>omega))) U ?_;exact Ak [0,1,2,6,7,16,22] [1000,20001]
 apply Aq (i:=3);rfl;rfl;rfl
 · intro w9;refine Ab ?_;exact Ak [0,1,2,6,7,16,20,21,23] [1000,20001]
 apply Ax (i:=0);rfl;rfl;rfl
 · intro w9;refine Ab ?_;exact Aa Ay
 apply Ax (i:=1);rfl;rfl;rfl
 · intro w9;refine Ab ?_;exact Aa Ay
 apply Aq (i:=4);rfl;rfl;rfl
 · intro w9;refine Ab ?_;exact Ak [0,1,2,6,7,16,20,21,24] [1000,20001]
 apply Ax (i:=0);rfl;rfl;rfl
 · intro w9;refine Ab ?_;exact Aa Ay
 apply Ax (i:=1);rfl;rfl;rfl
 · intro w9;refine Ab ?_;exact Aa Ay
 apply Aq (i:=4);rfl;rfl;rfl
 · intro w9;refine Ab ?_;exact Ak [0,1,2,6,7,16,20,23,24] [1000,20001]
 apply Ax (i:=0);rfl;rfl;rfl
 · intro w9;refine Ab ?_;exact Aa Ay
 apply Ax (i:=3);rfl;rfl;rfl
 · intro w9;refine Ab ?_;exact Aa Ay
 apply Aq (i:=4);rfl;rfl;rfl
 · intro w9;refine Ab ?_;exact Ak [0,1,2,6,7,16,21,23,24] [1000,20001]
 apply Ax (i:=1);rfl;rfl;rfl
 · intro w9;refine Ab ?_;exact Aa Ay
 apply Ax (i:=3);rfl;rfl;rfl
 · intro w9;refine Ab ?_;exact Aa Ay
 apply Aq (i:=5);rfl;rfl;rfl
 · intro w9;refine Ac (Dd (n:=(i+1)) U (.no U) U (.tm U) U (.yes (.tm U) (fun _=>by first|rfl|omega|(simp<;>omega))) .no Tryz.underlying35 Ba (fun _=>⟨by simp;omega,by simp⟩)) U ?_;exact Ak [0,1,2,6,7,16,25] [1000,20001]
 apply Aq (i:=3);rfl;rfl;rfl
 · intro w9;refine Ab ?_;exact Ak [0,1,2,6,7,16,22,23] [1000,20001]
 apply Ax (i:=2);rfl;rfl;rfl
 · intro w9;refine Ac (R_slice_pf (m:=i) U (.no U) U (.tm U) U (.yes (.tm U) (fun _=>by first|rfl|omega|(simp<;>omega))) Tryz.underlying35 Ba (fun _=>by first|omega|(simp<;>omega))) U ?_;exact Aa Ay
 apply Aq (i:=4);rfl;rfl;rfl
 · intro w9;refine Ab ?_;exact Ak [0,1,2,6,7,16,22,24] [1000,20001]
 apply Ax (i:=2);rfl;rfl;rfl
 · intro w9;refine Ac (R_slice_pf (m:=i) U (.no U) U (.tm U) U (.yes (.tm U) (fun _=>by first|rfl|omega|(simp<;>omega))) Tryz.underlying35 Ba (fun _=>by first|omega|(simp<;>omega))) U ?_;exact Aa Ay
 apply Aq (i:=4);rfl;rfl;rfl
 · intro w9;refine Ab ?_;exact Ak [0,1,2,6,7,16,20,21,23,24] [1000,20001]
 apply Ax (i:=0);rfl;rfl;rfl
 · intro w9;refine Ab ?_;exact Aa Ay
 apply Ax (i:=1);rfl;rfl;rfl
 · intro w9;refine Ab ?_;exact Aa Ay
 apply Ax (i:=3);rfl;rfl;rfl
 · intro w9;refine Ab ?_;exact Aa Ay
 apply Aq (i:=5);rfl;rfl;rfl
 · intro w9;refine Ac (Dd (n:=(i+1)) U (.no U) U (.tm U) U (.yes (.tm U) (fun _=>by first|rfl|omega|(simp<;>omega))) .no Tryz.underlying35 Ba (fun _=>⟨by simp;omega,by simp⟩)) U ?_;exact Ak [0,1,2,6,7,16,20,25] [1000,20001]
 apply Ax (i:=0);rfl;rfl;rfl
 · intro w9;refine Ab ?_;exact Aa Ay
 apply Aq (i:=5);rfl;rfl;rfl
 · intro w9;refine Ac (Dd (n:=(i+1)) U (.no U) U (.tm U) U (.yes (.tm U) (fun _=>by first|rfl|omega|(simp<;>omega))) .no Tryz.underlying35 Ba (fun _=>⟨by simp;omega,by simp⟩)) U ?_;exact Ak [0,1,2,6,7,16,21,25] [1000,20001]
 apply Ax (i:=1);rfl;rfl;rfl
 · intro w9;refine Ab ?_;exact Aa Ay
 apply Aq (i:=4);rfl;rfl;rfl
 · intro w9;refine Ab ?_;exact Ak [0,1,2,6,7,16,22,23,24] [1000,20001]
 apply Ax (i:=2);rfl;rfl;rfl
 · intro w9;refine Ac (R_slice_pf (m:=i) U (.no U) U (.tm U) U (.yes (.tm U) (fun _=>by first|rfl|omega|(simp<;>omega))) Tryz.underlying35 Ba (fun _=>by first|omega|(simp<;>omega))) U ?_;exact Aa Ay
 apply Ax (i:=3);rfl;rfl;rfl
 · intro w9;refine Ab ?_;exact Aa Ay
 apply Aq (i:=5);rfl;rfl;rfl
 · intro w9;refine Ac (Dd (n:=(i+1)) U (.no U) U (.tm U) U (.yes (.tm U) (fun _=>by first|rfl|omega|(simp<;>omega))) .no Tryz.underlying35 Ba (fun _=>⟨by simp;omega,by simp⟩)) U ?_;exact Ak [0,1,2,6,7,16,20,21,25] [1000,20001]
 apply Ax (i:=0);rfl;rfl;rfl
 · intro w9;refine Ab ?_;exact Aa Ay
 apply Ax (i:=1);rfl;rfl;rfl
 · intro w9;refine Ab ?_;exact Aa Ay
 apply Aq (i:=5);rfl;rfl;rfl
 · intro w9;refine Ac (Dd (n:=(i+1)) U (.no U) U (.tm U) U (.yes (.tm U) (fun _=>by first|rfl|omega|(simp<;>omega))) .no Tryz.underlying35 Ba (fun _=>⟨by simp;omega,by simp⟩)) U ?_;exact Ak [0,1,2,6,7,16,22,25] [1000,20001]
 apply Ax (i:=2);rfl;rfl;rfl
 · intro w9;refine Ac (R_slice_pf (m:=i) U (.no U) U (.tm U) U (.yes (.tm U) (fun _=>by first|rfl|omega|(simp<;>omega))) Tryz.underlying35 Ba (fun _=>by first|omega|(simp<;>omega))) U ?_;exact Aa Ay
 apply Aq (i:=6);rfl;rfl;rfl
 · intro w9;refine AWl.updput (R_append_pf U U U (.tm U) U (.tm U) (by exact .vw) (by exact isV_map (fun _=>rfl) _) (by exact isV_part (fun _=>rfl) _ _ _) Tryz.underlying35 C0 (by simp<;>omega)) U ?_;exact Ak [0,1,2,6,7,16,26] [1000,20001]
 apply Aq (i:=7);rfl;rfl;rfl
 · intro w9;refine Ah ?_;exact Ak [0,1,2,6,7,16] [1000,20001]
 refine Dag.fin (k:=26) U ?_;refine Aa (Af (Ab ?_));refine Ab ?_;refine Ac (R_len_pf U (.no U) U (.tm U) Tryz.underlying35) U ?_;refine Ab ?_;refine Ac (R_slice_pftl U (.no U) U (.tm U) U (.yes (.tm U) (fun _=>by first|rfl|omega|(simp<;>omega))) (.yes (.tm U) (fun _=>by first|rfl|omega|(simp<;>omega))) Tryz.underlying35 Ba (fun _=>⟨by first|rfl|omega|(simp<;>omega),by first|rfl|omega|(simp<;>omega)⟩)) U ?_;refine AWl.absupd (R_clear U U U (.tm U) U Tryz.underlying35 C0 U U) ?_;refine Aa (Ae (Ar (Av [0,1,2,6,7] [1000,20001]) ?_));refine Ad (Ab ?_);refine Bf (Le.closePf (d:=32) U U) ?_;refine Ah ?_;refine Aa (Ap (Res.one U (.tmp U .nil) U ?_));refine congrArg (fun r=>[V0.one (T.sl 4 r)]) ?_;exact del_rows hi rfl
theorem implcopyGraph (g:TGraph) (hz1:g.Values.length≤1073741824) (hz2:g.Edges.length≤1073741824):FnT Tryz.prog 82 [.agg (cGraph g)] (.a (.agg (cGraph g))):=by
 refine Bb Tryz.func82 U (by kernel_rfl) Tryz.ntmps82 U fun hlen w0=>?_
 try simp [cEdge,cGraph] at hlen
 refine Af (Ac (Bx U U U (.tm U) (ts:=_) (by rfl)) U ?_);refine Au (Az 2 U U U Cj U U U) U ?_;refine Aa (Ae (Ar (Av [0,1,2] [2]) ?_));refine AW.drawK 8 (nthB [[],[0],[0,1],[],[],[4],[0,1,2,3,4,5],[0,1,2,3,4,5,6]]) [(6,6)] (by kernel_rfl) (by kernel_rfl) (by kernel_rfl) ?_;refine DrawK.step (LocK.of U fun σ' hs=>(by exact Bc U (.no U) (Ag hs U) (hs.tm U) Cu)) ?_;refine DrawK.step (LocK.of U fun σ' hs=>(by exact Bl U (.no U) (Ag hs U) (hs.tm U) Dm U U)) ?_;refine DrawK.step (LocK.ofs1 U fun σ' hs hf=>Cb 500 (implcopyInts g.Values hz1) U U (Ag hs U) (.cons (hs.tm U) (readA_sup hs U) .nil) U (all_fresh hf)) ?_;refine DrawK.step (LocK.of1 U fun σ' hs hf=>Df 6 U U (Ag hs U) Tryz.underlying35 Ba hf) ?_;refine DrawK.step (LocK.of U fun σ' hs=>(by exact Bc U (.no U) (Ag hs U) (hs.tm U) Ca)) ?_;refine DrawK.step (LocK.of U fun σ' hs=>(by exact Bl U (.no U) (Ag hs U) (hs.tm U) C6 U U)) ?_
 refine DrawK.step (LocK.ofc U U fun σ' hs=>Cc (id:=6) U U (Ag hs U) (hs.tm U) (hs.res _ _ U) (hs.tm U) (by exact .t) (by exact isV_map (fun _=>rfl) _) Tryz.underlying35 C0 U (by (simp [chunk];omega)) (by (unfold maxLen;simp [chunk];omega))) ?_;refine DrawK.step (LocK.of U fun σ' hs=>Bw (ps:=[(0,.tmp 5),(1,.tmp 9)]) U U (Ag hs U) Cj U U st37 (.cons (hs.tm U) U U fp37_0 (.cons (hs.tm U) U U fp37_1 .nil)) U) ?_;refine DrawK.fin U U U ?_;refine Bf (Av [0,1,2,10] [2,500,6]) ?_;refine An A9 ?_;refine Aa (Ap (Res.one U (.cell U U A9 U U .nil) U ?_))
 rfl
theorem implDeleteEdge (g:TGraph) (id:Int) (hz1:g.Values.length≤1073741824) (hz2:g.Edges.length≤1073741824):FnT Tryz.prog 128 [.agg (cGraph g),.one (.v (.int .i64 id))] (.tup [.agg (cGraph (delG g id).1),.one (.v (.bool (delG g id).2))]):=by
 refine Bb Tryz.func128 U (by kernel_rfl) Tryz.ntmps128 U fun hlen w0=>?_
 try simp [cEdge,cGraph] at hlen
 refine Af (Ac (Bx U U U (.tm U) (ts:=_) (by rfl)) U ?_);refine Au (Az 4 U U U Cj U U U) U ?_;refine Aj ?_;refine Aa (Af (A3 A9 ?_));refine Bq (Cb 900 (implcopyGraph g hz1 hz2) U U U (.cons (.tm U) U .nil) U U) U ?_;refine Au (Az 6 U U U Cj U U U) U ?_;refine An A9 ?_;refine Aa (Af (A3 A9 ?_));refine Ab ?_;refine Br (implEdgeIndex g id) ?_;refine Ah ?_;refine Aa (Ae (Af (Ab ?_)));refine AWl.lc ?_;refine Ab ?_;refine Ac (Bl U (by exact .not1 U U U U) U (.tmp U (by exact fun _=>rfl)) A9 U U) U ?_;refine Ac (Bo (FnT.fr (implIsValidGraph g)) U (by exact .not1 U U U U) U (.cons (.tmp U (by simp)) U .nil)) U ?_;refine Ac (Dq U (by exact .not1 U U U U) U (.tmp U (by simp))) U ?_;refine Ac (R_or U (.no U) U (.tm U) (.tmp U (by simp))) U ?_;refine Aa (Al (.tm U) (fun h19=>?_) (fun h19=>?_))
 · try simp at h19
   have hc:(validG g&&decide (0≤edgeIndex g id))=false:=by (rcases h19 with h|h;(rw [decide_eq_false (by omega),Bool.and_false]);(rw [h];rfl))
   refine Ae (Ar (Av [0,1,2,4,5,6,7] [4,900,901,6]) ?_);refine Ad (Ai A9 ?_);refine An A9 ?_;refine Bf (Av [0,1,2,4,5,6,7] [4,900,901,6]) ?_;refine Aj ?_;refine Aa (Ap (Bg U (.cell U U A9 U U (.tmp U .nil)) U ?_ (by simp)))
   unfold delG;rw [hc];rfl
 try simp at h19
 have hc:(validG g&&decide (0≤edgeIndex g id))=true:=by (rw [h19.2,decide_eq_true (by omega)];rfl)
 obtain⟨i,xi,hgi,hix⟩:=edgeIndex_get (g:=g) (id:=id) (by omega)
 have hil:=(List.getElem?_eq_some_iff.1 hgi).1
 have hdel:FnC Tryz.prog 175 [(true,.one (.sl 4 (g.Edges.map cEdge))),(false,.one (.v (.int .i64 (edgeIndex g id)))),(false,.one (.v (.int .i64 (edgeIndex g id+1))))] (.a (.one (.sl 4 ((g.Edges.take (edgeIndex g id).toNat++g.Edges.drop ((edgeIndex g id).toNat+1)).map cEdge)))):=by (rw [hix,Int.toNat_natCast];exact DeleteEdge1 g.Edges i hil (by omega))
 refine Am (Ae (Ar (Av [0,1,2,4,5,6,7] [4,900,901,6]) ?_));refine Ad (A8 Ca ?_);refine Ai C6 ?_;refine Ab ?_;refine Ab ?_;refine Bs ?_;apply AWl.consume
 case ho=>
  apply R_consume (xo:=.tmp 22) 2600 (hdel) rfl rfl rfl (.tm rfl)
  case ha=>rfl
  case hargs=>exact (ArgC.own (ArgRd.one (.tm rfl) (ArgRd.one (.tm rfl) .nil)))
  all_goals rfl
 case hd=>rfl
 refine A8 Ca ?_;refine An C6 ?_;refine Aa (Ae (Ar (Av [0,1,2,4,5,6,7] [4,900,6,2600]) ?_));refine Ad (Ai A9 ?_);refine An A9 ?_;refine Bf (Av [0,1,2,4,5,6,7] [4,900,6,2600]) ?_;refine Aj ?_;refine Aa (Ap (Bg U (.cell U U A9 U U (.tmp U .nil)) U ?_ (by simp)))
 unfold delG;rw [hc];rfl
theorem specl3Copy (g:TGraph) (hz1:g.Values.length≤1073741824) (hz2:g.Edges.length≤1073741824):FnT Tryz.prog 78 [.agg (cGraph g)] (.a (.agg (cGraph g))):=by
 refine Bb Tryz.func78 U (by kernel_rfl) Tryz.ntmps78 U fun hlen w0=>?_
 try simp [cEdge,cGraph] at hlen
 refine Af (Ac (Bx U U U (.tm U) (ts:=_) (by rfl)) U ?_);refine Au (Az 2 U U U Cj U U U) U ?_;refine Aa (Ae (Ar (Av [0,1,2] [2]) ?_));refine AW.drawK 9 (nthB [[],[],[1],[0,1,2],[],[],[5],[0,1,2,3,4,5,6],[0,1,2,3,4,5,6,7]]) [(3,3),(7,7)] (by kernel_rfl) (by kernel_rfl) (by kernel_rfl) ?_;refine DrawK.step (LocK.of1 U fun σ' hs hf=>Df 3 U U (Ag hs U) Tryz.underlying34 ty3 hf) ?_;refine DrawK.step (LocK.of U fun σ' hs=>(by exact Bc U (.no U) (Ag hs U) (hs.tm U) Cu)) ?_;refine DrawK.step (LocK.of U fun σ' hs=>(by exact Bl U (.no U) (Ag hs U) (hs.tm U) Dm U U)) ?_;refine DrawK.step (LocK.ofc U U fun σ' hs=>Cc (id:=3) U U (Ag hs U) (hs.tm U) (hs.res _ _ U) (hs.tm U) (by exact .t) (by exact isV_map (fun _=>rfl) _) Tryz.underlying34 in3 U (by (simp [chunk];omega)) (by (unfold maxLen;simp [chunk];omega))) ?_
 refine DrawK.step (LocK.of1 U fun σ' hs hf=>Df 7 U U (Ag hs U) Tryz.underlying35 Ba hf) ?_;refine DrawK.step (LocK.of U fun σ' hs=>(by exact Bc U (.no U) (Ag hs U) (hs.tm U) Ca)) ?_;refine DrawK.step (LocK.of U fun σ' hs=>(by exact Bl U (.no U) (Ag hs U) (hs.tm U) C6 U U)) ?_;refine DrawK.step (LocK.ofc U U fun σ' hs=>Cc (id:=7) U U (Ag hs U) (hs.tm U) (hs.res _ _ U) (hs.tm U) (by exact .t) (by exact isV_map (fun _=>rfl) _) Tryz.underlying35 C0 U (by (simp [chunk];omega)) (by (unfold maxLen;simp [chunk];omega))) ?_;refine DrawK.step (LocK.of U fun σ' hs=>Bw (ps:=[(0,.tmp 6),(1,.tmp 10)]) U U (Ag hs U) Cj U U st37 (.cons (hs.tm U) U U fp37_0 (.cons (hs.tm U) U U fp37_1 .nil)) U) ?_;refine DrawK.fin U U U ?_;refine Bf (Av [0,1,2,11] [2,3,7]) ?_;refine An A9 ?_;refine Aa (Ap (Res.one U (.cell U U A9 U U .nil) U ?_))
 rfl
theorem specDeleteEdge (g:TGraph) (id:Int) (hz1:g.Values.length≤1073741824) (hz2:g.Edges.length≤1073741824):FnT Tryz.prog 167 [.agg (cGraph g),.one (.v (.int .i64 id))] (.tup [.agg (cGraph (delG g id).1),.one (.v (.bool (delG g id).2))]):=by
 refine Bb Tryz.func167 U (by kernel_rfl) Tryz.ntmps167 U fun hlen w0=>?_
 try simp [cEdge,cGraph] at hlen
 refine Af (Ac (Bx U U U (.tm U) (ts:=_) (by rfl)) U ?_);refine Au (Az 4 U U U Cj U U U) U ?_;refine Aj ?_;refine Aa (Af (A3 A9 ?_));refine Ab ?_;refine Br (specEdgeIndex g id) ?_;refine Ah ?_;refine Aa (Ae (Af (A3 A9 ?_)));refine Br (specIsValidGraph g) ?_;refine Cg ?_;refine Ab ?_;refine Co ?_;refine Ac (R_lt U (by exact .not1 U U U U) U (.tmp U (by simp)) (.const U)) U ?_;refine Ac (R_or U (.no U) U (.tm U) (.tmp U (by simp))) U ?_;refine Aa (Al (.tm U) (fun h17=>?_) (fun h17=>?_))
 · try simp at h17
   have hc:(validG g&&decide (0≤edgeIndex g id))=false:=by (rcases h17 with h|h;(rw [h];rfl);(rw [decide_eq_false (by omega),Bool.and_false]))
   refine Ae (Ar (Av [0,1,2,4,5,6] [4]) ?_);refine Ad (A3 A9 ?_);refine Bq (Cb 1900 (specl3Copy g hz1 hz2) U U U (.cons (.tm U) U .nil) U U) U ?_;refine An A9 ?_;refine Bf (Av [0,1,2,4,5,6] [4,1900,1901]) ?_;refine Aj ?_;refine Aa (Ap (Bg U (.cell U U A9 U U (.tmp U .nil)) U ?_ (by simp)))
   unfold delG;rw [hc];rfl
 try simp at h17
 have hc:(validG g&&decide (0≤edgeIndex g id))=true:=by (rw [h17.1,decide_eq_true (by omega)];rfl)
 obtain⟨i,xi,hgi,hix⟩:=edgeIndex_get (g:=g) (id:=id) (by omega)
 have hil:=(List.getElem?_eq_some_iff.1 hgi).1
 refine Am (Ae (Ar (Av [0,1,2,4,5,6] [4]) ?_));refine Ad (Au (Df 20 U U U Tryz.underlying34 ty3 U) U ?_);refine Bz Cu ?_;refine A3 Dm ?_;refine Ce (Cc U U U (.tm U) U (.tm U) (by exact .t) (by exact isV_map (fun _=>rfl) _) Tryz.underlying34 in3 U (by (simp [chunk];omega)) (by (unfold maxLen;simp [chunk];omega))) U ?_;refine Bf (Av [0,1,2,4,5,6,23] [4,20]) ?_;refine Ac (Bw (ps:=[(0,.tmp 23)]) U U U Cj U U st37 (.cons (.tm U) U U fp37_0 .nil) U) U ?_;refine Cp (i:=24) 20001 4 1 U U U ?_;refine Au (Az 7 U U U Cj U U U) U ?_;refine An A9 ?_;refine Aa (Ae (Ar (Av [0,1,2,4,5,6,7,23,24] [4,20,20001,7]) ?_));refine AW.drawK 13 (nthB [[],[],[1],[],[1,2,3],[0,1,2,3,4],[],[6],[],[8],[6,7,8,9],[0,1,2,3,4,5,6,7,8,9,10],[0,1,2,3,4,5,6,7,8,9,10,11]]) [(5,25),(11,25)] (by kernel_rfl) (by kernel_rfl) (by kernel_rfl) ?_
 refine DrawK.step (LocK.of1 U fun σ' hs hf=>Df 25 U U (Ag hs U) Tryz.underlying35 Ba hf) ?_;refine DrawK.step (LocK.of U fun σ' hs=>(by exact Bc U (.no U) (Ag hs U) (hs.tm U) Ca)) ?_;refine DrawK.step (LocK.of U fun σ' hs=>(by exact Bl U (.no U) (Ag hs U) (hs.tm U) C6 U U)) ?_;refine DrawK.step (LocK.of U fun σ' hs=>Bh U (.no U) (Ag hs U) (hs.tm U)) ?_;refine DrawK.step (LocK.of U fun σ' hs=>R_slice (m:=(edgeIndex g id).toNat) U (.no U) (Ag hs U) (hs.tm U) .no (.yes (hs.tm U) (fun _=>by first|omega|(simp<;>omega))) Tryz.underlying35 Ba (fun _=>⟨by omega,by first|omega|(simp;omega)⟩)) ?_;refine DrawK.step (LocK.ofc U U fun σ' hs=>Cc (id:=25) U U (Ag hs U) (hs.tm U) (hs.res _ _ U) (hs.tm U) (by exact .t) (by exact isV_part (fun _=>rfl) _ _ _) Tryz.underlying35 C0 U (by (simp [chunk];omega)) (by (unfold maxLen;simp [chunk];omega))) ?_
 refine DrawK.step (LocK.of U fun σ' hs=>(by exact Bc U (.no U) (Ag hs U) (hs.tm U) Ca)) ?_;refine DrawK.step (LocK.of U fun σ' hs=>(by exact Bl U (.no U) (Ag hs U) (hs.tm U) C6 U U)) ?_;refine DrawK.step (LocK.of U fun σ' hs=>Bh U (.no U) (Ag hs U) (hs.tm U)) ?_;refine DrawK.step (LocK.of U fun σ' hs=>C5 U (.no U) (Ag hs U) (hs.tm U) (.const U) (fun _=>by omega)) ?_;refine DrawK.step (LocK.of U fun σ' hs=>R_slice (n:=((edgeIndex g id).toNat+1)) U (.no U) (Ag hs U) (hs.tm U) (.yes (hs.tm U) (fun _=>by first|omega|(simp<;>omega))) .no Tryz.underlying35 Ba (fun _=>⟨by simp;omega,by simp⟩)) ?_;refine DrawK.step (LocK.ofc U U fun σ' hs=>Cc (id:=25) U U (Ag hs U) (hs.tm U) (hs.res _ _ U) (hs.tm U) (by exact .t) (by exact isV_part (fun _=>rfl) _ _ _) Tryz.underlying35 C0 U (by (simp [chunk];omega)) (by (unfold maxLen;simp [chunk];omega))) ?_
 refine DrawK.step (LocK.of U fun σ' hs=>(Bk U (.no U) (Ag hs U) (hs.tm U) Ca)) ?_;refine DrawK.fin U U U ?_;refine Bf (Av [0,1,2,4,5,6,7,36,37] [4,20,20001,7,25]) ?_;refine An C6 ?_;refine Aa (Af (Ai A9 ?_));refine An A9 ?_;refine Bf (Av [0,1,2,4,5,6,7] [4,20,20001,7,25]) ?_;refine Aj ?_;refine Aa (Ap (Bg U (.cell U U A9 U U (.tmp U .nil)) U ?_ (by simp)))
 unfold delG;rw [hc];refine congrArg (fun r=>[V0.agg [T.sl 1 (g.Values.map cInt),T.sl 4 r],V0.one (T.v (.bool true))]) ?_;simp [List.map_take,List.map_drop];rw [List.take_of_length_le (by simp)]
end Go.Proofs.YtdhojcaoljhbiaaGreatDoor
