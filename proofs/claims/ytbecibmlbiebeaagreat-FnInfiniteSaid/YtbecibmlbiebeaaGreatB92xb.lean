import Derived.Test.YtbecibmlbiebeaaGreatB21xb
import Derived.Test.YtbecibmlbiebeaaGreatB19xb
import Derived.Test.YtbecibmlbiebeaaGreatB05xb
import Derived.Test.YtbecibmlbiebeaaGreatAbsQxb
import Derived.Test.YtbecibmlbiebeaaGreatAbsIxb
import Derived.Test.YtbecibmlbiebeaaGreatAbs12xb
import Derived.Lib.Join
import Derived.Lib.ItoaNum
import Derived.Test.YtbecibmlbiebeaaGreatOpenBxb
import Derived.Test.YtbecibmlbiebeaaGreatTr2xb
import Derived.Test.YtbecibmlbiebeaaGreatB14xb
import Derived.Test.YtbecibmlbiebeaaGreatB17xb
import Derived.Test.YtbecibmlbiebeaaGreatB37xb
import Derived.Lib.SplitLaws
import Derived.Lib.Atoi
import Derived.WideLaws
import Derived.Shelf.Abstract
import Derived.Shelf.Strings.OnBuilder
import Derived.Shelf.Strconv.Itoa3
import Derived.Ground.NamesProg
import Derived.Shelf.Strings.SplitShaped
import Derived.Shelf.Strings.Shaped
import Derived.Shelf.Strings.Prefix
import Derived.Shelf.Small.Strs
import Derived.Shelf.Strconv.Atoi
import Derived.Shelf.Strconv.AtoiErr
import Derived.Lib.IndexMore
import Derived.Lib.SlTrimSet
set_option linter.unusedVariables false
set_option linter.unusedSimpArgs false
set_option maxHeartbeats 1000000
set_option maxRecDepth 100000
namespace Go.Q
open Go.D
inductive WC (E:Nat→List (Int×Int)) (G:Nat→Bool):Nat→Int→Prop where
 | goal {i:Nat}:G i=true→WC E G i 0
 | step {i:Nat} {z c d:Int}:(z,c)∈E i→WC E G z.toNat d→WC E G i (c+d)
theorem atI_setN {O:List Int} {k j:Nat} {v:Int} (hk:k<O.length):atI (O.set k v) (j:Int)=if j=k then v else atI O (j:Int):=by
 unfold atI
 simp only [Int.toNat_natCast]
 rw [List.getElem?_set]
 by_cases e:j=k
 · subst e;rw [if_pos rfl,if_pos hk,if_pos rfl];rfl
 rw [if_neg (fun h=>e h.symm),if_neg e]
theorem negs_set_same {v:Int} (hv:0≤v):∀ {out:List Int} {k:Nat} {x:Int},out[k]?=some x→0≤x→negs (out.set k v)=negs out
 | [],_,_,h,_=>by simp at h
 | y::l,0,x,h,hx=>by
  simp at h
  subst h
  rw [List.set_cons_zero,negs_cons,negs_cons,if_neg (by omega),if_neg (by omega)]
 | y::l,k+1,x,h,hx=>by
  rw [List.set_cons_succ,negs_cons,negs_cons,negs_set_same hv (out:=l) (k:=k) (by simpa using h) hx]
def phi (B:Nat) (O:List Int):Nat:=(O.map fun v=>if v<0 then B else v.toNat).sum
theorem phi_set {B:Nat} {v:Int}:∀ {O:List Int} {k:Nat} {x:Int},O[k]?=some x→phi B (O.set k v)+(if x<0 then B else x.toNat)=phi B O+(if v<0 then B else v.toNat)
 | [],_,_,h=>by simp at h
 | y::l,0,x,h=>by
  simp at h
  subst h
  unfold phi
  simp;omega
 | y::l,k+1,x,h=>by
  have:=phi_set (B:=B) (v:=v) (O:=l) (k:=k) (by simpa using h)
  unfold phi at *
  simp only [List.set_cons_succ,List.map_cons,List.sum_cons]
  omega
structure CI (E:Nat→List (Int×Int)) (G:Nat→Bool) (N:Nat) (O:List Int):Prop where
 len:O.length=N
 lo:∀ v∈O,-1≤v
 hi:∀ v∈O,v+9*(negs O:Int)≤9*N
 snd:∀ i,i<N→0≤atI O (i:Int)→WC E G i (atI O (i:Int))
 gl:∀ i,i<N→G i=true→atI O (i:Int)=0
def fixd (O:List Int) (i:Nat) (e:Int×Int):Prop:=atI O e.1<0∨(0≤atI O (i:Int)∧atI O (i:Int)≤atI O e.1+e.2)
section
variable {E:Nat→List (Int×Int)} {G:Nat→Bool} {N:Nat} {O:List Int}
theorem CI.at (h:CI E G N O) {i:Nat} (hi:i<N):-1≤atI O (i:Int)∧atI O (i:Int)+9*(negs O:Int)≤9*N:=by
 have hm:=List.mem_of_getElem? (atI_get (out:=O) (k:=(i:Int)) (by rw [h.len];simpa using hi))
 exact⟨h.lo _ hm,h.hi _ hm⟩
theorem CI.step (h:CI E G N O) {i:Nat} {z c:Int} (hi:i<N) (he:(z,c)∈E i) (hz:0≤z∧z<N) (hc:0≤c∧c≤9) (hd:0≤atI O z) (hl:atI O (i:Int)<0∨atI O z+c<atI O (i:Int)) :
 CI E G N (O.set i (atI O z+c))∧phi (9*N+1) (O.set i (atI O z+c))<phi (9*N+1) O:=by
 obtain⟨zn,rfl⟩:=Int.eq_ofNat_of_zero_le hz.1
 have hzN:zn<N:=by omega
 have hil:i<O.length:=by rw [h.len];exact hi
 have hgi:O[i]?=some (atI O (i:Int)):=by have:=atI_get (out:=O) (k:=(i:Int)) (by simpa using hil);simpa using this
 have hzv:=h.at hzN
 have hiv:=h.at hi
 have hng:negs O=negs (O.set i (atI O (zn:Int)+c))+(if atI O (i:Int)<0 then 1 else 0):=by
  by_cases hn:atI O (i:Int)<0
  · rw [if_pos hn];exact (negs_set (by omega) hgi hn).symm
  rw [if_neg hn,negs_set_same (by omega) hgi (by omega)];omega
 constructor
 · refine⟨by rw [List.length_set];exact h.len,fun v hv=>?_,fun v hv=>?_,fun j hj hjv=>?_,fun j hj hG=>?_⟩
   · rcases List.mem_or_eq_of_mem_set hv with hv|rfl
     · exact h.lo v hv
     omega
   · rcases List.mem_or_eq_of_mem_set hv with hv|rfl
     · have:=h.hi v hv
       split at hng<;>omega
     split at hng<;>omega
   · rw [atI_setN hil] at hjv ⊢
     by_cases e:j=i
     · subst e
       rw [if_pos rfl,Int.add_comm]
       exact .step he (by simpa using h.snd zn hzN hd)
     rw [if_neg e] at hjv ⊢
     exact h.snd j hj hjv
   rw [atI_setN hil]
   by_cases e:j=i
   · subst e
     have:=h.gl j hj hG
     omega
   rw [if_neg e];exact h.gl j hj hG
 have hp:=phi_set (B:=9*N+1) (v:=atI O (zn:Int)+c) hgi
 rw [if_neg (show ¬ atI O (zn:Int)+c<0 by omega)] at hp
 by_cases hn:atI O (i:Int)<0
 · rw [if_pos hn] at hp hng;omega
 rw [if_neg hn] at hp hng;omega
theorem CI.least (h:CI E G N O) (hE:∀ i,i<N→∀ e∈E i,0≤e.1∧e.1<N) (hf:∀ i,i<N→∀ e∈E i,fixd O i e) {i:Nat} {d:Int} (hw:WC E G i d):i<N→0≤atI O (i:Int)∧atI O (i:Int)≤d:=by
 induction hw with
 | goal hg=>intro hi;rw [h.gl _ hi hg];omega
 | @step i z c d he _ ih=>
  intro hi
  have hz:=hE i hi _ he
  have h1:=ih (show z.toNat<N by have h5:(z,c).1<(N:Int):=hz.2;have h6:0≤(z,c).1:=hz.1;dsimp only at h5 h6;omega)
  have hzz:((z.toNat:Nat):Int)=z:=Int.toNat_of_nonneg hz.1
  rw [hzz] at h1
  rcases hf i hi _ he with h2|h2
  · simp only at h2;omega
  simp only at h2;omega
theorem CI.same {O':List Int} (h:CI E G N O) (h':CI E G N O') (hE:∀ i,i<N→∀ e∈E i,0≤e.1∧e.1<N) (hf:∀ i,i<N→∀ e∈E i,fixd O i e) (hf':∀ i,i<N→∀ e∈E i,fixd O' i e) {i:Nat} (hi:i<N):atI O (i:Int)=atI O' (i:Int):=by
 have a1:=(h.at hi).1
 have a2:=(h'.at hi).1
 by_cases h1:0≤atI O (i:Int)
 · have b1:=h'.least hE hf' (h.snd i hi h1) hi
   have b2:=h.least hE hf (h'.snd i hi b1.1) hi
   omega
 by_cases h2:0≤atI O' (i:Int)
 · have b2:=h.least hE hf (h'.snd i hi h2) hi
   omega
 omega
end
def lessW (w v:Int×Int):Bool:=decide (v.1<0)||(decide (w.1<v.1)||(decide (w.1=v.1)&&decide (w.2<v.2)))
def sumS (W:List (Int×Int)):Nat:=(W.map fun w=>w.2.toNat).sum
def atW (W:List (Int×Int)) (k:Int):Int×Int:=W[k.toNat]?.getD (0,0)
theorem atW_fst (W:List (Int×Int)) (k:Int):(atW W k).1=atI (W.map (·.1)) k:=by
 unfold atW atI
 rw [List.getElem?_map]
 cases W[k.toNat]?<;>rfl
theorem atW_get {W:List (Int×Int)} {k:Int} (h:k.toNat<W.length):W[k.toNat]?=some (atW W k):=by
 unfold atW;rw [List.getElem?_eq_getElem h];rfl
theorem sumS_set {v:Int×Int}:∀ {W:List (Int×Int)} {k:Nat} {x:Int×Int},W[k]?=some x→sumS (W.set k v)+x.2.toNat=sumS W+v.2.toNat
 | [],_,_,h=>by simp at h
 | y::l,0,x,h=>by
  simp at h
  subst h
  unfold sumS
  simp;omega
 | y::l,k+1,x,h=>by
  have:=sumS_set (v:=v) (W:=l) (k:=k) (by simpa using h)
  unfold sumS at *
  simp only [List.set_cons_succ,List.map_cons,List.sum_cons]
  omega
theorem sumS_le {b:Nat}:∀ {W:List (Int×Int)},(∀ w∈W,w.2≤b)→sumS W≤W.length*b
 | [],_=>by simp [sumS]
 | y::l,h=>by
  have h1:=sumS_le (W:=l) fun v hv=>h v (by simp [hv])
  have h2:=h y (by simp)
  unfold sumS at *
  simp only [List.map_cons,List.sum_cons,List.length_cons,Nat.succ_mul]
  omega
structure CW (E:Nat→List (Int×Int)) (G:Nat→Bool) (N P0:Nat) (W:List (Int×Int)):Prop where
 ci:CI E G N (W.map (·.1))
 ps:phi (9*N+1) (W.map (·.1))≤P0
 st:∀ w∈W,0≤w.2∧w.2+phi (9*N+1) (W.map (·.1))≤P0
def msW (N P0:Nat) (W:List (Int×Int)):Nat:=phi (9*N+1) (W.map (·.1))*(N*P0+1)+sumS W
section
variable {E:Nat→List (Int×Int)} {G:Nat→Bool} {N P0:Nat} {W:List (Int×Int)}
theorem CW.len (h:CW E G N P0 W):W.length=N:=by have:=h.ci.len;simpa using this
theorem CW.step (h:CW E G N P0 W) {i:Nat} {z c:Int} (hi:i<N) (he:(z,c)∈E i) (hz:0≤z∧z<N) (hc:0≤c∧c≤9) (hd:0≤(atW W z).1) (hl:lessW ((atW W z).1+c,(atW W z).2+1) (atW W (i:Int))=true) :
 CW E G N P0 (W.set i ((atW W z).1+c,(atW W z).2+1))∧msW N P0 (W.set i ((atW W z).1+c,(atW W z).2+1))<msW N P0 W:=by
 have hil:i<W.length:=by rw [h.len];exact hi
 have hgi:W[i]?=some (atW W (i:Int)):=by have:=atW_get (W:=W) (k:=(i:Int)) (by simpa using hil);simpa using this
 have hgz:W[z.toNat]?=some (atW W z):=atW_get (by rw [h.len];omega)
 have hsz:=h.st _ (List.mem_of_getElem? hgz)
 have hsi:=h.st _ (List.mem_of_getElem? hgi)
 have hmap:(W.set i ((atW W z).1+c,(atW W z).2+1)).map (·.1)=(W.map (·.1)).set i ((atW W z).1+c):=by rw [List.map_set]
 have hz1:=atW_fst W z
 have hi1:=atW_fst W (i:Int)
 unfold lessW at hl
 simp only [Bool.or_eq_true,Bool.and_eq_true,decide_eq_true_eq] at hl
 by_cases hcost:(atW W (i:Int)).1<0∨(atW W z).1+c<(atW W (i:Int)).1
 · obtain⟨g1,g2⟩:=h.ci.step hi he hz hc (by rw [←hz1];exact hd) (by rw [←hz1,←hi1];exact hcost)
   rw [←hz1,←hmap] at g1 g2
   have hst:∀ w∈W.set i ((atW W z).1+c,(atW W z).2+1),0≤w.2∧w.2+phi (9*N+1) ((W.set i ((atW W z).1+c,(atW W z).2+1)).map (·.1))≤P0:=fun w hw=>by
    rcases List.mem_or_eq_of_mem_set hw with hw|rfl
    · have:=h.st w hw;omega
    simp only;omega
   have hps:=h.ps
   refine⟨⟨g1,by omega,hst⟩,?_⟩
   have hs:=sumS_le (b:=P0) (W:=W.set i ((atW W z).1+c,(atW W z).2+1)) fun w hw=>by have:=hst w hw;omega
   rw [List.length_set,h.len] at hs
   unfold msW
   have:=Nat.mul_le_mul_right (N*P0+1) (Nat.succ_le_of_lt g2)
   rw [Nat.succ_mul] at this
   omega
 have heq:(atW W z).1+c=(atW W (i:Int)).1∧(atW W z).2+1<(atW W (i:Int)).2:=by
  rcases hl with h1|h1|h1
  · omega
  · omega
  exact h1
 have hsame:(W.set i ((atW W z).1+c,(atW W z).2+1)).map (·.1)=W.map (·.1):=by
  rw [hmap,heq.1]
  apply List.ext_getElem?;intro j
  rw [List.getElem?_set]
  by_cases e:i=j
  · subst e
    rw [if_pos rfl,if_pos (by simpa using hil),List.getElem?_map,hgi];rfl
  rw [if_neg e]
 refine⟨⟨by rw [hsame];exact h.ci,by rw [hsame];exact h.ps,fun w hw=>?_⟩,?_⟩
 · rw [hsame]
   rcases List.mem_or_eq_of_mem_set hw with hw|rfl
   · exact h.st w hw
   simp only;omega
 have hs:=sumS_set (v:=((atW W z).1+c,(atW W z).2+1)) hgi
 unfold msW
 rw [hsame]
 simp only at hs
 omega
end
end Go.Q
set_option maxHeartbeats 1000000
set_option maxRecDepth 100000
namespace Go.Q
open Go.D
section
variable {E:Nat→List (Int×Int)} {G:Nat→Bool} {N:Nat} {O:List Int}
noncomputable def leastL (E:Nat→List (Int×Int)) (G:Nat→Bool) (N:Nat):List Int:=
 open Classical in if h:∃ O,CI E G N O∧∀ i,i<N→∀ e∈E i,fixd O i e then Classical.choose h else []
theorem leastL_eq (hE:∀ i,i<N→∀ e∈E i,0≤e.1∧e.1<N) (h:CI E G N O) (hf:∀ i,i<N→∀ e∈E i,fixd O i e):leastL E G N=O:=by
 have hx:∃ O,CI E G N O∧∀ i,i<N→∀ e∈E i,fixd O i e:=⟨O,h,hf⟩
 unfold leastL
 rw [dif_pos hx]
 obtain⟨h1,h2⟩:=Classical.choose_spec hx
 refine List.ext_getElem? fun i=>?_
 by_cases hi:i<N
 · have e:=CI.same h1 h hE h2 hf hi
   have g1:=atI_get (out:=Classical.choose hx) (k:=(i:Int)) (by rw [h1.len];simpa using hi)
   have g2:=atI_get (out:=O) (k:=(i:Int)) (by rw [h.len];simpa using hi)
   simp only [Int.toNat_natCast] at g1 g2
   rw [g1,g2,e]
 rw [List.getElem?_eq_none (by rw [h1.len];omega),List.getElem?_eq_none (by rw [h.len];omega)]
end
def edgeOf (g:TGraph) (n:Int) (l:List Int) (s:TProductStep):Int×Int:=(s.Node*n+s.State,stepCost g l s.Step)
def edgesOf (g:TGraph) (a:TAutomaton) (l:List Int) (i:Nat):List (Int×Int):=(stepsOf g a ((i:Int) / a.Accept.length) ((i:Int)%a.Accept.length)).map (edgeOf g a.Accept.length l)
def goalOf (g:TGraph) (a:TAutomaton) (y:Int) (i:Nat):Bool:=decide ((i:Int) / a.Accept.length=y)&&acc a ((i:Int)%a.Accept.length) (g.Values[((i:Int) / a.Accept.length).toNat]?.getD 0)
noncomputable def costsOf (g:TGraph) (a:TAutomaton) (l:List Int) (y:Int):List Int:=leastL (edgesOf g a l) (goalOf g a y) (a.Accept.length*g.Values.length)
def costs0 (g:TGraph) (a:TAutomaton) (y:Int) (k:Nat):List Int:=(List.range k).map fun i=>if goalOf g a y i then 0 else -1
theorem costs0_len (g:TGraph) (a:TAutomaton) (y:Int) (k:Nat):(costs0 g a y k).length=k:=by unfold costs0;simp
end Go.Q
namespace Go.Q
open Go.RowKit
section
variable {u v:Nat} {I:Ip} {w:World}
end
theorem Le.trans {σ σ' σ'':St} (h1:Le σ σ') (h2:Le σ' σ''):Le σ σ'':=fun w0 a w h=>h2 w0 a w (h1 w0 a w h)
section
variable {Q:Exit→St→Prop} {σ:St}
theorem ThenQ.ex {K:St→Prop} {i:Nat} (h:Q (.exit i) σ):ThenQ K Q (.exit i) σ:=h
theorem Round1.ex {β1:Type} {Inv:β1→Prop} {J:β1→St} {m:β1→Nat} {a1:β1} {i:Nat} (h:Q (.exit i) σ):Round1 Inv J m a1 Q (.exit i) σ:=h
theorem Round2.ex {β1 β2:Type} {Inv:β1→β2→Prop} {J:β1→β2→St} {m:β1→β2→Nat} {a1:β1} {a2:β2} {i:Nat} (h:Q (.exit i) σ):Round2 Inv J m a1 a2 Q (.exit i) σ:=h
theorem Round3.ex {β1 β2 β3:Type} {Inv:β1→β2→β3→Prop} {J:β1→β2→β3→St} {m:β1→β2→β3→Nat} {a1:β1} {a2:β2} {a3:β3} {i:Nat} (h:Q (.exit i) σ):Round3 Inv J m a1 a2 a3 Q (.exit i) σ:=h
theorem Round4.ex {β1 β2 β3 β4:Type} {Inv:β1→β2→β3→β4→Prop} {J:β1→β2→β3→β4→St} {m:β1→β2→β3→β4→Nat} {a1:β1} {a2:β2} {a3:β3} {a4:β4} {i:Nat} (h:Q (.exit i) σ):Round4 Inv J m a1 a2 a3 a4 Q (.exit i) σ:=h
theorem Round5.ex {β1 β2 β3 β4 β5:Type} {Inv:β1→β2→β3→β4→β5→Prop} {J:β1→β2→β3→β4→β5→St} {m:β1→β2→β3→β4→β5→Nat} {a1:β1} {a2:β2} {a3:β3} {a4:β4} {a5:β5} {i:Nat} (h:Q (.exit i) σ):Round5 Inv J m a1 a2 a3 a4 a5 Q (.exit i) σ:=h
end
section
variable {P:Program} {ops:Array Oper} {o:Oper} {σ:St} {q:Bool}
theorem R_grd {x:S} (hg:Grd ops o σ q) (hd:o.dst.all (fun d=>Nat.blt d σ.n)=true) (h:q=true→Op1 P ops { o with guard:=none } σ (σ.put o.dst (true,x))):Op1 P ops o σ (σ.put o.dst (q,x)):=by
 rintro w0 a w ⟨I,hr⟩ K Q hK
 rw [hg.wanted hr]
 cases q with
 | false=>exact hK _ _ ⟨I,hr.put hd rfl⟩
 | true=>exact h rfl w0 a w ⟨I,hr⟩ K Q hK
end
end Go.Q
set_option maxHeartbeats 1000000
set_option maxRecDepth 100000
namespace Go.Q
open Go.D
def NPx (g:TGraph) (a:TAutomaton):Nat:=a.Accept.length*g.Values.length
def stepsL (g:TGraph) (a:TAutomaton) (k:Nat):List (List TProductStep):=(List.range k).map fun (i:Nat)=>stepsOf g a ((i:Int) / a.Accept.length) ((i:Int)%a.Accept.length)
theorem stepsL_succ (g:TGraph) (a:TAutomaton) (k:Nat):stepsL g a (k+1)=stepsL g a k++[stepsOf g a ((k:Int) / a.Accept.length) ((k:Int)%a.Accept.length)]:=by
 unfold stepsL;rw [List.range_succ];simp
theorem costs0_succ (g:TGraph) (a:TAutomaton) (y:Int) (k:Nat):costs0 g a y (k+1)=costs0 g a y k++[if goalOf g a y k then 0 else -1]:=by
 unfold costs0;rw [List.range_succ];simp
end Go.Q
namespace Go.Proofs.YtbecibmlbiebeaaGreat
open Go.RowKit Go.Q Go.D
end Go.Proofs.YtbecibmlbiebeaaGreat
namespace Go.Q
open Go.RowKit
theorem Ms_of {I:Ip} {w:World} {b:Nat}:∀ (xs:List T) (vs:List Value) (off:Nat),VEs I w (xs.map .t) vs→(∀ j v,vs[j]?=some v→w.cell? ⟨b,off+j,none⟩=some v)→∃ G,Ms false w b off xs G∧∀ q∈G,I.Z q
 | [],_,_,_,_=>⟨[],by simp only [Ms],by simp⟩
 | x::xs,vs,off,⟨c,cr,e,⟨G1,k1,k2⟩,h3⟩,hc=>by
  subst e
  obtain⟨G2,g1,g2⟩:=Ms_of xs cr (off+1) h3 fun j v hj=>by
   have:=hc (j+1) v (by simpa using hj)
   rwa [show off+(j+1)=off+1+j by omega] at this
  refine⟨G1++G2,?_,fun q hq=>?_⟩
  · simp only [Ms]
    exact⟨c,G1,G2,hc 0 c rfl,k1,g1,rfl⟩
  rcases List.mem_append.1 hq with hq|hq
  · exact k2 q hq
  exact g2 q hq
theorem Le.frz (id d:Nat) {n:Nat} {sl:List (Nat×(Bool×S))} {rs:List (Nat×R)} {xs:List T} {cs:List E} (h1:look rs id=some (.box cs)) (hcs:cs=xs.map .t) (h2:look sl d=some (true,.a (.one (.pp id 0)))) :
 Le ⟨n,sl,rs⟩ ⟨n,(d,(true,.a (.one (.t (.ad xs)))))::((⟨n,sl,rs⟩:St).chg id (.hdr none undef)).slots,((⟨n,sl,rs⟩:St).chg id (.hdr none undef)).res⟩:=by
 rintro w0 a w ⟨I,hr⟩
 subst hcs
 have hbox:=hr.res id _ h1
 obtain⟨hF,vs,e,hb,hvs⟩:=hbox
 have hpp:VS I w (true,.a (.one (.pp id 0))) (a.tmps.getD d undef):=hr.slots d _ h2
 have hpp:a.tmps.getD d undef=.pointer (some ⟨I.B id,0,none⟩):=hpp
 have hlt:I.B id<w.heap.size:=(Array.getElem?_eq_some_iff.1 hb).1
 have s1:=hr.chg h1 (Chg.refl w _) (G:=[]) (u:=undef) (r:=.hdr none undef) ⟨List.nodup_nil,by simp⟩ ⟨by simp [Ip.set],fun i h=>by cases h⟩
 have hno:∀ i,I.B id∉(I.set id [] undef (I.B id)).F i:=fun i hi=>by
  by_cases e:i=id
  · subst e;simp [Ip.set] at hi
  simp only [Ip.set,if_neg e] at hi
  exact hr.apart i id e _ hi (by rw [hF];simp)
 have s2:=s1.also (G:=[I.B id]) fun b hb'=>by
  rw [List.mem_singleton] at hb';subst hb'
  exact⟨hlt,hno⟩
 obtain⟨G,g1,g2⟩:=Ms_of (b:=I.B id) xs vs 0 hvs fun j v hj=>by
  rw [Nat.zero_add]
  simp [World.cell?,hb,hj]
 refine⟨_,⟨s2.ext,s2.defers,s2.size,fun i x hx=>?_,s2.res,s2.old,s2.lt,s2.own,s2.apart⟩⟩
 rw [look_cons] at hx
 by_cases ei:d=i
 · rw [if_pos ei] at hx
   cases hx
   subst ei
   refine⟨I.B id::G,?_,fun b hb'=>?_⟩
   · rw [hpp]
     simp only [C]
     exact⟨I.B id,0,G,rfl,rfl,hlt,g1⟩
   rcases List.mem_cons.1 hb' with rfl|hb'
   · exact .inr (by simp)
   exact .inl (g2 b hb')
 rw [if_neg ei] at hx
 exact s2.slots i x hx
end Go.Q
namespace Go.Q
open Go.RowKit
theorem Le.frzR (id d:Nat) {n k:Nat} {sl:List (Nat×(Bool×S))} {rs:List (Nat×R)} {rows:List (List T)} (h1:look rs id=some (.row k rows)) (h2:look sl d=some (true,.a (.one (.rf id)))) :
 Le ⟨n,sl,rs⟩ ⟨n,(d,(true,.a (.one (.t (.sl k rows)))))::((⟨n,sl,rs⟩:St).chg id (.hdr none undef)).slots,((⟨n,sl,rs⟩:St).chg id (.hdr none undef)).res⟩:=by
 rintro w0 a w ⟨I,hr⟩
 have hC:C true w (.sl k rows) (I.hd id) (I.F id):=hr.res id _ h1
 have hv:VS I w (true,.a (.one (.rf id))) (a.tmps.getD d undef):=hr.slots d _ h2
 obtain⟨hv,_⟩:VE I w (.rf id) (a.tmps.getD d undef):=hv
 have s1:=hr.chg h1 (Chg.refl w _) (G:=[]) (u:=undef) (r:=.hdr none undef) ⟨List.nodup_nil,by simp⟩ ⟨by simp [Ip.set],fun i h=>by cases h⟩
 have s2:=s1.also (G:=I.F id) fun b hb=>by
  refine⟨(hr.lt id b hb).1,fun i hi=>?_⟩
  by_cases e:i=id
  · subst e;simp [Ip.set] at hi
  simp only [Ip.set,if_neg e] at hi
  exact hr.apart i id e _ hi hb
 refine⟨_,⟨s2.ext,s2.defers,s2.size,fun i x hx=>?_,s2.res,s2.old,s2.lt,s2.own,s2.apart⟩⟩
 rw [look_cons] at hx
 by_cases ei:d=i
 · rw [if_pos ei] at hx
   cases hx
   subst ei
   exact⟨I.F id,by rw [hv];exact hC.read,fun b hb=>.inr hb⟩
 rw [if_neg ei] at hx
 exact s2.slots i x hx
section
variable {P:Program} {ops:Array Oper} {o:Oper} {σ:St}
end
end Go.Q
namespace Go.Q
open Go.RowKit
def frzE (j k:Nat) (rows:List (List T)):E→Option T
 | .t x=>some x
 | .rf i=>if Nat.beq i j then some (.sl k rows) else none
 | _=>none
theorem Ms_frz {I:Ip} {w:World} {b j k:Nat} {rows:List (List T)} (hC:C true w (.sl k rows) (I.hd j) (I.F j)):∀ (cs:List E) (xs:List T) (vs:List Value) (off:Nat),mapO (frzE j k rows) cs=some xs→VEs I w cs vs→(∀ q v,vs[q]?=some v→w.cell? ⟨b,off+q,none⟩=some v)→∃ G,Ms false w b off xs G∧∀ q∈G,I.Z q∨q∈I.F j
 | [],xs,_,_,hm,_,_=>by cases hm;exact⟨[],by simp only [Ms],by simp⟩
 | e::cs,xs,vs,off,hm,⟨c,cr,ev,h1,h3⟩,hc=>by
  subst ev
  rw [mapO] at hm
  split at hm
  · rename_i t e1
    split at hm
    · rename_i ts e2
      cases hm
      obtain⟨G2,g1,g2⟩:=Ms_frz hC cs ts cr (off+1) e2 h3 fun q v hq=>by
       have:=hc (q+1) v (by simpa using hq)
       rwa [show off+(q+1)=off+1+q by omega] at this
      have key:∃ G1,C false w t c G1∧∀ q∈G1,I.Z q∨q∈I.F j:=by
       match e,e1,h1 with
       | .t x,e1,h1=>
        cases e1
        obtain⟨G1,k1,k2⟩:=h1
        exact⟨G1,k1,fun q hq=>.inl (k2 q hq)⟩
       | .rf i,e1,h1=>
        rw [frzE] at e1
        split at e1
        · rename_i hb
          cases e1
          have hij:i=j:=Nat.eq_of_beq_eq_true hb
          subst hij
          have hv:c=I.hd i:=h1.1
          exact⟨I.F i,by rw [hv];exact hC.read,fun q hq=>.inr hq⟩
        cases e1
      obtain⟨G1,k1,k2⟩:=key
      refine⟨G1++G2,?_,fun q hq=>?_⟩
      · simp only [Ms]
        exact⟨c,G1,G2,hc 0 c rfl,k1,g1,rfl⟩
      rcases List.mem_append.1 hq with hq|hq
      · exact k2 q hq
      exact g2 q hq
    cases hm
  cases hm
theorem Le.frzBox (id j d:Nat) {n k:Nat} {sl:List (Nat×(Bool×S))} {rs:List (Nat×R)} {xs:List T} {cs:List E} {rows:List (List T)} (hne:Nat.beq j id=false) (h1:look rs id=some (.box cs)) (h3:look rs j=some (.row k rows)) (h4:look ((⟨n,sl,rs⟩:St).chg id (.hdr none undef)).res j=some (.row k rows)) (hcs:mapO (frzE j k rows) cs=some xs) (h2:look sl d=some (true,.a (.one (.pp id 0)))) :
 Le ⟨n,sl,rs⟩ ⟨n,(d,(true,.a (.one (.t (.ad xs)))))::(((⟨n,sl,rs⟩:St).chg id (.hdr none undef)).chg j (.hdr none undef)).slots,(((⟨n,sl,rs⟩:St).chg id (.hdr none undef)).chg j (.hdr none undef)).res⟩:=by
 rintro w0 a w ⟨I,hr⟩
 have hji:j≠id:=fun e=>by subst e;rw [Nat.beq_refl] at hne;cases hne
 have hC:C true w (.sl k rows) (I.hd j) (I.F j):=hr.res j _ h3
 have hbox:=hr.res id _ h1
 obtain⟨hF,vs,e,hb,hvs⟩:=hbox
 have hpp:VS I w (true,.a (.one (.pp id 0))) (a.tmps.getD d undef):=hr.slots d _ h2
 have hpp:a.tmps.getD d undef=.pointer (some ⟨I.B id,0,none⟩):=hpp
 have hlt:I.B id<w.heap.size:=(Array.getElem?_eq_some_iff.1 hb).1
 have s1:=hr.chg h1 (Chg.refl w _) (G:=[]) (u:=undef) (r:=.hdr none undef) ⟨List.nodup_nil,by simp⟩ ⟨by simp [Ip.set],fun i h=>by cases h⟩
 have hno:∀ i,I.B id∉(I.set id [] undef (I.B id)).F i:=fun i hi=>by
  by_cases e:i=id
  · subst e;simp [Ip.set] at hi
  simp only [Ip.set,if_neg e] at hi
  exact hr.apart i id e _ hi (by rw [hF];simp)
 have s2:=s1.also (G:=[I.B id]) fun b hb'=>by
  rw [List.mem_singleton] at hb';subst hb'
  exact⟨hlt,hno⟩
 have hFj:((I.set id [] undef (I.B id)).also [I.B id]).F j=I.F j:=by show (I.set id [] undef (I.B id)).F j=_;simp [Ip.set,hji]
 have s3:=s2.chg (id:=j) (r0:=.row k rows) h4 (Chg.refl w _) (G:=[]) (u:=undef) (r:=.hdr none undef) ⟨List.nodup_nil,by simp⟩ ⟨by simp [Ip.set],fun i h=>by cases h⟩
 have s4:=s3.also (G:=I.F j) fun b hb'=>by
  refine⟨(hr.lt j b hb').1,fun i hi=>?_⟩
  by_cases e:i=j
  · subst e;simp [Ip.set] at hi
  simp only [Ip.set,if_neg e] at hi
  by_cases e2:i=id
  · subst e2
    have hi':b∈(I.set i [] undef (I.B i)).F i:=hi
    simp [Ip.set] at hi'
  have hi':b∈(I.set id [] undef (I.B id)).F i:=hi
  simp only [Ip.set,if_neg e2] at hi'
  exact hr.apart i j e _ hi' hb'
 obtain⟨G,g1,g2⟩:=Ms_frz (b:=I.B id) hC cs xs vs 0 hcs hvs fun q v hq=>by
  rw [Nat.zero_add]
  simp [World.cell?,hb,hq]
 refine⟨_,⟨s4.ext,s4.defers,s4.size,fun i x hx=>?_,s4.res,s4.old,s4.lt,s4.own,s4.apart⟩⟩
 rw [look_cons] at hx
 by_cases ei:d=i
 · rw [if_pos ei] at hx
   cases hx
   subst ei
   refine⟨I.B id::G,?_,fun b hb'=>?_⟩
   · rw [hpp]
     simp only [C]
     exact⟨I.B id,0,G,rfl,rfl,hlt,g1⟩
   rcases List.mem_cons.1 hb' with rfl|hb'
   · exact .inl (.inr (by simp))
   rcases g2 b hb' with h|h
   · exact .inl (.inl h)
   exact .inr h
 rw [if_neg ei] at hx
 exact s4.slots i x hx
end Go.Q
namespace Go.Q
open Go.RowKit
section
variable {P:Program} {ops:Array Oper} {o:Oper} {σ:St} {q:Bool}
theorem guard_str {op:BinOp} {t:TypeId} {x y:Operand} {a b:ByteArray} (w:World):(eqGuard op t x y (.string a) (.string b)).run P w=.ok () w:=by
 unfold eqGuard;split<;>rfl
theorem str_eq (a b:ByteArray):(a.toList == b.toList)=decide (a=b):=by
 rw [Bool.eq_iff_iff,beq_iff_eq,decide_eq_true_eq]
 exact⟨fun h=>by
  rw [ByteArray.toList_eq,ByteArray.toList_eq] at h
  exact ByteArray.ext (Array.toList_inj.1 h),fun h=>by rw [h]⟩
theorem R_cat {t t':TypeId} {x y:Operand} {a b:ByteArray} (ho:o.op=.binOp .add t x y t') (hg:Grd ops o σ q) (hd:o.dst.all (fun d=>Nat.blt d σ.n)=true) (hx:Get σ q x (.one (.t (.v (.string a))))) (hy:Get σ q y (.one (.t (.v (.string b)))))
 (hb:q=true→a.size+b.size≤9223372036854775807):Op1 P ops o σ (σ.put o.dst (q,.a (.one (.t (.v (.string (a++b))))))):=
 Dq ho hg hd hx hy guard_str (h:=fun hq w=>by
  have:=hb hq
  simp only [binOp,Op.stringOp]
  rw [if_neg (show ¬ (((a.size+b.size:Nat):Int)>IntKind.i64.max) by rw [show IntKind.i64.max=9223372036854775807 from rfl];omega)]
  rfl)
theorem R_eqstr {t t':TypeId} {x y:Operand} {a b:ByteArray} (ho:o.op=.binOp .eql t x y t') (hg:Grd ops o σ q) (hd:o.dst.all (fun d=>Nat.blt d σ.n)=true) (hx:Get σ q x (.one (.t (.v (.string a))))) (hy:Get σ q y (.one (.t (.v (.string b))))) :
 Op1 P ops o σ (σ.put o.dst (q,.a (.one (.t (.v (.bool (decide (a=b)))))))):=
 Dq ho hg hd hx hy guard_str (h:=fun hq w=>by simp only [binOp,Op.stringOp,str_eq];rfl)
theorem R_strIndex {t:TypeId} {x y:Operand} {s:ByteArray} {n:Int} {b:UInt8} (ho:o.op=.index t x y) (hg:Grd ops o σ q) (hd:o.dst.all (fun d=>Nat.blt d σ.n)=true) (hx:Get σ q x (.one (.t (.v (.string s))))) (hy:Get σ q y (.one (.t (.v (.int .i64 n)))))
 (hu:P.underlying t=some .string) (hi:q=true→0≤n∧s[n.toNat]?=some b):Op1 P ops o σ (σ.put o.dst (q,.a (.one (.t (.v (.int .u8 b.toNat)))))):=
 .val hg hd fun I w0 a w hr hq=>⟨_,by
  obtain⟨h0,h1⟩:=hi hq
  simp [execOp,ho,hx.int hr hq,hy.int hr hq,Instr.index,asIntOf,run_underlying hu,h0,h1],VS_v _⟩
theorem R_strSlice {t:TypeId} {x:Operand} {lo hi:Option Operand} {n m:Nat} {s:ByteArray} (ho:o.op=.slice t x lo hi none) (hg:Grd ops o σ q) (hd:o.dst.all (fun d=>Nat.blt d σ.n)=true) (hx:Get σ q x (.one (.t (.v (.string s)))))
 (hl:Bnd σ q lo 0 n) (hh:Bnd σ q hi s.size m) (hu:P.underlying t=some .string) (hb:q=true→n≤m∧m≤s.size):Op1 P ops o σ (σ.put o.dst (q,.a (.one (.t (.v (.string (s.extract n m))))))):=
 .val hg hd fun I w0 a w hr hq=>⟨_,by
  obtain⟨b1,b2⟩:=hb hq
  have b3:n≤s.size:=Nat.le_trans b1 b2
  have hs:=hx.int hr hq
  have hlo:=hl.val hr hq
  have hhi:=hh.val hr hq
  rcases hlo with ⟨e1,rfl⟩|e1<;>rcases hhi with ⟨e2,rfl⟩|e2<;>simp [execOp,ho,hs,e1,e2,Instr.sliceAt,Instr.slice,run_underlying hu,Instr.sliceBounds,Instr.sliceBound,asIntOf,b1,b2,b3],VS_v _⟩
end
end Go.Q
namespace Go.Q
open Go.RowKit
section
variable {P:Program} {ops:Array Oper} {o:Oper} {σ:St}
theorem R_load_hd {d nid hid k:Nat} {c0:Value} {rows:List (List T)} (h:Op1 P ops o σ (σ.put o.dst (true,.a (.one (.t (.v c0)))))) (hdst:o.dst=some d) (hh:look σ.res hid=some (.hdr (some nid) c0)) (hs:look σ.res nid=some (.row k rows)) :
 Op1 P ops o σ (σ.put o.dst (true,.a (.one (.rf nid)))):=fun w0 a w hr K Q hK=>h w0 a w hr K Q fun a' w' hr'=>hK a' w' (by
 rw [hdst] at hr' ⊢
 obtain⟨I,g⟩:=hr'
 refine⟨I,g.ext,g.defers,g.size,fun i x hi=>?_,g.res,g.old,g.lt,g.own,g.apart⟩
 have hi2:look ((d,(true,S.a (.one (.rf nid))))::σ.slots) i=some x:=hi
 clear hi
 rw [look_cons] at hi2
 by_cases e:d=i
 · subst e
   rw [if_pos rfl] at hi2
   cases hi2
   have h1:VS I w' (true,.a (.one (.t (.v c0)))) (a'.tmps.getD d undef):=g.slots d _ (by show look ((d,_)::σ.slots) d=_;rw [look_cons,if_pos rfl])
   obtain⟨G,k1,_⟩:VE I w' (.t (.v c0)) (a'.tmps.getD d undef):=h1
   simp only [C] at k1
   have k2:I.hd nid=c0:=(g.res _ _ hh).2 nid rfl
   have hC:C true w' (.sl k rows) (I.hd nid) (I.F nid):=g.res nid _ hs
   simp only [C] at hC
   obtain⟨a1,l1,c1,e1,_⟩:=hC
   exact show VE I w' (.rf nid) _ from ⟨by rw [k1.1,k2],a1,l1,c1,by rw [k1.1,←k2,e1]⟩
 rw [if_neg e] at hi2
 exact g.slots i x (by show look ((d,_)::σ.slots) i=_;rw [look_cons,if_neg e];exact hi2))
theorem R_load_hdr {d nid hid k2:Nat} {c0:Value} {rows2:List (List T)} {id k i p:Nat} {t:TypeId} {x:Operand} {rows:List (List T)} {row:List T} {ag:Bool} {n:Nat} (ho:o.op=.load t x) (hg:Grd ops o σ true) (hd:o.dst.all (fun d=>Nat.blt d σ.n)=true) (hx:Get σ true x (.one (.pr id k i p))) (hs:look σ.res id=some (.row k rows)) (hi:rows[i]?=some row) (ht:tyB P t ag n=true)
 (hn:Nat.ble (p+n) row.length=true) (h1:(ag||Nat.beq n 1)=true) (hc:mkA ag (((row.drop p).take n).map (toE id))=.one (.t (.v c0))) (hdst:o.dst=some d) (hh:look σ.res hid=some (.hdr (some nid) c0)) (hs2:look σ.res nid=some (.row k2 rows2)) :
 Op1 P ops o σ (σ.put o.dst (true,.a (.one (.rf nid)))):=
 R_load_hd (c0:=c0) (by have:=Bu ho hg hd hx hs hi ht hn h1;rw [hc] at this;exact this) hdst hh hs2
end
end Go.Q
namespace Go.Q
open Go.RowKit
section
variable {P:Program} {ops:Array Oper} {o:Oper} {σ:St} {q:Bool}
theorem run_byteStr {w:World} {n:Int} {v:Value} {G:List Nat} (h:C false w (.sl 1 [[.v (.int .u8 n)]]) v G):(Conv.bytesToString v).run P w=.ok (.string ⟨#[UInt8.ofNat n.toNat]⟩) w:=by
 simp only [C] at h
 obtain⟨a,len,cap,rfl,e1,e2,e3,e4⟩:=h
 have e1:len=1:=by simpa using e1.symm
 subst e1
 rcases e4 with ⟨h0,_⟩|⟨b,off,G',rfl,_,hb,_,hR⟩
 · omega
 simp only [Rws,Ms,C] at hR
 obtain⟨_,_,_,⟨c,_,_,hc,⟨rfl,_⟩,_⟩,_⟩:=hR
 have hl:=run_loadCells_list (P:=P) w ⟨b,off,none⟩ [.int .u8 n] (fun j u hj=>by
  cases j with
  | zero=>cases hj;rw [Addr.add_lit];simpa using hc
  | succ j=>cases hj)
 simp only [List.length_singleton] at hl
 simp [Conv.bytesToString,hl]
 rfl
theorem R_byteStr {t t' e:TypeId} {x:Operand} {n:Int} (ho:o.op=.convert t t' x) (hg:Grd ops o σ q) (hd:o.dst.all (fun d=>Nat.blt d σ.n)=true) (hx:Get σ q x (.one (.t (.sl 1 [[.v (.int .u8 n)]]))))
 (hu:P.underlying t=some (.slice e)) (he:P.underlying e=some (.int .u8)) (hu':P.underlying t'=some .string):Op1 P ops o σ (σ.put o.dst (q,.a (.one (.t (.v (.string ⟨#[UInt8.ofNat n.toNat]⟩)))))):=
 .val hg hd fun I w0 a w hr hq=>by
  obtain⟨G,h1,_⟩:VE I w (.t (.sl 1 [[.v (.int .u8 n)]])) (a.eval x):=hx.va hr hq
  have hb:=run_byteStr (P:=P) h1
  have hs:=h1
  simp only [C] at hs
  obtain⟨ad,len,cap,e0,_⟩:=hs
  exact⟨_,by
   rw [e0] at hb
   simp [execOp,ho,e0,Go.convert,run_underlying hu,run_underlying hu',run_underlying he,hb],VS_v _⟩
end
end Go.Q
set_option maxHeartbeats 1000000
set_option maxRecDepth 100000
namespace Go.Q
open Go.D
def bs (l:List UInt8):ByteArray:=⟨l.toArray⟩
theorem bs_append (l m:List UInt8):bs l++bs m=bs (l++m):=by
 apply ByteArray.ext
 rw [ByteArray.data_append]
 simp [bs]
theorem bs_nil_append (O:ByteArray):bs []++O=O:=by
 apply ByteArray.ext
 rw [ByteArray.data_append]
 simp [bs]
theorem bs_size (l:List UInt8):(bs l).size=l.length:=by simp [bs,ByteArray.size]
theorem bs_list (l:List UInt8):(bs l).data.toList=l:=by simp [bs]
theorem bs_inj {l m:List UInt8} (h:bs l=bs m):l=m:=by rw [←bs_list l,←bs_list m,h]
def numS (n:Int):List UInt8:=Lib.decDigits n.toNat
theorem dig_small {n:Nat} (h:n<10):Lib.decDigits n=[UInt8.ofNat (48+n)]:=by rw [Lib.decDigits,dif_pos h]
theorem dig_more {n:Nat} (h:10≤n):Lib.decDigits n=Lib.decDigits (n / 10)++[UInt8.ofNat (48+n%10)]:=by rw [Lib.decDigits,dif_neg (by omega)]
theorem dig_len {n:Nat} (h:n<100):1≤(Lib.decDigits n).length∧(Lib.decDigits n).length≤2:=by
 by_cases h1:n<10
 · rw [dig_small h1];simp
 rw [dig_more (by omega),dig_small (by omega)];simp
theorem numS_len {n:Int} (h:n<100):1≤(numS n).length∧(numS n).length≤2:=dig_len (by omega)
def restD (n:Nat):List UInt8:=if n=0 then [] else Lib.decDigits n
theorem restD_step {n:Nat} (h:n≠0):restD n=restD (n / 10)++[UInt8.ofNat (48+n%10)]:=by
 unfold restD
 rw [if_neg h]
 by_cases h1:n<10
 · rw [dig_small h1,if_pos (by omega),Nat.mod_eq_of_lt h1];rfl
 rw [dig_more (by omega),if_neg (by omega)]
def cStr (s:List UInt8):List T:=[.v (.string (bs s))]
end Go.Q
namespace Go.Q
open Go.RowKit
theorem Le.putR {σ:St} {nid hid id k i p k2:Nat} {c0:Value} {rows rows2:List (List T)} {row:List T} (hh:look σ.res hid=some (.hdr (some nid) c0)) (hn:look σ.res nid=some (.row k2 rows2)) (hs:look σ.res id=some (.row k rows)) (hi:rows[i]?=some row) (hp:row[p]?=some (.v c0))
 (e1:Nat.beq id nid=false) (e2:Nat.beq id hid=false) (e3:Nat.beq nid hid=false):Le σ (((σ.kill hid).kill nid).upd id (.row k (rows.set i (row.take p++.sl k2 rows2::row.drop (p+1))))):=by
 rintro w0 a w ⟨I,hr⟩
 have hc:I.hd nid=c0:=(hr.res _ _ hh).2 nid rfl
 have hC2:C true w (.sl k2 rows2) (I.hd nid) (I.F nid):=hr.res nid _ hn
 have own2:=hr.own nid _ hn
 have ap:=hr.apart id nid (beq_ne e1)
 obtain⟨q1,_,_⟩:=hr.kill hh
 have hn':=look_kill (beq_ne e3) hn
 obtain⟨q2,qf,_⟩:=q1.kill hn'
 have hs':=look_kill (beq_ne e1) (look_kill (beq_ne e2) hs)
 have hC:C true w (.sl k rows) _ _:=hr.res id _ hs
 have own:=hr.own id _ hs
 simp only [C] at hC
 obtain⟨a0,len,cap,g1,g2,g3,g4,g5⟩:=hC
 have hlti:i<rows.length:=(List.getElem?_eq_some_iff.1 hi).1
 rcases g5 with ⟨g5,_⟩|⟨g,off,Gr,rfl,hF,g6,g7,g8⟩
 · omega
 obtain⟨rfl,cur,e,hcur,hcs⟩:=g7 trivial
 have hF2:((I.set hid [] (I.hd hid) (I.B hid)).set nid [] ((I.set hid [] (I.hd hid) (I.B hid)).hd nid) ((I.set hid [] (I.hd hid) (I.B hid)).B nid)).F id=g::Gr:=by
  simp only [Ip.set,if_neg (beq_ne e1),if_neg (beq_ne e2)];exact hF
 have hF1:(I.set hid [] (I.hd hid) (I.B hid)).F nid=I.F nid:=by simp only [Ip.set,if_neg (beq_ne e3)]
 have hhd:((I.set hid [] (I.hd hid) (I.B hid)).set nid [] ((I.set hid [] (I.hd hid) (I.B hid)).hd nid) ((I.set hid [] (I.hd hid) (I.B hid)).B nid)).hd id=I.hd id:=by
  simp only [Ip.set,if_neg (beq_ne e1),if_neg (beq_ne e2)]
 rw [hF] at own ap
 obtain⟨u1,xs,u2,u3,u4⟩:=g8.flat
 simp only [Nat.zero_add] at u4
 obtain⟨p1,_⟩:=set_split (.v c0:T) hp
 have hrk:row.length=k:=u1 row (List.mem_of_getElem? hi)
 have hpl:p<row.length:=(List.getElem?_eq_some_iff.1 hp).1
 have s1:=(set_split row hi).1
 have x0:rows.flatten=((rows.take i).flatten++row.take p)++([.v c0]++(row.drop (p+1)++(rows.drop (i+1)).flatten)):=by
  conv=>lhs;rw [s1,p1]
  simp
 rw [x0] at u2
 obtain⟨x1,x23,F1,F23,rfl,rfl,v1,v2,v3⟩:=u2.split
 obtain⟨x2,x3,F2,F3,rfl,rfl,v4,v5,v6⟩:=v2.split
 match x2,v6 with
 | [c],_=>
 rw [Cs] at v4
 obtain⟨c',cr,G1,G2,ec,y1,y2,rfl⟩:=v4
 cases ec
 rw [Cs] at y2
 obtain⟨_,rfl⟩:=y2
 simp only [C] at y1
 obtain⟨rfl,rfl,_⟩:=y1
 simp only [List.nil_append,List.append_nil] at *
 have hnd:=List.nodup_cons.1 own.1
 obtain⟨d1,d3,d13⟩:=List.nodup_append.1 hnd.2
 have apb:∀ b,b∈g::(F1++F3)→b∉I.F nid:=fun b hb=>ap b hb
 refine⟨_,q2.upd (G:=g::(F1++(I.F nid++F3))) (r:=.row k (rows.set i (row.take p++.sl k2 rows2::row.drop (p+1)))) hs' (Chg.refl w _) ⟨List.nodup_cons.2 ⟨fun hm=>?_,List.nodup_append.2 ⟨d1,List.nodup_append.2 ⟨own2.1,d3,fun b hb b' hb' ee=>?_⟩,fun b hb b' hb' ee=>?_⟩⟩,fun b hb=>?_⟩ ?_⟩
 · rcases List.mem_append.1 hm with hm|hm
   · exact hnd.1 (by simp [hm])
   rcases List.mem_append.1 hm with hm|hm
   · exact apb g (by simp) hm
   exact hnd.1 (by simp [hm])
 · subst ee
   exact apb b (by simp [hb']) hb
 · subst ee
   rcases List.mem_append.1 hb' with hb'|hb'
   · exact apb b (by simp [hb]) hb'
   exact d13 b hb b hb' rfl
 · have hcase:b∈g::(F1++F3)∨b∈I.F nid:=by
    rcases List.mem_cons.1 hb with rfl|hb
    · exact .inl (by simp)
    rcases List.mem_append.1 hb with hb|hb
    · exact .inl (by simp [hb])
    rcases List.mem_append.1 hb with hb|hb
    · exact .inr hb
    exact .inl (by simp [hb])
   rcases hcase with hb|hb
   · obtain⟨o1,cc,ee,o2⟩:=own.2 b hb
     exact⟨o1,(Array.getElem?_eq_some_iff.1 o2).1,⟨cc,ee,o2⟩,.inl (by rw [hF2];exact hb)⟩
   obtain⟨o1,cc,ee,o2⟩:=own2.2 b hb
   exact⟨o1,(Array.getElem?_eq_some_iff.1 o2).1,⟨cc,ee,o2⟩,.inr (.inr (qf b (by rw [hF1];exact hb)))⟩
 show C true _ _ _ _
 simp only [Ip.set,if_true]
 rw [if_neg (beq_ne e1),if_neg (beq_ne e2)]
 unfold C
 refine⟨_,_,_,g1,by simpa using g2,g3,g4,.inr ⟨g,0,F1++(I.F nid++F3),rfl,rfl,g6,fun _=>⟨rfl,cur,e,hcur,hcs⟩,Rws.of (xs:=x1++([I.hd nid]++x3)) (fun r hm=>?_) ?_ fun j u hj=>?_⟩⟩
 · rcases List.mem_or_eq_of_mem_set hm with hm|rfl
   · exact u1 r hm
   simp only [List.length_append,List.length_take,List.length_cons,List.length_drop]
   omega
 · rw [(set_split (row.take p++.sl k2 rows2::row.drop (p+1)) hi).2]
   have ef:(rows.take i++(row.take p++.sl k2 rows2::row.drop (p+1))::rows.drop (i+1)).flatten=((rows.take i).flatten++row.take p)++([.sl k2 rows2]++(row.drop (p+1)++(rows.drop (i+1)).flatten)):=by simp
   rw [ef]
   refine v1.append (Cs.append ?_ v5)
   simp only [Cs]
   exact⟨_,_,_,_,rfl,hC2,⟨rfl,rfl⟩,by simp⟩
 rw [hc] at hj
 simp only [Nat.zero_add]
 exact u4 j u hj
end Go.Q
set_option maxHeartbeats 1000000
set_option maxRecDepth 100000
namespace Go.Q
open Go.D
theorem good_cases {x:Tr} (hg:good x):0≤x.tok.Low∧x.tok.Low≤3∧((x.kids=[]∧(x.tok.Kind=1∨x.tok.Kind=2∨x.tok.Kind=3))∨(∃ y,x.kids=[y]∧(x.tok.Kind=6∨x.tok.Kind=7))∨(∃ y z,x.kids=[y,z]∧(x.tok.Kind=4∨x.tok.Kind=5))):=by
 have ha:=good_arity hg
 have hk:=kids_le x
 have hl:x.kids.length=0∨x.kids.length=1∨x.kids.length=2:=by omega
 have harr:arity x.tok≥0:=by omega
 have key:0≤x.tok.Low∧x.tok.Low≤3∧(arity x.tok=0→x.tok.Kind=1∨x.tok.Kind=2∨x.tok.Kind=3)∧(arity x.tok=1→x.tok.Kind=6∨x.tok.Kind=7)∧(arity x.tok=2→x.tok.Kind=4∨x.tok.Kind=5):=by
  revert harr
  unfold arity zerT inB
  intro harr
  repeat' split at harr
  all_goals first|omega|(simp_all<;>omega)
 refine⟨key.1,key.2.1,?_⟩
 rcases hl with h|h|h
 · exact .inl ⟨List.eq_nil_of_length_eq_zero h,key.2.2.1 (by omega)⟩
 · obtain⟨y,hy,_⟩:=kids_one hg (by omega)
   exact .inr (.inl ⟨y,hy,key.2.2.2.1 (by omega)⟩)
 obtain⟨y,z,hy,_⟩:=kids_two hg (by omega)
 exact .inr (.inr ⟨y,z,hy,key.2.2.2.2 (by omega)⟩)
theorem kind_two' {x:Tr} (hg:good x) (h:x.tok.Kind=4∨x.tok.Kind=5):∃ y z,x.kids=[y,z]∧toks x=toks y++toks z++[x.tok]∧good y∧good z:=by
 rcases (good_cases hg).2.2 with ⟨_,h1⟩|⟨y,_,h1⟩|⟨y,z,h1,_⟩
 · omega
 · omega
 exact kids_two hg (by rw [good_arity hg,h1];rfl)
theorem kind_one' {x:Tr} (hg:good x) (h:x.tok.Kind=6∨x.tok.Kind=7):∃ y,x.kids=[y]∧toks x=toks y++[x.tok]∧good y:=by
 rcases (good_cases hg).2.2 with ⟨_,h1⟩|⟨y,h1,_⟩|⟨y,z,_,h1⟩
 · omega
 · exact kids_one hg (by rw [good_arity hg,h1];rfl)
 omega
theorem kind_no' {x:Tr} (hg:good x) (h:x.tok.Kind≠4∧x.tok.Kind≠5∧x.tok.Kind≠6∧x.tok.Kind≠7):x.kids=[]:=by
 rcases (good_cases hg).2.2 with ⟨h1,_⟩|⟨y,_,h1⟩|⟨y,z,_,h1⟩
 · exact h1
 · omega
 omega
end Go.Q
namespace Go.Proofs.YtbecibmlbiebeaaGreat
open Go.RowKit Go.Q Go.D
end Go.Proofs.YtbecibmlbiebeaaGreat
namespace Go.D
open Go.Q
end Go.D
set_option maxHeartbeats 1000000
set_option maxRecDepth 100000
namespace Go.Q
open Go.D
end Go.Q
namespace Go.Proofs.YtbecibmlbiebeaaGreat
open Go.RowKit Go.Q Go.D
end Go.Proofs.YtbecibmlbiebeaaGreat
set_option maxHeartbeats 1000000
set_option maxRecDepth 100000
namespace Go.Q
open Go.D
end Go.Q
namespace Go.Proofs.YtbecibmlbiebeaaGreat
open Go.RowKit Go.Q Go.D
end Go.Proofs.YtbecibmlbiebeaaGreat
set_option maxHeartbeats 1000000
set_option maxRecDepth 100000
namespace Go.Q
open Go.D
def letNames:List (List UInt8):=[[97],[97,45],[98],[98,45],[99],[99,45],[48],[49],[50]]
def letS (k:Int):List UInt8:=letNames[k.toNat]?.getD []
theorem letS_get {k:Int} (h0:0≤k) (h8:k≤8):(letNames.map cStr)[k.toNat]?=some (cStr (letS k)):=by
 have hk:k.toNat<letNames.length:=by simp [letNames];omega
 rw [List.getElem?_map,List.getElem?_eq_getElem hk]
 unfold letS
 rw [List.getElem?_eq_getElem hk];rfl
end Go.Q
set_option maxHeartbeats 1000000
set_option maxRecDepth 100000
namespace Go.Q
open Go.D
end Go.Q
set_option maxHeartbeats 1000000
set_option maxRecDepth 100000
namespace Go.Q
open Go.D
end Go.Q
namespace Go.Proofs.YtbecibmlbiebeaaGreat
open Go.RowKit Go.Q Go.D
end Go.Proofs.YtbecibmlbiebeaaGreat
set_option maxHeartbeats 1000000
set_option maxRecDepth 100000
namespace Go.Q
open Go.D
end Go.Q
namespace Go.Proofs.YtbecibmlbiebeaaGreat
open Go.RowKit Go.Q Go.D
end Go.Proofs.YtbecibmlbiebeaaGreat
set_option maxHeartbeats 1000000
set_option maxRecDepth 100000
namespace Go.Q
open Go.D
structure LineOk (vs:List Int) (es:List TEdge):Prop where
 len:vs.length=es.length+1
 le:vs.length≤5
 val:∀ v∈vs,0≤v∧v≤2
 ed:∀ (k:Nat) (e:TEdge),es[k]?=some e→e.ID=(k:Int)+1∧(0≤e.From∧e.From≤(k:Int)+1)∧(0≤e.To∧e.To≤(k:Int)+1)∧0≤e.Label∧e.Label≤2
end Go.Q
namespace Go.Proofs.YtbecibmlbiebeaaGreat
open Go.RowKit Go.Q Go.D
end Go.Proofs.YtbecibmlbiebeaaGreat
set_option maxHeartbeats 1000000
set_option maxRecDepth 100000
namespace Go.Q
open Go.D
end Go.Q
namespace Go.Proofs.YtbecibmlbiebeaaGreat
open Go.RowKit Go.Q Go.D
end Go.Proofs.YtbecibmlbiebeaaGreat
set_option maxHeartbeats 1000000
set_option maxRecDepth 100000
namespace Go.Q
open Go.D
def tokS (t:TToken):List UInt8:=
 if t.Kind=1 then [33] else if t.Kind=2 then [40,41] else if t.Kind=3 then letS t.Letter else if t.Kind=4 then [46] else if t.Kind=5 then [124] else if t.Kind=6 then [42]
 else [123]++numS t.Low++[44]++numS t.High++[125]
theorem depth_ar:∀ {l:List TToken} {d:Int},depthGo d l=true→∀ t∈l,0≤arity t
 | [],_,_=>fun t ht=>by cases ht
 | x::r,d,h=>by
  rw [depthGo] at h
  split at h
  · cases h
  rename_i hc
  intro t ht
  rcases List.mem_cons.1 ht with rfl|ht
  · omega
  exact depth_ar h t ht
theorem valid_toks {e:TExpr} (h:isValidExpr e=true):e.Tokens.length≤24∧∀ t∈e.Tokens,0≤arity t:=by
 unfold isValidExpr isExpr at h
 simp only [Bool.and_eq_true,decide_eq_true_eq] at h
 exact⟨h.1,depth_ar h.2⟩
theorem tok_rep {t:TToken} (h:0≤arity t) (h1:t.Kind≠1) (h2:t.Kind≠2) (h3:t.Kind≠3) (h4:t.Kind≠4) (h5:t.Kind≠5) (h6:t.Kind≠6):(0≤t.Low∧t.Low≤3)∧0≤t.High∧t.High≤3:=by
 unfold arity at h
 rw [if_neg (by omega),if_neg h3,if_neg (by omega),if_neg h6] at h
 split at h
 · split at h
   · rename_i hc
     simp only [inB,Bool.and_eq_true,decide_eq_true_eq] at hc
     omega
   omega
 omega
theorem tok_let {t:TToken} (h:0≤arity t) (h3:t.Kind=3):0≤t.Letter∧t.Letter≤8:=by
 unfold arity at h
 rw [if_neg (by omega),if_pos h3] at h
 split at h
 · rename_i hc
   simp only [inB,Bool.and_eq_true,decide_eq_true_eq] at hc
   omega
 omega
end Go.Q
set_option maxHeartbeats 1000000
set_option maxRecDepth 100000
namespace Go.Q
open Go.D
theorem good_c2 {g:TGraph} {a:TAutomaton} (h:goodC g a=true):validG g=true∧validA a=true:=by unfold goodC at h;simpa using h
end Go.Q
namespace Go.Proofs.YtbecibmlbiebeaaGreat
open Go.RowKit Go.Q Go.D
end Go.Proofs.YtbecibmlbiebeaaGreat
set_option maxHeartbeats 1000000
set_option maxRecDepth 100000
namespace Go.Q
open Go.D
section
variable {rel:Nat→Nat→Bool}
end
structure OrdF (N n:Nat) (C:Nat→Int) (r:Nat→Nat→Bool) (e:Nat→Nat→Prop):Prop where
 tr:∀ a b c,a<N→b<N→c<N→r a b=true→r b c=true→r a c=true
 ed:∀ a b,a<N→b<N→e a b→r a b=true
 pa:∀ a b,a<N→b<N→r a b=true→∀ Q:Nat→Prop,(∀ x y,x<N→y<N→e x y→Q y→Q x)→Q b→Q a
 co:∀ a b,a<N→b<N→(C a=C b↔a=b∨(r a b=true∧r b a=true))
 su:∀ c:Nat,c<n→∃ i,i<N∧C i=(c:Int)
 lt:∀ a,a<N→0≤C a∧C a<n
structure OI (N n:Nat) (C:Nat→Int) (r:Nat→Nat→Bool) (out:List Int):Prop where
 nd:out.Nodup
 rg:∀ c∈out,0≤c∧c<n
 cl:∀ c∈out,∀ i k,i<N→k<N→C k=c→r i k=true→C i∈out
def freeS (N:Nat) (C:Nat→Int) (r:Nat→Nat→Bool) (out:List Int) (c:Int):Prop:=c∉out∧∀ i k,i<N→k<N→C k=c→C i≠c→r i k=true→C i∈out
section
variable {N n:Nat} {C:Nat→Int} {r:Nat→Nat→Bool} {e:Nat→Nat→Prop} {out:List Int} {c:Int}
theorem OI.add (h:OI N n C r out) (hf:freeS N C r out c) (hc:0≤c∧c<n):OI N n C r (out++[c]):=by
 refine⟨?_,fun d hd=>?_,fun d hd i k hi hk a1 a2=>?_⟩
 · rw [List.nodup_append]
   refine⟨h.nd,by simp,fun a ha b hb=>?_⟩
   rw [List.mem_singleton] at hb
   subst hb;exact fun e=>hf.1 (by rw [←e];exact ha)
 · rcases List.mem_append.1 hd with hd|hd
   · exact h.rg d hd
   rw [List.mem_singleton] at hd;subst hd;exact hc
 rw [List.mem_append,List.mem_singleton]
 rcases List.mem_append.1 hd with hd|hd
 · exact .inl (h.cl d hd i k hi hk a1 a2)
 rw [List.mem_singleton] at hd
 subst hd
 by_cases g:C i=d
 · exact .inr g
 exact .inl (hf.2 i k hi hk a1 g a2)
end
end Go.Q
namespace Go.Q
open Go.D
end Go.Q
set_option maxHeartbeats 1000000
set_option maxRecDepth 100000
namespace Go.Q
open Go.D
def tok0 (k:Int):TToken:=⟨k,0,0,0⟩
end Go.Q
namespace Go.Proofs.YtbecibmlbiebeaaGreat
open Go.RowKit Go.Q Go.D
theorem specl8Leaf (k:Int):FnT Tryz.prog 194 [.one (.v (.int .i64 k))] (.a (.agg (cExpr ⟨[tok0 k]⟩))):=by
 refine A7 Tryz.func194 U (by kernel_rfl) Tryz.ntmps194 U fun hlen w0=>?_
 try simp [cToken,cExpr] at hlen
 refine Af (A6 (Bi 2 U U U Df U U U) U ?_);refine Aa (Af (Ab ?_));refine Ad (Bo (ps:=[(0,.tmp 3)]) U U U Dl U U st88 (.cons (.tm U) U U Dd .nil) U) U ?_;refine Bn (Ce (xs:=[.tmp 4]) 5 U U U (.cons (.tm U) U U .nil) Tryz.underlying24 Dl U U U U) U ?_;refine Ad (Bo (ps:=[(0,.tmp 5)]) U U U Df U U st26 (.cons (.tm U) U U fp26_0 .nil) U) U ?_;refine Az Cd ?_;refine Aa (Am (Res.one U (.cell U U Cd U U .nil) U ?_))
 rfl
theorem specl8Copy (l:List TToken) (hz:l.length≤4194304):FnT Tryz.prog 195 [.one (.sl 4 (l.map cToken))] (.a (.agg (cExpr ⟨l⟩))):=by
 refine A7 Tryz.func195 U (by kernel_rfl) Tryz.ntmps195 U fun hlen w0=>?_
 try simp [cToken,cExpr] at hlen
 refine Af (A6 (Bi 2 U U U Df U U U) U ?_);refine Aa (Af (A6 (Cu 3 U U U Tryz.underlying24 Co U) U ?_));refine Ab ?_;refine Bl (Bw U U U (.tm U) U (.tm U) (by exact .t) (by exact isV_map (fun _=>rfl) _) Tryz.underlying24 Dl U (by (simp [chunk];omega)) (by (unfold maxLen;simp [chunk];omega))) U ?_;refine Bq (Av [0,2,5] [2,3]) ?_;refine Ad (Bo (ps:=[(0,.tmp 5)]) U U U Df U U st26 (.cons (.tm U) U U fp26_0 .nil) U) U ?_;refine Az Cd ?_;refine Aa (Am (Res.one U (.cell U U Cd U U .nil) U ?_))
 rfl
theorem specl8Join (a b:TExpr) (t:TToken) (hz:a.Tokens.length+b.Tokens.length≤4194304):FnT Tryz.prog 196 [.agg (cExpr a),.agg (cExpr b),.agg (cToken t)] (.a (.agg (cExpr ⟨a.Tokens++b.Tokens++[t]⟩))):=by
 refine A7 Tryz.func196 U (by kernel_rfl) Tryz.ntmps196 U fun hlen w0=>?_
 try simp [cToken,cExpr] at hlen
 refine Af (Ad (Bm U U U (.tm U) (ts:=_) (by rfl)) U ?_);refine Ad (Bm U U U (.tm U) (ts:=_) (by rfl)) U ?_;refine Ad (Bm U U U (.tm U) (ts:=_) (by rfl)) U ?_;refine A6 (Bi 6 U U U Df U U U) U ?_;refine Aa (Af (Bg Di ?_));refine Aq ty24 ?_;refine Cc (Cq 1000 (specl8Copy _ (by omega)) U U U (.cons (.tm U) U .nil) U U) U ?_;refine A6 (Bi 7 U U U Df U U U) U ?_;refine Az Cd ?_;refine Aa (Af (Br Di ?_));refine A9 ty24 ?_;refine Bg Di ?_;refine Aq ty24 ?_;refine Bl (Bw U U U (.tm U) U (.tm U) (by exact .t) (by exact isV_map (fun _=>rfl) _) Tryz.underlying24 Dl U (by (simp [chunk];omega)) (by (unfold maxLen;simp [chunk];omega))) U ?_;refine Bq (Av [0,1,2,3,4,5,6,7,15] [6,1000,7]) ?_;refine Br Di ?_;refine Az ty24 ?_;refine Aa (Af (Br Di ?_));refine A9 ty24 ?_;refine Aq Co ?_;refine Bn (Ce (xs:=[.tmp 19]) 20 U U U (.cons (.tm U) U U .nil) Tryz.underlying24 Dl U U U U) U ?_
 refine Dr (R_append_own U U U (.tm U) U (.tm U) U U Tryz.underlying24 Dl U (by (simp [chunk];omega)) (by (unfold maxLen;simp [chunk];omega))) U ?_;refine Bq (Av [0,1,2,3,4,5,6,7,21] [6,1000,7]) ?_;refine Br Di ?_;refine Az ty24 ?_;refine Aa (Af (A9 Cd ?_));refine Az Cd ?_;refine Aa (Am (Res.one U (.cell U U Cd U U .nil) U ?_))
 simp [cExpr,unflT,cToken,chunk];rfl
end Go.Proofs.YtbecibmlbiebeaaGreat
set_option maxHeartbeats 1000000
set_option maxRecDepth 100000
namespace Go.Q
open Go.D
def splitL (c:UInt8):List UInt8→List (List UInt8)
 | []=>[[]]
 | b::l=>if b=c then []::splitL c l else (b::(splitL c l).headD [])::(splitL c l).tail
theorem splitL_no {c:UInt8}:∀ {l:List UInt8},c∉l→splitL c l=[l]
 | [],_=>rfl
 | b::l,h=>by
  unfold splitL
  rw [if_neg (fun e=>h (by simp [e])),splitL_no fun hm=>h (by simp [hm])]
  rfl
theorem splitL_hit {c:UInt8} {r:List UInt8}:∀ {l:List UInt8},c∉l→splitL c (l++c::r)=l::splitL c r
 | [],_=>by rw [List.nil_append,splitL,if_pos rfl]
 | b::l,h=>by
  rw [List.cons_append,splitL,if_neg (fun e=>h (by simp [e])),splitL_hit fun hm=>h (by simp [hm])]
  rfl
theorem splitL_len (c:UInt8):∀ l:List UInt8,(splitL c l).length=l.count c+1
 | []=>rfl
 | b::l=>by
  unfold splitL
  have ih:=splitL_len c l
  split
  · rename_i h;subst h;rw [List.length_cons,ih,List.count_cons_self]
  rename_i h
  rw [List.length_cons,List.length_tail,ih,List.count_cons_of_ne (by simpa using h)];omega
theorem cut_step {c b:UInt8} {l:List UInt8} {O:List (List UInt8)} {F i:Nat} (hb:l[i]?=some b) (hi:F≤i∧i≤l.length∧c∉(l.take i).drop F∧O.length≤i) (hbe:b=c) (he:splitL c l=O++splitL c (l.drop F)) :
 splitL c l=(O++[(l.take i).drop F])++splitL c (l.drop (i+1)):=by
 subst hbe
 have hl:=(List.getElem?_eq_some_iff.1 hb).1
 have e:l.drop F=(l.take i).drop F++b::l.drop (i+1):=by
  conv=>lhs;rw [←List.take_append_drop i l]
  rw [List.drop_append,List.length_take,show F-min i l.length=0 by omega,List.drop_zero,List.drop_eq_getElem_cons hl,(List.getElem?_eq_some_iff.1 hb).2]
 rw [he,e,splitL_hit hi.2.2.1]
 simp
theorem cut_keep {c b:UInt8} {l:List UInt8} {O:List (List UInt8)} {F i:Nat} (hb:l[i]?=some b) (hi:F≤i∧i≤l.length∧c∉(l.take i).drop F∧O.length≤i) (hbe:b≠c):c∉(l.take (i+1)).drop F:=by
 have hl:=(List.getElem?_eq_some_iff.1 hb).1
 rw [List.take_add_one,hb,List.drop_append,List.length_take]
 intro h
 rcases List.mem_append.1 h with h|h
 · exact hi.2.2.1 h
 rw [show F-min i l.length=0 by omega] at h
 simp at h
 exact hbe h.symm
theorem bs_get (l:List UInt8) (n:Nat):(bs l)[n]?=l[n]?:=by
 show (bs l).data[n]?=l[n]?
 simp [bs]
theorem bs_extract (l:List UInt8) (n m:Nat):(bs l).extract n m=bs ((l.take m).drop n):=by
 apply ByteArray.ext
 rw [ByteArray.data_extract]
 apply Array.ext'
 rw [Array.toList_extract,List.extract_eq_take_drop,bs_list]
 simp only [bs]
 rw [List.drop_take]
end Go.Q
namespace Go.Q
open Go.RowKit
section
variable {P:Program} {ops:Array Oper} {o:Oper} {σ:St} {q:Bool}
theorem wrapI {n:Int} (h:-9223372036854775808≤n∧n≤9223372036854775807):IntKind.i64.wrap n=n:=wrap_in h
def FrE (P:Program) (f:FuncId) (ins:List V0) (Out:V→Prop):Prop:=Callee P f∧∀ w vs F,Good w []→V0s false w ins vs F→Calls P f (List.toArray vs) w fun e w'=>∃ out,Out out∧FrPost w out e w'
theorem R_calle {f:FuncId} {l:List Operand} {tys:Array TypeId} {ins:List V0} {Out:V→Prop} (h:FrE P f ins Out) (ho:o.op=.call { callee:=.value (.func f),args:=l.toArray,argTypes:=tys }) (hg:o.guard=none) (hd:o.dst.all (fun d=>Nat.blt d σ.n)=true)
 (ha:Args σ true l ins):OpE P ops o σ fun σ'=>∃ out,Out out∧σ'=σ.put o.dst (true,inS out):=by
 rintro w0 a w ⟨I,hr⟩ K Q hK
 simp only [Region.wanted,hg,if_true]
 obtain⟨F,hF⟩:=ha.ok hr rfl
 unfold Oper.wp
 rw [run_enter h.1 ho]
 refine (h.2 w _ F hr.good hF).mono fun e w' hR=>?_
 obtain⟨out,hout,v,G,rfl,h1,h3,h4⟩:=hR
 have hr':=(hr.later h4).also (G:=G) fun b hb=>⟨Vr.lt h1 b hb,fun i hi=>by have:=(hr.lt i b hi).1;have:=h3 b hb;omega⟩
 exact hK _ _ _ ⟨out,hout,rfl⟩ ⟨_,hr'.put hd (VS_also h1 fun b hb=>.inr hb)⟩
end
end Go.Q
namespace Go.Q
open Go.RowKit
section
variable {P:Program} {ops:Array Oper} {o:Oper} {σ:St} {q:Bool}
end
end Go.Q
namespace Go.Q
open Go.RowKit
section
variable {P:Program} {ops:Array Oper} {o:Oper} {σ:St}
inductive GetL (σ:St):List Operand→List E→Prop where
 | nil:GetL σ [] []
 | cons {x:Operand} {e:E} {l:List Operand} {es:List E} (hx:Get σ true x (.one e)) (h:GetL σ l es):GetL σ (x::l) (e::es)
end
end Go.Q
set_option maxHeartbeats 1000000
set_option maxRecDepth 100000
namespace Go.Proofs.YtbecibmlbiebeaaGreat
open Go.RowKit Go.Q Go.D Go.Shelf
end Go.Proofs.YtbecibmlbiebeaaGreat
set_option maxHeartbeats 1000000
set_option maxRecDepth 100000
namespace Go.Q
open Go.RowKit
end Go.Q
namespace Go.Proofs.YtbecibmlbiebeaaGreat
open Go.RowKit Go.Q Go.D Go.Shelf
end Go.Proofs.YtbecibmlbiebeaaGreat
set_option maxHeartbeats 1000000
set_option maxRecDepth 100000
namespace Go.Q
open Go.D
end Go.Q
set_option maxHeartbeats 1000000
set_option maxRecDepth 100000
namespace Go.Proofs.YtbecibmlbiebeaaGreat
open Go.RowKit Go.Q Go.D Go.Shelf
end Go.Proofs.YtbecibmlbiebeaaGreat
set_option maxHeartbeats 1000000
set_option maxRecDepth 100000
namespace Go.Proofs.YtbecibmlbiebeaaGreat
open Go.RowKit Go.Q Go.D
theorem specFormatInt (n:Int) (h0:0≤n) (h1:n<100):FnT Tryz.prog 253 [.one (.v (.int .i64 n))] (.a (.one (.v (.string (bs (numS n)))))):=by
 obtain⟨n0,rfl⟩:=Int.eq_ofNat_of_zero_le h0
 refine A7 Tryz.func253 U (by kernel_rfl) Tryz.ntmps253 U fun hlen w0=>?_
 try simp [cToken,cExpr] at hlen
 have hn0:n0<100:=by omega
 refine Af (Ak ?_);refine Aa (Ae (Af (Ab ?_)));refine Bs ?_;refine Aa (Ai (.tm U) (fun h7=>?_) (fun h7=>?_))
 · try simp at h7
   refine Af (Ak ?_);refine Aa (Am (Bp U U ?_))
   (have e:n0=0:=(by omega);subst e;unfold numS;rw [dig_small (by simp)];rfl)
 try simp at h7
 refine Aj (Af (Ak ?_));refine Aa (Af (Ab ?_));refine Du ?_;refine Ag ?_;refine Aa (Ae (AW.block (Cz (fun (m:Nat) (O:ByteArray)=>(m<100∧O.size+2*m≤1000)∧bs (restD n0)=bs (restD m)++O) (fun (m:Nat) (O:ByteArray)=>⟨_,[(0,(true,.a (.one (.t (.v (.int .i64 (m:Nat))))))),(3,(true,.a (.one (.t (.v (.string O)))))),(2,_),(4,_)],[]⟩) (fun (m:Nat) (O:ByteArray)=>m) (n0) (⟨#[]⟩) ⟨⟨by omega,by simp [ByteArray.size];omega⟩,(by rw [show (⟨#[]⟩:ByteArray)=bs [] from U,bs_append,List.append_nil])⟩ (Ap U ⟨U,U,U,U,Y⟩ trivial) ?_)))
 rintro m O ⟨hk,he⟩
 refine Ae (Af (Ab ?_));refine AWl.nc ?_;refine Aa (Ai (.tm U) (fun h11=>?_) (fun h11=>?_))
 · try simp at h11
   have hm0:m≠0:=by (first|omega|(simp at h11;omega))
   refine Aj (AW.block (Af (Ab ?_)));refine Ad (R_rem U (.no U) U (.tm U) (.const U) (fun _=>by omega)) U ?_;refine Ag ?_;refine Aa (Ae (Af (Ab ?_)));refine Du ?_;refine Aa (Ai (.tm U) (fun h15=>?_) (fun h15=>?_))
   · exact absurd h15 (by (first|omega|(simp at h15;omega)))
   try simp at h15
   refine Aj (Ae (Ar (Av [0,2,3,4,5] []) ?_));refine Ac (Ab ?_);refine Ad (C7 U (.no U) U (.const U) (.tm U) (fun _=>by omega)) U ?_;refine Ad (R_conv U (.no U) U (.tm U) (by rw [Tryz.underlying3];rfl) Tryz.underlying5 (fun _=>(show IntKind.u8.wrap _=(48+(m:Int)%10) by simp [IntKind.wrap,IntKind.bits];omega))) U ?_;refine Ad (B7 (xs:=[.tmp 20]) (rows:=[[.v (.int .u8 (48+(m:Int)%10))]]) U U U (.cons (.tm U) U U .nil) Tryz.underlying22 in5 U U (U)) U ?_;refine Ad (R_byteStr U (.no U) U (.tm U) Tryz.underlying22 Tryz.underlying5 Tryz.underlying9) U ?_;refine Ab ?_;refine Ad (R_cat U (.no U) U (.tm U) (.tm U) (fun _=>by have:(⟨#[UInt8.ofNat ((48+(m:Int)%10)).toNat]⟩:ByteArray).size=1:=U;omega)) U ?_;refine Ag ?_;refine Aa (Ar (Av [0,2,3,4,5] []) ?_);refine Ac (Ab ?_);refine Ad (R_quo U (.no U) U (.tm U) (.const U) (fun _=>by omega)) U ?_;refine Ag ?_;refine Aa ?_
   repeat (with_reducible refine Au ?_)
   refine Round2.next (m / 10) (((ByteArray.mk #[UInt8.ofNat ((48+(m:Int)%10)).toNat])++O)) ⟨⟨by omega,(by rw [ByteArray.size_append];have:(⟨#[UInt8.ofNat ((48+(m:Int)%10)).toNat]⟩:ByteArray).size=1:=rfl;omega)⟩,(by rw [he,restD_step (by omega),←bs_append,show (48+(m:Int)%10).toNat=48+m%10 by omega];rw [ByteArray.append_assoc];rfl)⟩ (by omega) (Ap rfl ⟨rfl,rfl,rfl,rfl,Y⟩ trivial)
 try simp at h11
 refine Bb (Ae (Af (Ab ?_)));refine Aa (Ai (.tm U) (fun h27=>?_) (fun h27=>?_))
 · exact absurd h27 (by simp)
 try simp at h27
 refine Aj (Af (Ab ?_));refine Ag ?_;refine Aa (Am (Bp U U ?_))
 (have e:m=0:=(by omega);have e0:n0≠0:=(by omega);rw [e] at he;unfold restD at he;rw [if_neg e0,if_pos rfl] at he;unfold numS;rw [Int.toNat_natCast,he,bs_nil_append])
theorem specFormatLetter (k:Int) (h0:0≤k) (h8:k≤8):FnT Tryz.prog 252 [.one (.v (.int .i64 k))] (.a (.one (.v (.string (bs (letS k)))))):=by
 refine A7 Tryz.func252 U (by kernel_rfl) Tryz.ntmps252 U fun hlen w0=>?_
 try simp [cToken,cExpr] at hlen
 have hl:inB k 0 8=true:=by unfold inB;simp;omega
 refine Af (Ak ?_);refine Aa (Ae (Af (Ab ?_)));refine Bv (specl2Letter k) ?_;refine C1 ?_;refine Aa (Ai (.tm U) (fun h5=>?_) (fun h5=>?_))
 · exact absurd h5 (by simp [hl] at h5)
 try simp at h5
 refine Aj (Af (Ad (B7 (xs:=[.const (.string ⟨#[97]⟩),.const (.string ⟨#[97,45]⟩),.const (.string ⟨#[98]⟩),.const (.string ⟨#[98,45]⟩),.const (.string ⟨#[99]⟩),.const (.string ⟨#[99,45]⟩),.const (.string ⟨#[48]⟩),.const (.string ⟨#[49]⟩),.const (.string ⟨#[50]⟩)]) (rows:=letNames.map cStr) U U U (.cons (.const U) U U (.cons (.const U) U U (.cons (.const U) U U (.cons (.const U) U U (.cons (.const U) U U (.cons (.const U) U U (.cons (.const U) U U (.cons (.const U) U U (.cons (.const U) U U .nil))))))))) Tryz.underlying227 in9 U U (U)) U ?_));refine Ab ?_;refine Ad (As U (.no U) U (.tm U) (.tm U) Tryz.underlying227 ty9 (fun _=>⟨by omega,(letS_get h0 h8)⟩)) U ?_;refine Aq ty9 ?_;refine Ag ?_;refine Aa (Am (Bp U U ?_))
 rfl
end Go.Proofs.YtbecibmlbiebeaaGreat
set_option maxHeartbeats 1000000
set_option maxRecDepth 100000
namespace Go.Q
open Go.D
end Go.Q
namespace Go.Proofs.YtbecibmlbiebeaaGreat
open Go.RowKit Go.Q Go.D
theorem specl8Token (t:TToken) (h:0≤arity t):FnT Tryz.prog 244 [.agg (cToken t)] (.a (.one (.v (.string (bs (tokS t)))))):=by
 refine A7 Tryz.func244 U (by kernel_rfl) Tryz.ntmps244 U fun hlen w0=>?_
 try simp [cToken,cExpr] at hlen
 skip
 have e1:(⟨#[123]⟩:ByteArray).size=1:=rfl
 have e2:(⟨#[44]⟩:ByteArray).size=1:=rfl
 have e3:(⟨#[125]⟩:ByteArray).size=1:=rfl
 refine Af (Ad (Bm U U U (.tm U) (ts:=_) (by rfl)) U ?_);refine Ak ?_;refine Aa (Ae (Af (Bg fl88_0 ?_)));refine Aq ty3 ?_;refine Aa (AW.block (Af (Bs ?_)));refine Ag ?_;refine Aa (Ai (.tm U) (fun h5=>?_) (fun h5=>?_))
 · try simp at h5
   refine Af (Ak ?_);refine Aa (Am (Bp U U ?_))
   (unfold tokS;rw [if_pos h5];rfl)
 try simp at h5
 refine Af (Bs ?_);refine Ag ?_;refine Aa (Ai (.tm U) (fun h7=>?_) (fun h7=>?_))
 · try simp at h7
   refine Af (Ak ?_);refine Aa (Am (Bp U U ?_))
   (unfold tokS;rw [if_neg h5,if_pos h7];rfl)
 try simp at h7
 refine Af (Bs ?_);refine Ag ?_;refine Aa (Ai (.tm U) (fun h9=>?_) (fun h9=>?_))
 · try simp at h9
   refine Ae (Ar (Av [0,1,2,4] []) ?_);refine Ac (Bg fl88_1 ?_);refine Aq ty3 ?_;refine Bv (specFormatLetter t.Letter (tok_let h h9).1 (tok_let h h9).2) ?_;refine Ag ?_;refine Aa (Am (Bp U U ?_))
   (unfold tokS;rw [if_neg h5,if_neg h7,if_pos h9])
 try simp at h9
 refine Ae (Ar (Av [0,1,2,4] []) ?_);refine Ac (Bs ?_);refine Ag ?_;refine Aa (Ai (.tm U) (fun h14=>?_) (fun h14=>?_))
 · try simp at h14
   refine Af (Ak ?_);refine Aa (Am (Bp U U ?_))
   (unfold tokS;rw [if_neg h5,if_neg h7,if_neg h9,if_pos h14];rfl)
 try simp at h14
 refine Af (Bs ?_);refine Ag ?_;refine Aa (Ai (.tm U) (fun h16=>?_) (fun h16=>?_))
 · try simp at h16
   refine Af (Ak ?_);refine Aa (Am (Bp U U ?_))
   (unfold tokS;rw [if_neg h5,if_neg h7,if_neg h9,if_neg h14,if_pos h16];rfl)
 try simp at h16
 refine Af (Bs ?_);refine Ag ?_;refine Aa (Ai (.tm U) (fun h18=>?_) (fun h18=>?_))
 · try simp at h18
   refine Ae (Ar (Av [0,1,2,4] []) ?_);refine Ac (Ak ?_);refine Aa (Am (Bp U U ?_))
   (unfold tokS;rw [if_neg h5,if_neg h7,if_neg h9,if_neg h14,if_neg h16,if_pos h18];rfl)
 try simp at h18
 have hr:=tok_rep h h5 h7 h9 h14 h16 h18
 have s1:=numS_len (n:=t.Low) (by omega)
 have s2:=numS_len (n:=t.High) (by omega)
 refine Aj (Ae (Ar (Av [0,1,2,4] []) ?_));refine B8 11 (nthB [[],[0],[0,1],[0,1,2],[0,1,2,3],[],[5],[0,1,2,5,6],[0,1,2,3,4,5,6,7],[0,1,2,3,4,5,6,7,8],[0,1,2,3,4,5,6,7,8,9]]) (by kernel_rfl) (by kernel_rfl) (by kernel_rfl) ?_;refine B9 fl88_2 ?_;refine Bj ty3 ?_;refine DrawC.s (fun _ hs=>Bc (FnT.fr (specFormatInt t.Low (by omega) (by omega))) U (.no U) (Ah hs U) (.cons (hs.tm U) (readA_sup hs U) .nil)) ?_;refine DrawC.s (fun _ hs=>R_cat U (.no U) (Ah hs U) (.const U) (hs.tm U) (fun _=>by simp only [ByteArray.size_append,bs_size];omega)) ?_;refine DrawC.s (fun _ hs=>R_cat U (.no U) (Ah hs U) (hs.tm U) (.const U) (fun _=>by simp only [ByteArray.size_append,bs_size];omega)) ?_;refine B9 fl88_3 ?_;refine Bj ty3 ?_;refine DrawC.s (fun _ hs=>Bc (FnT.fr (specFormatInt t.High (by omega) (by omega))) U (.no U) (Ah hs U) (.cons (hs.tm U) (readA_sup hs U) .nil)) ?_
 refine DrawC.s (fun _ hs=>R_cat U (.no U) (Ah hs U) (hs.tm U) (hs.tm U) (fun _=>by simp only [ByteArray.size_append,bs_size];omega)) ?_;refine DrawC.s (fun _ hs=>R_cat U (.no U) (Ah hs U) (hs.tm U) (.const U) (fun _=>by simp only [ByteArray.size_append,bs_size];omega)) ?_;refine DrawC.s (fun _ hs=>Da U (.no U) (Ah hs U) (hs.tm U)) ?_;refine DrawC.fin U U ?_;refine Aa (Am (Bp U U ?_))
 (unfold tokS;rw [if_neg h5,if_neg h7,if_neg h9,if_neg h14,if_neg h16,if_neg h18,show (⟨#[123]⟩:ByteArray)=bs [123] from rfl,show (⟨#[44]⟩:ByteArray)=bs [44] from rfl,show (⟨#[125]⟩:ByteArray)=bs [125] from rfl];simp only [bs_append])
end Go.Proofs.YtbecibmlbiebeaaGreat
set_option maxHeartbeats 1000000
set_option maxRecDepth 100000
namespace Go.Proofs.YtbecibmlbiebeaaGreat
open Go.RowKit Go.Q Go.D
theorem specl2Cut (l:List UInt8) (c:UInt8) (hz:l.length≤1073741824):FnT Tryz.prog 229 [.one (.v (.string (bs l))),.one (.v (.int .u8 c.toNat))] (.a (.one (.sl 1 ((splitL c l).map cStr)))):=by
 refine A7 Tryz.func229 U (by kernel_rfl) Tryz.ntmps229 U fun hlen w0=>?_
 try simp [cToken,cExpr] at hlen
 have hsz:=bs_size l
 refine Af (Ak ?_);refine Cb (i:=4) 20001 1 U U ?_;refine Aa (Af (A6 (Cu 8 U U U Tryz.underlying227 ty9 U) U ?_));refine Ag ?_;refine Aa (Af (Ak ?_));refine Aa (Ae (Af (Ak ?_)));refine Aa (AW.block (C6 (fun (i:Nat) (F:Nat) (O:List (List UInt8))=>(F≤i∧i≤l.length∧c∉(l.take i).drop F∧O.length≤i)∧splitL c l=O++splitL c (l.drop F)) (fun (i:Nat) (F:Nat) (O:List (List UInt8))=>⟨_,[(6,(true,.a (.one (.t (.v (.int .i64 F)))))),(7,(true,.a (.one (.t (.v (.int .i64 i)))))),(5,(true,.a (.one (.rf 8)))),(0,_),(1,_),(4,_)],[(8,.row 1 (O.map cStr))]⟩) (fun (i:Nat) (F:Nat) (O:List (List UInt8))=>l.length-i) (0) (0) ([]) ⟨⟨by omega,by omega,by simp,by simp⟩,(by simp)⟩ A4 ?_))
 rintro i F O ⟨hk,he⟩
 refine Ae (Af (Ab ?_));refine Ab ?_;refine Ad (R_len_s U (.no U) U (.tm U) Tryz.underlying9) U ?_;refine AWl.lt ?_;refine Aa (Ai (.tm U) (fun h12=>?_) (fun h12=>?_))
 · try simp at h12
   obtain⟨b,hb⟩:∃ ξ,l[i]?=some ξ:=⟨_,List.getElem?_eq_getElem (by omega)⟩
   refine Aj (Ae (AW.block (Af (Ab ?_))));refine Ab ?_;refine Ad (R_strIndex U (.no U) U (.tm U) (.tm U) Tryz.underlying9 (fun _=>⟨by omega,(by rw [bs_get];exact hb)⟩)) U ?_;refine Ab ?_;refine AWl.eq ?_;refine Aa (Ai (.tm U) (fun h19=>?_) (fun h19=>?_))
   · try simp at h19
     refine Ae (Ar (Av [0,1,4,5,6,7] [8]) ?_);refine Ac (Ab ?_);refine Ab ?_;refine Ab ?_;refine Ab ?_;refine Ad (R_strSlice (n:=F) (m:=i) U (.no U) U (.tm U) (.yes (.tm U) (fun _=>by first|omega|(simp<;>omega))) (.yes (.tm U) (fun _=>by first|omega|(simp<;>omega))) Tryz.underlying9 (fun _=>⟨by omega,by first|omega|(simp;omega)⟩)) U ?_;refine Bn (Ce (xs:=[.tmp 24]) 25 U U U (.cons (.tm U) U U .nil) Tryz.underlying227 in9 U U U U) U ?_;refine Bl (Bw U U U (.tm U) U (.tm U) (by exact .rf U) (by rfl) Tryz.underlying227 in9 U (by (simp [chunk];omega)) (by (unfold maxLen;simp [chunk];omega))) U ?_;refine Bq (Av [0,1,4,5,6,7,26] [8,25]) ?_;refine Ag ?_;refine Aa (Ac (Ab ?_));refine A8 ?_;refine Ag ?_;refine Aa (Ac (Ab ?_));refine A8 ?_;refine Ag ?_;refine Aa ?_
     repeat (with_reducible refine Au ?_)
     refine Round3.next (i+1) (i+1) (O++[(l.take i).drop F]) ⟨⟨by omega,by omega,(by simp),(by rw [List.length_append,List.length_singleton];omega)⟩,(cut_step hb hk (UInt8.toNat_inj.1 (by omega)) he)⟩ (by omega) (Ap rfl ⟨rfl,rfl,rfl,rfl,rfl,rfl,Y⟩ ⟨(by refine congrArg (fun r=>some (R.row 1 r)) ?_;simp [chunk,cStr,bs_extract];done),Y⟩)
   try simp at h19
   refine Aj (Ar (Av [0,1,4,5,6,7] [8]) ?_);refine Ac (Ab ?_);refine A8 ?_;refine Ag ?_;refine Aa ?_
   repeat (with_reducible refine Au ?_)
   refine Round3.next (i+1) (F) (O) ⟨⟨by omega,by omega,cut_keep hb hk (fun e=>h19 (by rw [e])),by omega⟩,he⟩ (by omega) (Ap rfl ⟨rfl,rfl,rfl,rfl,rfl,rfl,Y⟩ ⟨(by refine congrArg (fun r=>some (R.row 1 r)) ?_;simp [chunk,cStr,bs_extract];done),Y⟩)
 try simp at h12
 refine Bb (Af (Ab ?_));refine Ab ?_;refine Ab ?_;refine Ad (R_strSlice (n:=F) U (.no U) U (.tm U) (.yes (.tm U) (fun _=>by first|omega|(simp<;>omega))) .no Tryz.underlying9 (fun _=>⟨by omega,by first|omega|(simp;omega)⟩)) U ?_;refine Bn (Ce (xs:=[.tmp 32]) 33 U U U (.cons (.tm U) U U .nil) Tryz.underlying227 in9 U U U U) U ?_;refine Bl (Bw U U U (.tm U) U (.tm U) (by exact .rf U) (by rfl) Tryz.underlying227 in9 U (by (simp [chunk];omega)) (by (unfold maxLen;simp [chunk];omega))) U ?_;refine Bq (Av [0,1,4,5,6,7,12,34] [8,33]) ?_;refine Ag ?_;refine Aa (Am (Res.one U (.tmp U .nil) U ?_))
 (have hi:i=l.length:=(by omega);subst hi;rw [he,splitL_no (by rw [List.take_of_length_le (Nat.le_refl _)] at hk;exact hk.2.2.1)];refine congrArg (fun r=>[V0.one (T.sl 1 r)]) ?_;simp [chunk,cStr,bs_extract,hsz];done)
end Go.Proofs.YtbecibmlbiebeaaGreat
set_option maxHeartbeats 1000000
set_option maxRecDepth 100000
namespace Go.Q
open Go.D
end Go.Q
set_option maxHeartbeats 1000000
set_option maxRecDepth 100000
namespace Go.Proofs.YtbecibmlbiebeaaGreat
open Go.RowKit Go.Q Go.D
end Go.Proofs.YtbecibmlbiebeaaGreat
set_option maxHeartbeats 1000000
set_option maxRecDepth 100000
namespace Go.Q
open Go.D
def letP (s:List UInt8):Int×Bool:=match (List.range 9).find? (fun k=>decide (letS (k:Nat)=s)) with
 | some k=>((k:Int),true)
 | none=>(0,false)
theorem letP_at {s:List UInt8} {k:Nat} (hk:k<9) (h:letS (k:Nat)=s) (hn:∀ j,j<k→letS (j:Nat)≠s):letP s=((k:Int),true):=by
 have:(List.range 9).find? (fun k=>decide (letS (k:Nat)=s))=some k:=by
  rw [List.find?_range_eq_some]
  exact⟨decide_eq_true h,List.mem_range.2 hk,fun j hj=>by simpa using hn j hj⟩
 unfold letP
 rw [this]
theorem letP_no {s:List UInt8} (hn:∀ j,j<9→letS (j:Nat)≠s):letP s=(0,false):=by
 have:(List.range 9).find? (fun k=>decide (letS (k:Nat)=s))=none:=by
  rw [List.find?_eq_none]
  intro x hx
  simpa using hn x (List.mem_range.1 hx)
 unfold letP
 rw [this]
end Go.Q
set_option maxHeartbeats 1000000
set_option maxRecDepth 100000
namespace Go.Q
open Go.D
def tk0 (k:Int):TToken:=⟨k,0,0,0⟩
def brS (s:List UInt8):TToken:=if s.length=5∧s[0]?=some 123∧s[2]?=some 44∧s[4]?=some 125 then ⟨7,0,((s[1]?.getD 0).toNat:Int)-48,((s[3]?.getD 0).toNat:Int)-48⟩ else tk0 0
def rdT (rest:List UInt8→TToken) (s:List UInt8):TToken:=
 if s=[33] then tk0 1 else if s=[40,41] then tk0 2 else if s=[46] then tk0 4 else if s=[124] then tk0 5 else if s=[42] then tk0 6
 else if (letP s).2=true then ⟨3,(letP s).1,0,0⟩ else rest s
def exS (s:List UInt8):TExpr:=⟨(splitL 32 s).map (rdT brS)⟩
def parseX (s:List UInt8):TExpr×Bool:=if isValidExpr (exS s)=true then (exS s,true) else (⟨[]⟩,false)
theorem parseX_spec {s:List UInt8} {k:Nat} (hk:(splitL 32 s).length≤k∨25≤k):parseX s=if isValidExpr ⟨((splitL 32 s).take k).map (rdT brS)⟩=true then (⟨((splitL 32 s).take k).map (rdT brS)⟩,true) else (⟨[]⟩,false):=by
 by_cases h:(splitL 32 s).length≤k
 · rw [List.take_of_length_le h];rfl
 have h1:isValidExpr (exS s)=false:=Bool.eq_false_iff.2 fun hh=>by
  have:=(valid_toks hh).1
  unfold exS at this;simp at this;omega
 have h2:isValidExpr ⟨((splitL 32 s).take k).map (rdT brS)⟩=false:=Bool.eq_false_iff.2 fun hh=>by
  have:=(valid_toks hh).1
  simp at this;omega
 unfold parseX
 rw [h1,h2];rfl
end Go.Q
set_option maxHeartbeats 1000000
set_option maxRecDepth 100000
namespace Go.Q
open Go.D
end Go.Q
namespace Go.Proofs.YtbecibmlbiebeaaGreat
open Go.RowKit Go.Q Go.D
theorem specParseLetter (s:List UInt8):FnT Tryz.prog 245 [.one (.v (.string (bs s)))] (.tup [.one (.v (.int .i64 (letP s).1)),.one (.v (.bool (letP s).2))]):=by
 refine A7 Tryz.func245 U (by kernel_rfl) Tryz.ntmps245 U fun hlen w0=>?_
 try simp [cToken,cExpr] at hlen
 refine Af (Ak ?_);refine Ak ?_;refine Aa (Ae (Af (Ak ?_)));refine Aa (AW.block (By (fun (k:Nat)=>(k≤9∧∀ j:Nat,j<k→letS (j:Nat)≠s)∧True) (fun (k:Nat)=>⟨_,[(4,(true,.a (.one (.t (.v (.int .i64 (k:Nat))))))),(0,_)],[]⟩) (fun (k:Nat)=>9-k) (0) ⟨⟨by omega,fun j hj=>by omega⟩,Y⟩ (Ap U ⟨U,U,Y⟩ trivial) ?_))
 rintro k ⟨hk,he⟩
 refine Ae (Af (Ab ?_));refine Du ?_;refine Aa (Ai (.tm U) (fun h6=>?_) (fun h6=>?_))
 · try simp at h6
   refine Aj (Ae (AW.block (Af (Ab ?_))));refine Ad (Bc (FnT.fr (specFormatLetter (k:Int) (by omega) (by omega))) U (.no U) U (.cons (.tm U) U .nil)) U ?_;refine Ab ?_;refine Ad (R_eqstr U (.no U) U (.tm U) (.tm U)) U ?_;refine Aa (Ai (.tm U) (fun h12=>?_) (fun h12=>?_))
   · try simp at h12
     refine Ae (Ar (Av [0,4] []) ?_);refine Ac (Ab ?_);refine Ag ?_;refine Ak ?_;refine Aa (Am (Cy U (.tmp U (.tmp U .nil)) U ?_ (by simp)))
     rw [letP_at (k:=k) (by omega) (bs_inj h12) hk.2];rfl
   try simp at h12
   refine Aj (Ar (Av [0,4] []) ?_);refine Ac (Ab ?_);refine A8 ?_;refine Ag ?_;refine Aa ?_
   repeat (with_reducible refine Au ?_)
   refine Round1.next (k+1) ⟨⟨by omega,fun j hj=>(by by_cases e:j=k;(subst e;exact fun e2=>h12 (by rw [e2]));exact hk.2 j (by omega))⟩,Y⟩ (by omega) (Ap rfl ⟨rfl,rfl,Y⟩ trivial)
 try simp at h6
 refine Bb (Af (Ak ?_));refine Ak ?_;refine Aa (Am (Cy U (.tmp U (.tmp U .nil)) U ?_ (by simp)))
 rw [letP_no fun j hj=>hk.2 j (by omega)];rfl
end Go.Proofs.YtbecibmlbiebeaaGreat
