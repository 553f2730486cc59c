import Derived.Test.YtdhojcaoljhbiaaGreatB163xs
import Derived.Test.YtdhojcaoljhbiaaGreatB30xs
import Derived.Test.YtdhojcaoljhbiaaGreatB31xs
import Derived.Test.YtdhojcaoljhbiaaGreatB171xs
import Derived.Test.YtdhojcaoljhbiaaGreatB173xs
import Derived.Test.YtdhojcaoljhbiaaGreatBExs
import Derived.Test.YtdhojcaoljhbiaaGreatB05xs
import Derived.Test.YtdhojcaoljhbiaaGreatB32xs
set_option linter.unusedVariables false
set_option linter.unusedSimpArgs false
set_option maxHeartbeats 1000000
set_option maxRecDepth 100000
namespace Go.Q
open Go.D
theorem nk_of {t:TToken} {n:Nat} (h:arity t=(n:Int)):nk t.Kind=n∧tokOk t=true:=by
 refine⟨?_,by unfold tokOk;rw [h];simp⟩
 unfold arity at h
 unfold nk
 by_cases h1:t.Kind=1∨t.Kind=2
 · rw [if_pos h1] at h;split at h<;>first|omega|(rcases h1 with e|e<;>simp [e]<;>omega)
 rw [if_neg h1] at h
 by_cases h2:t.Kind=3
 · rw [if_pos h2] at h;split at h<;>first|omega|(simp [h2];omega)
 rw [if_neg h2] at h
 by_cases h3:t.Kind=4∨t.Kind=5
 · rw [if_pos h3] at h;split at h<;>first|omega|(rcases h3 with e|e<;>simp [e]<;>omega)
 rw [if_neg h3] at h
 by_cases h4:t.Kind=6
 · rw [if_pos h4] at h;split at h<;>first|omega|(simp [h4];omega)
 rw [if_neg h4] at h
 by_cases h5:t.Kind=7
 · rw [if_pos h5] at h;split at h<;>first|omega|(simp [h5];omega)
 rw [if_neg h5] at h;omega
theorem runTr_good:∀ (x:Tr),good x→∀ (ts:List Tr) (r:List TToken),runTr ts (toks x++r)=runTr (ts++[x]) r
 | .leaf t,hg,ts,r=>by
  obtain⟨h1,h2⟩:=nk_of (n:=0) hg
  show runTr ts (t::r)=_
  rw [runTr]
  have:stepTr ts t=some (ts++[.leaf t]):=by unfold stepTr;rw [h1,h2];simp
  rw [this]
 | .un t x,hg,ts,r=>by
  obtain⟨h1,h2⟩:=nk_of (n:=1) hg.1
  show runTr ts (toks x++[t]++r)=_
  rw [List.append_assoc,runTr_good x hg.2]
  show runTr (ts++[x]) (t::r)=_
  rw [runTr]
  have:stepTr (ts++[x]) t=some (ts++[.un t x]):=by unfold stepTr;rw [h1,h2];simp
  rw [this]
 | .bin t x y,hg,ts,r=>by
  obtain⟨h1,h2⟩:=nk_of (n:=2) hg.1
  show runTr ts (toks x++toks y++[t]++r)=_
  rw [List.append_assoc,List.append_assoc,runTr_good x hg.2.1,runTr_good y hg.2.2]
  show runTr (ts++[x]++[y]) (t::r)=_
  rw [runTr]
  have:stepTr (ts++[x]++[y]) t=some (ts++[.bin t x y]):=by unfold stepTr;rw [h1,h2];simp
  rw [this]
theorem treeM_good {x:Tr} (hg:good x):treeM (toks x)=some x:=by
 have:=runTr_good x hg [] []
 rw [List.append_nil] at this
 unfold treeM
 rw [this];rfl
theorem toks_inj {x y:Tr} (hx:good x) (hy:good y) (h:toks x=toks y):x=y:=by
 have h1:=treeM_good hx
 rw [h,treeM_good hy] at h1
 exact (Option.some.inj h1).symm
theorem valid_good {x:Tr} (hg:good x) (hl:(toks x).length≤24):isValidExpr ⟨toks x⟩=true:=by
 unfold isValidExpr
 simp only [Bool.and_eq_true,decide_eq_true_eq,isExpr_tree]
 exact⟨hl,by rw [treeM_good hg];rfl⟩
def sh:Tr→Option Nat
 | .leaf t=>if t.Kind=2 then some 0 else if t.Kind=3 then some 1 else none
 | .un t x=>if t.Kind=6 then some 0 else if t.Low=0 then some 0 else (sh x).map (·*t.Low.toNat)
 | .bin t x y=>match sh x,sh y with
  | some n,some m=>if t.Kind=4 then some (n+m) else some (min n m)
  | some n,none=>if t.Kind=4 then none else some n
  | none,some m=>if t.Kind=4 then none else some m
  | none,none=>none
def ShOk (A:Lang):Option Nat→Prop
 | none=>∀ w,¬ A w
 | some n=>(∃ w,A w∧w.length=n)∧∀ w,A w→n≤w.length
theorem pow_lo {A:Lang} {n:Nat} (h:∀ w,A w→n≤w.length):∀ (k:Nat) (w:List Nat),powN A k w→n*k≤w.length
 | 0,_,_=>by simp
 | k+1,w,⟨u,v,e,hu,hv⟩=>by
  have h1:=h u hu
  have h2:=pow_lo h k v hv
  rw [e,List.length_append,Nat.mul_succ];omega
theorem pow_ex {A:Lang} {n:Nat} (h:∃ w,A w∧w.length=n):∀ k,∃ w,powN A k w∧w.length=n*k
 | 0=>⟨[],rfl,by simp⟩
 | k+1=>by
  obtain⟨u,hu,hul⟩:=h
  obtain⟨v,hv,hvl⟩:=pow_ex ⟨u,hu,hul⟩ k
  exact⟨u++v,⟨u,v,rfl,hu,hv⟩,by rw [List.length_append,Nat.mul_succ];omega⟩
theorem sh_ok:∀ x:Tr,good x→ShOk (lang x) (sh x)
 | .leaf t,_=>by
  rw [lang_leaf,sh]
  split
  · exact⟨⟨[],rfl,rfl⟩,fun w _=>Nat.zero_le _⟩
  split
  · exact⟨⟨_,rfl,rfl⟩,fun w h=>by rw [show w=_ from h];simp⟩
  exact fun w h=>h
 | .un t x,hg=>by
  have ih:=sh_ok x hg.2
  rw [lang_un,sh]
  by_cases h6:t.Kind=6
  · rw [if_pos h6,if_pos h6]
    exact⟨⟨[],.nil,rfl⟩,fun w _=>Nat.zero_le _⟩
  rw [if_neg h6,if_neg h6]
  have hk:=(good_cases (x:=.un t x) hg).2.2
  have hk7:t.Kind=7:=by
   rcases hk with ⟨h,_⟩|⟨_,_,h⟩|⟨_,_,h,_⟩
   · cases h
   · exact h.resolve_left h6
   cases h
  have hr:(1≤t.High∧t.High≤3)∧0≤t.Low∧t.Low≤t.High:=rep_rng (x:=.un t x) hg hk7
  by_cases h0:t.Low=0
  · rw [if_pos h0]
    exact⟨⟨[],⟨0,by omega,by omega,rfl⟩,rfl⟩,fun w _=>Nat.zero_le _⟩
  rw [if_neg h0]
  cases hs:sh x with
  | none=>
   rw [hs] at ih
   rintro w ⟨k,h1,h2,h3⟩
   cases k with
   | zero=>omega
   | succ k=>obtain⟨u,v,_,hu,_⟩:=h3;exact ih u hu
  | some n=>
   rw [hs] at ih
   refine⟨?_,fun w ⟨k,h1,h2,h3⟩=>?_⟩
   · obtain⟨w,h1,h2⟩:=pow_ex ih.1 t.Low.toNat
     exact⟨w,⟨t.Low.toNat,by omega,by omega,h1⟩,h2⟩
   exact Nat.le_trans (Nat.mul_le_mul_left n (by omega)) (pow_lo ih.2 k w h3)
 | .bin t x y,hg=>by
  have ih1:=sh_ok x hg.2.1
  have ih2:=sh_ok y hg.2.2
  rw [lang_bin,sh]
  by_cases h4:t.Kind=4
  · rw [if_pos h4]
    cases h1:sh x with
    | none=>
     rw [h1] at ih1
     have:ShOk (catL (lang x) (lang y)) none:=fun w ⟨u,v,_,hu,_⟩=>ih1 u hu
     cases h2:sh y<;>simp only [if_pos h4]<;>exact this
    | some n=>
     rw [h1] at ih1
     cases h2:sh y with
     | none=>
      rw [h2] at ih2
      simp only [if_pos h4]
      exact fun w ⟨u,v,_,_,hv⟩=>ih2 v hv
     | some m=>
      rw [h2] at ih2
      simp only [if_pos h4]
      obtain⟨⟨u,hu,hul⟩,g1⟩:=ih1
      obtain⟨⟨v,hv,hvl⟩,g2⟩:=ih2
      exact⟨⟨u++v,⟨u,v,rfl,hu,hv⟩,by simp [hul,hvl]⟩,fun w ⟨u',v',e,hu',hv'⟩=>by have:=g1 u' hu';have:=g2 v' hv';rw [e,List.length_append];omega⟩
  rw [if_neg h4]
  cases h1:sh x with
  | none=>
   rw [h1] at ih1
   cases h2:sh y with
   | none=>rw [h2] at ih2;exact fun w h=>h.elim (ih1 w) (ih2 w)
   | some m=>
    rw [h2] at ih2
    simp only [if_neg h4]
    obtain⟨⟨v,hv,hvl⟩,g2⟩:=ih2
    exact⟨⟨v,.inr hv,hvl⟩,fun w h=>h.elim (fun h=>(ih1 w h).elim) (g2 w)⟩
  | some n=>
   rw [h1] at ih1
   obtain⟨⟨u,hu,hul⟩,g1⟩:=ih1
   cases h2:sh y with
   | none=>
    rw [h2] at ih2
    simp only [if_neg h4]
    exact⟨⟨u,.inl hu,hul⟩,fun w h=>h.elim (g1 w) (fun h=>(ih2 w h).elim)⟩
   | some m=>
    rw [h2] at ih2
    obtain⟨⟨v,hv,hvl⟩,g2⟩:=ih2
    simp only [if_neg h4]
    refine⟨?_,fun w h=>?_⟩
    · rcases Nat.le_total n m with h|h
      · exact⟨u,.inl hu,by omega⟩
      exact⟨v,.inr hv,by omega⟩
    rcases h with h|h
    · have:=g1 w h;omega
    have:=g2 w h;omega
def capI:Option Nat→Int
 | none=> -1
 | some n=>min 1000000 (n:Int)
theorem cap_mul {n l:Nat} (hl:1≤l):min 1000000 (min 1000000 (n:Int)*(l:Int))=min 1000000 ((n*l:Nat):Int):=by
 rcases Nat.lt_or_ge n 1000000 with h|h
 · rw [show min 1000000 (n:Int)=(n:Int) by omega,Int.natCast_mul]
 have h1:1000000*1≤n*l:=Nat.mul_le_mul h hl
 have h2:(1000000:Int)*1≤1000000*(l:Int):=Int.mul_le_mul_of_nonneg_left (by omega) (by omega)
 rw [show min 1000000 (n:Int)=1000000 by omega]
 omega
theorem cap_nn (n:Nat):¬ capI (some n)<0:=by show ¬ min 1000000 (n:Int)<0;omega
theorem cap_no:capI none<0:=by decide
theorem cap_cat (p q:Option Nat):(if capI p<0∨capI q<0 then (-1:Int) else min 1000000 (capI p+capI q))=capI (match p,q with|some n,some m=>some (n+m)|_,_=>none):=by
 cases p with
 | none=>exact if_pos (.inl cap_no)
 | some n=>
  cases q with
  | none=>exact if_pos (.inr cap_no)
  | some m=>
   rw [if_neg (fun h=>h.elim (cap_nn n) (cap_nn m))]
   show min 1000000 (min 1000000 (n:Int)+min 1000000 (m:Int))=min 1000000 ((n+m:Nat):Int)
   omega
theorem cap_uni (p q:Option Nat):(if capI p<0∨(0≤capI q∧capI q<capI p) then capI q else capI p)=capI (match p,q with|some n,some m=>some (min n m)|some n,none=>some n|none,some m=>some m|none,none=>none):=by
 cases p with
 | none=>rw [if_pos (.inl cap_no)];cases q<;>rfl
 | some n=>
  cases q with
  | none=>exact if_neg (fun h=>h.elim (cap_nn n) (fun h=>absurd h.1 (by decide)))
  | some m=>
   have e1:capI (some n)=min 1000000 (n:Int):=rfl
   have e2:capI (some m)=min 1000000 (m:Int):=rfl
   have e3:capI (some (min n m))=min 1000000 ((min n m:Nat):Int):=rfl
   show _=capI (some (min n m))
   rw [e1,e2,e3]
   split<;>omega
theorem shortest_cap:∀ x:Tr,good x→shortest x=capI (sh x)
 | .leaf t,_=>by
  show (if t.Kind=3 then (1:Int) else if t.Kind=2 then 0 else -1)=_
  rw [sh]
  by_cases h2:t.Kind=2
  · rw [if_neg (by omega),if_pos h2,if_pos h2];rfl
  rw [if_neg h2]
  by_cases h3:t.Kind=3
  · simp only [if_pos h3,if_neg h2];rfl
  simp only [if_neg h3,if_neg h2];rfl
 | .un t x,hg=>by
  have ih:=shortest_cap x hg.2
  show (if t.Kind=6 then (0:Int) else if t.Low=0 then 0 else if shortest x<0 then -1 else min 1000000 (shortest x*t.Low))=_
  rw [sh]
  by_cases h6:t.Kind=6
  · rw [if_pos h6,if_pos h6];rfl
  rw [if_neg h6,if_neg h6]
  by_cases h0:t.Low=0
  · rw [if_pos h0,if_pos h0];rfl
  have hl:=(good_cases (x:=.un t x) hg).1
  have hl:0≤t.Low:=hl
  rw [if_neg h0,if_neg h0,ih]
  cases sh x with
  | none=>rw [if_pos (show capI none<0 by decide)];rfl
  | some n=>
   rw [if_neg (show ¬ capI (some n)<0 by show ¬ min 1000000 (n:Int)<0;omega)]
   show min 1000000 (min 1000000 (n:Int)*t.Low)=min 1000000 ((n*t.Low.toNat:Nat):Int)
   rw [←cap_mul (by omega),Int.toNat_of_nonneg hl]
 | .bin t x y,hg=>by
  have ih1:=shortest_cap x hg.2.1
  have ih2:=shortest_cap y hg.2.2
  show (if t.Kind=4 then (if shortest x<0∨shortest y<0 then -1 else min 1000000 (shortest x+shortest y)) else if shortest x<0∨(0≤shortest y∧shortest y<shortest x) then shortest y else shortest x)=_
  rw [sh,ih1,ih2]
  by_cases h4:t.Kind=4
  · rw [if_pos h4,cap_cat]
    cases sh x<;>cases sh y<;>simp only [if_pos h4]
  rw [if_neg h4,cap_uni]
  cases sh x<;>cases sh y<;>simp only [if_neg h4]
theorem pow_in {A:Lang} (hA:∀ w,A w→∀ k∈w,k<9):∀ (n:Nat) (w:List Nat),powN A n w→∀ k∈w,k<9
 | 0,w,h,k,hk=>by rw [show w=[] from h] at hk;cases hk
 | n+1,w,⟨u,v,e,hu,hv⟩,k,hk=>by
  rw [e] at hk
  rcases List.mem_append.1 hk with hk|hk
  · exact hA u hu k hk
  exact pow_in hA n v hv k hk
theorem lang_in:∀ x:Tr,good x→∀ w,lang x w→∀ k∈w,k<9
 | .leaf t,hg,w,h,k,hk=>by
  rw [lang_leaf] at h
  split at h
  · rw [show w=[] from h] at hk;cases hk
  split at h
  · rename_i h3
    rw [show w=[t.Letter.toNat] from h,List.mem_singleton] at hk
    subst hk
    have ha:arity t=0:=hg
    unfold arity at ha
    rw [if_neg (by omega),if_pos h3] at ha
    split at ha
    · rename_i hh;unfold inB at hh;simp at hh;omega
    omega
  exact h.elim
 | .un t x,hg,w,h,k,hk=>by
  have ih:=lang_in x hg.2
  rw [lang_un] at h
  split at h
  · induction h with
    | nil=>cases hk
    | @app u v hu _ ihv=>
     rcases List.mem_append.1 hk with hk|hk
     · exact ih u hu k hk
     exact ihv hk
  obtain⟨n,_,_,h⟩:=h
  exact pow_in ih n w h k hk
 | .bin t x y,hg,w,h,k,hk=>by
  have ih1:=lang_in x hg.2.1
  have ih2:=lang_in y hg.2.2
  rw [lang_bin] at h
  split at h
  · obtain⟨u,v,e,hu,hv⟩:=h
    rw [e] at hk
    rcases List.mem_append.1 hk with hk|hk
    · exact ih1 u hu k hk
    exact ih2 v hv k hk
  rcases h with h|h
  · exact ih1 w h k hk
  exact ih2 w h k hk
end Go.Q
set_option maxHeartbeats 1000000
set_option maxRecDepth 100000
namespace Go.Q
open Go.D
def aT (x:Tr) (k:Int):Bool:=match x with
 | .leaf t=>decide (t.Kind=k)
 | _=>false
def catT (a b:Tr):Tr:=if (aT a 1||aT b 1)=true then .leaf (tok0 1) else if aT a 2=true then b else if aT b 2=true then a else .bin (tok0 4) a b
def uniT (a b:Tr):Tr:=if (aT a 1||decide (toks a=toks b))=true then b else if aT b 1=true then a else .bin (tok0 5) a b
def staT (a:Tr):Tr:=if (aT a 1||aT a 2)=true then .leaf (tok0 2) else if a.tok.Kind=6 then a else .un (tok0 6) a
def repT (a:Tr) (lo hi:Int):Tr:=if (aT a 2||decide (a.tok.Kind=6))=true then a else if aT a 1=true then (if lo=0 then .leaf (tok0 2) else a) else if lo=0∧hi=0 then .leaf (tok0 2) else if lo=1∧hi=1 then a else .un ⟨7,0,lo,hi⟩ a
def simR:Tr→Tr
 | .leaf t=>.leaf t
 | .un t x=>if t.Kind=6 then staT (simR x) else repT (simR x) t.Low t.High
 | .bin t x y=>if t.Kind=4 then catT (simR x) (simR y) else uniT (simR x) (simR y)
theorem alone_aT {x:Tr} (k:Int):aloneB (toks x) k=aT x k:=by
 unfold aloneB
 cases x with
 | leaf t=>simp [toks,aT]
 | un t x=>
  have:=toks_pos x
  have e:decide (((toks (.un t x)).length:Int)=1)=false:=by simp [toks];omega
  rw [e];rfl
 | bin t x y=>
  have:=toks_pos x
  have e:decide (((toks (.bin t x y)).length:Int)=1)=false:=by simp [toks];omega
  rw [e];rfl
theorem last_tok (x:Tr):lastK (toks x)=x.tok.Kind:=by
 unfold lastK
 rw [tok_last x];rfl
theorem simR_toks:∀ x:Tr,simpT x=toks (simR x)
 | .leaf t=>rfl
 | .un t x=>by
  have ih:=simR_toks x
  show (if t.Kind=6 then starL (simpT x) else repS (simpT x) t.Low t.High)=toks (if t.Kind=6 then staT (simR x) else repT (simR x) t.Low t.High)
  rw [ih]
  have hp:decide (0<((toks (simR x)).length:Int))=true:=by have:=toks_pos (simR x);simp;omega
  split
  · unfold starL staT
    rw [alone_aT,alone_aT,hp,last_tok,Bool.true_and]
    split
    · rfl
    by_cases h:(simR x).tok.Kind=6
    · rw [if_pos h,if_pos (decide_eq_true h)]
    rw [if_neg h,if_neg (by simpa using h)];rfl
  unfold repS repT repeatL
  rw [alone_aT,alone_aT,last_tok]
  split
  · rfl
  split
  · split<;>rfl
  split
  · rfl
  split<;>rfl
 | .bin t x y=>by
  have ih1:=simR_toks x
  have ih2:=simR_toks y
  show (if t.Kind=4 then concatL (simpT x) (simpT y) else unionL (simpT x) (simpT y))=toks (if t.Kind=4 then catT (simR x) (simR y) else uniT (simR x) (simR y))
  rw [ih1,ih2]
  split
  · unfold concatL catT
    rw [alone_aT,alone_aT,alone_aT,alone_aT]
    split
    · rfl
    split
    · rfl
    split<;>rfl
  unfold unionL uniT
  rw [alone_aT,alone_aT]
  split
  · rfl
  split<;>rfl
theorem good_leaf0 (k:Int) (h:k=1∨k=2):good (.leaf (tok0 k)):=by
 show arity (tok0 k)=0
 rcases h with rfl|rfl<;>decide
theorem catT_good {a b:Tr} (ha:good a) (hb:good b):good (catT a b):=by
 unfold catT
 split
 · exact good_leaf0 1 (.inl rfl)
 split
 · exact hb
 split
 · exact ha
 exact⟨by decide,ha,hb⟩
theorem uniT_good {a b:Tr} (ha:good a) (hb:good b):good (uniT a b):=by
 unfold uniT
 split
 · exact hb
 split
 · exact ha
 exact⟨by decide,ha,hb⟩
theorem staT_good {a:Tr} (ha:good a):good (staT a):=by
 unfold staT
 split
 · exact good_leaf0 2 (.inr rfl)
 split
 · exact ha
 exact⟨by decide,ha⟩
theorem repT_good {a:Tr} {lo hi:Int} (ha:good a) (h:(1≤hi∧hi≤3)∧0≤lo∧lo≤hi):good (repT a lo hi):=by
 unfold repT
 split
 · exact ha
 split
 · split
   · exact good_leaf0 2 (.inr rfl)
   exact ha
 split
 · exact good_leaf0 2 (.inr rfl)
 split
 · exact ha
 refine⟨?_,ha⟩
 show arity ⟨7,0,lo,hi⟩=1
 unfold arity inB
 simp;omega
theorem un_kind {t:TToken} {x:Tr} (hg:good (.un t x)):t.Kind=6∨(t.Kind=7∧(1≤t.High∧t.High≤3)∧0≤t.Low∧t.Low≤t.High):=by
 rcases (good_cases (x:=.un t x) hg).2.2 with ⟨h,_⟩|⟨_,_,h⟩|⟨_,_,h,_⟩
 · cases h
 · rcases h with h|h
   · exact .inl h
   exact .inr ⟨h,rep_rng (x:=.un t x) hg h⟩
 cases h
theorem simR_good:∀ x:Tr,good x→good (simR x)
 | .leaf t,hg=>hg
 | .un t x,hg=>by
  have ih:=simR_good x hg.2
  show good (if t.Kind=6 then _ else _)
  rcases un_kind hg with h|h
  · rw [if_pos h];exact staT_good ih
  rw [if_neg (by omega)];exact repT_good ih h.2
 | .bin t x y,hg=>by
  show good (if t.Kind=4 then _ else _)
  split
  · exact catT_good (simR_good x hg.2.1) (simR_good y hg.2.2)
  exact uniT_good (simR_good x hg.2.1) (simR_good y hg.2.2)
theorem cat_fix {a b:Tr} (ha:simR a=a) (hb:simR b=b):simR (catT a b)=catT a b:=by
 unfold catT
 split
 · rfl
 rename_i h1
 split
 · exact hb
 rename_i h2
 split
 · exact ha
 rename_i h3
 show (if (tok0 4).Kind=4 then catT (simR a) (simR b) else _)=_
 rw [if_pos (show (tok0 4).Kind=4 from rfl),ha,hb]
 unfold catT
 rw [if_neg h1,if_neg h2,if_neg h3]
theorem uni_fix {a b:Tr} (ha:simR a=a) (hb:simR b=b):simR (uniT a b)=uniT a b:=by
 unfold uniT
 split
 · exact hb
 rename_i h1
 split
 · exact ha
 rename_i h2
 show (if (tok0 5).Kind=4 then _ else uniT (simR a) (simR b))=_
 rw [if_neg (by decide),ha,hb]
 unfold uniT
 rw [if_neg h1,if_neg h2]
theorem sta_fix {a:Tr} (ha:simR a=a):simR (staT a)=staT a:=by
 unfold staT
 split
 · rfl
 rename_i h1
 split
 · exact ha
 rename_i h2
 show (if (tok0 6).Kind=6 then staT (simR a) else _)=_
 rw [if_pos (show (tok0 6).Kind=6 from rfl),ha]
 unfold staT
 rw [if_neg h1,if_neg h2]
theorem rep_fix {a:Tr} {lo hi:Int} (ha:simR a=a):simR (repT a lo hi)=repT a lo hi:=by
 unfold repT
 split
 · exact ha
 rename_i h1
 split
 · split
   · rfl
   exact ha
 rename_i h2
 split
 · rfl
 rename_i h3
 split
 · exact ha
 rename_i h4
 show (if (7:Int)=6 then _ else repT (simR a) lo hi)=_
 rw [if_neg (by decide),ha]
 unfold repT
 rw [if_neg h1,if_neg h2,if_neg h3,if_neg h4]
theorem simR_fix:∀ x:Tr,simR (simR x)=simR x
 | .leaf _=>rfl
 | .un t x=>by
  show simR (if t.Kind=6 then _ else _)=(if t.Kind=6 then _ else _)
  split
  · exact sta_fix (simR_fix x)
  exact rep_fix (simR_fix x)
 | .bin t x y=>by
  show simR (if t.Kind=4 then _ else _)=(if t.Kind=4 then _ else _)
  split
  · exact cat_fix (simR_fix x) (simR_fix y)
  exact uni_fix (simR_fix x) (simR_fix y)
theorem aT_1 {x:Tr} (h:aT x 1=true):lang x=fun _=>False:=by
 cases x with
 | leaf t=>
  have h:t.Kind=1:=by simpa [aT] using h
  rw [lang_leaf,if_neg (by omega),if_neg (by omega)]
 | un t x=>cases h
 | bin t x y=>cases h
theorem aT_2 {x:Tr} (h:aT x 2=true):lang x=fun w=>w=[]:=by
 cases x with
 | leaf t=>
  have h:t.Kind=2:=by simpa [aT] using h
  rw [lang_leaf,if_pos h]
 | un t x=>cases h
 | bin t x y=>cases h
theorem star_of {x:Tr} (hg:good x) (h:x.tok.Kind=6):∃ A,lang x=StarL A:=by
 cases x with
 | leaf t=>
  have ha:arity t=0:=hg
  have h:t.Kind=6:=h
  unfold arity at ha
  simp [h] at ha
  split at ha<;>omega
 | un t x=>exact⟨lang x,by rw [lang_un,if_pos (show t.Kind=6 from h)]⟩
 | bin t x y=>
  have ha:arity t=2:=hg.1
  have h:t.Kind=6:=h
  unfold arity at ha
  simp [h] at ha
  split at ha<;>omega
theorem lang_none:lang (.leaf (tok0 1))=fun _=>False:=aT_1 (by decide)
theorem star_app {A:Lang} {u v:List Nat} (hu:StarL A u):StarL A v→StarL A (u++v):=by
 induction hu with
 | nil=>exact id
 | app h _ ih=>exact fun hv=>by rw [List.append_assoc];exact .app h (ih hv)
theorem star_star (A:Lang):StarL (StarL A)=StarL A:=by
 funext w
 refine propext ⟨fun h=>?_,fun h=>?_⟩
 · induction h with
   | nil=>exact .nil
   | app h _ ih=>exact star_app h ih
 have:=StarL.app (A:=StarL A) h .nil
 rwa [List.append_nil] at this
theorem catT_lang (a b:Tr):lang (catT a b)=catL (lang a) (lang b):=by
 unfold catT
 split
 · rename_i h
   rw [Bool.or_eq_true] at h
   rw [lang_none]
   funext w
   refine propext ⟨fun h=>h.elim,fun ⟨u,v,_,hu,hv⟩=>?_⟩
   rcases h with h|h
   · rw [aT_1 h] at hu;exact hu
   rw [aT_1 h] at hv;exact hv
 split
 · rename_i h
   rw [aT_2 h]
   funext w
   refine propext ⟨fun h=>⟨[],w,rfl,rfl,h⟩,fun ⟨u,v,e,hu,hv⟩=>?_⟩
   rw [e,show u=[] from hu];exact hv
 split
 · rename_i h
   rw [aT_2 h]
   funext w
   refine propext ⟨fun h=>⟨w,[],by simp,h,rfl⟩,fun ⟨u,v,e,hu,hv⟩=>?_⟩
   rw [e,show v=[] from hv,List.append_nil];exact hu
 rw [lang_bin,if_pos (show (tok0 4).Kind=4 from rfl)]
theorem uniT_lang {a b:Tr} (ha:good a) (hb:good b):lang (uniT a b)=fun w=>lang a w∨lang b w:=by
 unfold uniT
 split
 · rename_i h
   rw [Bool.or_eq_true,decide_eq_true_eq] at h
   funext w
   refine propext ⟨.inr,fun h2=>?_⟩
   rcases h2 with h2|h2
   · rcases h with h|h
     · rw [aT_1 h] at h2;exact h2.elim
     rw [←toks_inj ha hb h];exact h2
   exact h2
 split
 · rename_i h
   funext w
   refine propext ⟨.inl,fun h2=>?_⟩
   rcases h2 with h2|h2
   · exact h2
   rw [aT_1 h] at h2;exact h2.elim
 rw [lang_bin,if_neg (show ¬ (tok0 5).Kind=4 by decide)]
theorem staT_lang {a:Tr} (ha:good a):lang (staT a)=StarL (lang a):=by
 unfold staT
 split
 · rename_i h
   rw [Bool.or_eq_true] at h
   rw [lang_empty]
   funext w
   refine propext ⟨fun h=>by rw [show w=[] from h];exact .nil,fun h2=>?_⟩
   induction h2 with
   | nil=>rfl
   | @app u v hu _ ih=>
    have ih:v=[]:=ih
    rcases h with h|h
    · rw [aT_1 h] at hu;exact hu.elim
    rw [aT_2 h] at hu
    rw [show u=[] from hu,ih];rfl
 split
 · rename_i h
   obtain⟨A,hA⟩:=star_of ha h
   rw [hA,star_star]
 rw [lang_un,if_pos (show (tok0 6).Kind=6 from rfl)]
theorem pow_nil:∀ k,powN (fun w=>w=[]) k=fun w=>w=[]
 | 0=>rfl
 | k+1=>by
  funext w
  refine propext ⟨fun ⟨u,v,e,hu,hv⟩=>?_,fun h=>⟨[],[],by rw [show w=[] from h];rfl,rfl,by rw [pow_nil k]⟩⟩
  rw [pow_nil k] at hv
  rw [e,show u=[] from hu,show v=[] from hv];rfl
theorem pow_star (A:Lang):∀ k w,powN (StarL A) k w→StarL A w
 | 0,w,h=>by rw [show w=[] from h];exact .nil
 | k+1,w,⟨u,v,e,hu,hv⟩=>by rw [e];exact star_app hu (pow_star A k v hv)
theorem star_pow {A:Lang} {w:List Nat} (h:StarL A w):∀ k,powN (StarL A) (k+1) w
 | 0=>⟨w,[],by simp,h,rfl⟩
 | k+1=>⟨[],w,rfl,.nil,star_pow h k⟩
theorem repT_lang {a:Tr} {lo hi:Int} (ha:good a) (h:(1≤hi∧hi≤3)∧0≤lo∧lo≤hi):lang (repT a lo hi)=fun w=>∃ k:Nat,lo≤(k:Int)∧(k:Int)≤hi∧powN (lang a) k w:=by
 unfold repT
 split
 · rename_i h1
   rw [Bool.or_eq_true,decide_eq_true_eq] at h1
   rcases h1 with h1|h1
   · rw [aT_2 h1]
     funext w
     refine propext ⟨fun h2=>⟨lo.toNat,by omega,by omega,by rw [pow_nil];exact h2⟩,fun ⟨k,_,_,h2⟩=>by rw [pow_nil] at h2;exact h2⟩
   obtain⟨A,hA⟩:=star_of ha h1
   rw [hA]
   funext w
   refine propext ⟨fun h2=>?_,fun ⟨k,_,_,h2⟩=>pow_star A k w h2⟩
   obtain⟨k,hk⟩:∃ k:Nat,((k+1:Nat):Int)=max lo 1:=⟨(max lo 1).toNat-1,by omega⟩
   exact⟨k+1,by omega,by omega,star_pow h2 k⟩
 split
 · rename_i h1
   rw [aT_1 h1]
   have hp:∀ k w,powN (fun _=>False) k w↔k=0∧w=[]:=fun k w=>by
    cases k with
    | zero=>exact⟨fun h=>⟨rfl,h⟩,fun h=>h.2⟩
    | succ k=>exact⟨fun ⟨_,_,_,h,_⟩=>h.elim,fun h=>by omega⟩
   split
   · rw [lang_empty]
     funext w
     refine propext ⟨fun h2=>⟨0,by omega,by omega,h2⟩,fun ⟨k,_,_,h2⟩=>((hp k w).1 h2).2⟩
   rw [aT_1 h1]
   funext w
   refine propext ⟨fun h2=>h2.elim,fun ⟨k,g1,_,h2⟩=>?_⟩
   have:=((hp k w).1 h2).1
   omega
 split
 · omega
 split
 · rename_i h1
   funext w
   refine propext ⟨fun h2=>⟨1,by omega,by omega,w,[],by simp,h2,rfl⟩,fun ⟨k,g1,g2,h2⟩=>?_⟩
   have:k=1:=by omega
   subst this
   obtain⟨u,v,e,hu,hv⟩:=h2
   rw [e,show v=[] from hv,List.append_nil];exact hu
 rw [lang_un,if_neg (show ¬ (7:Int)=6 by decide)]
theorem simR_lang:∀ x:Tr,good x→lang (simR x)=lang x
 | .leaf t,_=>rfl
 | .un t x,hg=>by
  have ih:=simR_lang x hg.2
  have hg2:=simR_good x hg.2
  show lang (if t.Kind=6 then _ else _)=_
  rcases un_kind hg with h|h
  · rw [if_pos h,staT_lang hg2,ih,lang_un,if_pos h]
  rw [if_neg (by omega),repT_lang hg2 h.2,ih,lang_un,if_neg (by omega)]
 | .bin t x y,hg=>by
  have h1:=simR_good x hg.2.1
  have h2:=simR_good y hg.2.2
  show lang (if t.Kind=4 then _ else _)=_
  rw [lang_bin]
  split
  · rw [catT_lang,simR_lang x hg.2.1,simR_lang y hg.2.2]
  rw [uniT_lang h1 h2,simR_lang x hg.2.1,simR_lang y hg.2.2]
theorem simp_tree {e:TExpr} (h:isValidExpr e=true):∃ x:Tr,good x∧toks x=e.Tokens∧simplify e=(⟨toks (simR x)⟩,true)∧isValidExpr ⟨toks (simR x)⟩=true∧simplify ⟨toks (simR x)⟩=(⟨toks (simR x)⟩,true)∧(toks (simR x)).length≤e.Tokens.length:=by
 obtain⟨x,h1,h2,h3,h4⟩:=valid_tree h
 have hg:=simR_good x h3
 have hl:(toks (simR x)).length≤(toks x).length:=by rw [←simR_toks];exact (simpT_len x).2
 have hv:=valid_good hg (by rw [h2] at hl;omega)
 refine⟨x,h3,h2,?_,hv,?_,by rw [←h2];exact hl⟩
 · rw [simplify_yes h h1,simR_toks]
 rw [simplify_yes hv (treeM_good hg),simR_toks,simR_fix]
end Go.Q
set_option maxHeartbeats 1000000
set_option maxRecDepth 100000
namespace Go.Q
open Go.RowKit Go.D
theorem FnE.fs {P:Program} {f:FuncId} {ins:List V0} {τ:Type} {p:τ→Prop} {out:τ→V} (h:FnE P f ins p out):FrE P f ins (fun o=>∃ x,p x∧o=out x):=
 ⟨h.1,fun w vs F hg hv=>(h.2 w vs F hg hv).mono fun _ _ ⟨x,hx,v,G,h1,h2,_,h4,h5⟩=>⟨_,⟨x,hx,rfl⟩,v,G,h1,(by cases ho:out x with|a y=>rw [ho] at h2;exact V0r.read h2|tup l=>rw [ho] at h2;obtain⟨vs,e,h2⟩:=h2;exact⟨vs,e,h2.read⟩),fun b hb=>(h4 b hb).1,h5⟩⟩
def letC (e:TExpr):Int:=if isValidExpr e then ((cntK e.Tokens:Nat):Int) else 0
theorem comp_same {e:TExpr} {a b:TAutomaton×Bool} (hv:isValidExpr e=true) (ha:compX e a) (hb:compX (simplify e).1 b) (h1:a.2=true) (h2:b.2=true):a.1=b.1:=by
 obtain⟨x,hg,ht,hs,hv2,_,_⟩:=simp_tree hv
 obtain⟨x1,g1,t1,c1,_,l1⟩:=ha.1 h1
 obtain⟨x2,g2,t2,c2,_,l2⟩:=hb.1 h2
 have e1:x1=x:=toks_inj g1 hg (by rw [t1,ht])
 have e2:x2=simR x:=toks_inj g2 (simR_good x hg) (by rw [t2,hs])
 subst e1;subst e2;refine can_uniq c1 c2 fun w hw=>?_
 rw [Bool.eq_iff_iff,l1 w hw,l2 w hw,simR_lang x1 hg]
theorem simp_simp {e:TExpr} (hv:isValidExpr e=true):((simplify (simplify e).1).2&&decide ((simplify (simplify e).1).1=(simplify e).1))=true:=by
 obtain⟨x,hg,ht,hs,hv2,hs2,_⟩:=simp_tree hv
 rw [hs]
 show ((simplify ⟨toks (simR x)⟩).2&&decide ((simplify ⟨toks (simR x)⟩).1=⟨toks (simR x)⟩))=true
 rw [hs2];simp
theorem simp_valid {e:TExpr} (h:(simplify e).2=true):isValidExpr e=true:=by
 cases hv:isValidExpr e with
 | true=>rfl
 | false=>rw [simplify_no hv] at h;cases h
theorem simp_none {e:TExpr} (h:(simplify e).2=false):(simplify e).1.Tokens=[]:=by
 cases hv:isValidExpr e with
 | false=>rw [simplify_no hv]
 | true=>
  obtain⟨x,hg,ht,hs,_⟩:=simp_tree hv
  rw [hs] at h;cases h
theorem short_same {e:TExpr} (hv:isValidExpr e=true) {a:TAutomaton×Bool} (ha:compX e a) (h1:a.2=true) {z:List Int×Bool} (hz:validA a.1=true→shortQ a.1 z):(z.2=decide (0≤shortestWord e))∧(z.2=true→(z.1.length:Int)=shortestWord e):=by
 obtain⟨x,hx,ht,hg,_⟩:=valid_tree hv
 obtain⟨x1,g1,t1,c1,n12,l1⟩:=ha.1 h1
 have e1:x1=x:=toks_inj g1 hg (by rw [t1,ht])
 subst e1
 obtain⟨⟨hq1,hq2⟩,hq3⟩:=hz (can_valid c1 n12)
 rw [c1.st] at hq1 hq2
 have hS:shortestWord e=capI (sh x1):=by
  unfold shortestWord
  rw [hv,hx,if_pos rfl]
  exact shortest_cap x1 hg
 have hok:=sh_ok x1 hg
 rw [hS]
 cases hs:sh x1 with
 | none=>
  rw [hs] at hok
  have hn:=cap_no
  cases hb:z.2 with
  | false=>exact⟨by rw [decide_eq_false (by omega)],fun h=>by cases h⟩
  | true=>
   obtain⟨w,_,hw,hl,_⟩:=hq1 hb
   exact absurd ((l1 w hw).1 hl) (hok w)
 | some m=>
  rw [hs] at hok
  have hn:=cap_nn m
  obtain⟨⟨w,hw,hwm⟩,hmin⟩:=hok
  have hwi:inW w:=lang_in x1 hg w hw
  have hlw:=(l1 w hwi).2 hw
  cases hb:z.2 with
  | false=>rw [hq2 hb w hwi] at hlw;cases hlw
  | true=>
   obtain⟨v,hvl,hvi,hvL,hvm⟩:=hq1 hb
   have h2:=hvm w hwi hlw
   have h3:=hmin v ((l1 v hvi).1 hvL)
   have hm:z.1.length=m:=by omega
   have hc:capI (some m)=min 1000000 (m:Int):=rfl
   exact⟨by rw [decide_eq_true (by omega)],fun _=>by omega⟩
end Go.Q
namespace Go.Proofs.YtdhojcaoljhbiaaGreat
open Go.RowKit Go.Q Go.D
theorem specLetterCountF (e:TExpr):FnT Tryz.prog 13 [.agg (cExpr e)] (.a (.one (.v (.int .i64 (letC e))))):=by
 refine A6 Tryz.func13 U (by kernel_rfl) Tryz.ntmps13 U fun hlen w0=>?_
 try simp [cToken,cExpr] at hlen
 refine Af (Ac (Bo U U U (.tm U) (ts:=_) (by rfl)) U ?_);refine AWl.ac ?_;refine Aa (Af (AWl.ac ?_));refine Aa (Ae (Af (AWl.ac ?_)));refine Aa (AW.block (C6 (fun (i:Nat) (n:Int)=>(i≤e.Tokens.length∧(isValidExpr e=false→i=0))∧n=(cntK (e.Tokens.take i):Nat)) (fun (i:Nat) (n:Int)=>⟨_,[(4,(true,.a (.one (.t (.v (.int .i64 (i:Nat))))))),(3,(true,.a (.one (.t (.v (.int .i64 n)))))),(1,_),(2,_)],[]⟩) (fun (i:Nat) (n:Int)=>e.Tokens.length-i) (0) (0) ⟨⟨Nat.zero_le _,fun _=>rfl⟩,by simp [cntK]⟩ (Az U ⟨U,U,U,U,Y⟩ trivial) ?_))
 rintro i n ⟨hk,he⟩
 refine Ae (Af (Ab ?_));refine A8 Be ?_;refine Ak Cd ?_;refine Br (.t) Tryz.underlying24 ?_;refine AWl.lt ?_;refine Ab ?_;refine Ac (Ca U (by exact .yes1 U U U U) U (.tmp U (by exact fun _=>rfl)) Ar U U) U ?_;refine Ac (Aw (FnT.fr (specIsValidExpr e)) U (by exact .yes1 U U U U) U (.cons (.tmp U (by exact id)) U .nil)) U ?_;refine Cb ?_;refine Aa (Ah (.tm U) (fun h13=>?_) (fun h13=>?_))
 · try simp at h13
   have hv:isValidExpr e=true:=(by exact h13.2)
   have hil:i<e.Tokens.length:=(by exact h13.1)
   obtain⟨t,ht⟩:∃ ξ,e.Tokens[i]?=some ξ:=⟨_,List.getElem?_eq_getElem hil⟩
   have h24:e.Tokens.length≤24:=(by obtain⟨_,_,_,_,h⟩:=valid_tree hv;exact h)
   have hck:cntK (e.Tokens.take i)≤400:=Nat.le_trans (cntK_len _) (by rw [List.length_take];omega)
   refine AW.skip (Ae (AW.block (Ae (Al (Ap [1,2,3,4] []) ?_))));refine Ad (A8 Be ?_);refine Ak Cd ?_;refine Ab ?_;refine Ac (An U (.no U) U (.tm U) (.tm U) Tryz.underlying24 Bv (fun _=>⟨by omega,(Am ht)⟩)) U ?_;refine A8 Co ?_;refine Ak ty3 ?_;refine Ba ?_;refine Aa (Ah (.tm U) (fun h22=>?_) (fun h22=>?_))
   · try simp at h22
     refine Al (Ap [1,2,3,4] []) ?_;refine Ad (Ab ?_);refine Bk ?_;refine Ag ?_;refine Aa (Ad (Ab ?_));refine Bk ?_;refine Ag ?_;refine Aa ?_
     repeat (with_reducible refine A7 ?_)
     refine Round2.next (i+1) (n+1) ⟨⟨by omega,fun h=>by rw [h] at hv;cases hv⟩,(by rw [he,cntK_at ht,if_pos (by simpa using h22)];simp)⟩ (by omega) (Az rfl ⟨rfl,rfl,rfl,rfl,Y⟩ trivial)
   try simp at h22
   refine AW.skip (Al (Ap [1,2,3,4] []) ?_);refine Ad (Ab ?_);refine Bk ?_;refine Ag ?_;refine Aa ?_
   repeat (with_reducible refine A7 ?_)
   refine Round2.next (i+1) (n) ⟨⟨by omega,fun h=>by rw [h] at hv;cases hv⟩,(by rw [he,cntK_at ht,if_neg (by simpa using h22)];simp)⟩ (by omega) (Az rfl ⟨rfl,rfl,rfl,rfl,Y⟩ trivial)
 try simp at h13
 refine Bz (Ae (Al (Ap [1,2,3,4] []) ?_));refine Ad (Ab ?_);refine Ag ?_;refine Aa (Ai (Bb U U ?_))
 unfold letC;cases hv:isValidExpr e with|false=>(rw [hk.2 hv] at he;rw [he];rfl)|true=>(have h:=h13;rw [hv] at h;(have hi:i=e.Tokens.length:=(by simp at h;omega));rw [he,hi,List.take_length];rfl)
theorem implLetterCountF (e:TExpr):FnT Tryz.prog 12 [.agg (cExpr e)] (.a (.one (.v (.int .i64 (letC e))))):=by
 refine A6 Tryz.func12 U (by kernel_rfl) Tryz.ntmps12 U fun hlen w0=>?_
 try simp [cToken,cExpr] at hlen
 refine Af (Ac (Bo U U U (.tm U) (ts:=_) (by rfl)) U ?_);refine AWl.ac ?_;refine Aa (Ae (Af (Ak Ar ?_)));refine Bu (implIsValidExpr e) ?_;refine Cw ?_;refine Aa (Ah (.tm U) (fun h8=>?_) (fun h8=>?_))
 · try simp at h8
   refine Af (AWl.ac ?_);refine Aa (Ai (Bb U U ?_))
   unfold letC;rw [if_neg (by simp [h8])]
 try simp at h8
 have hv:isValidExpr e=true:=(by simpa using h8)
 have h24:e.Tokens.length≤24:=(by obtain⟨_,_,_,_,h⟩:=valid_tree hv;exact h)
 refine AW.skip (Af (AWl.ac ?_));refine Aa (Ae (Af (A8 Be ?_)));refine Ak Cd ?_;refine Br (.t) Tryz.underlying24 ?_;refine Ac (Bf U (.no U) U (.const U)) U ?_;refine Aa (AW.block (C6 (fun (i:Nat) (n:Int)=>(i≤e.Tokens.length)∧n=(cntK (e.Tokens.take i):Nat)) (fun (i:Nat) (n:Int)=>⟨_,[(12,(true,.a (.one (.t (.v (.int .i64 (i:Nat))))))),(3,(true,.a (.one (.t (.v (.int .i64 n)))))),(2,_),(10,_),(11,_)],[]⟩) (fun (i:Nat) (n:Int)=>e.Tokens.length-i) (0) (0) ⟨Nat.zero_le _,by simp [cntK]⟩ (Az U ⟨U,U,U,U,U,Y⟩ trivial) ?_))
 rintro i n ⟨hk,he⟩
 refine Af (AWl.lt ?_);refine Aa (Ae (Ah (.tm U) (fun h13=>?_) (fun h13=>?_)))
 · try simp at h13
   obtain⟨t,ht⟩:∃ ξ,e.Tokens[i]?=some ξ:=⟨_,List.getElem?_eq_getElem (by omega)⟩
   have hck:cntK (e.Tokens.take i)≤400:=Nat.le_trans (cntK_len _) (by rw [List.length_take];omega)
   refine AW.skip (Ae (AW.block (Af (Ac (An U (.no U) U (.tm U) (.tm U) Tryz.underlying24 Bv (fun _=>⟨by omega,(Am ht)⟩)) U ?_))));refine Ak Bv ?_;refine Aq (Au 5 U U U Ci U U U) U ?_;refine Ao Bv ?_;refine Aa (Af (Bd Co ?_));refine A3 ty3 ?_;refine Ba ?_;refine Aa (Ah (.tm U) (fun h18=>?_) (fun h18=>?_))
   · try simp at h18
     refine Al (Ap [2,3,5,10,11,12] [5]) ?_;refine Ad (Ab ?_);refine Bk ?_;refine Ag ?_;refine Aa (Ad (Bk ?_));refine Ab ?_;refine Aa ?_
     repeat (with_reducible refine A7 ?_)
     refine Round2.next (i+1) (n+1) ⟨by omega,(by rw [he,cntK_at ht,if_pos (by simpa using h18)];simp)⟩ (by omega) (Az rfl ⟨rfl,rfl,rfl,rfl,rfl,Y⟩ trivial)
   try simp at h18
   refine AW.skip (Al (Ap [2,3,5,10,11,12] [5]) ?_);refine Ad (Bk ?_);refine Ab ?_;refine Aa ?_
   repeat (with_reducible refine A7 ?_)
   refine Round2.next (i+1) (n) ⟨by omega,(by rw [he,cntK_at ht,if_neg (by simpa using h18)];simp)⟩ (by omega) (Az rfl ⟨rfl,rfl,rfl,rfl,rfl,Y⟩ trivial)
 try simp at h13
 refine Bz (Af (Ab ?_));refine Ag ?_;refine Aa (Ai (Bb U U ?_))
 unfold letC;rw [if_pos hv];(have hi:i=e.Tokens.length:=(by omega));rw [he,hi,List.take_length]
end Go.Proofs.YtdhojcaoljhbiaaGreat
