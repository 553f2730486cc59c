import Derived.Test.YtbecibmlbiebeaaGreatB56xb
import Derived.Test.YtbecibmlbiebeaaGreatB37xb
import Derived.Test.YtbecibmlbiebeaaGreatAbsQxb
import Derived.Test.YtbecibmlbiebeaaGreatB92xb
import Derived.Test.YtbecibmlbiebeaaGreatB98xb
import Derived.Test.YtbecibmlbiebeaaGreatB150xb
import Derived.Test.YtbecibmlbiebeaaGreatB05xb
import Derived.Test.YtbecibmlbiebeaaGreatB19xb
import Derived.Test.YtbecibmlbiebeaaGreatB55xb
import Derived.Test.YtbecibmlbiebeaaGreatB151xb
set_option linter.unusedVariables false
set_option linter.unusedSimpArgs false
set_option maxRecDepth 100000
set_option maxHeartbeats 1000000
set_option maxRecDepth 100000
namespace Go.Q
open Go.D
def condOk (c v w:Int):Bool:=if c=0 then true else if c=1 then decide (v=w) else if c=2 then decide (v≤w) else if c=3 then decide (v<w) else if c=4 then !decide (v=w) else false
def valAt (g:TGraph) (x:Int):Int:=g.Values[x.toNat]?.getD 0
def arcsC (g:TGraph) (c x:Int):List TArc:=(arcsAt g x).filter fun y=>condOk c (valAt g x) (valAt g y.to)
def nxC (g:TGraph) (a:TAutomaton) (c:Int) (i:Nat):List Int:=(arcsC g c ((i / a.Accept.length:Nat):Int)).flatMap (vertN a ((i%a.Accept.length:Nat):Int) (valAt g ((i / a.Accept.length:Nat):Int)))
theorem nxC_sub {g:TGraph} {a:TAutomaton} {c:Int} {i:Nat}:∀ k∈nxC g a c i,k∈nxN g a i:=by
 intro k hk
 unfold nxC at hk
 obtain⟨y,hy,hk⟩:=List.mem_flatMap.1 hk
 unfold nxN nextsOf
 exact List.mem_flatMap.2 ⟨y,(List.mem_filter.1 hy).1,hk⟩
theorem nxC_ok {g:TGraph} {a:TAutomaton} (ha:validA a=true) (hg:validG g=true) {c:Int} {p:Nat} (hp:p<NP g a):∀ k∈nxC g a c p,0≤k∧k<(NP g a:Int):=fun k hk=>nxN_ok ha hg hp k (nxC_sub k hk)
theorem mem_bitsN {m q:Nat}:q∈bitsN m↔q<64∧m.testBit q=true:=by unfold bitsN;rw [List.mem_filter,List.mem_range]
theorem aftF_bit {a:TAutomaton} {k:Int} {t:Nat}:∀ {l:List Nat} {m:Nat},(aftF a k l m).testBit t=true↔m.testBit t=true∨∃ s∈l,0≤nextOf a s k∧(nextOf a s k).toNat=t
 | [],m=>by simp [aftF]
 | s::l,m=>by
  have ih:=aftF_bit (a:=a) (k:=k) (t:=t) (l:=l) (m:=if 0≤nextOf a s k then m|||2^(nextOf a s k).toNat else m)
  show (aftF a k l (if 0≤nextOf a s k then m|||2^(nextOf a s k).toNat else m)).testBit t=true↔_
  rw [ih]
  by_cases h:0≤nextOf a s k
  · rw [if_pos h,testBit_or_pow,Bool.or_eq_true,decide_eq_true_eq]
    constructor
    · rintro ((h1|h1)|⟨s',h1,h2⟩)
      · exact .inl h1
      · exact .inr ⟨s,by simp,h,h1⟩
      exact .inr ⟨s',by simp [h1],h2⟩
    rintro (h1|⟨s',h1,h2⟩)
    · exact .inl (.inl h1)
    rcases List.mem_cons.1 h1 with rfl|h1
    · exact .inl (.inr h2.2)
    exact .inr ⟨s',h1,h2⟩
  rw [if_neg h]
  constructor
  · rintro (h1|⟨s',h1,h2⟩)
    · exact .inl h1
    exact .inr ⟨s',by simp [h1],h2⟩
  rintro (h1|⟨s',h1,h2⟩)
  · exact .inl h1
  rcases List.mem_cons.1 h1 with rfl|h1
  · exact absurd h2.1 h
  exact .inr ⟨s',h1,h2⟩
theorem aft1_bit {a:TAutomaton} {s v k:Int} {t:Nat}:(aft1 a s v k).testBit t=true↔∃ r∈bitsN (closure a s v),0≤nextOf a r k∧(nextOf a r k).toNat=t:=by
 unfold aft1;rw [aftF_bit];simp
theorem aftS_bit' {a:TAutomaton} {v k:Int} {t:Nat}:∀ {l:List Nat} {o:Nat},(l.foldl (fun out (s:Nat)=>aftF a k (bitsN (closure a s v)) out) o).testBit t=true↔o.testBit t=true∨∃ q∈l,(aft1 a (q:Nat) v k).testBit t=true
 | [],o=>by simp
 | s::l,o=>by
  rw [List.foldl_cons,aftS_bit' (l:=l),aftF_bit]
  constructor
  · rintro ((h1|h1)|⟨s',h1,h2⟩)
    · exact .inl h1
    · exact .inr ⟨s,by simp,aft1_bit.2 h1⟩
    exact .inr ⟨s',by simp [h1],h2⟩
  rintro (h1|⟨s',h1,h2⟩)
  · exact .inl (.inl h1)
  rcases List.mem_cons.1 h1 with rfl|h1
  · exact .inl (.inr (aft1_bit.1 h2))
  exact .inr ⟨s',h1,h2⟩
theorem aftS_bit {a:TAutomaton} {m:Nat} {v k:Int} {t:Nat}:(aftS a m v k).testBit t=true↔∃ q∈bitsN m,(aft1 a (q:Nat) v k).testBit t=true:=by
 unfold aftS;rw [aftS_bit'];simp
theorem lt_of_bits {m n:Nat} (h:∀ t,m.testBit t=true→t<n):m<2^n:=Nat.lt_pow_two_of_testBit _ fun i hi=>by
 cases ht:m.testBit i with
 | false=>rfl
 | true=>exact absurd (h i ht) (by omega)
theorem aftS_lt {a:TAutomaton} (ha:validA a=true) {m:Nat} (hm:m<2^a.Accept.length) {v k:Int} (hv:0≤v∧v≤2) (hk:0≤k∧k<9):aftS a m v k<2^a.Accept.length:=lt_of_bits fun t ht=>by
 obtain⟨q,hq,h⟩:=aftS_bit.1 ht
 have hqn:=bits_lt hm hq
 have hlt:=aft1_lt ha hv (s:=(q:Int)) (by omega) hk
 cases Nat.lt_or_ge t a.Accept.length with
 | inl h1=>exact h1
 | inr h1=>rw [testBit_lt hlt h1] at h;cases h
theorem bit_ne {m t:Nat} (h:m.testBit t=true):m≠0:=fun e=>by rw [e,Nat.zero_testBit] at h;cases h
inductive RchS (g:TGraph) (a:TAutomaton) (c x:Int):Int→Nat→Prop where
 | start:RchS g a c x x (2^a.Start.toNat)
 | step {u:Int} {m:Nat} {y:TArc}:RchS g a c x u m→y∈arcsC g c u→aftS a m (valAt g u) y.letter≠0→RchS g a c x y.to (aftS a m (valAt g u) y.letter)
theorem arc_mem {g:TGraph} (hg:validG g=true) {x:Int} {y:TArc} (hy:y∈arcsAt g x):0≤y.letter∧y.letter<6∧0≤y.to∧y.to<g.Values.length:=by
 obtain⟨j,hj⟩:=List.getElem?_of_mem hy
 exact arcsAt_ok hg hj
theorem valAt_ok {g:TGraph} (hg:validG g=true) {x:Int} (hx:0≤x∧x<g.Values.length):g.Values[x.toNat]?=some (valAt g x)∧0≤valAt g x∧valAt g x≤2:=by
 have h:g.Values[x.toNat]?=some (g.Values[x.toNat]'(by omega)):=List.getElem?_eq_getElem _
 have e:valAt g x=g.Values[x.toNat]'(by omega):=by unfold valAt;rw [h];rfl
 rw [e]
 exact⟨h,validG_val hg h⟩
theorem RchS.rng {g:TGraph} {a:TAutomaton} (ha:validA a=true) (hg:validG g=true) {c x:Int} (hx:0≤x∧x<g.Values.length) {u:Int} {m:Nat} (h:RchS g a c x u m):(0≤u∧u<g.Values.length)∧m<2^a.Accept.length:=by
 induction h with
 | start=>have hA:=validA_len ha;exact⟨hx,Nat.pow_lt_pow_right (by omega) (by omega)⟩
 | @step u m y _ hy _ ih=>
  have h1:=arc_mem hg (List.mem_filter.1 hy).1
  exact⟨h1.2.2,aftS_lt ha ih.2 (valAt_ok hg ih.1).2 ⟨h1.1,by omega⟩⟩
def vtx (a:TAutomaton) (u:Int) (q:Nat):Nat:=u.toNat*a.Accept.length+q
theorem vtx_to {a:TAutomaton} {g:TGraph} {c u:Int} (hu:0≤u) {q t:Nat} (hq:q<a.Accept.length) {y:TArc} (hy:y∈arcsC g c u) (h0:0≤y.to) (ht:t∈bitsN (aft1 a (q:Nat) (valAt g u) y.letter)):∃ z∈nxC g a c (vtx a u q),z.toNat=vtx a y.to t:=by
 have hd:=div_idx (x:=u.toNat) hq
 refine⟨y.to*a.Accept.length+t,?_,?_⟩
 · unfold nxC vtx
   rw [hd.1,hd.2,Int.toNat_of_nonneg hu]
   exact List.mem_flatMap.2 ⟨y,hy,List.mem_map.2 ⟨t,ht,rfl⟩⟩
 unfold vtx
 obtain⟨k,hk⟩:=Int.eq_ofNat_of_zero_le h0
 rw [hk]
 show ((k:Int)*(a.Accept.length:Int)+(t:Int)).toNat=k*a.Accept.length+t
 rw [←Int.natCast_mul,←Int.natCast_add,Int.toNat_natCast]
theorem RchS.can {g:TGraph} {a:TAutomaton} (ha:validA a=true) (hg:validG g=true) {c x:Int} (hx:0≤x∧x<g.Values.length) {G:Nat→Bool} {u:Int} {m:Nat} (h:RchS g a c x u m):∀ q,m.testBit q=true→CanR (nxC g a c) G (vtx a u q)→CanR (nxC g a c) G (vtx a x a.Start.toNat):=by
 have hA:=validA_len ha
 induction h with
 | start=>
  intro q hq hc
  rw [Nat.testBit_two_pow,decide_eq_true_eq] at hq
  rw [hq];exact hc
 | @step u m y hr hy _ ih=>
  intro t ht hc
  have hur:=hr.rng ha hg hx
  obtain⟨q,hq,h1⟩:=aftS_bit.1 ht
  have hqn:=bits_lt hur.2 hq
  have h2:=arc_mem hg (List.mem_filter.1 hy).1
  have hlt:=aft1_lt ha (valAt_ok hg hur.1).2 (s:=(q:Int)) (by omega) (k:=y.letter) ⟨h2.1,by omega⟩
  have htn:t<a.Accept.length:=by
   cases Nat.lt_or_ge t a.Accept.length with
   | inl h=>exact h
   | inr h=>rw [testBit_lt hlt h] at h1;cases h1
  obtain⟨z,hz,e⟩:=vtx_to hur.1.1 hqn hy h2.2.2.1 (mem_bitsN.2 ⟨by omega,h1⟩)
  exact ih q (mem_bitsN.1 hq).2 (.step hz (by rw [e];exact hc))
end Go.Q
set_option maxHeartbeats 1000000
set_option maxRecDepth 100000
namespace Go.Q
open Go.D
end Go.Q
namespace Go.Proofs.YtbecibmlbiebeaaGreat
open Go.RowKit Go.Q Go.D
end Go.Proofs.YtbecibmlbiebeaaGreat
namespace Go.Q
open Go.RowKit
section
variable {P:Program} {ops:Array Oper} {o:Oper} {σ:St} {q:Bool}
end
end Go.Q
set_option maxHeartbeats 1000000
set_option maxRecDepth 100000
namespace Go.Q
open Go.D
end Go.Q
namespace Go.Proofs.YtbecibmlbiebeaaGreat
open Go.RowKit Go.Q Go.D
end Go.Proofs.YtbecibmlbiebeaaGreat
set_option maxHeartbeats 1000000
set_option maxRecDepth 100000
namespace Go.Q
open Go.D
end Go.Q
namespace Go.Proofs.YtbecibmlbiebeaaGreat
open Go.RowKit Go.Q Go.D
end Go.Proofs.YtbecibmlbiebeaaGreat
set_option maxHeartbeats 1000000
set_option maxRecDepth 100000
namespace Go.Q
open Go.D
def gle (h g:TGraph):Prop:=h.Values=g.Values∧∀ e∈h.Edges,e∈g.Edges
theorem gle.refl (g:TGraph):gle g g:=⟨rfl,fun _ h=>h⟩
theorem gle.trans {a b c:TGraph} (h1:gle a b) (h2:gle b c):gle a c:=⟨h1.1.trans h2.1,fun e he=>h2.2 e (h1.2 e he)⟩
end Go.Q
set_option maxHeartbeats 1000000
set_option maxRecDepth 100000
namespace Go.Q
open Go.RowKit Go.D
abbrev ShrX:=TGraph×TExpr×TExpr×Int×Int
end Go.Q
namespace Go.Proofs.YtbecibmlbiebeaaGreat
open Go.RowKit Go.Q Go.D
theorem specl4Node (g:TGraph):FnD Tryz.prog 174 [.agg (cGraph g)] (fun _:Int=>True) (fun x=>.a (.one (.v (.int .i64 x)))):=by
 refine FnD.walk Tryz.func174 U (by kernel_rfl) Tryz.ntmps174 U (fun g=>rfl) fun w0 g=>?_
 refine Af (Ad (Bm U U U (.tm U) (ts:=_) (by rfl)) U ?_);refine Ak ?_;refine Aa (Ae (Af (Ab ?_)));refine Bd (Bf 600 (specl1Once _) U U U (.tm U) U U (.cons (.const U) U .nil) (fun _=>rfl) (fun _=>rfl)) ?_
 rintro _ ⟨z6,hz6,rfl⟩
 try dsimp only at hz6
 refine Aa (Ai (.tm U) (fun h6=>?_) (fun h6=>?_))
 · try simp at h6
   refine Af (Ab ?_);refine Bn (Ce (xs:=[.const (.int .i64 (-1)),.const (.int .i64 (5)),.const (.int .i64 (9223372036854775807))]) 8 U U U (.cons (.const U) U U (.cons (.const U) U U (.cons (.const U) U U .nil))) Tryz.underlying40 in3 U U U U) U ?_;refine Bd (Bf 900 (specl1PickInt [-1,5,9223372036854775807] (by decide)) U U U (.tm U) U U (.cons (.tm U) U .nil) (fun _=>rfl) (fun _=>rfl)) ?_
   rintro _ ⟨z9,hz9,rfl⟩
   try dsimp only at hz9
   refine Ag ?_;refine Aa (Am ?_);apply DRes.mk rfl
   case h=>
    refine Res.one U (.tmp U .nil) U ?_
    rfl
   case hp=>exact trivial
 try simp at h6
 refine Aj (Af (Ab ?_));refine Bg Cl ?_;refine Aq Bz ?_;refine Be (.t) Tryz.underlying40 ?_;refine Ad (R_max U (.no U) U (.const U) (.tm U)) U ?_;refine Bd (Bf 1500 (specl1Below _) U U U (.tm U) U U (.cons (.tm U) U .nil) (fun _=>rfl) (fun _=>rfl)) ?_
 rintro _ ⟨z15,hz15,rfl⟩
 try dsimp only at hz15
 refine Ag ?_;refine Aa (Am ?_);apply DRes.mk rfl
 case h=>
  refine Res.one U (.tmp U .nil) U ?_
  rfl
 case hp=>exact trivial
end Go.Proofs.YtbecibmlbiebeaaGreat
set_option maxHeartbeats 1000000
set_option maxRecDepth 100000
namespace Go.Q
open Go.D
def hitB (g:TGraph) (a:TAutomaton) (RK:List Int) (p:Nat):Bool:=decide (0≤atI RK (p:Int))&&acc a ((p:Int)%(a.Accept.length:Int)) (g.Values[((p:Int) / (a.Accept.length:Int)).toNat]?.getD 0)
def hitsN (g:TGraph) (a:TAutomaton) (RK:List Int) (i:Nat):List Int:=((List.range i).filter (hitB g a RK)).map fun (p:Nat)=>(p:Int) / (a.Accept.length:Int)
theorem hitsN_succ (g:TGraph) (a:TAutomaton) (RK:List Int) (i:Nat):hitsN g a RK (i+1)=hitsN g a RK i++if hitB g a RK i then [(i:Int) / (a.Accept.length:Int)] else []:=by
 unfold hitsN
 rw [range_filter_succ,List.map_append]
 cases hitB g a RK i<;>rfl
theorem hitsN_len (g:TGraph) (a:TAutomaton) (RK:List Int) (i:Nat):(hitsN g a RK i).length≤i:=by
 unfold hitsN
 rw [List.length_map]
 exact Nat.le_trans (List.length_filter_le _ _) (by simp)
theorem hitsN_rng {g:TGraph} {a:TAutomaton} (ha:validA a=true) {RK:List Int} {i:Nat} (hi:i≤a.Accept.length*g.Values.length):∀ y∈hitsN g a RK i,0≤y∧y<g.Values.length:=by
 intro y hy
 unfold hitsN at hy
 obtain⟨p,hp,rfl⟩:=List.mem_map.1 hy
 have:=List.mem_range.1 (List.mem_filter.1 hp).1
 exact (nd_ok (by have:=validA_len ha;omega) (show p<a.Accept.length*g.Values.length by omega)).1
def ansL (g:TGraph) (a:TAutomaton) (x:Int):List Int:=ascL (hitsN g a (ranksOf g a x) (a.Accept.length*g.Values.length))
theorem setI_strict (m b:Nat):StrictS ltI (setI m b):=by
 unfold setI StrictS
 rw [List.pairwise_map]
 refine List.Pairwise.filter _ ?_;refine List.Pairwise.imp ?_ List.pairwise_lt_range;intro p q h
 unfold ltI
 simp;omega
theorem setI_asc {l:List Int} {b:Nat} (hl:∀ x∈l,0≤x∧x<b):setI (wB l) b=ascL l:=by
 refine strict_ext ltI_so (setI_strict _ _) (setG_strict ltI_so l) fun x=>?_
 rw [mem_ascL]
 unfold setI
 simp only [List.mem_map,List.mem_filter,List.mem_range]
 constructor
 · rintro⟨q,⟨_,h2⟩,rfl⟩
   exact (wB_test (fun k hk=>(hl k hk).1) q).1 h2
 intro h
 have:=hl x h
 refine⟨x.toNat,⟨by omega,?_⟩,by omega⟩
 exact (wB_test (fun k hk=>(hl k hk).1) _).2 (by rwa [Int.toNat_of_nonneg this.1])
theorem ansL_rng {g:TGraph} {a:TAutomaton} (ha:validA a=true) {x:Int}:∀ y∈ansL g a x,0≤y∧y<g.Values.length:=fun y hy=>hitsN_rng ha (Nat.le_refl _) y (mem_ascL.1 hy)
theorem ansL_len {g:TGraph} {a:TAutomaton} (ha:validA a=true) (hg:validG g=true) (x:Int):(ansL g a x).length≤60:=Nat.le_trans (setG_len _) (Nat.le_trans (hitsN_len _ _ _ _) (prod_le ha hg).2)
def ansF (g:TGraph) (a:TAutomaton) (x:Int):List Int:=if goodB g a x 0 then ansL g a x else []
def allTo (g:TGraph) (a:TAutomaton) (i:Nat):List TPair:=(List.range i).flatMap fun (x:Nat)=>(ansL g a x).map fun y=>⟨(x:Int),y⟩
theorem allTo_succ (g:TGraph) (a:TAutomaton) (i:Nat):allTo g a (i+1)=allTo g a i++(ansL g a i).map fun y=>⟨(i:Int),y⟩:=by
 unfold allTo
 rw [List.range_succ,List.flatMap_append];simp
def allAns (g:TGraph) (a:TAutomaton):List TPair:=if goodC g a then allTo g a g.Values.length else []
theorem allTo_len {g:TGraph} {a:TAutomaton} (ha:validA a=true) (hg:validG g=true):∀ i,(allTo g a i).length≤60*i
 | 0=>by simp [allTo]
 | i+1=>by
  rw [allTo_succ,List.length_append,List.length_map]
  have:=allTo_len ha hg i
  have:=ansL_len ha hg (x:=i)
  omega
theorem mem_ansL {g:TGraph} {a:TAutomaton} {x y:Int}:y∈ansL g a x↔∃ i:Nat,i<NP g a∧hitB g a (ranksOf g a x) i=true∧(i:Int) / (a.Accept.length:Int)=y:=by
 unfold ansL
 rw [mem_ascL]
 unfold hitsN
 simp only [List.mem_map,List.mem_filter,List.mem_range]
 constructor
 · rintro⟨i,⟨h1,h2⟩,h3⟩;exact⟨i,h1,h2,h3⟩
 rintro⟨i,h1,h2,h3⟩;exact⟨i,⟨h1,h2⟩,h3⟩
end Go.Q
namespace Go.Proofs.YtbecibmlbiebeaaGreat
open Go.RowKit Go.Q Go.D
end Go.Proofs.YtbecibmlbiebeaaGreat
set_option maxHeartbeats 1000000
set_option maxRecDepth 100000
namespace Go.Q
open Go.D
def arcsCV (g:TGraph) (c:Int):List (List TArc):=(List.range g.Values.length).map fun (x:Nat)=>arcsC g c x
theorem arcsC_len {g:TGraph} (hg:validG g=true) (c x:Int):(arcsC g c x).length≤24:=Nat.le_trans (List.length_filter_le _ _) (Nat.le_trans (arcsL_len _ _) (by have:=validG_len hg;omega))
end Go.Q
namespace Go.Proofs.YtbecibmlbiebeaaGreat
open Go.RowKit Go.Q Go.D
end Go.Proofs.YtbecibmlbiebeaaGreat
set_option maxHeartbeats 1000000
set_option maxRecDepth 100000
namespace Go.Q
open Go.D
structure TNd where
 node:Int
 set:Nat
 from_:Int
 step:TStep
def keyN (x:TNd):Int×Nat:=(x.node,x.set)
def setOf (g:TGraph) (a:TAutomaton) (d:TNd) (y:TArc):Nat:=aftS a d.set (valAt g d.node) y.letter
def skipN (g:TGraph) (a:TAutomaton) (c:Int) (d:TNd) (y:TArc):Bool:=decide (setOf g a d y=0)||!condOk c (valAt g d.node) (valAt g y.to)
def sameN (u:Int) (m:Nat) (e:TNd):Bool:=decide (e.node=u)&&decide (e.set=m)
def addN (g:TGraph) (a:TAutomaton) (c:Int) (k:Nat) (d:TNd) (L:List TNd) (y:TArc):List TNd:=
 if skipN g a c d y||L.any (sameN y.to (setOf g a d y)) then L else L++[⟨y.to,setOf g a d y,(k:Int),y.step⟩]
def expN (g:TGraph) (a:TAutomaton) (c:Int) (k:Nat) (d:TNd) (j:Nat) (L:List TNd):List TNd:=((arcsAt g d.node).take j).foldl (addN g a c k d) L
def startN (a:TAutomaton) (x:Int):TNd:=⟨x,2^a.Start.toNat,-1,⟨0,false⟩⟩
def expAt (g:TGraph) (a:TAutomaton) (c x:Int):Nat→List TNd
 | 0=>[startN a x]
 | k+1=>match (expAt g a c x k)[k]? with
  | none=>expAt g a c x k
  | some d=>expN g a c k d (arcsAt g d.node).length (expAt g a c x k)
theorem expN_at {g:TGraph} {a:TAutomaton} {c:Int} {k:Nat} {d:TNd} {j:Nat} {y:TArc} (h:(arcsAt g d.node)[j]?=some y) (L:List TNd):expN g a c k d (j+1) L=addN g a c k d (expN g a c k d j L) y:=by
 unfold expN;rw [take_at h,List.foldl_append];rfl
theorem addN_pre (g:TGraph) (a:TAutomaton) (c:Int) (k:Nat) (d:TNd) (L:List TNd) (y:TArc):∃ r,addN g a c k d L y=L++r:=by
 unfold addN
 split
 · exact⟨[],by simp⟩
 exact⟨_,rfl⟩
theorem expN_pre (g:TGraph) (a:TAutomaton) (c:Int) (k:Nat) (d:TNd) (L:List TNd):∀ l:List TArc,∃ r,l.foldl (addN g a c k d) L=L++r:=by
 intro l
 induction l generalizing L with
 | nil=>exact⟨[],by simp⟩
 | cons y l ih=>
  obtain⟨r1,h1⟩:=addN_pre g a c k d L y
  obtain⟨r2,h2⟩:=ih (addN g a c k d L y)
  exact⟨r1++r2,by rw [List.foldl_cons,h2,h1,List.append_assoc]⟩
theorem expN_get {g:TGraph} {a:TAutomaton} {c:Int} {k:Nat} {d:TNd} {j i:Nat} {L:List TNd} (hi:i<L.length):(expN g a c k d j L)[i]?=L[i]?:=by
 obtain⟨r,h⟩:=expN_pre g a c k d L ((arcsAt g d.node).take j)
 unfold expN
 rw [h,List.getElem?_append_left hi]
structure ExI (g:TGraph) (a:TAutomaton) (c x:Int) (L:List TNd):Prop where
 rch:∀ d∈L,RchS g a c x d.node d.set
 nod:(L.map keyN).Nodup
theorem any_same {L:List TNd} {u:Int} {m:Nat}:L.any (sameN u m)=true↔(u,m)∈L.map keyN:=by
 rw [List.any_eq_true]
 unfold sameN keyN
 simp only [Bool.and_eq_true,decide_eq_true_eq,List.mem_map,Prod.mk.injEq]
theorem skip_no {g:TGraph} {a:TAutomaton} {c:Int} {d:TNd} {y:TArc} (hy:y∈arcsAt g d.node):skipN g a c d y=false↔y∈arcsC g c d.node∧setOf g a d y≠0:=by
 unfold skipN arcsC
 rw [Bool.or_eq_false_iff,List.mem_filter]
 simp only [decide_eq_false_iff_not,Bool.not_eq_false',ne_eq]
 exact⟨fun h=>⟨⟨hy,h.2⟩,h.1⟩,fun h=>⟨h.2,h.1.2⟩⟩
theorem ExI.add {g:TGraph} {a:TAutomaton} {c x:Int} {L:List TNd} (h:ExI g a c x L) {k:Nat} {d:TNd} (hd:RchS g a c x d.node d.set) {y:TArc} (hy:y∈arcsAt g d.node):ExI g a c x (addN g a c k d L y):=by
 unfold addN
 split
 · exact h
 rename_i hc
 simp only [Bool.or_eq_true,not_or,Bool.not_eq_true] at hc
 have h1:=(skip_no hy).1 hc.1
 refine⟨fun e he=>?_,?_⟩
 · rcases List.mem_append.1 he with he|he
   · exact h.rch e he
   rw [List.mem_singleton] at he
   subst he;exact .step hd h1.1 h1.2
 rw [List.map_append,List.nodup_append]
 refine⟨h.nod,by simp,fun z hz w hw e=>?_⟩
 rw [List.map_singleton,List.mem_singleton] at hw
 subst hw;subst e
 have:L.any (sameN y.to (setOf g a d y))=true:=any_same.2 hz
 rw [hc.2] at this;cases this
theorem ExI.adds {g:TGraph} {a:TAutomaton} {c x:Int} {k:Nat} {d:TNd} (hd:RchS g a c x d.node d.set):∀ {l:List TArc} {L:List TNd},(∀ y∈l,y∈arcsAt g d.node)→ExI g a c x L→ExI g a c x (l.foldl (addN g a c k d) L)
 | [],_,_,h=>h
 | y::l,L,hl,h=>ExI.adds hd (l:=l) (fun z hz=>hl z (by simp [hz])) (h.add hd (hl y (by simp)))
theorem ExI.expN {g:TGraph} {a:TAutomaton} {c x:Int} {k:Nat} {d:TNd} (hd:RchS g a c x d.node d.set) (j:Nat) {L:List TNd} (h:ExI g a c x L):ExI g a c x (Go.Q.expN g a c k d j L):=ExI.adds hd (fun y hy=>List.mem_of_mem_take hy) h
theorem ExI.at (g:TGraph) (a:TAutomaton) (c x:Int):∀ k,ExI g a c x (expAt g a c x k)
 | 0=>⟨fun d hd=>by rw [expAt,List.mem_singleton] at hd;subst hd;exact .start,by simp [expAt]⟩
 | k+1=>by
  rw [expAt]
  have ih:=ExI.at g a c x k
  split
  · exact ih
  rename_i d hd
  exact ih.expN (ih.rch d (List.mem_of_getElem? hd)) _
def clsd (g:TGraph) (a:TAutomaton) (c:Int) (L:List TNd) (d:TNd) (l:List TArc):Prop:=∀ y∈l,skipN g a c d y=false→(y.to,setOf g a d y)∈L.map keyN
theorem clsd.more {g:TGraph} {a:TAutomaton} {c:Int} {L r:List TNd} {d:TNd} {l:List TArc} (h:clsd g a c L d l):clsd g a c (L++r) d l:=fun y hy hs=>by
 rw [List.map_append];exact List.mem_append.2 (.inl (h y hy hs))
theorem clsd_add (g:TGraph) (a:TAutomaton) (c:Int) (k:Nat) (d:TNd) (L:List TNd) (y:TArc) (hs:skipN g a c d y=false):(y.to,setOf g a d y)∈(addN g a c k d L y).map keyN:=by
 unfold addN
 rw [hs,Bool.false_or]
 split
 · rename_i h;exact any_same.1 h
 rw [List.map_append];exact List.mem_append.2 (.inr (by simp [keyN]))
theorem clsd_adds {g:TGraph} {a:TAutomaton} {c:Int} {k:Nat} {d:TNd}:∀ (l:List TArc) (L:List TNd),clsd g a c (l.foldl (addN g a c k d) L) d l
 | [],_=>fun y hy=>by cases hy
 | z::l,L=>fun y hy hs=>by
  rw [List.foldl_cons]
  rcases List.mem_cons.1 hy with rfl|hy
  · have h1:=clsd_add g a c k d L y hs
    obtain⟨r,h2⟩:=expN_pre g a c k d (addN g a c k d L y) l
    rw [h2,List.map_append]
    exact List.mem_append.2 (.inl h1)
  exact clsd_adds l _ y hy hs
theorem clsd_at {g:TGraph} {a:TAutomaton} {c x:Int}:∀ {k i:Nat} {d:TNd},i<k→(expAt g a c x k)[i]?=some d→clsd g a c (expAt g a c x k) d (arcsAt g d.node)
 | k+1,i,d,hi,hd=>by
  rw [expAt] at hd ⊢
  split at hd
  · rename_i h
    have hik:i<k:=by
     have:=(List.getElem?_eq_some_iff.1 hd).1
     have:=List.getElem?_eq_none_iff.1 h
     omega
    exact clsd_at hik hd
  rename_i e he
  have hk:=(List.getElem?_eq_some_iff.1 he).1
  rw [expN_get (by omega)] at hd
  by_cases hik:i=k
  · subst hik
    rw [he] at hd
    cases hd
    unfold expN
    rw [List.take_of_length_le (Nat.le_refl _)]
    exact clsd_adds _ _
  have h1:=clsd_at (k:=k) (i:=i) (by omega) hd
  obtain⟨r,h2⟩:=expN_pre g a c k e (expAt g a c x k) ((arcsAt g e.node).take (arcsAt g e.node).length)
  show clsd g a c (List.foldl _ _ _) d _
  rw [h2]
  exact h1.more
theorem ExI.len {g:TGraph} {a:TAutomaton} (ha:validA a=true) (hg:validG g=true) {c x:Int} (hx:0≤x∧x<g.Values.length) {L:List TNd} (h:ExI g a c x L):L.length≤20480:=by
 have hG:=validG_len hg
 have hP:=pow_le_12 ha
 have h1:((L.map keyN).map fun p:Int×Nat=>p.1.toNat*2^a.Accept.length+p.2).Nodup:=by
  refine List.pairwise_map.2 (List.Pairwise.imp_of_mem ?_ h.nod);intro p q hp hq hne e;refine hne ?_
  obtain⟨d,hd,rfl⟩:=List.mem_map.1 hp
  obtain⟨d',hd',rfl⟩:=List.mem_map.1 hq
  have r1:=(h.rch d hd).rng ha hg hx
  have r2:=(h.rch d' hd').rng ha hg hx
  have i1:=div_idx (x:=d.node.toNat) r1.2
  have i2:=div_idx (x:=d'.node.toNat) r2.2
  have e:d.node.toNat*2^a.Accept.length+d.set=d'.node.toNat*2^a.Accept.length+d'.set:=e
  have e1:d.node.toNat=d'.node.toNat:=by rw [←i1.1,←i2.1,e]
  have e2:d.set=d'.set:=by rw [←i1.2,←i2.2,e]
  unfold keyN
  rw [Prod.mk.injEq]
  exact⟨by omega,e2⟩
 have h2:=nodup_le (r:=List.range (g.Values.length*2^a.Accept.length)) h1 (fun z hz=>by
  obtain⟨p,hp,rfl⟩:=List.mem_map.1 hz
  obtain⟨d,hd,rfl⟩:=List.mem_map.1 hp
  have r1:=(h.rch d hd).rng ha hg hx
  refine List.mem_range.2 ?_
  show d.node.toNat*2^a.Accept.length+d.set<_
  have h3:(d.node.toNat+1)*2^a.Accept.length≤g.Values.length*2^a.Accept.length:=Nat.mul_le_mul_right _ (by omega)
  rw [Nat.succ_mul] at h3
  omega)
 rw [List.length_map,List.length_map,List.length_range] at h2
 have h4:g.Values.length*2^a.Accept.length≤5*4096:=Nat.mul_le_mul hG.2.1 hP
 omega
end Go.Q
set_option maxHeartbeats 1000000
set_option maxRecDepth 100000
namespace Go.Q
open Go.D
end Go.Q
namespace Go.Proofs.YtbecibmlbiebeaaGreat
open Go.RowKit Go.Q Go.D
end Go.Proofs.YtbecibmlbiebeaaGreat
set_option maxHeartbeats 1000000
set_option maxRecDepth 100000
namespace Go.Q
open Go.D
structure BfsD (nx:Nat→List Int) (S:Int→Prop) (out qu:List Int):Prop where
 vis:∀ q∈qu,visI out q
 srt:qu.Pairwise fun p q=>atI out p≤atI out q
 top:∀ p∈qu,∀ j,visI out j→atI out j≤atI out p+1
 cls:∀ p,visI out p→p∈qu∨∀ k∈nx p.toNat,visI out k∧atI out k≤atI out p+1
 ex:∀ j,visI out j→0<atI out j→∃ q,visI out q∧j∈nx q.toNat∧atI out j=atI out q+1
 z0:∀ j,visI out j→(atI out j=0↔S j)
structure BfsM (nx:Nat→List Int) (S:Int→Prop) (q:Int) (l out r:List Int):Prop where
 qv:visI out q
 vis:∀ p∈r,visI out p
 srt:r.Pairwise fun p q=>atI out p≤atI out q
 lo:∀ p∈r,atI out q≤atI out p
 top:∀ j,visI out j→atI out j≤atI out q+1
 cls:∀ p,visI out p→p∈r∨p=q∨∀ k∈nx p.toNat,visI out k∧atI out k≤atI out p+1
 dn:∀ k∈l,visI out k
 ex:∀ j,visI out j→0<atI out j→∃ q,visI out q∧j∈nx q.toNat∧atI out j=atI out q+1
 z0:∀ j,visI out j→(atI out j=0↔S j)
theorem BfsM.step {nx:Nat→List Int} {S:Int→Prop} {q:Int} {l out r:List Int} (hS:∀ j,S j→visI out j) (h:BfsM nx S q l out r) {k:Int} (hk:0≤k∧k<out.length) (hkn:k∈nx q.toNat):BfsM nx S q (l++[k]) (rlx q (out,r) k).1 (rlx q (out,r) k).2:=by
 have hvis:∀ j,visI (rlx q (out,r) k).1 j↔visI out j∨j=k:=fun j=>rlx_vis h.qv hk
 by_cases hneg:atI out k<0
 · have e:rlx q (out,r) k=(out.set k.toNat (atI out q+1),r++[k]):=by unfold rlx;rw [if_pos hneg]
   rw [e] at hvis ⊢
   dsimp only at hvis ⊢
   have hnv:¬ visI out k:=fun hv=>by have:=hv.2.2;omega
   have hold:∀ j,visI out j→atI (out.set k.toNat (atI out q+1)) j=atI out j:=fun j hj=>by
    rw [atI_set hk hj.1,if_neg (fun e=>hnv (by rw [←e];exact hj))]
   have hnew:atI (out.set k.toNat (atI out q+1)) k=atI out q+1:=by rw [atI_set hk hk.1,if_pos rfl]
   have hq0:=h.qv.2.2
   refine⟨(hvis q).2 (.inl h.qv),fun p hp=>?_,?_,fun p hp=>?_,fun j hj=>?_,fun p hp=>?_,fun x hx=>?_,fun j hj h0=>?_,fun j hj=>?_⟩
   · rcases List.mem_append.1 hp with hp|hp
     · exact (hvis p).2 (.inl (h.vis p hp))
     rw [List.mem_singleton] at hp;exact (hvis p).2 (.inr hp)
   · refine List.pairwise_append.2 ⟨h.srt.imp_of_mem fun {a b} ha hb hab=>?_,List.pairwise_singleton _ _,fun a ha b hb=>?_⟩
     · rw [hold a (h.vis a ha),hold b (h.vis b hb)];exact hab
     rw [List.mem_singleton] at hb
     subst hb
     rw [hold a (h.vis a ha),hnew];exact h.top a (h.vis a ha)
   · rw [hold q h.qv]
     rcases List.mem_append.1 hp with hp|hp
     · rw [hold p (h.vis p hp)];exact h.lo p hp
     rw [List.mem_singleton] at hp;subst hp;rw [hnew];omega
   · rw [hold q h.qv]
     rcases (hvis j).1 hj with hj|rfl
     · rw [hold j hj];exact h.top j hj
     rw [hnew];omega
   · rcases (hvis p).1 hp with hp|rfl
     · rcases h.cls p hp with h1|h1|h1
       · exact .inl (List.mem_append.2 (.inl h1))
       · exact .inr (.inl h1)
       refine .inr (.inr fun x hx=>?_)
       rw [hold p hp,hold x (h1 x hx).1]
       exact⟨(hvis x).2 (.inl (h1 x hx).1),(h1 x hx).2⟩
     exact .inl (List.mem_append.2 (.inr (by simp)))
   · rcases List.mem_append.1 hx with hx|hx
     · exact (hvis x).2 (.inl (h.dn x hx))
     rw [List.mem_singleton] at hx;exact (hvis x).2 (.inr hx)
   · rcases (hvis j).1 hj with hj|rfl
     · rw [hold j hj] at h0 ⊢
       obtain⟨p,h1,h2,h3⟩:=h.ex j hj h0
       exact⟨p,(hvis p).2 (.inl h1),h2,by rw [hold p h1];exact h3⟩
     exact⟨q,(hvis q).2 (.inl h.qv),hkn,by rw [hnew,hold q h.qv]⟩
   rcases (hvis j).1 hj with hj|rfl
   · rw [hold j hj];exact h.z0 j hj
   rw [hnew]
   constructor
   · intro h0;omega
   intro hs;exact absurd (hS _ hs) hnv
 have e:rlx q (out,r) k=(out,r):=by unfold rlx;rw [if_neg hneg]
 rw [e]
 refine⟨h.qv,h.vis,h.srt,h.lo,h.top,h.cls,fun x hx=>?_,h.ex,h.z0⟩
 rcases List.mem_append.1 hx with hx|hx
 · exact h.dn x hx
 rw [List.mem_singleton] at hx;subst hx;exact⟨hk.1,hk.2,Int.not_lt.1 hneg⟩
theorem BfsM.all {nx:Nat→List Int} {S:Int→Prop} {q:Int}:∀ (l2:List Int) {l1 out r:List Int},(∀ j,S j→visI out j)→BfsM nx S q l1 out r→(∀ k∈l2,(0≤k∧k<out.length)∧k∈nx q.toNat)→BfsM nx S q (l1++l2) (relax q l2 (out,r)).1 (relax q l2 (out,r)).2
 | [],l1,out,r,_,h,_=>by rw [List.append_nil];exact h
 | k::l2,l1,out,r,hS,h,hl=>by
  have hk:=hl k (by simp)
  have h1:=h.step hS hk.1 hk.2
  have e:relax q (k::l2) (out,r)=relax q l2 ((rlx q (out,r) k).1,(rlx q (out,r) k).2):=rfl
  rw [e,show l1++k::l2=l1++[k]++l2 by simp]
  exact BfsM.all l2 (fun j hj=>(rlx_vis h.qv hk.1).2 (.inl (hS j hj))) h1 fun x hx=>by rw [rlx_len];exact hl x (by simp [hx])
theorem BfsD.next {nx:Nat→List Int} {S:Int→Prop} {q:Int} {out r:List Int} (hS:∀ j,S j→visI out j) (h:BfsD nx S out (q::r)) (hn:∀ k∈nx q.toNat,0≤k∧k<out.length):BfsD nx S (relax q (nx q.toNat) (out,r)).1 (relax q (nx q.toNat) (out,r)).2:=by
 have hp:=List.pairwise_cons.1 h.srt
 have h0:BfsM nx S q [] out r:=⟨h.vis q (by simp),fun p hp=>h.vis p (by simp [hp]),hp.2,hp.1,fun j hj=>h.top q (by simp) j hj,fun p hv=>by
  rcases h.cls p hv with h1|h1
  · rcases List.mem_cons.1 h1 with h1|h1
    · exact .inr (.inl h1)
    exact .inl h1
  exact .inr (.inr h1),fun k hk=>(by cases hk),h.ex,h.z0⟩
 have h1:=BfsM.all (nx q.toNat) hS h0 fun k hk=>⟨hn k hk,hk⟩
 rw [List.nil_append] at h1
 refine⟨h1.vis,h1.srt,fun p hp j hj=>Int.le_trans (h1.top j hj) (Int.add_le_add_right (h1.lo p hp) 1),fun p hv=>?_,h1.ex,h1.z0⟩
 rcases h1.cls p hv with h2|rfl|h2
 · exact .inl h2
 · exact .inr fun k hk=>⟨h1.dn k hk,h1.top k (h1.dn k hk)⟩
 exact .inr h2
def CanN (nx:Nat→List Int) (G:Nat→Bool):Nat→Nat→Prop
 | 0,i=>G i=true
 | r+1,i=>∃ z∈nx i,CanN nx G r z.toNat
theorem IsDist.min {nx:Nat→List Int} {G:Nat→Bool} {N:Nat} (hn:∀ p,p<N→∀ k∈nx p,0≤k∧k<N) {O:List Int} (h:IsDist nx G N O):∀ (n i:Nat),i<N→CanN nx G n i→0≤atI O (i:Int)∧atI O (i:Int)≤n
 | 0,i,hi,hc=>by have:=(h.z0 i hi).2 hc;omega
 | n+1,i,hi,hc=>by
  obtain⟨z,hz,hc⟩:=hc
  have hb:=hn i hi z hz
  have ih:=h.min hn n z.toNat (by omega) hc
  rw [Int.toNat_of_nonneg hb.1] at ih
  have:=h.cl i hi z hz ih.1
  omega
def cwC (g:TGraph) (a:TAutomaton) (c y:Int):Nat→Int→Nat→Int
 | 0,u,m=>if m=0 then 0 else if u=y∧accS a m (valAt g u)=true then 1 else 0
 | r+1,u,m=>if m=0 then 0 else (arcsC g c u).foldl (fun n z=>min 1000000 (n+cwC g a c y r z.to (aftS a m (valAt g u) z.letter))) 0
def cwT (g:TGraph) (a:TAutomaton) (c y:Int) (r:Nat) (u:Int) (m j:Nat):Int:=((arcsC g c u).take j).foldl (fun n z=>min 1000000 (n+cwC g a c y r z.to (aftS a m (valAt g u) z.letter))) 0
theorem cwT_at {g:TGraph} {a:TAutomaton} {c y:Int} {r:Nat} {u:Int} {m j:Nat} {z:TArc} (h:(arcsC g c u)[j]?=some z):cwT g a c y r u m (j+1)=min 1000000 (cwT g a c y r u m j+cwC g a c y r z.to (aftS a m (valAt g u) z.letter)):=by
 unfold cwT;rw [take_at h,List.foldl_append];rfl
theorem cwT_all {g:TGraph} {a:TAutomaton} {c y:Int} {r:Nat} {u:Int} {m j:Nat} (hm:m≠0) (h:(arcsC g c u).length≤j):cwT g a c y r u m j=cwC g a c y (r+1) u m:=by
 unfold cwT;rw [List.take_of_length_le h,cwC,if_neg hm]
theorem cap_fold {α:Type} {f:α→Int} (hf:∀ z,0≤f z):∀ (l:List α) {n:Int},0≤n→n≤1000000→0≤l.foldl (fun n z=>min 1000000 (n+f z)) n∧l.foldl (fun n z=>min 1000000 (n+f z)) n≤1000000∧(0<l.foldl (fun n z=>min 1000000 (n+f z)) n↔0<n∨∃ z∈l,0<f z)
 | [],n,h0,h1=>by simp [h0,h1]
 | z::l,n,h0,h1=>by
  have hz:=hf z
  have ih:=cap_fold hf l (n:=min 1000000 (n+f z)) (by omega) (by omega)
  refine⟨ih.1,ih.2.1,?_⟩
  rw [List.foldl_cons,ih.2.2]
  simp only [List.mem_cons,exists_eq_or_imp]
  rw [←or_assoc]
  exact or_congr (by omega) Iff.rfl
theorem cwC_rng (g:TGraph) (a:TAutomaton) (c y:Int):∀ (r:Nat) (u:Int) (m:Nat),0≤cwC g a c y r u m∧cwC g a c y r u m≤1000000
 | 0,u,m=>by rw [cwC];split<;>(try split)<;>omega
 | r+1,u,m=>by
  rw [cwC]
  split
  · omega
  have:=cap_fold (f:=fun z:TArc=>cwC g a c y r z.to (aftS a m (valAt g u) z.letter)) (fun z=>(cwC_rng g a c y r _ _).1) (arcsC g c u) (n:=0) (by omega) (by omega)
  exact⟨this.1,this.2.1⟩
theorem cwT_rng (g:TGraph) (a:TAutomaton) (c y:Int) (r:Nat) (u:Int) (m j:Nat):0≤cwT g a c y r u m j∧cwT g a c y r u m j≤1000000:=by
 have:=cap_fold (f:=fun z:TArc=>cwC g a c y r z.to (aftS a m (valAt g u) z.letter)) (fun z=>(cwC_rng g a c y r _ _).1) ((arcsC g c u).take j) (n:=0) (by omega) (by omega)
 exact⟨this.1,this.2.1⟩
theorem cwC_pos {g:TGraph} {a:TAutomaton} {c y:Int} {r:Nat} {u:Int} {m:Nat}:0<cwC g a c y (r+1) u m↔m≠0∧∃ z∈arcsC g c u,0<cwC g a c y r z.to (aftS a m (valAt g u) z.letter):=by
 rw [cwC]
 have:=(cap_fold (f:=fun z:TArc=>cwC g a c y r z.to (aftS a m (valAt g u) z.letter)) (fun z=>(cwC_rng g a c y r _ _).1) (arcsC g c u) (n:=0) (by omega) (by omega)).2.2
 split
 · rename_i h;simp [h]
 rename_i h
 rw [this]
 simp [h]
theorem cwC_pos0 {g:TGraph} {a:TAutomaton} {c y:Int} {u:Int} {m:Nat}:0<cwC g a c y 0 u m↔u=y∧accS a m (valAt g u)=true:=by
 rw [cwC]
 by_cases hm:m=0
 · subst hm
   simp [accS,bitsN]
 rw [if_neg hm]
 by_cases h:u=y∧accS a m (valAt g u)=true
 · rw [if_pos h];exact⟨fun _=>h,fun _=>by omega⟩
 rw [if_neg h];exact⟨fun h0=>by omega,fun h0=>absurd h0 h⟩
theorem accS_bit {a:TAutomaton} {m:Nat} {v:Int}:accS a m v=true↔∃ q∈bitsN m,acc a (q:Nat) v=true:=by
 unfold accS;rw [List.any_eq_true]
theorem goal_vtx {g:TGraph} {a:TAutomaton} {u y:Int} {q:Nat} (hu:0≤u) (hq:q<a.Accept.length):goalOf g a y (vtx a u q)=true↔u=y∧acc a (q:Nat) (valAt g u)=true:=by
 have hdq:=div_idx (x:=u.toNat) hq
 have e1:(((u.toNat*a.Accept.length+q:Nat):Int) / (a.Accept.length:Int))=u:=by
  show (((u.toNat*a.Accept.length+q) / a.Accept.length:Nat):Int)=u
  rw [hdq.1,Int.toNat_of_nonneg hu]
 have e2:(((u.toNat*a.Accept.length+q:Nat):Int)%(a.Accept.length:Int))=(q:Int):=by
  show (((u.toNat*a.Accept.length+q)%a.Accept.length:Nat):Int)=q
  rw [hdq.2]
 unfold goalOf vtx valAt
 rw [e1,e2,Bool.and_eq_true,decide_eq_true_eq]
theorem nxC_vtx {g:TGraph} {a:TAutomaton} {c u:Int} (hu:0≤u) {q:Nat} (hq:q<a.Accept.length):nxC g a c (vtx a u q)=(arcsC g c u).flatMap (vertN a (q:Nat) (valAt g u)):=by
 have hd:=div_idx (x:=u.toNat) hq
 unfold nxC vtx
 rw [hd.1,hd.2,Int.toNat_of_nonneg hu]
theorem vtx_nat {a:TAutomaton} {u:Int} (h0:0≤u) (t:Nat):(u*(a.Accept.length:Int)+(t:Int)).toNat=vtx a u t:=by
 obtain⟨k,rfl⟩:=Int.eq_ofNat_of_zero_le h0
 unfold vtx
 show ((k:Int)*(a.Accept.length:Int)+(t:Int)).toNat=k*a.Accept.length+t
 rw [←Int.natCast_mul,←Int.natCast_add,Int.toNat_natCast]
theorem cnt_can {g:TGraph} {a:TAutomaton} (ha:validA a=true) (hg:validG g=true) {c y:Int}:∀ (r:Nat) (u:Int) (m:Nat),0≤u∧u<g.Values.length→m<2^a.Accept.length→(0<cwC g a c y r u m↔∃ q,m.testBit q=true∧CanN (nxC g a c) (goalOf g a y) r (vtx a u q))
 | 0,u,m,hu,hm=>by
  have hA:=validA_len ha
  rw [cwC_pos0,accS_bit]
  constructor
  · rintro⟨h1,q,hq,h2⟩
    exact⟨q,(mem_bitsN.1 hq).2,(goal_vtx hu.1 (bits_lt hm hq)).2 ⟨h1,h2⟩⟩
  rintro⟨q,hq,h⟩
  have hqn:q<a.Accept.length:=by
   cases Nat.lt_or_ge q a.Accept.length with
   | inl h=>exact h
   | inr h=>rw [testBit_lt hm h] at hq;cases hq
  have:=(goal_vtx hu.1 hqn).1 h
  exact⟨this.1,q,mem_bitsN.2 ⟨by omega,hq⟩,this.2⟩
 | r+1,u,m,hu,hm=>by
  have hA:=validA_len ha
  have hv:=valAt_ok hg hu
  rw [cwC_pos]
  constructor
  · rintro⟨_,z,hz,h⟩
    have h1:=arc_mem hg (List.mem_filter.1 hz).1
    have hlt:=aftS_lt ha hm hv.2 (k:=z.letter) ⟨h1.1,by omega⟩
    obtain⟨t,ht,hc⟩:=(cnt_can ha hg r _ _ h1.2.2 hlt).1 h
    obtain⟨q,hq,h2⟩:=aftS_bit.1 ht
    have hqn:=bits_lt hm hq
    refine⟨q,(mem_bitsN.1 hq).2,z.to*(a.Accept.length:Int)+(t:Int),?_,?_⟩
    · rw [nxC_vtx hu.1 hqn]
      have hl1:=aft1_lt ha hv.2 (s:=(q:Int)) (by omega) (k:=z.letter) ⟨h1.1,by omega⟩
      have htn:t<a.Accept.length:=by
       cases Nat.lt_or_ge t a.Accept.length with
       | inl h=>exact h
       | inr h=>rw [testBit_lt hl1 h] at h2;cases h2
      exact List.mem_flatMap.2 ⟨z,hz,List.mem_map.2 ⟨t,mem_bitsN.2 ⟨by omega,h2⟩,rfl⟩⟩
    rw [vtx_nat h1.2.2.1];exact hc
  rintro⟨q,hq,x,hx,hc⟩
  have hqn:q<a.Accept.length:=by
   cases Nat.lt_or_ge q a.Accept.length with
   | inl h=>exact h
   | inr h=>rw [testBit_lt hm h] at hq;cases hq
  rw [nxC_vtx hu.1 hqn] at hx
  obtain⟨z,hz,hx⟩:=List.mem_flatMap.1 hx
  obtain⟨t,ht,rfl⟩:=List.mem_map.1 hx
  have h1:=arc_mem hg (List.mem_filter.1 hz).1
  have hlt:=aftS_lt ha hm hv.2 (k:=z.letter) ⟨h1.1,by omega⟩
  rw [vtx_nat h1.2.2.1] at hc
  refine⟨bit_ne hq,z,hz,(cnt_can ha hg r _ _ h1.2.2 hlt).2 ⟨t,aftS_bit.2 ⟨q,mem_bitsN.2 ⟨by omega,hq⟩,(mem_bitsN.1 ht).2⟩,hc⟩⟩
structure FrmN (g:TGraph) (a:TAutomaton) (c:Int) (L:List TNd) (b:Nat) (e:TNd) (f:Nat) (d:TNd) (j:Nat) (y:TArc):Prop where
 hd:L[f]?=some d
 lt:f<b
 hy:(arcsAt g d.node)[j]?=some y
 sk:skipN g a c d y=false
 eq:e=⟨y.to,setOf g a d y,(f:Int),y.step⟩
 pr:∀ i di,i<f→L[i]?=some di→clsd g a c (L.take b) di (arcsAt g di.node)
 cu:clsd g a c (L.take b) d ((arcsAt g d.node).take j)
def ExR (g:TGraph) (a:TAutomaton) (c:Int) (L:List TNd):Prop:=∀ b e,L[b]?=some e→0<b→∃ f d j y,FrmN g a c L b e f d j y
theorem ExR.app {g:TGraph} {a:TAutomaton} {c:Int} {L:List TNd} (h:ExR g a c L) {f j:Nat} {d:TNd} {y:TArc} (hd:L[f]?=some d) (hy:(arcsAt g d.node)[j]?=some y) (sk:skipN g a c d y=false) (pr:∀ i di,i<f→L[i]?=some di→clsd g a c L di (arcsAt g di.node)) (cu:clsd g a c L d ((arcsAt g d.node).take j)):ExR g a c (L++[⟨y.to,setOf g a d y,(f:Int),y.step⟩]):=by
 intro b e hb h0
 have hfl:=(List.getElem?_eq_some_iff.1 hd).1
 rcases Nat.lt_or_ge b L.length with hbl|hbl
 · rw [List.getElem?_append_left hbl] at hb
   obtain⟨f',d',j',y',hF⟩:=h b e hb h0
   have ht:(L++[(⟨y.to,setOf g a d y,(f:Int),y.step⟩:TNd)]).take b=L.take b:=List.take_append_of_le_length (by omega)
   refine⟨f',d',j',y',⟨by rw [List.getElem?_append_left (by have:=hF.lt;omega)];exact hF.hd,hF.lt,hF.hy,hF.sk,hF.eq,fun i di hi hdi=>?_,by rw [ht];exact hF.cu⟩⟩
   rw [ht]
   rw [List.getElem?_append_left (by have:=hF.lt;omega)] at hdi
   exact hF.pr i di hi hdi
 have hbe:b=L.length:=by
  have:=(List.getElem?_eq_some_iff.1 hb).1
  simp at this;omega
 subst hbe
 have ht:(L++[(⟨y.to,setOf g a d y,(f:Int),y.step⟩:TNd)]).take L.length=L:=by rw [List.take_append_of_le_length (Nat.le_refl _),List.take_length]
 rw [List.getElem?_append_right (Nat.le_refl _),Nat.sub_self] at hb
 simp only [List.getElem?_cons_zero,Option.some.injEq] at hb
 refine⟨f,d,j,y,⟨by rw [List.getElem?_append_left hfl];exact hd,hfl,hy,sk,hb.symm,fun i di hi hdi=>?_,by rw [ht];exact cu⟩⟩
 rw [ht]
 rw [List.getElem?_append_left (by omega)] at hdi
 exact pr i di hi hdi
theorem ExR.expN {g:TGraph} {a:TAutomaton} {c:Int} {L:List TNd} (h:ExR g a c L) {k:Nat} {d:TNd} (hd:L[k]?=some d) (hcl:∀ i di,i<k→L[i]?=some di→clsd g a c L di (arcsAt g di.node)):∀ j,j≤(arcsAt g d.node).length→ExR g a c (Go.Q.expN g a c k d j L)
 | 0,_=>h
 | j+1,hj=>by
  have ih:=ExR.expN h hd hcl j (by omega)
  have hy:(arcsAt g d.node)[j]?=some ((arcsAt g d.node)[j]'(by omega)):=List.getElem?_eq_getElem _
  have hkl:=(List.getElem?_eq_some_iff.1 hd).1
  rw [expN_at hy]
  unfold addN
  split
  · exact ih
  rename_i hc
  simp only [Bool.or_eq_true,not_or,Bool.not_eq_true] at hc
  refine ih.app (by rw [expN_get hkl];exact hd) hy hc.1 (fun i di hi hdi=>?_) (clsd_adds _ _)
  rw [expN_get (by omega)] at hdi
  obtain⟨r,h2⟩:=expN_pre g a c k d L ((arcsAt g d.node).take j)
  show clsd g a c (List.foldl _ _ _) di _
  rw [h2]
  exact (hcl i di hi hdi).more
theorem ExR.at (g:TGraph) (a:TAutomaton) (c x:Int):∀ k,ExR g a c (expAt g a c x k)
 | 0=>fun b e hb h0=>by
  have:=(List.getElem?_eq_some_iff.1 hb).1
  simp [expAt] at this;omega
 | k+1=>by
  rw [expAt]
  have ih:=ExR.at g a c x k
  split
  · exact ih
  rename_i d hd
  exact ih.expN hd (fun i di hi hdi=>clsd_at hi hdi) _ (Nat.le_refl _)
end Go.Q
set_option maxHeartbeats 1000000
set_option maxRecDepth 100000
namespace Go.Q
open Go.D
theorem wB_lt {l:List Int} {b:Nat} (h:∀ x∈l,0≤x∧x<b):wB l<2^b:=Nat.lt_pow_two_of_testBit _ fun i hi=>by
 cases ht:(wB l).testBit i with
 | false=>rfl
 | true=>
  have h1:=(wB_test (fun k hk=>(h k hk).1) i).1 ht
  have:=h _ h1
  omega
theorem hitsN_wB {g:TGraph} {a:TAutomaton} (ha:validA a=true) {RK:List Int} {i:Nat} (hi:i≤a.Accept.length*g.Values.length) (hv:g.Values.length≤5):wB (hitsN g a RK i)<2^5:=
 wB_lt fun x hx=>by have:=hitsN_rng ha hi x hx;omega
end Go.Q
namespace Go.Proofs.YtbecibmlbiebeaaGreat
open Go.RowKit Go.Q Go.D
theorem specl15From (g:TGraph) (a:TAutomaton) (ha:validA a=true) (hg:validG g=true) (x:Int) (hx:0≤x∧x<g.Values.length):FnT Tryz.prog 82 [.agg (cGraph g),.agg (cAutomaton a),.one (.v (.int .i64 x))] (.a (.one (.sl 1 ((ansL g a x).map cInt)))):=by
 refine A7 Tryz.func82 U (by kernel_rfl) Tryz.ntmps82 U fun hlen w0=>?_
 try simp [cPair,cEdge,cGraph,cAutomaton] at hlen
 have hA:=validA_len ha
 have hG:=validG_len hg
 have hN:1≤NP g a∧NP g a≤60:=prod_le ha hg
 have hRK:=ranks_ok ha hg hx
 have hRl:(ranksOf g a x).length=NP g a:=hRK.1
 refine Af (Ad (Bm U U U (.tm U) (ts:=_) (by rfl)) U ?_);refine Ad (Bm U U U (.tm U) (ts:=_) (by rfl)) U ?_;refine Ak ?_;refine Cb (i:=6) 20001 1 U U ?_;refine Aa (Af (Bg C0 ?_));refine Aq ty33 ?_;refine Be (.t) Tryz.underlying33 ?_;refine Ag ?_;refine Aa (Af (Aq Bx ?_));refine Aq Bt ?_;refine Ab ?_;refine Bv (specl14Ranks g a ha hg x hx) ?_;refine Ag ?_;refine Aa (Ae (Ar (Av [0,1,2,3,4,6,7,8] [20001]) ?_));refine Ac (Ak ?_);refine Aa (Ae (Af (Ak ?_)));refine Aa (AW.block (Cz (fun (i:Nat) (m:Nat)=>(i≤NP g a∧m<2^60)∧m=wB (hitsN g a (ranksOf g a x) i)) (fun (i:Nat) (m:Nat)=>⟨_,[(10,(true,.a (.one (.t (.v (.int .i64 (i:Nat))))))),(9,(true,.a (.one (.t (.v (.int .i64 (m:Nat))))))),(3,_),(4,_),(6,_),(7,_),(8,_)],[]⟩) (fun (i:Nat) (m:Nat)=>NP g a-i) (0) (0) ⟨⟨Nat.zero_le _,by decide⟩,U⟩ (Ap U ⟨U,U,U,U,U,U,U,Y⟩ trivial) ?_))
 rintro i m ⟨hk,he⟩
 refine Ae (Af (Ab ?_));refine Ab ?_;refine Be (.t) Tryz.underlying40 ?_;refine AWl.lt ?_;refine Aa (Ai (.tm U) (fun h21=>?_) (fun h21=>?_))
 · try simp at h21
   have hiN:i<NP g a:=by omega
   have hdm:=nd_ok (p:=i) hA.1 (show i<NP g a from hiN)
   obtain⟨v,hv⟩:∃ v,g.Values[((i:Int) / (a.Accept.length:Int)).toNat]?=some v:=⟨_,List.getElem?_eq_getElem (by omega)⟩
   have hgi:=atI_get (out:=ranksOf g a x) (k:=(i:Int)) (by omega)
   refine Aj (Ae (AW.block (Ae (B8 16 (nthB [[],[],[0,1],[0,1,2],[0,1,2,3],[0,1,2,3,4],[0,1,2,3,4,5],[0,1,2,3,4,5],[0,1,2,3,4,5],[0,1,2,3,4,5],[0,1,2,3,4,5,8,9],[0,1,2,3,4,5],[0,1,2,3,4,5],[0,1,2,3,4,5,11,12],[0,1,2,3,4,5,6,7,8,9,10,11,12,13],[0,1,2,3,4,5,6,7,8,9,10,11,12,13,14]]) (by kernel_rfl) (by kernel_rfl) (by kernel_rfl) ?_))));refine Aw ?_;refine Aw ?_;refine DrawC.s (fun _ hs=>(by exact As U (.no U) (Ah hs U) (hs.tm U) (hs.tm U) Tryz.underlying40 ty3 (fun _=>⟨by omega,(Al hgi)⟩))) ?_;refine Bj ty3 ?_;refine DrawC.s (fun _ hs=>R_ge U (.no U) (Ah hs U) (hs.tm U) (.const U)) ?_;refine Aw ?_;refine DrawC.s (fun _ hs=>(by exact Ca U (by exact .yes1 U U (hs.slots _ _ U) (by rw [hs.n];rfl)) (Ah hs U) (.tmp (hs.slots _ _ U) (by exact fun _=>rfl)) Bx U U)) ?_
   refine DrawC.s (fun _ hs=>(by exact Ca U (by exact .yes1 U U (hs.slots _ _ U) (by rw [hs.n];rfl)) (Ah hs U) (.tmp (hs.slots _ _ U) (by exact fun _=>rfl)) Bt U U)) ?_;refine DrawC.s (fun _ hs=>Bh U (by exact .yes1 U U (hs.slots _ _ U) (by rw [hs.n];rfl)) (Ah hs U) (.tmp (hs.slots _ _ U) (by exact fun _=>rfl))) ?_;refine DrawC.s (fun _ hs=>Bh U (by exact .yes1 U U (hs.slots _ _ U) (by rw [hs.n];rfl)) (Ah hs U) (.tmp (hs.slots _ _ U) (by exact fun _=>rfl))) ?_;refine DrawC.s (fun _ hs=>R_quo U (by exact .yes1 U U (hs.slots _ _ U) (by rw [hs.n];rfl)) (Ah hs U) (.tmp (hs.slots _ _ U) (by exact id)) (.tmp (hs.slots _ _ U) (by exact id)) (fun hq=>by first|omega|(simp at hq;omega))) ?_;refine DrawC.s (fun _ hs=>Bh U (by exact .yes1 U U (hs.slots _ _ U) (by rw [hs.n];rfl)) (Ah hs U) (.tmp (hs.slots _ _ U) (by exact fun _=>rfl))) ?_
   refine DrawC.s (fun _ hs=>Bh U (by exact .yes1 U U (hs.slots _ _ U) (by rw [hs.n];rfl)) (Ah hs U) (.tmp (hs.slots _ _ U) (by exact fun _=>rfl))) ?_;refine DrawC.s (fun _ hs=>R_rem U (by exact .yes1 U U (hs.slots _ _ U) (by rw [hs.n];rfl)) (Ah hs U) (.tmp (hs.slots _ _ U) (by exact id)) (.tmp (hs.slots _ _ U) (by exact id)) (fun hq=>by first|omega|(simp at hq;omega))) ?_;refine DrawC.s (fun _ hs=>R_callq U (by exact .yes1 U U (hs.slots _ _ U) (by rw [hs.n];rfl)) (Ah hs U) (.cons (.tmp (hs.slots _ _ U) (by exact id)) (readA_sup hs U) (.cons (.tmp (hs.slots _ _ U) (by exact id)) (readA_sup hs U) (.cons (.tmp (hs.slots _ _ U) (by exact id)) (readA_sup hs U) (.cons (.tmp (hs.slots _ _ U) (by exact id)) (readA_sup hs U) .nil)))) fun hq=>FnT.fr (specl14Accepts g a ha hg ((i:Int) / (a.Accept.length:Int)) ((i:Int)%(a.Accept.length:Int)) v (by omega) hv (by omega))) ?_
   refine DrawC.s (fun _ hs=>R_and U (.no U) (Ah hs U) (hs.tm U) (.tmp (hs.slots _ _ U) (by exact id))) ?_;refine DrawC.fin U U ?_;refine Aa (Ai (.tm U) (fun h39=>?_) (fun h39=>?_))
   · try simp at h39
     have hhit:hitB g a (ranksOf g a x) i=true:=by (unfold hitB;rw [hv,Option.getD_some];simpa using h39)
     have h2x:2^((i:Int) / (a.Accept.length:Int)).toNat≤2^5:=Nat.pow_le_pow_right (by omega) (by omega)
     have h2p:=Nat.two_pow_pos ((i:Int) / (a.Accept.length:Int)).toNat
     refine Ar (Av [3,4,6,7,8,9,10] []) ?_;refine Ac (Ab ?_);refine Ab ?_;refine Ab ?_;refine Ad (R_quo U (.no U) U (.tm U) (.tm U) (fun _=>by omega)) U ?_;refine Ad (R_shlN U (.no U) U (.const U) (.tm U) (fun _=>by omega)) U ?_;refine Ad (R_or_int U (.no U) U (.tm U) (.tm U) (fun _=>by omega)) U ?_;refine Ag ?_;refine Aa (Ar (Av [3,4,6,7,8,9,10] []) ?_);refine Ac (Ab ?_);refine A8 ?_;refine Ag ?_;refine Aa ?_
     repeat (with_reducible refine Au ?_)
     refine Round2.next (i+1) (m|||2^((i:Int) / (a.Accept.length:Int)).toNat) ⟨⟨by omega,or_pow_lt hk.2 (by omega)⟩,(by rw [hitsN_succ,hhit,if_pos rfl,wB_snoc,←he])⟩ (by omega) (Ap rfl ⟨rfl,rfl,rfl,rfl,rfl,rfl,rfl,Y⟩ trivial)
   try simp at h39
   have hhit:hitB g a (ranksOf g a x) i=false:=by (unfold hitB;rw [hv,Option.getD_some];simpa using h39)
   refine Aj (Ar (Av [3,4,6,7,8,9,10] []) ?_);refine Ac (Ab ?_);refine A8 ?_;refine Ag ?_;refine Aa ?_
   repeat (with_reducible refine Au ?_)
   refine Round2.next (i+1) (m) ⟨⟨by omega,hk.2⟩,(by rw [hitsN_succ,hhit];simpa using he)⟩ (by omega) (Ap rfl ⟨rfl,rfl,rfl,rfl,rfl,rfl,rfl,Y⟩ trivial)
 try simp at h21
 have hM:m=wB (hitsN g a (ranksOf g a x) (NP g a)):=by (rw [he,show i=NP g a by omega])
 subst hM;refine Bb (Af (Ab ?_));refine Cc (Cq 4700 (specl4Set (wB (hitsN g a (ranksOf g a x) (NP g a))) (Nat.lt_trans (hitsN_wB ha (Nat.le_refl _) (by omega)) (by decide))) U U U (.cons (.tm U) U .nil) U U) U ?_;refine Ag ?_;refine Aa (Am (Res.one U (.tmp U .nil) U ?_))
 unfold ansL;rw [setI_asc (fun z hz=>by have:=hitsN_rng ha (Nat.le_refl _) z hz;omega)];rfl
end Go.Proofs.YtbecibmlbiebeaaGreat
set_option maxHeartbeats 1000000
set_option maxRecDepth 100000
namespace Go.Q
open Go.D
section
variable (g:TGraph) (a:TAutomaton)
end
end Go.Q
namespace Go.Proofs.YtbecibmlbiebeaaGreat
open Go.RowKit Go.Q Go.D
theorem specl11Find (l:List Int) (v:Int):FnT Tryz.prog 104 [.one (.sl 1 (l.map cInt)),.one (.v (.int .i64 v))] (.a (.one (.v (.int .i64 (findI (fun x=>decide (v=x)) l 0))))):=by
 refine A7 Tryz.func104 U (by kernel_rfl) Tryz.ntmps104 U fun hlen w0=>?_
 try simp [cPair,cEdge,cGraph,cAutomaton] at hlen
 refine Af (Ak ?_);refine Aa (Ae (Af (Ak ?_)));refine Aa (AW.block (C2 (β:=Nat) (fun x=>x≤(l).length∧∀ j y,j<x→(l)[j]?=some y→(fun x=>!decide (v=x)) y=true) (fun x=>⟨_,[(5,(true,.a (.one (.t (.v (.int .i64 (x:Nat))))))),(0,_),(1,_)],[]⟩) (fun x=>(l).length-x) (0) ⟨Nat.zero_le _,fun j y hj=>absurd hj (Nat.not_lt_zero j)⟩ (Ap U ⟨U,U,U,Y⟩ trivial) ?_));intro k hk;refine Ae (Af (Ab ?_));refine Ab ?_;refine Be (.t) Tryz.underlying40 ?_;refine AWl.lt ?_;refine Aa (Ai (.tm U) (fun hlt=>?_) (fun hlt=>?_))
 · try simp at hlt
   obtain⟨x,hx⟩:∃ ξ,(l)[k]?=some ξ:=⟨_,List.getElem?_eq_getElem (by exact hlt)⟩
   refine Aj (Ae (AW.block (Af (Ab ?_))));refine Ab ?_;refine Ad ((As U (.no U) U (.tm U) (.tm U) Tryz.underlying40 ty3 (fun _=>⟨by omega,(by exact Al (by assumption))⟩))) U ?_;refine Aq ty3 ?_;refine Ab ?_;refine AWl.eq ?_;refine Aa (Ai (.tm U) (fun h17=>?_) (fun h17=>?_))
   · try simp at h17
     refine Ae (Ar (Av [0,1,5] []) ?_);refine Ac (Ab ?_);refine Ag ?_;refine Aa (Am (Bp U U ?_))
     rw [findI_at (k:=k) hk.2 hx (by have h:=h17;first|(simp;omega)|(simp at h ⊢;omega))];simp
   try simp at h17
   refine Aj (Ar (Av [0,1,5] []) ?_);refine Ac (Ab ?_);refine A8 ?_;refine Ag ?_;refine Aa ?_;refine Round.next (k+1) ⟨by omega,each_succ hk.2 hx (by (have h:=h17;first|(simp;omega)|(simp at h ⊢;omega)))⟩ (by omega) (Ap rfl ⟨rfl,rfl,rfl,Y⟩ trivial)
 try simp at hlt
 refine Bb (Af (Ak ?_));refine Aa (Am (Bp U U ?_))
 rw [findI_none hk.2 (by omega)]
end Go.Proofs.YtbecibmlbiebeaaGreat
set_option maxHeartbeats 1000000
set_option maxRecDepth 100000
namespace Go.Q
open Go.D
theorem canN_R {nx:Nat→List Int} {G:Nat→Bool}:∀ (r i:Nat),CanN nx G r i→CanR nx G i
 | 0,_,h=>.goal h
 | r+1,_,h=>by
  obtain⟨z,hz,h⟩:=h
  exact .step hz (canN_R r _ h)
theorem canN_mono {nx nx':Nat→List Int} {G:Nat→Bool} {N:Nat} (hn:∀ p,p<N→∀ k∈nx p,0≤k∧k<(N:Int)) (hs:∀ p,p<N→∀ k∈nx p,k∈nx' p):∀ (r i:Nat),i<N→CanN nx G r i→CanN nx' G r i
 | 0,_,_,h=>h
 | r+1,i,hi,h=>by
  obtain⟨z,hz,h⟩:=h
  have hb:=hn i hi z hz
  exact⟨z,hs i hi z hz,canN_mono hn hs r _ (by omega) h⟩
theorem canN_chain {nx:Nat→List Int} {G:Nat→Bool} {N:Nat} (hn:∀ p,p<N→∀ k∈nx p,0≤k∧k<(N:Int)):∀ (r i:Nat),i<N→CanN nx G r i→∃ l:List Nat,l.length=r+1∧(∀ v∈l,v<N∧(v=i∨R1 nx i (v:Int))∧CanR nx G v)∧((∀ v∈l,¬ R1 nx v (v:Int))→l.Nodup)
 | 0,i,hi,h=>⟨[i],rfl,fun v hv=>by rw [List.mem_singleton] at hv;subst hv;exact⟨hi,.inl rfl,.goal h⟩,fun _=>by simp⟩
 | r+1,i,hi,h=>by
  have hR:=canN_R _ _ h
  obtain⟨z,hz,hc⟩:=h
  have hb:=hn i hi z hz
  obtain⟨l,h1,h2,h3⟩:=canN_chain hn r z.toNat (by omega) hc
  have hzi:R1 nx i ((z.toNat:Nat):Int):=.base (by rw [Int.toNat_of_nonneg hb.1];exact hz)
  have hall:∀ v∈l,R1 nx i (v:Int):=fun v hv=>by
   rcases (h2 v hv).2.1 with h|h
   · rw [h];exact hzi
   exact R1.trans hzi h
  refine⟨i::l,by simp [h1],fun v hv=>?_,fun hno=>?_⟩
  · rcases List.mem_cons.1 hv with rfl|hv
    · exact⟨hi,.inl rfl,hR⟩
    exact⟨(h2 v hv).1,.inr (hall v hv),(h2 v hv).2.2⟩
  refine List.nodup_cons.2 ⟨fun hm=>hno i (by simp) (hall i hm),h3 fun v hv=>hno v (by simp [hv])⟩
theorem nextsN0 {g:TGraph} {a:TAutomaton} (ha:validA a=true) (hg:validG g=true):∀ p,∀ k∈nxL (nextsV g a) p,0≤k:=fun p k hk=>by
 by_cases hp:p<NP g a
 · rw [nextsV_at hp] at hk;exact (nxN_ok ha hg hp k hk).1
 unfold nxL at hk
 rw [List.getElem?_eq_none (by rw [nextsV_len];unfold NP at hp;omega)] at hk
 cases hk
theorem fin_none {g:TGraph} {a:TAutomaton} {x y:Int} (hu:usefulOk g a x y=true) (hinf:infW g a x y=false):cwC g a 0 y (usefF g a x y).length x (2^a.Start.toNat)=0:=by
 have hu':=hu
 unfold usefulOk at hu'
 rw [Bool.and_eq_true] at hu'
 obtain⟨hg,ha,hx⟩:=good_parts hu'.1
 have hy:=(good_parts hu'.2).2.2
 have hA:=validA_len ha
 rcases Int.lt_or_le 0 (cwC g a 0 y (usefF g a x y).length x (2^a.Start.toNat)) with hp|hp
 case inr=>have:=(cwC_rng g a 0 y (usefF g a x y).length x (2^a.Start.toNat)).1;omega
 exfalso
 have hsm:2^a.Start.toNat<2^a.Accept.length:=Nat.pow_lt_pow_right (by omega) (by omega)
 obtain⟨q,hq,hc⟩:=(cnt_can ha hg _ x _ hx hsm).1 hp
 have hqs:q=a.Start.toNat:=by rw [Nat.testBit_two_pow] at hq;simp at hq;exact hq.symm
 subst hqs
 have hs0:=start_ok (g:=g) ha hx
 have es:((vtx a x a.Start.toNat:Nat):Int)=x*(a.Accept.length:Int)+a.Start:=by
  unfold vtx
  rw [Int.natCast_add,Int.natCast_mul,Int.toNat_of_nonneg hA.2.2.2.1,Int.toNat_of_nonneg hx.1]
 have hNP:((NP g a:Nat):Int)=((a.Accept.length*g.Values.length:Nat):Int):=rfl
 have hsN:vtx a x a.Start.toNat<NP g a:=by omega
 have hnl:(nextsV g a).length=NP g a:=nextsV_len g a
 have hnk:∀ p,p<NP g a→∀ k∈nxL (nextsV g a) p,0≤k∧k<(NP g a:Int):=fun p hp k hk=>by rw [nextsV_at hp] at hk;exact nxN_ok ha hg hp k hk
 have hc2:CanN (nxL (nextsV g a)) (goalOf g a y) (usefF g a x y).length (vtx a x a.Start.toNat):=canN_mono (N:=NP g a) (fun p hp k hk=>nxC_ok ha hg hp k hk) (fun p hp k hk=>by rw [nextsV_at hp];exact nxC_sub k hk) _ _ hsN hc
 obtain⟨l,h1,h2,h3⟩:=canN_chain hnk _ _ hsN hc2
 have hrk:spreadOf (nxL (nextsV g a)) (NP g a) [x*(a.Accept.length:Int)+a.Start]=ranksOf g a x:=by
  have:=ranks_nexts ha hg hx
  rwa [hnl] at this
 have hRk:=fun j:Int=>spread_vis (nx:=nxL (nextsV g a)) (N:=NP g a) hnk (l:=[x*(a.Accept.length:Int)+a.Start]) (by intro q hq;rw [List.mem_singleton] at hq;subst hq;exact hs0) (j:=j)
 have hbk:=back_dist ha hg y
 have hmem:∀ v∈l,(v:Int)∈usefTo g a x y (NP g a):=fun v hv=>by
  obtain⟨hvN,hvr,hvc⟩:=h2 v hv
  refine mem_usefTo.2 ⟨v,hvN,?_,rfl⟩
  unfold usefB
  rw [Bool.and_eq_true,decide_eq_true_eq,decide_eq_true_eq]
  constructor
  · have hr:Rch (nxL (nextsV g a)) (·∈[x*(a.Accept.length:Int)+a.Start]) (v:Int):=by
     rcases hvr with h|h
     · exact .base (by rw [List.mem_singleton,h,es])
     unfold R1 at h
     refine Rch.mono (fun q hq=>?_) h;exact .step (.base (List.mem_singleton.2 rfl)) (by rw [←es,Int.toNat_natCast];exact hq)
    have:=((hRk v).2 hr).2.2
    rwa [hrk] at this
  refine (hbk.can (fun p hp=>nxN_ok ha hg hp) hvN).2 ?_
  exact hvc.congr (N:=NP g a) hnk (fun p hp=>nextsV_at hp) hvN
 have hno:∀ v∈l,¬ R1 (nxL (nextsV g a)) v (v:Int):=fun v hv hr=>by
  have hvN:=(h2 v hv).1
  have hf:=(wK_full (nx:=nxL (nextsV g a)) (N:=NP g a) (nextsN0 ha hg) (fun p hp k hk=>(hnk p hp k hk).2) hvN (j:=v)).2 hr
  rw [wK_congr (N:=NP g a) (fun p hp=>nextsV_at hp) _ _ (Nat.le_refl _) hvN] at hf
  unfold infW at hinf
  rw [hu,Bool.true_and] at hinf
  have:=List.any_eq_false.1 hinf _ (hmem v hv)
  rw [Int.toNat_natCast] at this
  exact this hf
 have hnd:=h3 hno
 have hnd2:(l.map fun v:Nat=>(v:Int)).Nodup:=List.Pairwise.map _ (fun a b h e=>h (by omega)) hnd
 have hle:=nodup_le hnd2 (r:=usefTo g a x y (NP g a)) fun z hz=>by
  obtain⟨v,hv,rfl⟩:=List.mem_map.1 hz
  exact hmem v hv
 rw [List.length_map,h1] at hle
 unfold usefF at hle
 rw [if_pos hu] at hle
 omega
theorem useful_none {g:TGraph} {a:TAutomaton} {x y:Int} (h:(usefF g a x y).length=0):y∉ansF g a x:=by
 intro hy
 unfold ansF at hy
 split at hy
 case isFalse=>cases hy
 rename_i hgx
 obtain⟨hg,ha,hx⟩:=good_parts hgx
 have hyr:=ansL_rng ha y hy
 have hu:usefulOk g a x y=true:=by
  rw [←useful_in,hgx]
  unfold inB
  simp;omega
 have h0:=List.eq_nil_of_length_eq_zero h
 unfold usefF at h0
 rw [if_pos hu] at h0
 obtain⟨i,hi,hh,e⟩:=mem_ansL.1 hy
 unfold hitB at hh
 rw [Bool.and_eq_true,decide_eq_true_eq] at hh
 have hm:(i:Int)∈usefTo g a x y (NP g a):=mem_usefTo.2 ⟨i,hi,by
  unfold usefB
  rw [Bool.and_eq_true,decide_eq_true_eq,decide_eq_true_eq]
  refine⟨hh.1,((back_dist ha hg y).can (fun p hp=>nxN_ok ha hg hp) hi).2 (.goal ?_)⟩
  unfold goalOf
  rw [Bool.and_eq_true,decide_eq_true_eq]
  exact⟨e,hh.2⟩,rfl⟩
 rw [h0] at hm
 cases hm
end Go.Q
set_option maxHeartbeats 1000000
set_option maxRecDepth 100000
namespace Go.Q
open Go.D
section
variable {N n:Nat} {C:Nat→Int} {r:Nat→Nat→Bool} {out:List Int}
def OrdO (N:Nat) (C:Nat→Int) (r:Nat→Nat→Bool) (out:List Int):Prop:=∀ j c,out[j]?=some c→∀ i k,i<N→k<N→C k=c→C i≠c→r i k=true→C i∈out.take j
theorem OrdO.add (h:OrdO N C r out) {c:Int} (hf:freeS N C r out c):OrdO N C r (out++[c]):=by
 intro j d hd i k hi hk h1 h2 h3
 rcases Nat.lt_or_ge j out.length with hj|hj
 · rw [List.getElem?_append_left hj] at hd
   rw [List.take_append_of_le_length (by omega)]
   exact h j d hd i k hi hk h1 h2 h3
 have hjl:j<(out++[c]).length:=by
  rcases Nat.lt_or_ge j (out++[c]).length with h|h
  · exact h
  rw [List.getElem?_eq_none h] at hd;cases hd
 have e:j=out.length:=by simp at hjl;omega
 subst e
 rw [List.getElem?_append_right (by omega)] at hd
 simp at hd
 subst hd
 rw [List.take_left]
 exact hf.2 i k hi hk h1 h2 h3
end
end Go.Q
namespace Go.Proofs.YtbecibmlbiebeaaGreat
open Go.RowKit Go.Q Go.D
theorem specAllAnswers (g:TGraph) (a:TAutomaton):FnT Tryz.prog 28 [.agg (cGraph g),.agg (cAutomaton a)] (.a (.one (.sl 2 ((allAns g a).map cPair)))):=by
 refine A7 Tryz.func28 U (by kernel_rfl) Tryz.ntmps28 U fun hlen w0=>?_
 try simp [cPair,cEdge,cGraph,cAutomaton] at hlen
 skip
 refine Af (Ad (Bm U U U (.tm U) (ts:=_) (by rfl)) U ?_);refine Ad (Bm U U U (.tm U) (ts:=_) (by rfl)) U ?_;refine Ak ?_;refine Cb (i:=4) 20001 2 U U ?_;refine Aa (Af (A6 (Cu 9 U U U Tryz.underlying48 ty58 U) U ?_));refine Ag ?_;refine Aa (Ae (Af (Ak ?_)));refine Aa (AW.block (By (fun (i:Nat)=>(i≤g.Values.length∧(i=0∨goodC g a=true))∧True) (fun (i:Nat)=>⟨_,[(6,(true,.a (.one (.t (.v (.int .i64 (i:Nat))))))),(5,(true,.a (.one (.rf 9)))),(2,_),(3,_),(4,_)],[(9,.row 2 ((allTo g a i).map cPair))]⟩) (fun (i:Nat)=>g.Values.length-i) (0) ⟨⟨Nat.zero_le _,.inl U⟩,Y⟩ (Ap U ⟨U,U,U,U,U,Y⟩ ⟨(by refine congrArg (fun r=>some (R.row 2 r)) ?_;first|rfl|(simp [allTo];done)),Y⟩) ?_))
 rintro i ⟨hk,he⟩
 refine Ae (Af (Ab ?_));refine Bg Cl ?_;refine Aq Bz ?_;refine Be (.t) Tryz.underlying40 ?_;refine AWl.lt ?_;refine Ab ?_;refine Ad (Ca U (by exact .yes1 U U U U) U (.tmp U (by exact fun _=>rfl)) Bx U U) U ?_;refine Ad (Ca U (by exact .yes1 U U U U) U (.tmp U (by exact fun _=>rfl)) Bt U U) U ?_;refine Ad (R_callq U (by exact .yes1 U U U U) U (.cons (.tmp U (by exact id)) U (.cons (.tmp U (by exact id)) U (.cons (.const U) U (.cons (.const U) U .nil)))) fun hq=>FnT.fr (specl14Good g a 0 0)) U ?_;refine Ck ?_;refine Aa (Ai (.tm U) (fun h19=>?_) (fun h19=>?_))
 · skip
   rw [good_c] at h19
   have hgc:goodC g a=true:=by simp at h19;exact h19.2
   have hiV:i<g.Values.length:=by simp at h19;omega
   obtain⟨hg,ha⟩:=good_c2 hgc
   have hG:=validG_len hg
   refine Aj (Ae (AW.block (Ae (Ar (Av [2,3,4,5,6] [9]) ?_))));refine Ac (Aq Bx ?_);refine Aq Bt ?_;refine Ab ?_;refine Ad (Bc (FnT.fr (specl15From g a ha hg (i:Int) (by omega))) U (.no U) U (.cons (.tm U) U (.cons (.tm U) U (.cons (.tm U) U .nil)))) U ?_;refine Ag ?_;refine Aa (Af (Ak ?_));refine Aa (AW.block (By (fun (k:Nat)=>(k≤(ansL g a i).length)∧True) (fun (k:Nat)=>⟨_,[(8,(true,.a (.one (.t (.v (.int .i64 (k:Nat))))))),(5,(true,.a (.one (.rf 9)))),(2,_),(3,_),(4,_),(6,_),(7,_)],[(9,.row 2 ((allTo g a i++((ansL g a i).take k).map fun y=>(⟨(i:Int),y⟩:TPair)).map cPair))]⟩) (fun (k:Nat)=>(ansL g a i).length-k) (0) ⟨Nat.zero_le _,Y⟩ (Ap U ⟨U,U,U,U,U,U,U,Y⟩ ⟨(by refine congrArg (fun r=>some (R.row 2 r)) ?_;first|rfl|(simp [allTo];done)),Y⟩) ?_))
   rintro k ⟨hk1,he1⟩
   refine Ae (Af (Ab ?_));refine Ab ?_;refine Be (.t) Tryz.underlying40 ?_;refine AWl.lt ?_;refine Aa (Ai (.tm U) (fun h29=>?_) (fun h29=>?_))
   · try simp at h29
     obtain⟨y,hy⟩:∃ ξ,(ansL g a i)[k]?=some ξ:=⟨_,List.getElem?_eq_getElem (by omega)⟩
     have hal:=allTo_len ha hg i
     have hkl:=ansL_len ha hg (i:Int)
     refine Aj (Ae (AW.block (Ac (Ab ?_))));refine Ab ?_;refine Ab ?_;refine Ab ?_;refine Ad (As U (.no U) U (.tm U) (.tm U) Tryz.underlying40 ty3 (fun _=>⟨by omega,(Al hy)⟩)) U ?_;refine Aq ty3 ?_;refine Ad (Bo (ps:=[(0,.tmp 33),(1,.tmp 37)]) U U U in58 U U st58 (.cons (.tm U) U U fp58_0 (.cons (.tm U) U U fp58_1 .nil)) U) U ?_;refine Bn (Ce (xs:=[.tmp 38]) 39 U U U (.cons (.tm U) U U .nil) Tryz.underlying48 in58 U U U U) U ?_;refine Bl (Bw U U U (.tm U) U (.tm U) (by exact .rf U) (by rfl) Tryz.underlying48 in58 U (by (simp [chunk];omega)) (by (unfold maxLen;simp [chunk];omega))) U ?_;refine Bq (Av [2,3,4,5,6,7,8,29,40] [9,39]) ?_;refine Ag ?_;refine Aa (Ac (Ab ?_));refine A8 ?_;refine Ag ?_;refine Aa ?_
     repeat (with_reducible refine Au ?_)
     refine Round1.next (k+1) ⟨by omega,Y⟩ (by omega) (Ap rfl ⟨rfl,rfl,rfl,rfl,rfl,rfl,rfl,Y⟩ ⟨(by refine congrArg (fun r=>some (R.row 2 r)) ?_;first|(rw [take_at hy];simp [chunk,cPair];done)|(rw [allTo_succ,List.take_of_length_le (by omega)];done)|(simp;done)),Y⟩)
   try simp at h29
   refine Bb (Ac (Ab ?_));refine A8 ?_;refine Ag ?_;refine Aa ?_
   repeat (with_reducible refine Au ?_)
   refine Round1.next (i+1) ⟨⟨by omega,.inr hgc⟩,Y⟩ (by omega) (Ap rfl ⟨rfl,rfl,rfl,rfl,rfl,Y⟩ ⟨(by refine congrArg (fun r=>some (R.row 2 r)) ?_;first|(rw [take_at hy];simp [chunk,cPair];done)|(rw [allTo_succ,List.take_of_length_le (by omega)];done)|(simp;done)),Y⟩)
 skip
 rw [good_c] at h19
 have hv:allAns g a=allTo g a i:=(by unfold allAns;split;(rename_i hgc;have:i=g.Values.length:=(by have h:=h19;simp [hgc] at h;omega);rw [this]);(rename_i hgc;have:i=0:=(by rcases hk.2 with h|h;exact h;exact absurd h hgc);rw [this];simp [allTo]))
 refine Bb (Ae (Ar (Av [2,3,4,5,6] [9]) ?_));refine Ac (Ab ?_);refine Ag ?_;refine Aa (Am (Res.one U (.tmp U .nil) U ?_))
 rw [hv];rfl
theorem lawssameIntsC (l r:List Int):FnT Tryz.prog 38 [.one (.sl 1 (l.map cInt)),.one (.sl 1 (r.map cInt))] (.a (.one (.v (.bool (decide (l=r)))))):=by
 refine A7 Tryz.func38 U (by kernel_rfl) Tryz.ntmps38 U fun hlen w0=>?_
 try simp [cPair,cEdge,cGraph,cAutomaton] at hlen
 refine Af (Ak ?_);refine Aa (Ae (Af (Ab ?_)));refine Be (.t) Tryz.underlying40 ?_;refine Ab ?_;refine Be (.t) Tryz.underlying40 ?_;refine Ad (R_ne U (.no U) U (.tm U) (.tm U)) U ?_;refine Aa (Ai (.tm U) (fun h10=>?_) (fun h10=>?_))
 · try simp at h10
   refine Af (Ak ?_);refine Aa (Am (Bp U U ?_))
   congr 1;symm;exact decide_eq_false fun e=>h10 (by rw [e])
 try simp at h10
 refine Aj (Ae (Af (Ak ?_)));refine Aa (AW.block (C2 (β:=Nat) (fun x=>x≤l.length∧∀ i,i<x→l[i]?=r[i]?) (fun x=>⟨_,[(5,(true,.a (.one (.t (.v (.int .i64 x)))))),(0,_),(1,_)],[]⟩) (fun x=>l.length-x) (0) ⟨Nat.zero_le _,by simp⟩ (Ap U ⟨U,U,U,Y⟩ trivial) ?_));intro k hk
 obtain⟨hk,he⟩:=hk
 refine Ae (Af (Ab ?_));refine Ab ?_;refine Be (.t) Tryz.underlying40 ?_;refine AWl.lt ?_;refine Aa (Ai (.tm U) (fun h14=>?_) (fun h14=>?_))
 · try simp at h14
   obtain⟨x,hx⟩:∃ x,l[k]?=some x:=⟨_,List.getElem?_eq_getElem h14⟩
   obtain⟨y,hy⟩:∃ y,r[k]?=some y:=⟨_,List.getElem?_eq_getElem (by omega)⟩
   refine Aj (Ae (AW.block (Ae (B8 9 (nthB [[],[],[0,1],[0,1,2],[],[],[4,5],[4,5,6],[0,1,2,3,4,5,6,7]]) (by kernel_rfl) (by kernel_rfl) (by kernel_rfl) ?_))));refine Aw ?_;refine Aw ?_;refine DrawC.s (fun _ hs=>(by exact As U (.no U) (Ah hs U) (hs.tm U) (hs.tm U) Tryz.underlying40 ty3 (fun _=>⟨by omega,(by exact Al (by assumption))⟩))) ?_;refine Bj ty3 ?_;refine Aw ?_;refine Aw ?_;refine DrawC.s (fun _ hs=>(by exact As U (.no U) (Ah hs U) (hs.tm U) (hs.tm U) Tryz.underlying40 ty3 (fun _=>⟨by omega,(by exact Al (by assumption))⟩))) ?_;refine Bj ty3 ?_;refine DrawC.s (fun _ hs=>R_ne U (.no U) (Ah hs U) (hs.tm U) (hs.tm U)) ?_;refine DrawC.fin U U ?_;refine Aa (Ai (.tm U) (fun h25=>?_) (fun h25=>?_))
   · try simp at h25
     refine Af (Ak ?_);refine Aa (Am (Bp U U ?_))
     congr 1;symm;exact decide_eq_false fun e=>by rw [e] at hx;rw [hy] at hx;cases hx;simp at h25
   try simp at h25
   have hxy:x=y:=h25
   refine Aj (Ac (Ab ?_));refine A8 ?_;refine Ag ?_;refine Aa ?_;refine Round.next (k+1) ⟨by omega,fun i hi=>by rcases Nat.lt_or_eq_of_le (Nat.le_of_lt_succ hi) with h|rfl;exact he i h;rw [hx,hy,hxy]⟩ (by omega) (Ap rfl ⟨rfl,rfl,rfl,Y⟩ trivial)
 try simp at h14
 refine Bb (Af (Ak ?_));refine Aa (Am (Bp U U ?_))
 congr 1;symm;exact decide_eq_true (eq_of_getElem? (by omega) fun i hi=>he i (by omega))
end Go.Proofs.YtbecibmlbiebeaaGreat
