import Derived.Test.YtdhojcaoljhbiaaGreatB163xs
import Derived.Test.YtdhojcaoljhbiaaGreatBExs
import Derived.Test.YtdhojcaoljhbiaaGreatB162xs
import Derived.Test.YtdhojcaoljhbiaaGreatB168xs
import Derived.Test.YtdhojcaoljhbiaaGreatAbsQxs
set_option linter.unusedVariables false
set_option linter.unusedSimpArgs false
set_option maxHeartbeats 1000000
set_option maxRecDepth 100000
namespace Go.Q
open Go.D
def lnk (b:Nat) (l:List Nat) (fr tz:Nat):List Nat:=(List.range l.length).map fun i=>if fr.testBit (b+i) then l[i]?.getD 0|||tz else l[i]?.getD 0
theorem lnk_len (b:Nat) (l:List Nat) (fr tz:Nat):(lnk b l fr tz).length=l.length:=by unfold lnk;simp
theorem lnk_at {b:Nat} {l:List Nat} {fr tz i m:Nat} (h:l[i]?=some m):(lnk b l fr tz)[i]?=some (if fr.testBit (b+i) then m|||tz else m):=by
 have hi:=(List.getElem?_eq_some_iff.1 h).1
 unfold lnk
 rw [List.getElem?_map,List.getElem?_range hi,Option.map_some,h];rfl
def lsG (t:TToken):List (List Int)→List Int
 | [a,b]=>a++b
 | [a]=>if t.Kind=6 then a else []
 | _=>if t.Kind=3 then [t.Letter] else []
def lsT:Tr→List Int
 | .leaf t=>lsG t []
 | .un t x=>lsG t [lsT x]
 | .bin t x y=>lsG t [lsT x,lsT y]
def nuG (t:TToken):List Bool→Bool
 | [a,b]=>if t.Kind=4 then a&&b else a||b
 | [_]=>decide (t.Kind=6)
 | _=>decide (t.Kind=2)
def nuT:Tr→Bool
 | .leaf t=>nuG t []
 | .un t x=>nuG t [nuT x]
 | .bin t x y=>nuG t [nuT x,nuT y]
def fiT:Nat→Tr→Nat
 | b,.leaf t=>if t.Kind=3 then 2^b else 0
 | b,.un t x=>if t.Kind=6 then fiT b x else 0
 | b,.bin t x y=>if t.Kind=4 then (if nuT x then fiT b x|||fiT (b+lets x) y else fiT b x) else fiT b x|||fiT (b+lets x) y
def laT:Nat→Tr→Nat
 | b,.leaf t=>if t.Kind=3 then 2^b else 0
 | b,.un t x=>if t.Kind=6 then laT b x else 0
 | b,.bin t x y=>if t.Kind=4 then (if nuT y then laT b x|||laT (b+lets x) y else laT (b+lets x) y) else laT b x|||laT (b+lets x) y
def foT:Nat→Tr→List Nat
 | _,.leaf t=>if t.Kind=3 then [0] else []
 | b,.un t x=>if t.Kind=6 then lnk b (foT b x) (laT b x) (fiT b x) else []
 | b,.bin t x y=>if t.Kind=4 then lnk b (foT b x++foT (b+lets x) y) (laT b x) (fiT (b+lets x) y) else foT b x++foT (b+lets x) y
theorem lsT_len:∀ x:Tr,(lsT x).length=lets x
 | .leaf t=>by
  show (if t.Kind=3 then [t.Letter] else []).length=_
  rw [lets_leaf];split<;>rfl
 | .un t x=>by
  show (if t.Kind=6 then lsT x else []).length=_
  rw [lets_un];split
  · exact lsT_len x
  rfl
 | .bin t x y=>by
  show (lsT x++lsT y).length=_
  rw [lets_bin,List.length_append,lsT_len x,lsT_len y]
theorem foT_len:∀ (x:Tr) (b:Nat),(foT b x).length=lets x
 | .leaf t,b=>by unfold foT;rw [lets_leaf];split<;>rfl
 | .un t x,b=>by
  unfold foT
  rw [lets_un];split
  · rw [lnk_len];exact foT_len x b
  rfl
 | .bin t x y,b=>by
  unfold foT
  rw [lets_bin]
  split
  · rw [lnk_len,List.length_append,foT_len x,foT_len y]
  rw [List.length_append,foT_len x,foT_len y]
structure MaskT (b:Nat) (x:Tr):Prop where
 F:∀ i j,(psT b x).F i j↔b≤i∧∃ m,(foT b x)[i-b]?=some m∧m.testBit j=true
 L:∀ j k,(psT b x).L j k↔b≤j∧∃ c,(lsT x)[j-b]?=some c∧c.toNat=k
 fi:∀ j,(psT b x).fi j↔(fiT b x).testBit j=true
 la:∀ j,(psT b x).la j↔(laT b x).testBit j=true
 nu:(psT b x).nu↔nuT x=true
theorem two_bit (b j:Nat):(2^b).testBit j=true↔j=b:=by
 rw [Nat.testBit_two_pow,decide_eq_true_eq];exact⟨fun h=>h.symm,fun h=>h.symm⟩
theorem app_at {α:Type} {l r:List α} {n i b:Nat} {m:α} (hl:l.length=n):(b≤i∧(l++r)[i-b]?=some m)↔(b≤i∧l[i-b]?=some m)∨(b+n≤i∧r[i-(b+n)]?=some m):=by
 rcases Nat.lt_or_ge (i-b) n with h|h
 · rw [List.getElem?_append_left (by omega)]
   constructor
   · exact .inl
   rintro (h1|⟨h1,h2⟩)
   · exact h1
   omega
 rw [List.getElem?_append_right (by omega),hl,show i-b-n=i-(b+n) by omega]
 constructor
 · rintro⟨h1,h2⟩
   rcases Nat.lt_or_ge i (b+n) with h3|h3
   · rw [show i-(b+n)=0 by omega] at h2
     have:i-b=n:=by omega
     omega
   exact .inr ⟨h3,h2⟩
 rintro (⟨h1,h2⟩|⟨h1,h2⟩)
 · rw [List.getElem?_eq_none (by omega)] at h2;cases h2
 exact⟨by omega,h2⟩
theorem mask_ok:∀ (x:Tr) (b:Nat),MaskT b x
 | .leaf t,b=>by
  have e1:lsT (.leaf t)=if t.Kind=3 then [t.Letter] else []:=rfl
  have e2:nuT (.leaf t)=decide (t.Kind=2):=rfl
  by_cases h2:t.Kind=2
  · have h3:¬ t.Kind=3:=by omega
    refine⟨fun i j=>?_,fun j k=>?_,fun j=>?_,fun j=>?_,?_⟩<;>rw [psT_leaf,if_pos h2]
    · rw [foT,if_neg h3];simp [PS.emp]
    · rw [e1,if_neg h3];simp [PS.emp]
    · rw [fiT,if_neg h3];simp [PS.emp]
    · rw [laT,if_neg h3];simp [PS.emp]
    rw [e2];simp [PS.emp,h2]
  by_cases h3:t.Kind=3
  · refine⟨fun i j=>?_,fun j k=>?_,fun j=>?_,fun j=>?_,?_⟩<;>rw [psT_leaf,if_neg h2,if_pos h3]
    · rw [foT,if_pos h3]
      show False↔_
      simp only [false_iff]
      rintro⟨_,m,h4,h5⟩
      cases hh:i-b with
      | zero=>rw [hh] at h4;simp at h4;subst h4;simp at h5
      | succ n=>rw [hh] at h4;simp at h4
    · rw [e1,if_pos h3]
      show (j=b∧k=t.Letter.toNat)↔_
      constructor
      · rintro⟨rfl,rfl⟩;exact⟨Nat.le_refl _,t.Letter,by simp,rfl⟩
      rintro⟨h4,c,h5,h6⟩
      cases hh:j-b with
      | zero=>rw [hh] at h5;simp at h5;subst h5;exact⟨by omega,h6.symm⟩
      | succ n=>rw [hh] at h5;simp at h5
    · rw [fiT,if_pos h3,two_bit];exact Iff.rfl
    · rw [laT,if_pos h3,two_bit];exact Iff.rfl
    rw [e2];simp [PS.let,h2]
  refine⟨fun i j=>?_,fun j k=>?_,fun j=>?_,fun j=>?_,?_⟩<;>rw [psT_leaf,if_neg h2,if_neg h3]
  · rw [foT,if_neg h3];simp [PS.non]
  · rw [e1,if_neg h3];simp [PS.non]
  · rw [fiT,if_neg h3];simp [PS.non]
  · rw [laT,if_neg h3];simp [PS.non]
  rw [e2];simp [PS.non,h2]
 | .un t x,b=>by
  have M:=mask_ok x b
  have e1:lsT (.un t x)=if t.Kind=6 then lsT x else []:=rfl
  have e2:nuT (.un t x)=decide (t.Kind=6):=rfl
  by_cases h6:t.Kind=6
  · refine⟨fun i j=>?_,fun j k=>?_,fun j=>?_,fun j=>?_,?_⟩<;>rw [psT_un,if_pos h6]
    · rw [foT,if_pos h6]
      show ((psT b x).F i j∨((psT b x).la i∧(psT b x).fi j))↔_
      rw [M.F,M.la,M.fi]
      constructor
      · rintro (⟨h1,m,h2,h3⟩|⟨h1,h2⟩)
        · refine⟨h1,_,lnk_at h2,?_⟩
          split
          · rw [Nat.testBit_or,h3];rfl
          exact h3
        have hI:=(psT_in x b).la i ((M.la i).2 h1)
        have hl:i-b<(foT b x).length:=by rw [foT_len];omega
        refine⟨hI.1,_,lnk_at (List.getElem?_eq_getElem hl),?_⟩
        rw [if_pos (by rw [show b+(i-b)=i by omega];exact h1),Nat.testBit_or,h2,Bool.or_true]
      rintro⟨h1,m,h2,h3⟩
      have hl:=(List.getElem?_eq_some_iff.1 h2).1
      rw [lnk_len] at hl
      rw [lnk_at (List.getElem?_eq_getElem hl)] at h2
      rw [show b+(i-b)=i by omega] at h2
      have h2:=Option.some.inj h2
      subst h2
      split at h3
      · rename_i h4
        rw [Nat.testBit_or,Bool.or_eq_true] at h3
        rcases h3 with h3|h3
        · exact .inl ⟨h1,_,List.getElem?_eq_getElem hl,h3⟩
        exact .inr ⟨h4,h3⟩
      exact .inl ⟨h1,_,List.getElem?_eq_getElem hl,h3⟩
    · rw [e1,if_pos h6];exact M.L j k
    · rw [fiT,if_pos h6];exact M.fi j
    · rw [laT,if_pos h6];exact M.la j
    rw [e2];simp [PS.star,h6]
  refine⟨fun i j=>?_,fun j k=>?_,fun j=>?_,fun j=>?_,?_⟩<;>rw [psT_un,if_neg h6]
  · rw [foT,if_neg h6];simp [PS.non]
  · rw [e1,if_neg h6];simp [PS.non]
  · rw [fiT,if_neg h6];simp [PS.non]
  · rw [laT,if_neg h6];simp [PS.non]
  rw [e2];simp [PS.non,h6]
 | .bin t x y,b=>by
  have M:=mask_ok x b
  have N:=mask_ok y (b+lets x)
  have e1:lsT (.bin t x y)=lsT x++lsT y:=rfl
  have e2:nuT (.bin t x y)=if t.Kind=4 then nuT x&&nuT y else nuT x||nuT y:=rfl
  have hL:∀ j k,((psT b x).L j k∨(psT (b+lets x) y).L j k)↔b≤j∧∃ c,(lsT x++lsT y)[j-b]?=some c∧c.toNat=k:=fun j k=>by
   rw [M.L,N.L]
   constructor
   · rintro (⟨h1,c,h2,h3⟩|⟨h1,c,h2,h3⟩)
     · have:=(app_at (lsT_len x) (r:=lsT y)).2 (.inl ⟨h1,h2⟩)
       exact⟨this.1,c,this.2,h3⟩
     have:=(app_at (lsT_len x) (r:=lsT y)).2 (.inr ⟨h1,h2⟩)
     exact⟨this.1,c,this.2,h3⟩
   rintro⟨h1,c,h2,h3⟩
   rcases (app_at (lsT_len x) (r:=lsT y)).1 ⟨h1,h2⟩ with h4|h4
   · exact .inl ⟨h4.1,c,h4.2,h3⟩
   exact .inr ⟨h4.1,c,h4.2,h3⟩
  have hF:∀ i j,((psT b x).F i j∨(psT (b+lets x) y).F i j)↔b≤i∧∃ m,(foT b x++foT (b+lets x) y)[i-b]?=some m∧m.testBit j=true:=fun i j=>by
   rw [M.F,N.F]
   constructor
   · rintro (⟨h1,c,h2,h3⟩|⟨h1,c,h2,h3⟩)
     · have:=(app_at (foT_len x b) (r:=foT (b+lets x) y)).2 (.inl ⟨h1,h2⟩)
       exact⟨this.1,c,this.2,h3⟩
     have:=(app_at (foT_len x b) (r:=foT (b+lets x) y)).2 (.inr ⟨h1,h2⟩)
     exact⟨this.1,c,this.2,h3⟩
   rintro⟨h1,c,h2,h3⟩
   rcases (app_at (foT_len x b) (r:=foT (b+lets x) y)).1 ⟨h1,h2⟩ with h4|h4
   · exact .inl ⟨h4.1,c,h4.2,h3⟩
   exact .inr ⟨h4.1,c,h4.2,h3⟩
  have hfl:(foT b x++foT (b+lets x) y).length=lets x+lets y:=by rw [List.length_append,foT_len,foT_len]
  by_cases h4:t.Kind=4
  · refine⟨fun i j=>?_,fun j k=>?_,fun j=>?_,fun j=>?_,?_⟩<;>rw [psT_bin,if_pos h4]
    · rw [foT,if_pos h4]
      show (((psT b x).F i j∨(psT (b+lets x) y).F i j)∨((psT b x).la i∧(psT (b+lets x) y).fi j))↔_
      rw [hF,M.la,N.fi]
      constructor
      · rintro (⟨h1,m,h2,h3⟩|⟨h1,h2⟩)
        · refine⟨h1,_,lnk_at h2,?_⟩
          split
          · rw [Nat.testBit_or,h3];rfl
          exact h3
        have hI:=(psT_in x b).la i ((M.la i).2 h1)
        have hl:i-b<(foT b x++foT (b+lets x) y).length:=by rw [hfl];omega
        refine⟨hI.1,_,lnk_at (List.getElem?_eq_getElem hl),?_⟩
        rw [if_pos (by rw [show b+(i-b)=i by omega];exact h1),Nat.testBit_or,h2,Bool.or_true]
      rintro⟨h1,m,h2,h3⟩
      have hl:=(List.getElem?_eq_some_iff.1 h2).1
      rw [lnk_len] at hl
      rw [lnk_at (List.getElem?_eq_getElem hl)] at h2
      rw [show b+(i-b)=i by omega] at h2
      have h2:=Option.some.inj h2
      subst h2
      split at h3
      · rename_i h5
        rw [Nat.testBit_or,Bool.or_eq_true] at h3
        rcases h3 with h3|h3
        · exact .inl ⟨h1,_,List.getElem?_eq_getElem hl,h3⟩
        exact .inr ⟨h5,h3⟩
      exact .inl ⟨h1,_,List.getElem?_eq_getElem hl,h3⟩
    · rw [e1];exact hL j k
    · rw [fiT,if_pos h4]
      show ((psT b x).fi j∨((psT b x).nu∧(psT (b+lets x) y).fi j))↔_
      rw [M.fi,N.fi,M.nu]
      cases hn:nuT x<;>simp
    · rw [laT,if_pos h4]
      show ((psT (b+lets x) y).la j∨((psT (b+lets x) y).nu∧(psT b x).la j))↔_
      rw [M.la,N.la,N.nu]
      cases hn:nuT y<;>simp [or_comm]
    rw [e2,if_pos h4]
    show ((psT b x).nu∧(psT (b+lets x) y).nu)↔_
    rw [M.nu,N.nu,Bool.and_eq_true]
  refine⟨fun i j=>?_,fun j k=>?_,fun j=>?_,fun j=>?_,?_⟩<;>rw [psT_bin,if_neg h4]
  · rw [foT,if_neg h4];exact hF i j
  · rw [e1];exact hL j k
  · rw [fiT,if_neg h4]
    show ((psT b x).fi j∨(psT (b+lets x) y).fi j)↔_
    rw [M.fi,N.fi,Nat.testBit_or,Bool.or_eq_true]
  · rw [laT,if_neg h4]
    show ((psT b x).la j∨(psT (b+lets x) y).la j)↔_
    rw [M.la,N.la,Nat.testBit_or,Bool.or_eq_true]
  rw [e2,if_neg h4]
  show ((psT b x).nu∨(psT (b+lets x) y).nu)↔_
  rw [M.nu,N.nu,Bool.or_eq_true]
structure PN where
 ls:List Int
 fo:List Nat
 fi:Nat
 la:Nat
 nu:Bool
def mU (l:List Nat) (S:Nat):Nat→Nat
 | 0=>0
 | i+1=>if S.testBit (i+1) then mU l S i|||l[i]?.getD 0 else mU l S i
def mAt (p:PN) (S i:Nat):Nat:=(if S.testBit 0 then p.fi else 0)|||mU p.fo S i
def oU (ls:List Int) (m k:Nat):Nat→Nat
 | 0=>0
 | i+1=>if m.testBit i&&decide (ls[i]?.getD 0=(k:Int)) then oU ls m k i|||2^(i+1) else oU ls m k i
def aftP (p:PN) (S k:Nat):Nat:=oU p.ls (mAt p S p.ls.length) k p.ls.length
def accP (p:PN) (S:Nat):Bool:=(S.testBit 0&&p.nu)||!decide ((S>>>1)&&&p.la=0)
def LP (p:PN) (S:Nat):List Nat→Bool
 | []=>accP p S
 | k::w=>LP p (aftP p S k) w
theorem mU_bit {l:List Nat} {S j:Nat}:∀ n,(mU l S n).testBit j=true↔∃ i,i<n∧S.testBit (i+1)=true∧(l[i]?.getD 0).testBit j=true
 | 0=>by simp [mU]
 | n+1=>by
  rw [mU]
  have ih:=mU_bit (l:=l) (S:=S) (j:=j) n
  split
  · rename_i h
    rw [Nat.testBit_or,Bool.or_eq_true,ih]
    constructor
    · rintro (⟨i,h1,h2⟩|h1)
      · exact⟨i,by omega,h2⟩
      exact⟨n,by omega,h,h1⟩
    rintro⟨i,h1,h2,h3⟩
    rcases Nat.lt_or_eq_of_le (Nat.le_of_lt_succ h1) with h4|h4
    · exact .inl ⟨i,h4,h2,h3⟩
    subst h4;exact .inr h3
  rename_i h
  rw [ih]
  constructor
  · rintro⟨i,h1,h2⟩;exact⟨i,by omega,h2⟩
  rintro⟨i,h1,h2,h3⟩
  rcases Nat.lt_or_eq_of_le (Nat.le_of_lt_succ h1) with h4|h4
  · exact⟨i,h4,h2,h3⟩
  subst h4;exact absurd h2 h
theorem oU_bit {ls:List Int} {m k j:Nat}:∀ n,(oU ls m k n).testBit j=true↔∃ i,i<n∧j=i+1∧m.testBit i=true∧ls[i]?.getD 0=(k:Int)
 | 0=>by simp [oU]
 | n+1=>by
  rw [oU]
  have ih:=oU_bit (ls:=ls) (m:=m) (k:=k) (j:=j) n
  split
  · rename_i h
    rw [Bool.and_eq_true,decide_eq_true_eq] at h
    rw [Nat.testBit_or,Bool.or_eq_true,ih,two_bit]
    constructor
    · rintro (⟨i,h1,h2⟩|h1)
      · exact⟨i,by omega,h2⟩
      exact⟨n,by omega,h1,h⟩
    rintro⟨i,h1,h2,h3⟩
    rcases Nat.lt_or_eq_of_le (Nat.le_of_lt_succ h1) with h4|h4
    · exact .inl ⟨i,h4,h2,h3⟩
    subst h4;exact .inr h2
  rename_i h
  rw [Bool.and_eq_true,decide_eq_true_eq] at h
  rw [ih]
  constructor
  · rintro⟨i,h1,h2⟩;exact⟨i,by omega,h2⟩
  rintro⟨i,h1,h2,h3⟩
  rcases Nat.lt_or_eq_of_le (Nat.le_of_lt_succ h1) with h4|h4
  · exact⟨i,h4,h2,h3⟩
  subst h4;exact absurd h3 h
theorem oU_lt (ls:List Int) (m k:Nat):∀ n,oU ls m k n<2^(n+1):=fun n=>Nat.lt_pow_two_of_testBit _ fun j hj=>by
 cases h:(oU ls m k n).testBit j with
 | false=>rfl
 | true=>obtain⟨i,h1,h2,_⟩:=(oU_bit n).1 h;omega
def pnT (x:Tr):PN:=⟨lsT x,foT 0 x,fiT 0 x,laT 0 x,nuT x⟩
theorem LP_run {x:Tr} (hl:∀ c∈lsT x,0≤c):∀ (w:List Nat) (S:Nat),LP (pnT x) S w=true↔(S.testBit 0=true∧(psT 0 x).lg w)∨∃ i,i<lets x∧S.testBit (i+1)=true∧(psT 0 x).run i w
 | [],S=>by
  have M:=mask_ok x 0
  show accP (pnT x) S=true↔_
  unfold accP
  rw [Bool.or_eq_true,Bool.and_eq_true]
  show (_∧nuT x=true)∨_↔(_∧(psT 0 x).nu)∨∃ i,i<lets x∧_∧(psT 0 x).la i
  rw [M.nu]
  refine or_congr Iff.rfl ?_
  rw [Bool.not_eq_true',decide_eq_false_iff_not]
  constructor
  · intro h
    obtain⟨i,hi⟩:=Nat.exists_testBit_of_ne_zero h
    rw [Nat.testBit_and,Bool.and_eq_true,Nat.testBit_shiftRight] at hi
    have h2:=(M.la i).2 hi.2
    have h3:=(psT_in x 0).la i h2
    exact⟨i,by omega,by rw [Nat.add_comm];exact hi.1,h2⟩
  rintro⟨i,h1,h2,h3⟩ h4
  have:((S>>>1)&&&(pnT x).la).testBit i=true:=by
   rw [Nat.testBit_and,Nat.testBit_shiftRight,Nat.add_comm 1 i,h2]
   exact (M.la i).1 h3
  rw [h4] at this
  simp at this
 | k::w,S=>by
  have M:=mask_ok x 0
  have hI:=psT_in x 0
  rw [LP,LP_run hl w]
  have hb:∀ i,(aftP (pnT x) S k).testBit (i+1)=true↔i<lets x∧(mAt (pnT x) S (lets x)).testBit i=true∧(lsT x)[i]?.getD 0=(k:Int):=fun i=>by
   unfold aftP
   show (oU (lsT x) (mAt (pnT x) S (lsT x).length) k (lsT x).length).testBit (i+1)=true↔_
   rw [lsT_len,oU_bit]
   constructor
   · rintro⟨i',h1,h2,h3⟩
     have:i'=i:=by omega
     subst this
     exact⟨h1,h3⟩
   rintro⟨h1,h3⟩;exact⟨i,h1,rfl,h3⟩
  have h0:(aftP (pnT x) S k).testBit 0=false:=by
   cases h:(aftP (pnT x) S k).testBit 0 with
   | false=>rfl
   | true=>obtain⟨i,_,h2,_⟩:=(oU_bit _).1 h;omega
  have hm:∀ i,(mAt (pnT x) S (lets x)).testBit i=true↔(S.testBit 0=true∧(psT 0 x).fi i)∨∃ q,q<lets x∧S.testBit (q+1)=true∧(psT 0 x).F q i:=fun i=>by
   unfold mAt
   rw [Nat.testBit_or,Bool.or_eq_true,mU_bit]
   refine or_congr ?_ ?_
   · rw [M.fi]
     cases hS:S.testBit 0<;>simp [pnT]
   constructor
   · rintro⟨q,h1,h2,h3⟩
     refine⟨q,h1,h2,(M.F q i).2 ⟨Nat.zero_le _,_,List.getElem?_eq_getElem (by rw [foT_len,Nat.sub_zero];exact h1),?_⟩⟩
     have hq:q<(foT 0 x).length:=by rw [foT_len];exact h1
     have h3:((foT 0 x)[q]?.getD 0).testBit i=true:=h3
     rw [List.getElem?_eq_getElem hq] at h3
     exact h3
   rintro⟨q,h1,h2,h3⟩
   obtain⟨_,m,h4,h5⟩:=(M.F q i).1 h3
   refine⟨q,h1,h2,?_⟩
   show ((foT 0 x)[q]?.getD 0).testBit i=true
   rw [Nat.sub_zero] at h4
   rw [h4];exact h5
  have hLk:∀ i,i<lets x→((lsT x)[i]?.getD 0=(k:Int)↔(psT 0 x).L i k):=fun i hi=>by
   have hil:i<(lsT x).length:=by rw [lsT_len];exact hi
   rw [M.L,List.getElem?_eq_getElem hil]
   have hnn:=hl _ (List.getElem_mem hil)
   simp only [Nat.sub_zero,Nat.zero_le,true_and,Option.getD_some]
   constructor
   · intro h;exact⟨_,List.getElem?_eq_getElem hil,by omega⟩
   rintro⟨c,h1,h2⟩
   rw [List.getElem?_eq_getElem hil] at h1
   have:=Option.some.inj h1
   omega
  rw [h0]
  simp only [Bool.false_eq_true,false_and,false_or]
  constructor
  · rintro⟨i,h1,h2,h3⟩
    obtain⟨_,h4,h5⟩:=(hb i).1 h2
    have h6:=(hLk i h1).1 h5
    rcases (hm i).1 h4 with ⟨h7,h8⟩|⟨q,h7,h8,h9⟩
    · exact .inl ⟨h7,i,h8,h6,h3⟩
    exact .inr ⟨q,h7,h8,i,h9,h6,h3⟩
  rintro (⟨h7,i,h8,h6,h3⟩|⟨q,h7,h8,i,h9,h6,h3⟩)
  · have h1:=hI.fi i h8
    exact⟨i,by omega,(hb i).2 ⟨by omega,(hm i).2 (.inl ⟨h7,h8⟩),(hLk i (by omega)).2 h6⟩,h3⟩
  have h1:=hI.F q i h9
  exact⟨i,by omega,(hb i).2 ⟨by omega,(hm i).2 (.inr ⟨q,h7,h8,h9⟩),(hLk i (by omega)).2 h6⟩,h3⟩
theorem LP_lang {x:Tr} (hr:noRep x) (hl:∀ c∈lsT x,0≤c) (w:List Nat):LP (pnT x) 1 w=true↔lang x w:=by
 rw [LP_run hl,psT_lg x 0 hr]
 constructor
 · rintro (⟨_,h⟩|⟨i,_,h,_⟩)
   · exact h
   rw [show (1:Nat)=2^0 from rfl,two_bit] at h;omega
 exact fun h=>.inl ⟨rfl,h⟩
theorem LP_zero (p:PN):∀ w,LP p 0 w=false
 | []=>by show accP p 0=false;unfold accP;simp
 | k::w=>by
  rw [LP]
  have:aftP p 0 k=0:=by
   refine Nat.eq_of_testBit_eq fun j=>?_
   rw [Nat.zero_testBit]
   cases h:(aftP p 0 k).testBit j with
   | false=>rfl
   | true=>
    obtain⟨i,_,_,h2,_⟩:=(oU_bit _).1 h
    unfold mAt at h2
    rw [Nat.testBit_or,Bool.or_eq_true] at h2
    rcases h2 with h2|h2
    · simp at h2
    obtain⟨q,_,h3,_⟩:=(mU_bit _).1 h2;simp at h3
  rw [this];exact LP_zero p w
end Go.Q
set_option maxHeartbeats 1000000
set_option maxRecDepth 100000
namespace Go.Q
open Go.D
def SubE (P:PN) (W:List Nat) (S k:Nat) (t:Int):Prop:=(aftP P S k=0∧t=-1)∨(aftP P S k≠0∧∃ j:Nat,t=(j:Int)∧W[j]?=some (aftP P S k))
structure SubI (P:PN) (s:Nat) (W:List Nat) (X:List Bool) (Y:List (List Int)) (row:List Int):Prop where
 w0:W[0]?=some 1
 xl:X.length=s
 yl:Y.length=s
 rl:∀ r∈Y,r.length=9
 wl:row.length≤9
 bd:∀ S∈W,S<33554432
 ac:∀ j S:Nat,j<s→W[j]?=some S→X[j]?=some (accP P S)
 en:∀ (p:Nat) (t:Int),(Y.flatten++row)[p]?=some t→∀ S:Nat,W[p / 9]?=some S→SubE P W S (p%9) t
theorem SubI.start (P:PN):SubI P 0 [1] [] [] []:=⟨rfl,rfl,rfl,(fun _ h=>by cases h),by simp,(fun S h=>by rw [List.mem_singleton] at h;subst h;decide),fun j S h=>absurd h (Nat.not_lt_zero j),fun p t h=>by simp at h⟩
section
variable {P:PN} {s k S:Nat} {W:List Nat} {X:List Bool} {Y:List (List Int)} {row:List Int}
theorem SubI.flen (h:SubI P s W X Y row):(Y.flatten++row).length=9*s+row.length:=by
 rw [List.length_append,flat_len h.rl,h.yl]
theorem SubI.push (h:SubI P s W X Y row) (hs:s<W.length) (hw:row.length=k) (hk:k<9) (hS:W[s]?=some S) {W':List Nat} {t:Int} (hW:W'=W∨∃ x,W'=W++[x]∧x<33554432) (ht:SubE P W' S k t):SubI P s W' X Y (row++[t]):=by
 subst hw
 have hfl:=h.flen
 have hm:∀ j T:Nat,W[j]?=some T→W'[j]?=some T:=fun j T hj=>by
  rcases hW with e|⟨x,e,_⟩
  · rw [e];exact hj
  rw [e,List.getElem?_append_left (List.getElem?_eq_some_iff.1 hj).1];exact hj
 have hn:∀ j T:Nat,j<W.length→W'[j]?=some T→W[j]?=some T:=fun j T hj hT=>by
  rcases hW with e|⟨x,e,_⟩
  · rw [←e];exact hT
  rw [e,List.getElem?_append_left hj] at hT;exact hT
 refine⟨hm 0 1 h.w0,h.xl,h.yl,h.rl,by simp;omega,fun T hT=>?_,fun j T hj hT=>h.ac j T hj (hn j T (by omega) hT),fun p u hp T hT=>?_⟩
 · rcases hW with e|⟨x,e,hx⟩
   · rw [e] at hT;exact h.bd T hT
   rw [e] at hT
   rcases List.mem_append.1 hT with hT|hT
   · exact h.bd T hT
   rw [List.mem_singleton] at hT;subst hT;exact hx
 rw [←List.append_assoc] at hp
 rcases Nat.lt_or_ge p (Y.flatten++row).length with hpl|hpl
 · rw [List.getElem?_append_left hpl] at hp
   rcases h.en p u hp T (hn _ T (by omega) hT) with h1|⟨h1,j,h2,h3⟩
   · exact .inl h1
   exact .inr ⟨h1,j,h2,hm _ _ h3⟩
 rw [List.getElem?_append_right hpl] at hp
 rcases Nat.eq_zero_or_pos (p-(Y.flatten++row).length) with hz|hz
 · rw [hz] at hp
   simp at hp
   subst hp
   have e:p=9*s+row.length:=by omega
   have e1:p / 9=s:=by omega
   have e2:p%9=row.length:=by omega
   rw [e1] at hT
   have:=hn s T hs hT
   rw [hS] at this
   cases this
   rw [e2];exact ht
 rw [List.getElem?_eq_none (show [t].length≤_ by show 1≤_;omega)] at hp;cases hp
theorem SubI.endRow (h:SubI P s W X Y row) (hw:9≤row.length) (hS:W[s]?=some S):SubI P (s+1) W (X++[accP P S]) (Y++[row]) []:=by
 have hwl:row.length=9:=by have:=h.wl;omega
 have e:(Y++[row]).flatten++[]=Y.flatten++row:=by simp
 refine⟨h.w0,by simp [h.xl],by simp [h.yl],fun x hx=>?_,by simp,h.bd,fun j T hj hT=>?_,fun p t hp=>by rw [e] at hp;exact h.en p t hp⟩
 · rcases List.mem_append.1 hx with hx|hx
   · exact h.rl x hx
   rw [List.mem_singleton] at hx;subst hx;exact hwl
 rcases Nat.lt_or_eq_of_le (Nat.le_of_lt_succ hj) with hj|hj
 · rw [List.getElem?_append_left (by rw [h.xl];exact hj)];exact h.ac j T hj hT
 subst hj
 rw [hS] at hT
 cases hT
 rw [List.getElem?_append_right (by rw [h.xl];exact Nat.le_refl _),h.xl];simp
theorem SubI.ent (h:SubI P s W X Y []) (hs:s=W.length) {j:Nat} (hj:j<s) (hk:k<9):∃ T,W[j]?=some T∧SubE P W T k (nxA ⟨0,X,Y⟩ j k):=by
 have hT:W[j]?=some (W[j]'(by omega)):=List.getElem?_eq_getElem _
 refine⟨_,hT,?_⟩
 have hlen:9*j+k<Y.flatten.length:=by rw [flat_len h.rl,h.yl];omega
 have hf:=flat_at h.rl (i:=j) hk
 have hget:(Y.flatten++[])[9*j+k]?=some (nxA ⟨0,X,Y⟩ j k):=by
  rw [List.append_nil,hf]
  have e:Y.flatten[9*j+k]?=some (Y.flatten[9*j+k]'hlen):=List.getElem?_eq_getElem hlen
  unfold nxA
  simp only
  rw [←hf,e];rfl
 have:=h.en _ _ hget _ (by rw [show (9*j+k) / 9=j by omega];exact hT)
 rwa [show (9*j+k)%9=k by omega] at this
theorem SubI.sha (h:SubI P s W X Y []) (hs:s=W.length):ShA ⟨0,X,Y⟩:=by
 have h0:=(List.getElem?_eq_some_iff.1 h.w0).1
 refine⟨by show Y.length=X.length;rw [h.yl,h.xl],h.rl,⟨Int.le_refl _,by show (0:Int)<X.length;rw [h.xl];omega⟩,fun j k hj hk=>?_⟩
 have hj:j<s:=by rw [←h.xl];exact hj
 obtain⟨T,hT,he⟩:=h.ent hs hj hk
 show -1≤_∧_<(X.length:Int)
 rw [h.xl]
 rcases he with ⟨_,h1⟩|⟨_,q,h1,h2⟩
 · omega
 have:=(List.getElem?_eq_some_iff.1 h2).1;omega
theorem SubI.lang (h:SubI P s W X Y []) (hs:s=W.length):∀ (w:List Nat) (j T:Nat),inW w→W[j]?=some T→LA ⟨0,X,Y⟩ j w=LP P T w
 | [],j,T,_,hT=>by
  have hj:=(List.getElem?_eq_some_iff.1 hT).1
  have:=h.ac j T (by omega) hT
  unfold LA LP
  rw [Int.toNat_natCast,show acA ⟨0,X,Y⟩ j=accP P T by unfold acA;simp only;rw [this];rfl]
  simp
 | k::w,j,T,hw,hT=>by
  obtain⟨hk,hw⟩:=inW_cons.1 hw
  have hj:=(List.getElem?_eq_some_iff.1 hT).1
  obtain⟨T',hT',he⟩:=h.ent hs (j:=j) (by omega) hk
  rw [hT] at hT'
  cases hT'
  rw [LA_cons,LP]
  rcases he with ⟨h1,h2⟩|⟨_,q,h2,h3⟩
  · rw [h1,h2,LP_zero];exact LA_neg _ w (by omega)
  rw [h2];exact h.lang hs w q _ hw h3
end
end Go.Q
set_option maxHeartbeats 1000000
set_option maxRecDepth 100000
namespace Go.Q
open Go.RowKit Go.D
def natI (l:List Nat):List Int:=l.map fun n:Nat=>(n:Int)
def posV (P:PN):TPositions:=⟨P.ls,P.fi,P.la,natI P.fo,P.nu⟩
structure PNok (P:PN):Prop where
 ll:P.fo.length=P.ls.length
 l20:P.ls.length≤20
 fo:∀ m∈P.fo,m<1048576
 fi:P.fi<1048576
 la:P.la<1048576
theorem bit_low (m:Nat):((((m:Int).toNat&&&(1:Int).toNat:Nat):Int)=1)↔m.testBit 0=true:=by
 have h:=bit_at m 0
 simp only [Int.toNat_natCast,Int.toNat_zero,Nat.shiftRight_zero] at h
 rw [←h,decide_eq_true_eq,Int.toNat_natCast]
theorem natI_at {l:List Nat} {i m:Nat} (h:l[i]?=some m):(natI l)[i]?=some (m:Int):=by unfold natI;rw [List.getElem?_map,h];rfl
theorem mU_lt {l:List Nat} (h:∀ m∈l,m<1048576) (S:Nat):∀ n,mU l S n<1048576
 | 0=>by rw [mU];decide
 | n+1=>by
  rw [mU]
  have ih:=mU_lt h S n
  split
  · refine Nat.or_lt_two_pow (n:=20) ih ?_
    cases he:l[n]? with
    | none=>show 0<_;decide
    | some m=>exact h m (List.mem_of_getElem? he)
  exact ih
theorem mAt_lt {P:PN} (h:PNok P) (S n:Nat):mAt P S n<1048576:=by
 unfold mAt
 refine Nat.or_lt_two_pow (n:=20) ?_ (mU_lt h.fo S n)
 split
 · exact h.fi
 decide
theorem mAt_succ {P:PN} {S i m:Nat} (hm:P.fo[i]?=some m):mAt P S (i+1)=if S.testBit (i+1) then mAt P S i|||m else mAt P S i:=by
 unfold mAt
 rw [mU,hm,Option.getD_some]
 by_cases hb:S.testBit (i+1)=true
 · rw [if_pos hb,if_pos hb,Nat.or_assoc]
 rw [if_neg hb,if_neg hb]
theorem oU_lt20 {ls:List Int} {m k n:Nat} (h:n≤20):oU ls m k n<2097152:=Nat.lt_of_lt_of_le (oU_lt ls m k n) (show 2^(n+1)≤2^21 from Nat.pow_le_pow_right (by omega) (by omega))
theorem bits_andN {a b:Nat} (ha:a<4294967296) (hb:b<4294967296):bits .and .i64 (a:Int) (b:Int)=((a&&&b:Nat):Int):=by
 have e1:(BitVec.ofInt 64 (a:Int)&&&BitVec.ofInt 64 (b:Int)).toNat=a&&&b:=by
  rw [BitVec.toNat_and,BitVec.toNat_ofInt,BitVec.toNat_ofInt]
  congr 1<;>omega
 have hlt:a&&&b<2^63:=Nat.lt_of_le_of_lt Nat.and_le_left (by omega)
 have hw:∀ m:Nat,m<2^63→IntKind.wrap .i64 (m:Int)=m:=fun m hm=>wrap_in ⟨by omega,by omega⟩
 have h:bits .and .i64 (a:Int) (b:Int)=IntKind.wrap .i64 ((BitVec.ofInt 64 (a:Int)&&&BitVec.ofInt 64 (b:Int)).toNat:Int):=rfl
 rw [h,e1]
 exact hw _ hlt
theorem accP_bits {P:PN} (h:PNok P) {V1:Nat} (hS:V1<33554432):(decide (bits .and .i64 (V1:Int) 1=1)&&(posV P).Nullable||!decide (bits .and .i64 ((V1:Int).fdiv (2^min (Int.toNat 1) 64)) (posV P).Last=0))=accP P V1:=by
 have hla:=h.la
 have e1:(V1:Int).fdiv (2^min (Int.toNat 1) 64)=((V1>>>1:Nat):Int):=by
  rw [show min (Int.toNat 1) 64=1 from rfl,Int.fdiv_eq_ediv_of_nonneg _ (by decide),Nat.shiftRight_eq_div_pow]
  rfl
 have e2:bits .and .i64 (V1:Int) 1=((V1&&&1:Nat):Int):=bits_andN (b:=1) (by omega) (by omega)
 have hsh:V1>>>1≤V1:=by rw [Nat.shiftRight_eq_div_pow];exact Nat.div_le_self _ _
 have e3:bits .and .i64 ((V1>>>1:Nat):Int) (posV P).Last=((V1>>>1&&&P.la:Nat):Int):=bits_andN (by omega) (by omega)
 rw [e1,e2,e3]
 unfold accP
 congr 1
 · congr 1
   rw [Nat.testBit_zero,Nat.and_one_is_mod]
   exact decide_eq_decide.2 (by omega)
 congr 1
 exact decide_eq_decide.2 (by omega)
end Go.Q
namespace Go.Proofs.YtdhojcaoljhbiaaGreat
open Go.RowKit Go.Q Go.D
theorem specl10AfterX (P:PN) (h:PNok P) (V1:Nat) (hS:V1<33554432) (k:Nat) (hk:k<9):FnT Tryz.prog 94 [.agg (cPositions (posV P)),.one (.v (.int .i64 (V1:Int))),.one (.v (.int .i64 (k:Int)))] (.a (.one (.v (.int .i64 ((aftP P V1 k:Nat):Int))))):=by
 refine A6 Tryz.func94 U (by kernel_rfl) Tryz.ntmps94 U fun hlen w0=>?_
 try simp [cPositions] at hlen
 have hll:=h.ll
 have hl2:=h.l20
 have hpl:(posV P).Letters.length=P.ls.length:=rfl
 refine Af (Ac (Bo U U U (.tm U) (ts:=_) (by rfl)) U ?_);refine AWl.ac ?_;refine Aa (Af (AWl.ac ?_));refine Aa (Ae (Af (Ab ?_)));refine Ac (R_and1 U (.no U) U (.tm U) (.const U) (fun _=>by first|exact Int.natCast_nonneg _|omega)) U ?_;refine Ba ?_;refine Aa (AW.condJ ⟨_,[(0,_),(1,_),(2,_),(3,_),(6,_),(7,true,.a (.one (.t (.v (.int .i64 (((mAt P V1 0:Nat):Int))))))),(11,_),(12,_),(13,_)],[]⟩ (.tm U) (fun h13=>?_) (fun h13=>Az U ⟨U,U,U,U,U,congrArg (fun z:Int=>some (true,S.a (A.one (E.t (.v (.int .i64 z)))))) (show (0:Int)=_ by unfold mAt mU;rw [if_neg (fun e=>absurd ((bit_low V1).2 e) (of_decide_eq_false h13))];simp),U,U,U,Y⟩ trivial) ?_)
 · try simp only [bit_at,bit_zero,shr_zero] at h13
   try simp only [Int.toNat_natCast] at h13
   try simp at h13
   refine Ad (A8 fl75_1 ?_);refine Ak ty3 ?_;refine Ag ?_;exact Aa (Az U ⟨U,U,U,U,U,congrArg (fun z:Int=>some (true,S.a (A.one (E.t (.v (.int .i64 z)))))) (show ((P.fi:Nat):Int)=_ by unfold mAt mU;rw [if_pos (by rw [Nat.testBit_zero];exact decide_eq_true (by omega))];simp),U,U,U,Y⟩ trivial)
 refine Ae (Af (AWl.ac ?_));refine Aa (AW.block (C6 (fun (i:Nat) (M:Nat)=>(i≤P.ls.length∧M<1048576)∧M=mAt P V1 i) (fun (i:Nat) (M:Nat)=>⟨_,[(8,(true,.a (.one (.t (.v (.int .i64 (i:Nat))))))),(7,(true,.a (.one (.t (.v (.int .i64 (M:Nat))))))),(1,_),(2,_),(3,_),(6,_)],[]⟩) (fun (i:Nat) (M:Nat)=>P.ls.length-i) (0) (mAt P V1 0) ⟨⟨Nat.zero_le _,mAt_lt h V1 0⟩,U⟩ (Az U ⟨U,U,U,U,U,U,Y⟩ trivial) ?_))
 rintro i M ⟨hk,he⟩
 refine Ae (Af (Ab ?_));refine A8 fl75_0 ?_;refine Ak C7 ?_;refine Br (.t) Tryz.underlying40 ?_;refine AWl.lt ?_;refine Aa (Ah (.tm U) (fun h20=>?_) (fun h20=>?_))
 · try simp only [bit_at,bit_zero,shr_zero] at h20
   try simp only [Int.toNat_natCast] at h20
   try simp at h20
   obtain⟨f,hf⟩:∃ ξ,P.fo[i]?=some ξ:=⟨_,List.getElem?_eq_getElem (by omega)⟩
   have hfl:=h.fo f (List.mem_of_getElem? hf)
   refine AW.skip (Ae (AW.block (Af (Ab ?_))));refine Ab ?_;refine Bk ?_;refine Ac (R_shr U (.no U) U (.tm U) (.tm U) (fun _=>by omega)) U ?_;refine Ac (R_and1 U (.no U) U (.tm U) (.const U) (fun _=>by first|exact Int.natCast_nonneg _|omega)) U ?_;refine Ba ?_;refine Aa (Ah (.tm U) (fun h28=>?_) (fun h28=>?_))
   · try simp only [bit_at,bit_zero,shr_zero] at h28
     try simp only [Int.toNat_natCast] at h28
     try simp at h28
     have hb1:V1.testBit (i+1)=true:=(by have h1:=h28;simpa [show ((i:Int)+1).toNat=i+1 by omega] using h1)
     refine Al (Ap [1,2,3,6,7,8] []) ?_;refine Ad (Ab ?_);refine A8 fl75_3 ?_;refine Ak C7 ?_;refine Ab ?_;refine Ac ((An U (.no U) U (.tm U) (.tm U) Tryz.underlying40 ty3 (fun _=>⟨by omega,(by exact Am (natI_at hf))⟩))) U ?_;refine Ak ty3 ?_;refine Ac (R_or_int U (.no U) U (.tm U) (.tm U) (fun _=>by omega)) U ?_;refine Ag ?_;refine Aa (Al (Ap [1,2,3,6,7,8] []) ?_);refine Ad (Ab ?_);refine Bk ?_;refine Ag ?_;refine Aa ?_
     repeat (with_reducible refine A7 ?_)
     refine Round2.next (i+1) (M|||f) ⟨⟨by omega,Nat.or_lt_two_pow (n:=20) hk.2 (h.fo f (List.mem_of_getElem? hf))⟩,(by rw [mAt_succ hf,if_pos hb1,he])⟩ (by omega) (Az rfl ⟨rfl,rfl,rfl,rfl,rfl,rfl,Y⟩ trivial)
   try simp only [bit_at,bit_zero,shr_zero] at h28
   try simp only [Int.toNat_natCast] at h28
   try simp at h28
   have hb0:¬ V1.testBit (i+1)=true:=(by have h1:=h28;simpa [show ((i:Int)+1).toNat=i+1 by omega] using h1)
   refine AW.skip (Al (Ap [1,2,3,6,7,8] []) ?_);refine Ad (Ab ?_);refine Bk ?_;refine Ag ?_;refine Aa ?_
   repeat (with_reducible refine A7 ?_)
   refine Round2.next (i+1) (M) ⟨⟨by omega,hk.2⟩,(by rw [mAt_succ hf,if_neg hb0];exact he)⟩ (by omega) (Az rfl ⟨rfl,rfl,rfl,rfl,rfl,rfl,Y⟩ trivial)
 try simp only [bit_at,bit_zero,shr_zero] at h20
 try simp only [Int.toNat_natCast] at h20
 try simp at h20
 refine Bz (Af (AWl.ac ?_));refine Aa (Ae (Af (AWl.ac ?_)));refine Aa (AW.block (C6 (fun (j:Nat) (N:Nat)=>(j≤P.ls.length∧N<2097152)∧N=oU P.ls (mAt P V1 P.ls.length) k j) (fun (j:Nat) (N:Nat)=>⟨_,[(10,(true,.a (.one (.t (.v (.int .i64 (j:Nat))))))),(9,(true,.a (.one (.t (.v (.int .i64 (N:Nat))))))),(2,_),(3,_),(6,_),(7,_)],[]⟩) (fun (j:Nat) (N:Nat)=>P.ls.length-j) (0) (0) ⟨⟨Nat.zero_le _,by decide⟩,U⟩ (Az U ⟨U,U,U,U,U,U,Y⟩ trivial) ?_))
 rintro j N ⟨hk1,he1⟩
 refine Ae (Af (Ab ?_));refine A8 fl75_0 ?_;refine Ak C7 ?_;refine Br (.t) Tryz.underlying40 ?_;refine AWl.lt ?_;refine Aa (Ah (.tm U) (fun h40=>?_) (fun h40=>?_))
 · try simp only [bit_at,bit_zero,shr_zero] at h40
   try simp only [Int.toNat_natCast] at h40
   try simp at h40
   obtain⟨l1,hl1⟩:∃ ξ,P.ls[j]?=some ξ:=⟨_,List.getElem?_eq_getElem (by omega)⟩
   have hmm:M=mAt P V1 P.ls.length:=by rw [he,show i=P.ls.length by omega]
   have he2:N=oU P.ls M k j:=by rw [hmm];exact he1
   refine AW.skip (Ae (AW.block (Af (Ab ?_))));refine Ab ?_;refine Ac (R_shr U (.no U) U (.tm U) (.tm U) (fun _=>by omega)) U ?_;refine Ac (R_and1 U (.no U) U (.tm U) (.const U) (fun _=>by first|exact Int.natCast_nonneg _|omega)) U ?_;refine Ba ?_;refine Ab ?_;refine AWl.fy fl75_0 ?_;refine Cu C7 ?_;refine Cl ?_;refine Ac (by exact An U (by exact .yes1 U U U U) U (.tmp U (by exact id)) (.tmp U (by exact id)) Tryz.underlying40 ty3 (fun hq=>by (try simp at hq);exact⟨by omega,(by exact Am hl1)⟩)) U ?_;refine Cu ty3 ?_;refine Cl ?_;refine Ac (R_eq U (by exact .yes1 U U U U) U (.tmp U (by exact id)) (.tmp U (by exact id))) U ?_;refine Cb ?_;refine Aa (Ah (.tm U) (fun h56=>?_) (fun h56=>?_))
   · try simp only [bit_at,bit_zero,shr_zero] at h56
     try simp only [Int.toNat_natCast] at h56
     try simp at h56
     have h2p:2^((j:Int)+1).toNat≤2097152:=Nat.le_trans (Nat.pow_le_pow_right (by omega) (show ((j:Int)+1).toNat≤21 by omega)) (by decide)
     have h2q:=Nat.two_pow_pos ((j:Int)+1).toNat
     have hu:N|||2^(j+1)=oU P.ls (mAt P V1 P.ls.length) k (j+1):=(by rw [oU,hl1,Option.getD_some,←hmm,if_pos (by rw [h56.1,h56.2];simp),←he2])
     refine Al (Ap [2,3,6,7,9,10] []) ?_;refine Ad (Ab ?_);refine Ab ?_;refine Bk ?_;refine Ac (R_shlN U (.no U) U (.const U) (.tm U) (fun _=>by omega)) U ?_;refine Ac (R_or_int U (.no U) U (.tm U) (.tm U) (fun _=>by omega)) U ?_;refine Ag ?_;refine Aa (Ad (Ab ?_));refine Bk ?_;refine Ag ?_;refine Aa ?_
     repeat (with_reducible refine A7 ?_)
     refine Round2.next (j+1) (N|||2^(j+1)) ⟨⟨by omega,by rw [hu];exact oU_lt20 (by omega)⟩,hu⟩ (by omega) (Az rfl ⟨rfl,rfl,rfl,rfl,rfl,rfl,Y⟩ trivial)
   try simp only [bit_at,bit_zero,shr_zero] at h56
   try simp only [Int.toNat_natCast] at h56
   try simp at h56
   have hu0:N=oU P.ls (mAt P V1 P.ls.length) k (j+1):=(by rw [oU,hl1,Option.getD_some,←hmm,if_neg (by rw [Bool.and_eq_true,decide_eq_true_eq];exact fun e=>h56 e.1 e.2),←he2])
   refine AW.skip (Al (Ap [2,3,6,7,9,10] []) ?_);refine Ad (Ab ?_);refine Bk ?_;refine Ag ?_;refine Aa ?_
   repeat (with_reducible refine A7 ?_)
   refine Round2.next (j+1) (N) ⟨⟨by omega,hk1.2⟩,hu0⟩ (by omega) (Az rfl ⟨rfl,rfl,rfl,rfl,rfl,rfl,Y⟩ trivial)
 try simp only [bit_at,bit_zero,shr_zero] at h40
 try simp only [Int.toNat_natCast] at h40
 try simp at h40
 refine Bz (Af (Ab ?_));refine Ag ?_;refine Aa (Ai (Bb U U ?_))
 rw [he1,show j=P.ls.length by omega];rfl
theorem specl10AcceptsX (P:PN) (h:PNok P) (V1:Nat) (hS:V1<33554432):FnT Tryz.prog 96 [.agg (cPositions (posV P)),.one (.v (.int .i64 (V1:Int)))] (.a (.one (.v (.bool (accP P V1))))):=by
 refine A6 Tryz.func96 U (by kernel_rfl) Tryz.ntmps96 U fun hlen w0=>?_
 try simp [cPositions] at hlen
 refine Af (Ac (Bo U U U (.tm U) (ts:=_) (by rfl)) U ?_);refine AWl.ac ?_;refine Aa (Af (Ab ?_));refine Ac (R_andI U (.no U) U (.tm U) (.const U)) U ?_;refine Ba ?_;refine Ab ?_;refine AWl.fy fl75_4 ?_;refine Cu ty4 ?_;refine Cb ?_;refine Ab ?_;refine AWl.mw ?_;refine Ac (R_shrI U (by exact .not1 U U U U) U (.tmp U (by exact id)) (.const U) (fun _=>by omega)) U ?_;refine Cy fl75_2 ?_;refine Cx ty3 ?_;refine Ac (R_andI U (by exact .not1 U U U U) U (.tmp U (by exact id)) (.tmp U (by exact id))) U ?_;refine Ac (R_ne U (by exact .not1 U U U U) U (.tmp U (by exact id)) (.const U)) U ?_;refine Cj ?_;refine Ag ?_;refine Aa (Ai (Bb U U ?_));exact congrArg Value.bool (accP_bits h hS)
end Go.Proofs.YtdhojcaoljhbiaaGreat
set_option maxHeartbeats 1000000
set_option maxRecDepth 100000
namespace Go.Q
open Go.RowKit Go.D
def lnkP (G:List Nat) (fr tz i:Nat):List Nat:=(List.range G.length).map fun j=>if (decide (j<i)&&fr.testBit j)=true then G[j]?.getD 0|||tz else G[j]?.getD 0
theorem lnkP_len (G:List Nat) (fr tz i:Nat):(lnkP G fr tz i).length=G.length:=by unfold lnkP;simp
theorem lnkP_get {G:List Nat} {fr tz i j:Nat} (h:j<G.length):(lnkP G fr tz i)[j]?=some (if (decide (j<i)&&fr.testBit j)=true then G[j]|||tz else G[j]):=by
 unfold lnkP
 rw [List.getElem?_map,List.getElem?_range h,Option.map_some,List.getElem?_eq_getElem h];rfl
theorem lnkP_zero (G:List Nat) (fr tz:Nat):lnkP G fr tz 0=G:=by
 refine List.ext_getElem? fun j=>?_
 rcases Nat.lt_or_ge j G.length with h|h
 · rw [lnkP_get h,if_neg (by simp),List.getElem?_eq_getElem h]
 rw [List.getElem?_eq_none (by rw [lnkP_len];exact h),List.getElem?_eq_none h]
theorem lnkP_end {G:List Nat} {fr tz i:Nat} (hi:G.length≤i):lnkP G fr tz i=lnk 0 G fr tz:=by
 refine List.ext_getElem? fun j=>?_
 rcases Nat.lt_or_ge j G.length with h|h
 · rw [lnkP_get h,lnk_at (List.getElem?_eq_getElem h),Nat.zero_add]
   rw [show decide (j<i)=true by simp;omega,Bool.true_and]
 rw [List.getElem?_eq_none (by rw [lnkP_len];exact h),List.getElem?_eq_none (by rw [lnk_len];exact h)]
theorem lnkP_set {G:List Nat} {fr tz i m:Nat} (hm:G[i]?=some m) (hb:fr.testBit i=true):(lnkP G fr tz i).set i (m|||tz)=lnkP G fr tz (i+1):=by
 obtain⟨hi,rfl⟩:=List.getElem?_eq_some_iff.1 hm
 refine List.ext_getElem? fun j=>?_
 rw [List.getElem?_set]
 rcases Nat.lt_or_ge j G.length with h|h
 · rw [lnkP_get h,lnkP_get h,lnkP_len]
   split
   · rename_i e
     subst e
     simp [hb]
   rename_i e
   congr 1
   have:decide (j<i)=decide (j<i+1):=decide_eq_decide.2 (by omega)
   rw [this]
 rw [if_neg (by omega),List.getElem?_eq_none (by rw [lnkP_len];exact h),List.getElem?_eq_none (by rw [lnkP_len];exact h)]
theorem lnkP_skip {G:List Nat} {fr tz i:Nat} (hb:fr.testBit i=false):lnkP G fr tz (i+1)=lnkP G fr tz i:=by
 refine List.ext_getElem? fun j=>?_
 rcases Nat.lt_or_ge j G.length with h|h
 · rw [lnkP_get h,lnkP_get h]
   congr 1
   by_cases e:j=i
   · subst e;rw [hb];simp
   have:decide (j<i)=decide (j<i+1):=decide_eq_decide.2 (by omega)
   rw [this]
 rw [List.getElem?_eq_none (by rw [lnkP_len];exact h),List.getElem?_eq_none (by rw [lnkP_len];exact h)]
theorem lnkP_at {G:List Nat} {fr tz i m:Nat} (hm:G[i]?=some m):(lnkP G fr tz i)[i]?=some m:=by
 obtain⟨hi,rfl⟩:=List.getElem?_eq_some_iff.1 hm
 rw [lnkP_get hi,if_neg (by simp)]
theorem lnk_app {A B:List Nat} {b fr tz:Nat} (hA:A.length=b) (hf:∀ j,fr.testBit j=true→b≤j):lnk 0 (A++B) fr tz=A++lnk b B fr tz:=by
 refine List.ext_getElem? fun j=>?_
 rcases Nat.lt_or_ge j b with h|h
 · rw [List.getElem?_append_left (by omega)]
   have hj:(A++B)[j]?=some A[j]:=by rw [List.getElem?_append_left (by omega),List.getElem?_eq_getElem]
   rw [lnk_at hj,if_neg (fun e=>by have:=hf _ e;omega),List.getElem?_eq_getElem]
 rw [List.getElem?_append_right (by omega),hA]
 rcases Nat.lt_or_ge (j-b) B.length with h1|h1
 · have hj:(A++B)[j]?=some B[j-b]:=by rw [List.getElem?_append_right (by omega),hA,List.getElem?_eq_getElem h1]
   rw [lnk_at hj,lnk_at (List.getElem?_eq_getElem h1),Nat.zero_add,show b+(j-b)=j by omega]
 rw [List.getElem?_eq_none (by rw [lnk_len];simp;omega),List.getElem?_eq_none (by rw [lnk_len];exact h1)]
end Go.Q
namespace Go.Proofs.YtdhojcaoljhbiaaGreat
open Go.RowKit Go.Q Go.D
theorem specl10LinkX (fr tz:Nat) (hfr:fr<1048576) (hto:tz<1048576) (G:List Nat) (hG:G.length≤24) (hm:∀ m∈G,m<1048576) (p0:Pos) (h0:p0.F=natI G):FnP Tryz.prog 149 [.one (.v (.int .i64 (fr:Int))),.one (.v (.int .i64 (tz:Int)))] (fun p=>p=p0) (fun _ p' (_:Unit)=>p'=⟨p0.L,natI (lnk 0 G fr tz),p0.x,p0.y,p0.z⟩) (fun _=>[]):=by
 refine FnP.walk Tryz.func149 rfl (by kernel_rfl) Tryz.ntmps149 rfl (fun b p=>rfl) fun w0 b p hp=>?_
 subst hp;refine Af (AWl.ac ?_);refine Aa (AW.block (Dp (fun (i:Nat)=>(i≤G.length)∧True) (fun (i:Nat)=>⟨_,[(6,(true,.a (.one (.t (.v (.int .i64 (i:Nat))))))),(0,_),(1,_),(2,_)],[(700,(boxP 701 702 p)),(701,(rowI p.L)),(702,(rowI (natI (lnkP G fr tz i)))),(703,.blk (some 700) b)]⟩) (fun (i:Nat)=>G.length-i) (0) ⟨Nat.zero_le _,Y⟩ (Az U ⟨U,U,U,U,Y⟩ ⟨U,U,(by refine congrArg (fun r=>some (R.row 1 r)) ?_;rw [lnkP_zero,←h0]),U,Y⟩) ?_))
 rintro i ⟨hk,he⟩
 refine Ae (Af (Ab ?_));refine Ab ?_;refine Ac (Cq U (.no U) U (.tm U)) U ?_;refine Bd fl75_3 ?_;refine A3 C7 ?_;refine Br (.rf U) Tryz.underlying40 ?_;refine AWl.lt ?_;refine Aa (Ah (.tm U) (fun h13=>?_) (fun h13=>?_))
 · try simp only [bit_at,bit_zero,shr_zero] at h13
   try simp only [Int.toNat_natCast] at h13
   try simp at h13
   have hiG:i<G.length:=by (have h1:=h13;simp [natI,lnkP_len] at h1;omega)
   obtain⟨f1,hf1⟩:∃ ξ,G[i]?=some ξ:=⟨_,List.getElem?_eq_getElem hiG⟩
   have hfl:=hm f1 (List.mem_of_getElem? hf1)
   refine AW.skip (Ae (AW.block (Ae (Al (Ap [0,1,2,6] [700,701,702,703]) ?_))));refine Ad (Ab ?_);refine Ab ?_;refine Ac (R_shr U (.no U) U (.tm U) (.tm U) (fun _=>by omega)) U ?_;refine Ac (R_and1 U (.no U) U (.tm U) (.const U) (fun _=>by first|exact Int.natCast_nonneg _|omega)) U ?_;refine Ba ?_;refine Aa (Ah (.tm U) (fun h20=>?_) (fun h20=>?_))
   · try simp only [bit_at,bit_zero,shr_zero] at h20
     try simp only [Int.toNat_natCast] at h20
     try simp at h20
     refine Al (Ap [0,1,2,6,16,17,18,19,20] [700,701,702,703]) ?_;apply Cz (N:=14) (k:=9) (Hs:=[0,1,2,4,5,6,7,9,12]) (ms:=[[],[3],[8],[3,8],[8,10],[3,8,10],[8,10,11],[3,8,10,11],[8,10,11,13],[3,8,10,11,13]]) (es:=[(0,3,1),(0,8,2),(1,8,3),(2,3,3),(2,10,4),(3,10,5),(4,3,5),(4,11,6),(5,11,7),(6,3,7),(6,13,8),(7,13,9),(8,3,9)]) (σ1:=_) (SM:=⟨_,[(0,_),(1,_),(2,_),(6,_),(16,_),(17,_),(18,_),(19,_),(20,_),(21,_),(22,_),(23,_),(25,_),(26,_),(27,_),(28,_),(30,_),(33,_)],[(700,_),(701,_),(702,_),(703,_)]⟩)
     case hm=>kernel_rfl
     case hB=>kernel_rfl
     case hP=>kernel_rfl
     case hL=>kernel_rfl
     case hN=>rfl
     case hpre=>
      apply As (P:=Tryz.prog) 0 rfl (Bf rfl (.no rfl) rfl (.tm rfl)) (by exact HasV.slot (t:=0) rfl) rfl rfl rfl;apply As (P:=Tryz.prog) 1 rfl ((by exact Cq rfl (.no rfl) rfl (.tm rfl))) (by exact .pp) rfl rfl rfl;apply As (P:=Tryz.prog) 2 rfl ((by exact Bj rfl (.no rfl) rfl (.tm rfl) fl75_3)) (by exact .pp) rfl rfl rfl;apply As (P:=Tryz.prog) 4 rfl (Bf rfl (.no rfl) rfl (.tm rfl)) (by exact HasV.slot (t:=6) rfl) rfl rfl rfl;apply As (P:=Tryz.prog) 5 rfl (Bf rfl (.no rfl) rfl (.tm rfl)) (by exact HasV.slot (t:=0) rfl) rfl rfl rfl;apply As (P:=Tryz.prog) 6 rfl ((by exact Cq rfl (.no rfl) rfl (.tm rfl))) (by exact .pp) rfl rfl rfl;apply As (P:=Tryz.prog) 7 rfl ((by exact Bj rfl (.no rfl) rfl (.tm rfl) fl75_3)) (by exact .pp) rfl rfl rfl;apply As (P:=Tryz.prog) 9 rfl (Bf rfl (.no rfl) rfl (.tm rfl)) (by exact HasV.slot (t:=6) rfl) rfl rfl rfl
      apply As (P:=Tryz.prog) 12 rfl (Bf rfl (.no rfl) rfl (.tm rfl)) (by exact HasV.slot (t:=2) rfl) rfl rfl rfl;exact PreOk.nil
     case hS=>exact A5
     case hH=>
      refine LocsH.mv ?_;refine LocsH.nc ?_;refine LocsH.fq fl75_3 ?_;refine LocsH.mv ?_;refine LocsH.mv ?_;refine LocsH.nc ?_;refine LocsH.fq fl75_3 ?_;refine LocsH.mv ?_;refine LocsH.mv ?_
      trivial
     apply Dh.new0 (i:=3);rfl;rfl;rfl
     · intro w9 _;refine A3 C7 ?_;exact Ax [0,1,2,6,16,17,18,19,20,21,22,23,24,25,26,27,28,30,33] [700,701,702,703]
     intros;exact A5
     apply Dh.new0 (i:=8);rfl;rfl;rfl
     · intro w9 _;refine A3 C7 ?_;exact Ax [0,1,2,6,16,17,18,19,20,21,22,23,25,26,27,28,29,30,33] [700,701,702,703]
     intros;exact A5
     apply Dh.new0 (i:=8);rfl;rfl;rfl
     · intro w9 _;refine A3 C7 ?_;exact Ax [0,1,2,6,16,17,18,19,20,21,22,23,24,25,26,27,28,29,30,33] [700,701,702,703]
     intros;exact A5
     apply Dh.old0 (i:=3);rfl;rfl;rfl
     · intro w9 _;refine A3 C7 ?_;exact Aa Bi
     apply Dh.new0 (i:=10);rfl;rfl;rfl
     · intro w9 _;refine Ac ((Ay U (.no U) U (.tm U) U (.tm U) Tryz.underlying40 ty3 (fun _=>⟨by omega,(by exact Am (natI_at (lnkP_at hf1)))⟩))) U ?_;exact Ax [0,1,2,6,16,17,18,19,20,21,22,23,25,26,27,28,30,31,33] [700,701,702,703]
     intros;exact A5
     apply Dh.new0 (i:=10);rfl;rfl;rfl
     · intro w9 _;refine Ac ((Ay U (.no U) U (.tm U) U (.tm U) Tryz.underlying40 ty3 (fun _=>⟨by omega,(by exact Am (natI_at (lnkP_at hf1)))⟩))) U ?_;exact Ax [0,1,2,6,16,17,18,19,20,21,22,23,24,25,26,27,28,30,31,33] [700,701,702,703]
     intros;exact A5
     apply Dh.old0 (i:=3);rfl;rfl;rfl
     · intro w9 _;refine A3 C7 ?_;exact Aa Bi
     apply Dh.new0 (i:=11);rfl;rfl;rfl
     · intro w9 _;refine Ac ((Bt U (.no U) U (.tm U) U (by exact Am (natI_at (lnkP_at hf1))) ty3 U U)) U ?_;exact Ax [0,1,2,6,16,17,18,19,20,21,22,23,25,26,27,28,30,32,33] [700,701,702,703]
     intros;exact A5
     apply Dh.new0 (i:=11);rfl;rfl;rfl
     · intro w9 _;refine Ac ((Bt U (.no U) U (.tm U) U (by exact Am (natI_at (lnkP_at hf1))) ty3 U U)) U ?_;exact Ax [0,1,2,6,16,17,18,19,20,21,22,23,24,25,26,27,28,30,32,33] [700,701,702,703]
     intros;exact A5
     apply Dh.old0 (i:=3);rfl;rfl;rfl
     · intro w9 _;refine A3 C7 ?_;exact Aa Bi
     apply Dh.new0 (i:=13);rfl;rfl;rfl
     · intro w9 _;refine Ac (R_or_int U (.no U) U (.tm U) (.tm U) (fun _=>by omega)) U ?_;exact Ax [0,1,2,6,16,17,18,19,20,21,22,23,25,26,27,28,30,33,34] [700,701,702,703]
     intros;exact A5
     apply Dh.new0 (i:=13);rfl;rfl;rfl
     · intro w9 _;refine Ac (R_or_int U (.no U) U (.tm U) (.tm U) (fun _=>by omega)) U ?_;exact Ax [0,1,2,6,16,17,18,19,20,21,22,23,24,25,26,27,28,30,33,34] [700,701,702,703]
     intros;exact A5
     apply Dh.old0 (i:=3);rfl;rfl;rfl
     · intro w9 _;refine A3 C7 ?_;exact Aa Bi
     refine Dh.fin0 (k:=9) rfl ?_;intro  hp
     obtain _:=hp
     refine Ac ((Ay U (.no U) U (.tm U) U (.tm U) Tryz.underlying40 ty3 (fun _=>⟨by omega,(by exact Am (natI_at (lnkP_at hf1)))⟩))) U ?_;refine AWl.absupd (R_store_pr U U U (.tm U) U (.tm U) U (by exact Am (natI_at (lnkP_at hf1))) ty3 U U U U) ?_;refine Aa (Al (Ap [0,1,2,6] [700,701,702,703]) ?_);refine Ad (Ab ?_);refine Bk ?_;refine Ag ?_;refine Aa ?_
     repeat (with_reducible refine A7 ?_)
     refine Round1.next (i+1) ⟨by omega,Y⟩ (by omega) (Az rfl ⟨rfl,rfl,rfl,rfl,Y⟩ ⟨(by rfl),(by rfl),(by refine congrArg (fun r=>some (R.row 1 r)) ?_;first|(rw [lnkP_skip h20];done)|(rw [←lnkP_set hf1 h20];unfold natI;rw [List.map_set,List.map_set];rfl)),(by rfl),Y⟩)
   try simp only [bit_at,bit_zero,shr_zero] at h20
   try simp only [Int.toNat_natCast] at h20
   try simp at h20
   refine AW.skip (Ad (Ab ?_));refine Bk ?_;refine Ag ?_;refine Aa ?_
   repeat (with_reducible refine A7 ?_)
   refine Round1.next (i+1) ⟨by omega,Y⟩ (by omega) (Az rfl ⟨rfl,rfl,rfl,rfl,Y⟩ ⟨(by rfl),(by rfl),(by refine congrArg (fun r=>some (R.row 1 r)) ?_;first|(rw [lnkP_skip h20];done)|(rw [←lnkP_set hf1 h20];unfold natI;rw [List.map_set,List.map_set];rfl)),(by rfl),Y⟩)
 try simp only [bit_at,bit_zero,shr_zero] at h13
 try simp only [Int.toNat_natCast] at h13
 try simp at h13
 refine Bz ?_
 show PRes _ _ _ _ _ _
 refine⟨⟨p.L,natI (lnkP G fr tz i),p.x,p.y,p.z⟩,(),_,_,?_,rfl,(by rfl),(by rfl),rfl,rfl,.nil,.inl ⟨rfl,rfl⟩⟩
 exact (by rw [lnkP_end (by have h1:=h13;simp [natI,lnkP_len] at h1;omega)])
end Go.Proofs.YtdhojcaoljhbiaaGreat
