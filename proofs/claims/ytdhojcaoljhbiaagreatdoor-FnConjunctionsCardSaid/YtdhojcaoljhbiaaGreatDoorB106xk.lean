import Derived.Test.YtdhojcaoljhbiaaGreatDoorB08xk
import Derived.Test.YtdhojcaoljhbiaaGreatDoorAbsKxk
import Derived.Test.YtdhojcaoljhbiaaGreatDoorPvxk
set_option linter.unusedVariables false
set_option linter.unusedSimpArgs false
set_option maxHeartbeats 1000000
set_option maxRecDepth 100000
namespace Go.Q
open Go.D
structure SO {α:Type} (lt:α→α→Bool):Prop where
 irr:∀ x,lt x x=false
 tra:∀ x y z,lt x y=true→lt y z=true→lt x z=true
 tri:∀ x y,lt x y=true∨x=y∨lt y x=true
def putG {α:Type} [DecidableEq α] (lt:α→α→Bool):List α→α→List α
 | [],p=>[p]
 | x::l,p=>if lt x p then x::putG lt l p else if x=p then x::l else p::x::l
def StrictS {α:Type} (lt:α→α→Bool) (l:List α):Prop:=l.Pairwise fun a b=>lt a b=true
section
variable {α:Type} {lt:α→α→Bool}
theorem strict_nodup (ho:SO lt) {l:List α} (h:StrictS lt l):l.Nodup:=List.Pairwise.imp (fun {a b} hab e=>by subst e;rw [ho.irr] at hab;cases hab) h
theorem strict_ext (ho:SO lt):∀ {l r:List α},StrictS lt l→StrictS lt r→(∀ x,x∈l↔x∈r)→l=r
 | [],[],_,_,_=>rfl
 | [],y::r,_,_,h=>by have:=(h y).2 (by simp);cases this
 | x::l,[],_,_,h=>by have:=(h x).1 (by simp);cases this
 | x::l,y::r,hl,hr,h=>by
  have hl':=List.pairwise_cons.1 hl
  have hr':=List.pairwise_cons.1 hr
  have e:x=y:=by
   rcases List.mem_cons.1 ((h x).1 (by simp)) with h1|h1
   · exact h1
   rcases List.mem_cons.1 ((h y).2 (by simp)) with h2|h2
   · exact h2.symm
   have h3:=hr'.1 x h1
   have h4:=hl'.1 y h2
   have:=ho.tra _ _ _ h3 h4
   rw [ho.irr] at this;cases this
  subst e
  congr 1
  refine strict_ext ho hl'.2 hr'.2 fun z=>⟨fun hz=>?_,fun hz=>?_⟩
  · rcases List.mem_cons.1 ((h z).1 (by simp [hz])) with h1|h1
    · subst h1;have:=hl'.1 z hz;rw [ho.irr] at this;cases this
    exact h1
  rcases List.mem_cons.1 ((h z).2 (by simp [hz])) with h1|h1
  · subst h1;have:=hr'.1 z hz;rw [ho.irr] at this;cases this
  exact h1
def leG (lt:α→α→Bool) (a b:α):Bool:=!lt b a
def sortG (lt:α→α→Bool) (l:List α):List α:=l.mergeSort (leG lt)
theorem leG_trans (ho:SO lt) (a b c:α) (h1:leG lt a b=true) (h2:leG lt b c=true):leG lt a c=true:=by
 unfold leG at *
 simp only [Bool.not_eq_true'] at *
 cases h:lt c a with
 | false=>rfl
 | true=>
  rcases ho.tri a b with h3|h3|h3
  · have:=ho.tra _ _ _ h h3;rw [h2] at this;cases this
  · subst h3;rw [h2] at h;cases h
  rw [h1] at h3;cases h3
theorem leG_total (ho:SO lt) (a b:α):(leG lt a b||leG lt b a)=true:=by
 unfold leG
 cases h:lt b a with
 | false=>rfl
 | true=>
  cases h2:lt a b with
  | false=>rfl
  | true=>have:=ho.tra _ _ _ h h2;rw [ho.irr] at this;cases this
theorem sortG_sorted (ho:SO lt) (l:List α):(sortG lt l).Pairwise fun a b=>lt b a=false:=by
 have:=List.pairwise_mergeSort (leG_trans ho) (leG_total ho) l
 exact this.imp fun h=>by simpa [leG] using h
theorem mem_sortG {x:α} {l:List α}:x∈sortG lt l↔x∈l:=(List.mergeSort_perm l _).mem_iff
theorem sortG_len (l:List α):(sortG lt l).length=l.length:=(List.mergeSort_perm l _).length_eq
theorem sortG_unique (ho:SO lt) {l r:List α} (hp:r.Perm l) (hs:r.Pairwise fun a b=>lt b a=false):r=sortG lt l:=by
 refine List.Perm.eq_of_pairwise (le:=fun a b=>lt b a=false) (fun a b _ _ h1 h2=>?_) hs (sortG_sorted ho l) (hp.trans (List.mergeSort_perm l _).symm)
 rcases ho.tri a b with h3|h3|h3
 · rw [h2] at h3;cases h3
 · exact h3
 rw [h1] at h3;cases h3
end
section
variable {α:Type} [DecidableEq α] {lt:α→α→Bool}
theorem mem_putG {x p:α}:∀ {l:List α},x∈putG lt l p↔x∈l∨x=p
 | []=>by simp [putG]
 | y::l=>by
  rw [putG]
  split
  · simp [mem_putG (l:=l),or_assoc]
  split
  · rename_i h;subst h;simp;intro h;exact .inl h
  simp;constructor
  · rintro (h|h|h)<;>simp [h]
  rintro ((h|h)|h)<;>simp [h]
theorem putG_strict (ho:SO lt) {p:α}:∀ {l:List α},StrictS lt l→StrictS lt (putG lt l p)
 | [],_=>by simp [putG,StrictS]
 | y::l,h=>by
  have h':=List.pairwise_cons.1 h
  rw [putG]
  split
  · rename_i hy
    refine List.pairwise_cons.2 ⟨fun x hx=>?_,putG_strict ho h'.2⟩
    rcases mem_putG.1 hx with hx|rfl
    · exact h'.1 x hx
    exact hy
  rename_i hy
  split
  · exact h
  rename_i hne
  have hlt:lt p y=true:=by
   rcases ho.tri y p with h1|h1|h1
   · exact absurd h1 hy
   · exact absurd h1 hne
   exact h1
  refine List.pairwise_cons.2 ⟨fun x hx=>?_,h⟩
  rcases List.mem_cons.1 hx with rfl|hx
  · exact hlt
  exact ho.tra _ _ _ hlt (h'.1 x hx)
def setG (lt:α→α→Bool) (l:List α):List α:=l.foldl (putG lt) []
theorem foldl_strict (ho:SO lt):∀ {l acc:List α},StrictS lt acc→StrictS lt (l.foldl (putG lt) acc)
 | [],_,h=>h
 | x::l,acc,h=>foldl_strict ho (l:=l) (putG_strict ho h)
theorem mem_foldl {x:α}:∀ {l acc:List α},x∈l.foldl (putG lt) acc↔x∈acc∨x∈l
 | [],acc=>by simp
 | y::l,acc=>by
  rw [List.foldl_cons,mem_foldl,mem_putG,List.mem_cons,or_assoc]
theorem setG_strict (ho:SO lt) (l:List α):StrictS lt (setG lt l):=foldl_strict ho List.Pairwise.nil
theorem mem_setG {x:α} {l:List α}:x∈setG lt l↔x∈l:=by unfold setG;rw [mem_foldl];simp
def compactL:List α→List α
 | []=>[]
 | [x]=>[x]
 | x::y::l=>if x=y then compactL (y::l) else x::compactL (y::l)
theorem mem_compactL {x:α}:∀ {l:List α},x∈compactL l↔x∈l
 | []=>Iff.rfl
 | [y]=>Iff.rfl
 | y::z::l=>by
  rw [compactL]
  split
  · rename_i h;subst h;rw [mem_compactL];simp
  rw [List.mem_cons,mem_compactL,List.mem_cons (l:=z::l)]
theorem compactL_strict (ho:SO lt):∀ {l:List α},l.Pairwise (fun a b=>lt b a=false)→StrictS lt (compactL l)
 | [],_=>List.Pairwise.nil
 | [y],_=>by simp [compactL,StrictS]
 | y::z::l,h=>by
  have h':=List.pairwise_cons.1 h
  rw [compactL]
  split
  · exact compactL_strict ho h'.2
  rename_i hne
  refine List.pairwise_cons.2 ⟨fun x hx=>?_,compactL_strict ho h'.2⟩
  have hyz:lt y z=true:=by
   rcases ho.tri y z with h1|h1|h1
   · exact h1
   · exact absurd h1 hne
   rw [h'.1 z (by simp)] at h1;cases h1
  rcases List.mem_cons.1 (mem_compactL.1 hx) with rfl|hx
  · exact hyz
  have h2:=(List.pairwise_cons.1 h'.2).1 x hx
  rcases ho.tri z x with h3|h3|h3
  · exact ho.tra _ _ _ hyz h3
  · subst h3;exact hyz
  rw [h2] at h3;cases h3
theorem compact_sort (ho:SO lt) (l:List α):compactL (sortG lt l)=setG lt l:=
 strict_ext ho (compactL_strict ho (sortG_sorted ho l)) (setG_strict ho l) fun x=>by rw [mem_compactL,mem_sortG,mem_setG]
theorem putG_len (p:α):∀ l:List α,(putG lt l p).length≤l.length+1
 | []=>by simp [putG]
 | x::l=>by
  rw [putG]
  have:=putG_len p l
  split
  · simp;omega
  split<;>simp
theorem setG_len (l:List α):(setG lt l).length≤l.length:=by
 have key:∀ (l acc:List α),(l.foldl (putG lt) acc).length≤acc.length+l.length:=by
  intro l
  induction l with
  | nil=>intro acc;simp
  | cons x l ih=>intro acc;rw [List.foldl_cons];have:=ih (putG lt acc x);have:=putG_len (lt:=lt) x acc;simp;omega
 have:=key l []
 simpa [setG] using this
theorem putG_at:∀ {l:List α} {k:Nat} {p:α},(∀ j y,j<k→l[j]?=some y→lt y p=true)→(∀ y,l[k]?=some y→lt y p=false)→k≤l.length→putG lt l p=if l[k]?=some p then l else l.take k++[p]++l.drop k
 | [],k,p,_,_,hk=>by
  have:k=0:=by simpa using hk
  subst this;simp [putG]
 | x::l,0,p,_,h2,_=>by
  have:=h2 x rfl
  rw [putG,if_neg (by rw [this];simp)]
  simp
 | x::l,k+1,p,h1,h2,hk=>by
  have hx:=h1 0 x (by omega) rfl
  rw [putG,if_pos hx,putG_at (k:=k) (fun j y hj hy=>h1 (j+1) y (by omega) (by simpa using hy)) (fun y hy=>h2 y (by simpa using hy)) (by simpa using hk)]
  simp only [List.getElem?_cons_succ,List.take_succ_cons,List.drop_succ_cons,List.cons_append]
  split<;>rfl
end
instance:Inhabited TPair:=⟨⟨0,0⟩⟩
def pless (a b:TPair):Bool:=decide (a.From<b.From)||decide (a.From=b.From)&&decide (a.To<b.To)
theorem pless_so:SO pless:=by
 refine⟨fun x=>by simp [pless],fun x y z=>?_,fun x y=>?_⟩
 · unfold pless
   simp only [Bool.or_eq_true,Bool.and_eq_true,decide_eq_true_eq]
   omega
 unfold pless
 simp only [Bool.or_eq_true,Bool.and_eq_true,decide_eq_true_eq]
 have:x=y↔x.From=y.From∧x.To=y.To:=by cases x;cases y;simp
 rw [this];omega
def pmerge (a b:List TPair):List TPair:=setG pless (a++b)
end Go.Q
namespace Go.Proofs
open Go.Shelf Go.RowKit Go.Lib Go.Sort
def Tryz.sortPair_ren:Go.Shelf.Ren:=⟨fun|6=>253|15=>115|14=>266|28=>162|29=>163|20=>271|21=>272|22=>273|23=>274|24=>275|25=>276|26=>277|27=>278|46=>279|47=>212|48=>213|49=>280|50=>281|57=>282|n=>n,fun|22=>89|24=>97|25=>273|3=>3|39=>158|0=>0|53=>195|55=>197|4=>4|46=>189|45=>188|50=>109|5=>5|9=>9|66=>233|70=>237|76=>267|77=>268|n=>n,fun|n=>n⟩
theorem Tryz.sortPair:Go.Proofs.SlLaysF0.n6 Tryz.prog Tryz.sortPair_ren:={
 mixed:=by kernel_rfl
 f6:=⟨Tryz.f253.name,by decide,Tryz.func253.trans (congrArg some (by kernel_rfl))⟩
 f14:=⟨Tryz.f266.name,by decide,Tryz.func266.trans (congrArg some (by kernel_rfl))⟩
 f15:=Tryz.func115.trans (congrArg some (by kernel_rfl))
 f20:=⟨Tryz.f271.name,by decide,Tryz.func271.trans (congrArg some (by kernel_rfl))⟩
 f21:=⟨Tryz.f272.name,by decide,Tryz.func272.trans (congrArg some (by kernel_rfl))⟩
 f22:=⟨Tryz.f273.name,by decide,Tryz.func273.trans (congrArg some (by kernel_rfl))⟩
 f23:=⟨Tryz.f274.name,by decide,Tryz.func274.trans (congrArg some (by kernel_rfl))⟩
 f24:=⟨Tryz.f275.name,by decide,Tryz.func275.trans (congrArg some (by kernel_rfl))⟩
 f25:=⟨Tryz.f276.name,by decide,Tryz.func276.trans (congrArg some (by kernel_rfl))⟩
 f26:=⟨Tryz.f277.name,by decide,Tryz.func277.trans (congrArg some (by kernel_rfl))⟩
 f27:=⟨Tryz.f278.name,by decide,Tryz.func278.trans (congrArg some (by kernel_rfl))⟩
 f28:=Tryz.func162.trans (congrArg some (by kernel_rfl))
 f29:=Tryz.func163.trans (congrArg some (by kernel_rfl))
 f46:=⟨Tryz.f279.name,by decide,Tryz.func279.trans (congrArg some (by kernel_rfl))⟩
 f47:=Tryz.func212.trans (congrArg some (by kernel_rfl))
 f48:=Tryz.func213.trans (congrArg some (by kernel_rfl))
 f49:=⟨Tryz.f280.name,by decide,Tryz.func280.trans (congrArg some (by kernel_rfl))⟩
 f50:=⟨Tryz.f281.name,by decide,Tryz.func281.trans (congrArg some (by kernel_rfl))⟩
 f57:=⟨Tryz.f282.name,by decide,Tryz.func282.trans (congrArg some (by kernel_rfl))⟩
 t0:=Tryz.underlying0
 a0:=Tryz.isAgg0
 z0:=Tryz.sizeOf0
 v0:=Tryz.zeroValue0
 t3:=Tryz.underlying3
 a3:=Tryz.isAgg3
 z3:=Tryz.sizeOf3
 v3:=Tryz.zeroValue3
 t4:=Tryz.underlying4
 a4:=Tryz.isAgg4
 z4:=Tryz.sizeOf4
 v4:=Tryz.zeroValue4
 t5:=Tryz.underlying5
 a5:=Tryz.isAgg5
 z5:=Tryz.sizeOf5
 v5:=Tryz.zeroValue5
 t9:=Tryz.underlying9
 a9:=Tryz.isAgg9
 z9:=Tryz.sizeOf9
 v9:=Tryz.zeroValue9
 t22:=Tryz.underlying89
 a22:=Tryz.isAgg89
 z22:=Tryz.sizeOf89
 v22:=Tryz.zeroValue89
 t25:=Tryz.underlying273
 a25:=Tryz.isAgg273
 z25:=Tryz.sizeOf273
 v25:=Tryz.zeroValue273
 t39:=Tryz.underlying158
 a39:=Tryz.isAgg158
 z39:=Tryz.sizeOf158
 v39:=Tryz.zeroValue158
 t45:=Tryz.underlying188
 a45:=Tryz.isAgg188
 z45:=Tryz.sizeOf188
 v45:=Tryz.zeroValue188
 t46:=Tryz.underlying189
 a46:=Tryz.isAgg189
 z46:=Tryz.sizeOf189
 v46:=Tryz.zeroValue189
 t50:=Tryz.underlying109
 a50:=Tryz.isAgg109
 z50:=Tryz.sizeOf109
 v50:=Tryz.zeroValue109
 t53:=Tryz.underlying195
 a53:=Tryz.isAgg195
 z53:=Tryz.sizeOf195
 v53:=Tryz.zeroValue195
 t55:=Tryz.underlying197
 a55:=Tryz.isAgg197
 z55:=Tryz.sizeOf197
 v55:=Tryz.zeroValue197
 t66:=Tryz.underlying233
 a66:=Tryz.isAgg233
 z66:=Tryz.sizeOf233
 v66:=Tryz.zeroValue233
 t70:=Tryz.underlying237
 a70:=Tryz.isAgg237
 z70:=Tryz.sizeOf237
 v70:=Tryz.zeroValue237
 t76:=Tryz.underlying267
 a76:=Tryz.isAgg267
 z76:=Tryz.sizeOf267
 v76:=Tryz.zeroValue267
 t77:=Tryz.underlying268
 a77:=Tryz.isAgg268
 z77:=Tryz.sizeOf268
 v77:=Tryz.zeroValue268 }
end Go.Proofs
namespace Go.Q
open Go.D
theorem put_found {l:List TPair} {k:Nat} {p d:TPair} (h1:∀ j y,j<k→l[j]?=some y→pless y p=true) (hk:k<l.length) (he:l[k]?.getD d=p):putG pless l p=l:=by
 have hg:l[k]?=some p:=by rw [getD_at (d:=d) hk,he]
 rw [putG_at h1 (fun y hy=>by rw [hg] at hy;cases hy;exact pless_so.irr p) (by omega),if_pos hg]
theorem put_new {l:List TPair} {k:Nat} {p d:TPair} (h1:∀ j y,j<k→l[j]?=some y→pless y p=true) (hk:k≤l.length) (hn:k<l.length→pless (l[k]?.getD d) p=false) (hne:k<l.length→l[k]?.getD d≠p):putG pless l p=l.take k++[p]++l.drop k:=by
 rw [putG_at h1 (fun y hy=>by have hlt:=(List.getElem?_eq_some_iff.1 hy).1;have:=hn hlt;rwa [hy] at this) hk,if_neg (fun hy=>by have hlt:=(List.getElem?_eq_some_iff.1 hy).1;have:=hne hlt;rw [hy] at this;exact this rfl)]
theorem any_not {α:Type} {p:α→Bool} {l:List α} {k:Nat} (h:∀ j y,j<k→l[j]?=some y→(!p y)=true) (hk:l.length≤k):l.any p=false:=by
 rw [List.any_eq_false]
 intro x hx
 obtain⟨j,hj,rfl⟩:=List.getElem_of_mem hx
 have:=h j _ (by omega) (List.getElem?_eq_getElem hj)
 simpa using this
theorem pair_eq {x y:TPair}:x=y↔x.From=y.From∧x.To=y.To:=by cases x;cases y;simp
def cmpI (x y:Int):Int:=if x<y then -1 else if y<x then 1 else 0
def cmpP (x y:TPair):Int:=if x.From≠y.From then cmpI x.From y.From else cmpI x.To y.To
theorem cmpP_ge (x y:TPair):decide (0≤cmpP x y)=!pless x y:=by
 unfold pless cmpP cmpI
 rw [Bool.eq_iff_iff]
 simp only [Bool.not_eq_true',Bool.or_eq_false_iff,Bool.and_eq_false_iff,decide_eq_true_eq,decide_eq_false_iff_not]
 repeat' split
 all_goals omega
theorem cmpP_lt (x y:TPair):Go.Proofs.ltOf cmpP x y=pless x y:=by
 unfold Go.Proofs.ltOf pless cmpP cmpI
 rw [Bool.eq_iff_iff]
 simp only [Bool.or_eq_true,Bool.and_eq_true,decide_eq_true_eq]
 repeat' split
 all_goals omega
theorem swo_pless:Go.Sort.SWO (Go.Proofs.ltOf cmpP) where
 irrefl x:=by rw [cmpP_lt];exact pless_so.irr x
 trans x y z h1 h2:=by rw [cmpP_lt] at *;exact pless_so.tra x y z h1 h2
 ntrans x y z h1 h2:=by
  rw [cmpP_lt] at *
  have:=leG_trans pless_so z y x (by unfold leG;rw [h2];rfl) (by unfold leG;rw [h1];rfl)
  unfold leG at this
  simpa using this
def encP (x:TPair):List Value:=[.int .i64 x.From,.int .i64 x.To]
end Go.Q
namespace Go.Proofs.YtdhojcaoljhbiaaGreatDoor
open Go.RowKit Go.Q Go.D
theorem compareInts_calls (x y:Int) (W:World):Calls Tryz.prog 267 #[.int .i64 x,.int .i64 y] W fun e w'=>e=.returned (.int .i64 (cmpI x y))∧w'=W:=by
 have e:cmpI x y=if x<y then -1 else if y<x then 1 else 0:=rfl
 generalize cmpI x y=r at e ⊢
 by_cases h1:x<y
 · rw [if_pos h1] at e
   subst e
   go_enter Tryz.func267,Tryz.ntmps267
   go_wp2
   go_ret
   exact⟨rfl,rfl⟩
 rw [if_neg h1] at e
 by_cases h2:y<x
 · rw [if_pos h2] at e
   subst e
   go_enter Tryz.func267,Tryz.ntmps267
   go_wp2
   go_ret
   exact⟨rfl,rfl⟩
 rw [if_neg h2] at e
 subst e
 go_enter Tryz.func267,Tryz.ntmps267
 go_wp2
 go_ret
 exact⟨rfl,rfl⟩
open Go.Sort (grow alloc_eq_grow grow_grow)
theorem comparePairs_calls (x y:TPair) (W:World):Calls Tryz.prog 254 #[.agg #[.int .i64 x.From,.int .i64 x.To],.agg #[.int .i64 y.From,.int .i64 y.To]] W fun e w'=>e=.returned (.int .i64 (cmpP x y))∧∃ q os',w'=grow (W.drewN q) os':=by
 have hcon:=fun a b W'=>compareInts_calls a b W'
 have e:cmpP x y=if x.From≠y.From then cmpI x.From y.From else cmpI x.To y.To:=rfl
 by_cases h1:x.From=y.From
 · rw [if_neg (by simp [h1])] at e
   rw [e]
   generalize x.From=a at *
   generalize x.To=b at *
   generalize y.From=c at *
   generalize y.To=d at *
   subst h1
   generalize hr:cmpI b d=r
   go_enter Tryz.func254,Tryz.ntmps254
   go_wp2_with (go_at_call 267;refine (hcon _ _ _).mono ?_;rintro e w' ⟨rfl,rfl⟩)
   go_ret
   exact⟨rfl,0,_,by rw [alloc_eq_grow,alloc_eq_grow,grow_grow];rfl⟩
 rw [if_pos h1] at e
 rw [e]
 generalize x.From=a at *
 generalize x.To=b at *
 generalize y.From=c at *
 generalize y.To=d at *
 generalize hr:cmpI a c=r
 go_enter Tryz.func254,Tryz.ntmps254
 go_wp2_with (go_at_call 267;refine (hcon _ _ _).mono ?_;rintro e w' ⟨rfl,rfl⟩)
 go_ret
 exact⟨rfl,0,_,by rw [alloc_eq_grow,alloc_eq_grow,grow_grow];rfl⟩
theorem sortPairs (l:List TPair) (hl:l.length<4611686018427387904):FnS Tryz.prog 253 2 (l.map cPair) (.func (.func 254) #[] #[]) ((sortG pless l).map cPair):=
 FnS.ofK (enc:=encP) (c:=cPair) (lt:=pless) ⟨_,rfl,by kernel_rfl,rfl⟩ (fun _=>rfl) (fun _=>rfl) (fun x v hv=>by simp [encP] at hv;rcases hv with rfl|rfl<;>rfl) (sortG pless) sortG_len
  (fun p cap w=>AnyF.slices_SortFunc_none Tryz.sortPair p cap _ w)
  (fun blk cap d w hH hblk hsz=>by
   have hcon:=AnyQ.slices_SortFunc_total Tryz.sortPair 2 Tryz.isAgg97 Tryz.sizeOf97 encP (fun _=>rfl) (fun x v hv=>by simp [encP] at hv;rcases hv with rfl|rfl<;>rfl) cmpP swo_pless 254 #[] blk 0 cap d w (enters_of Tryz.func254 (by kernel_rfl) rfl) (fun _ _ _ _ x y=>comparePairs_calls x y _) hH hblk hsz (fun x y h1 h2=>by
    rw [cmpP_lt] at h1 h2
    rcases pless_so.tri x y with h|h|h
    · rw [h1] at h;cases h
    · exact h
    rw [h2] at h;cases h)
   refine hcon.mono fun e w' ⟨he,n,os,hw⟩=>⟨he,n,os,?_⟩
   have hle:(fun x y=>!Go.Proofs.ltOf cmpP y x)=leG pless:=by
    funext x y
    unfold leG
    rw [cmpP_lt]
   rw [hw,hle]
   rfl) l hl
theorem specl15Less (x y:TPair):FnT Tryz.prog 187 [.agg (cPair x),.agg (cPair y)] (.a (.one (.v (.bool (pless x y))))):=by
 refine Ay Tryz.func187 U (by kernel_rfl) Tryz.ntmps187 U fun hlen w0=>?_
 try simp [cPair,cToken,cExpr,cEdge,cGraph,cStep,cWalk,cChange,cBatch,cHistory,cPositions,cAutomaton,cProductStep,cPathAtom,cConjunction,cView,cDelta,cRegistered,cRegistry] at hlen
 refine Ae (Ag (B9 U U U (.tm U) (ts:=_) (by rfl)) U ?_);refine Ag (B9 U U U (.tm U) (ts:=_) (by rfl)) U ?_;refine Ak ?_;refine Aa (Ae (A7 fl97_0 ?_));refine Aq ty3 ?_;refine A7 fl97_0 ?_;refine Aq ty3 ?_;refine AWl.lt ?_;refine Ab ?_;refine C9 fl97_0 ?_;refine C8 ty3 ?_;refine C9 fl97_0 ?_;refine C8 ty3 ?_;refine Ag (R_eq U (by exact .not1 U U U U) U (.tmp U (by exact id)) (.tmp U (by exact id))) U ?_;refine Ag (Az U (by exact .not1 U U U U) U (.tmp U (by exact id))) U ?_;refine Ag (Cq U (by exact .yes U U U U) U (.tmp U (by exact fun _=>rfl)) fl97_1) U ?_;refine Ag (Bw U (by exact .yes U U U U) U (.tmp U (by exact id)) ty3 U U) U ?_;refine Ag (Cq U (by exact .yes U U U U) U (.tmp U (by exact fun _=>rfl)) fl97_1) U ?_;refine Ag (Bw U (by exact .yes U U U U) U (.tmp U (by exact id)) ty3 U U) U ?_
 refine Ag (R_lt U (by exact .yes U U U U) U (.tmp U (by exact id)) (.tmp U (by exact id))) U ?_;refine Ag (R_and U (by exact .not1 U U U U) U (.tmp U (by exact id)) (.tmp U (by exact id))) U ?_;refine Cf ?_;refine Ah ?_;refine Aa (Al (Bb U U ?_))
 rfl
theorem specl15Put (l:List TPair) (p:TPair) (hl:l.length≤1099511627776):FnC Tryz.prog 139 [(true,.one (.sl 2 (l.map cPair))),(false,.agg (cPair p))] (.a (.one (.sl 2 ((putG pless l p).map cPair)))):=by
 refine FnC.walk Tryz.func139 rfl (by kernel_rfl) Tryz.ntmps139 rfl (by rfl) fun w0=>?_
 refine Am (As [0,1] [1000]) ?_
 try simp [cPair,cToken,cExpr,cEdge,cGraph,cStep,cWalk,cChange,cBatch,cHistory,cPositions,cAutomaton,cProductStep,cPathAtom,cConjunction,cView,cDelta,cRegistered,cRegistry] at hlen
 refine Ae (Ag (B9 U U U (.tm U) (ts:=_) (by rfl)) U ?_);refine Ak ?_;refine By (i:=4) 20001 2 U U ?_;refine Aa (Ae (Ak ?_));refine Aa (Ac (AW.block (Bj (fun (k:Nat)=>(k≤l.length∧∀ j y,j<k→l[j]?=some y→pless y p=true)∧True) (fun (k:Nat)=>⟨_,[(5,(true,.a (.one (.t (.v (.int .i64 (k:Nat))))))),(0,_),(3,_),(4,_)],[(1000,.row 2 (l.map cPair))]⟩) (fun (k:Nat)=>l.length-k) (0) ⟨⟨Nat.zero_le _,fun j y hj=>absurd hj (Nat.not_lt_zero j)⟩,Y⟩ Bm ?_)))
 rintro k ⟨hk,he⟩
 refine Ac (Ac (Bq 12 (nthB [[],[],[1],[0,1,2],[0,1,2,3],[0,1,2,3,4],[0,1,2,3,4],[0,1,2,3,4,5,6],[0,1,2,3,4,5,6,7],[0,1,2,3,4],[0,1,2,3,4,5,6,7,8,9],[0,1,2,3,4,5,6,7,8,9,10]]) (by kernel_rfl) (by kernel_rfl) (by kernel_rfl) ?_));refine Ap ?_;refine Ap ?_;refine DrawC.s (fun _ hs=>(by exact C4 U (.no U) (Af hs U) (hs.tm U) (by exact .rf (hs.res _ _ U)) Tryz.underlying89)) ?_;refine DrawC.s (fun _ hs=>R_lt U (.no U) (Af hs U) (hs.tm U) (hs.tm U)) ?_;refine Ap ?_;refine DrawC.s (fun _ hs=>Az U (by exact hs.y1) (Af hs U) (hs.tm U)) ?_;refine DrawC.s (fun _ hs=>Az U (by exact hs.y1) (Af hs U) (hs.tm U)) ?_;refine DrawC.s (fun _ hs=>(by exact Be U (by exact hs.y1) (Af hs U) (hs.ti U) (hs.res _ _ U) (hs.ti U) Tryz.underlying89 Cj (fun hq=>by simp at hq;exact⟨by omega,Ao (l:=l) (x:=l[k]?.getD default) (getD_at (by omega))⟩))) ?_
 refine DrawC.s (fun _ hs=>(by exact R_load_prq U (by exact hs.y1) (Af hs U) (hs.ti U) (hs.res _ _ U) (fun hq=>by simp at hq;exact Ao (l:=l) (x:=l[k]?.getD default) (getD_at (by omega))) Cj U U)) ?_;refine DrawC.s (fun _ hs=>(by exact Bw U (by exact hs.y1) (Af hs U) (hs.tm U) Cj U U)) ?_;refine DrawC.s (fun _ hs=>Dw U (by exact hs.y1) (Af hs U) (.cons (hs.ti U) (readA_sup hs U) (.cons (hs.ti U) (readA_sup hs U) .nil)) fun hq=>FnT.fr (specl15Less (l[k]?.getD default) p)) ?_;refine DrawC.s (fun _ hs=>R_and U (.no U) (Af hs U) (hs.tm U) (hs.ti U)) ?_;refine Bi U U ?_;refine Aa (Ai (.tm U) (fun h17=>?_) (fun h17=>?_))
 · try simp at h17
   refine Aj (AW.block (Am (As [0,3,4,5] [1000]) ?_));refine Ad (Ab ?_);refine A8 ?_;refine Ah ?_;refine Aa ?_
   repeat (with_reducible refine Au ?_)
   refine Round1.next (k+1) ⟨⟨by omega,each_succ hk.2 (getD_at (d:=default) (by omega)) h17.2⟩,Y⟩ (by omega) (Ar rfl ⟨rfl,rfl,rfl,rfl,Y⟩ ⟨(by rfl),Y⟩)
 try simp at h17
 refine Ba (Ac (Ac (Am (As [0,3,4,5] [1000]) ?_)));refine Bq 12 (nthB [[],[],[1],[0,1,2],[0,1,2,3],[0,1,2,3,4],[0,1,2,3,4],[0,1,2,3,4,5,6],[0,1,2,3,4,5,6,7],[0,1,2,3,4],[0,1,2,3,4,5,6,7,8,9],[0,1,2,3,4,5,6,7,8,9,10]]) (by kernel_rfl) (by kernel_rfl) (by kernel_rfl) ?_;refine Ap ?_;refine Ap ?_;refine DrawC.s (fun _ hs=>(by exact C4 U (.no U) (Af hs U) (hs.tm U) (by exact .rf (hs.res _ _ U)) Tryz.underlying89)) ?_;refine DrawC.s (fun _ hs=>R_lt U (.no U) (Af hs U) (hs.tm U) (hs.tm U)) ?_;refine Ap ?_;refine DrawC.s (fun _ hs=>Az U (by exact hs.y1) (Af hs U) (hs.tm U)) ?_;refine DrawC.s (fun _ hs=>Az U (by exact hs.y1) (Af hs U) (hs.tm U)) ?_;refine DrawC.s (fun _ hs=>(by exact Be U (by exact hs.y1) (Af hs U) (hs.ti U) (hs.res _ _ U) (hs.ti U) Tryz.underlying89 Cj (fun hq=>by simp at hq;exact⟨by omega,Ao (l:=l) (x:=l[k]?.getD default) (getD_at (by omega))⟩))) ?_
 refine DrawC.s (fun _ hs=>(by exact R_load_prq U (by exact hs.y1) (Af hs U) (hs.ti U) (hs.res _ _ U) (fun hq=>by simp at hq;exact Ao (l:=l) (x:=l[k]?.getD default) (getD_at (by omega))) Cj U U)) ?_;refine DrawC.s (fun _ hs=>(by exact Bw U (by exact hs.y1) (Af hs U) (hs.tm U) Cj U U)) ?_;refine DrawC.s (fun _ hs=>R_eqs U (by exact hs.y1) (Af hs U) (hs.ti U) (hs.ti U) U U (by kernel_rfl) (eqS97 _ _ _ _)) ?_;refine DrawC.s (fun _ hs=>R_and U (.no U) (Af hs U) (hs.tm U) (hs.ti U)) ?_;refine Bi U U ?_;refine Aa (Ai (.tm U) (fun h31=>?_) (fun h31=>?_))
 · try simp at h31
   refine Ac (Am (As [0,3,4,5] [1000]) ?_);refine Ad (Ab ?_);refine Ah ?_;refine Aa (Al (Res.one U (.tmp U .nil) U ?_))
   rw [put_found hk.2 h31.1 (pair_eq.2 h31.2)];rfl
 try simp at h31
 refine Aj (Ac (Am (As [0,3,4,5] [1000]) ?_));refine Am (As [0,3,5] [1000]) ?_;refine AW.drawK 13 (nthB [[],[],[],[1,2],[0,1,2,3],[],[5],[0,1,2,3,4,5,6],[],[],[8,9],[0,1,2,3,4,5,6,7,8,9,10],[0,1,2,3,4,5,6,7,8,9,10,11]]) [(4,33),(7,33),(11,33)] (by kernel_rfl) (by kernel_rfl) (by kernel_rfl) ?_;refine DrawK.step (LocK.of1 U fun σ' hs hf=>Ce 33 U U (Af hs U) Tryz.underlying89 Cj hf) ?_;refine DrawK.step (LocK.of U fun σ' hs=>Az U (.no U) (Af hs U) (hs.tm U)) ?_;refine DrawK.step (LocK.of U fun σ' hs=>Az U (.no U) (Af hs U) (hs.tm U)) ?_;refine DrawK.step (LocK.of U fun σ' hs=>R_slice_vwr (m:=k) U (.no U) (Af hs U) (hs.tm U) (hs.res _ _ U) .no (.yes (hs.tm U) (fun _=>by first|rfl|omega|(simp<;>omega))) Tryz.underlying89 Cj (fun _=>⟨by omega,by first|omega|(simp;omega)⟩)) ?_
 refine DrawK.step (LocK.ofc U U fun σ' hs=>B7 (id:=33) U U (Af hs U) (hs.tm U) (hs.res _ _ U) (hs.tm U) (by exact .vw) (by exact isV_part (fun _=>rfl) _ _ _) Tryz.underlying89 Du U (by (simp [chunk];omega)) (by (unfold maxLen;simp [chunk];omega))) ?_;refine DrawK.step (LocK.of U fun σ' hs=>(by exact Bw U (.no U) (Af hs U) (hs.tm U) Cj U U)) ?_;refine DrawK.step (LocK.of1 U fun σ' hs hf=>Ch (xs:=[.tmp 38]) 39 U U (Af hs U) (.cons (hs.tm U) U U .nil) Tryz.underlying89 Du U U U hf) ?_;refine DrawK.step (LocK.ofc U U fun σ' hs=>B7 (id:=33) U U (Af hs U) (hs.tm U) (hs.res _ _ U) (hs.tm U) (by exact .rf (hs.res _ _ U)) (by rfl) Tryz.underlying89 Du U (by (simp [chunk];omega)) (by (unfold maxLen;simp [chunk];omega))) ?_;refine DrawK.step (LocK.of U fun σ' hs=>Az U (.no U) (Af hs U) (hs.tm U)) ?_;refine DrawK.step (LocK.of U fun σ' hs=>Az U (.no U) (Af hs U) (hs.tm U)) ?_
 refine DrawK.step (LocK.of U fun σ' hs=>R_slice_vwr (n:=k) U (.no U) (Af hs U) (hs.tm U) (hs.res _ _ U) (.yes (hs.tm U) (fun _=>by first|rfl|omega|(simp<;>omega))) .no Tryz.underlying89 Cj (fun _=>⟨by simp;omega,by simp⟩)) ?_;refine DrawK.step (LocK.ofc U U fun σ' hs=>B7 (id:=33) U U (Af hs U) (hs.tm U) (hs.res _ _ U) (hs.tm U) (by exact .vw) (by exact isV_part (fun _=>rfl) _ _ _) Tryz.underlying89 Du U (by (simp [chunk];omega)) (by (unfold maxLen;simp [chunk];omega))) ?_;refine DrawK.step (LocK.of U fun σ' hs=>C0 U (.no U) (Af hs U) (hs.tm U)) ?_;refine DrawK.fin U U U ?_;refine Bt (As [0,3,4,5] [1000,33,39]) ?_;refine Aa (Al (Res.one U (.tmp U .nil) U ?_))
 rw [put_new hk.2 hk.1 h17 (fun hl he=>h31 hl (pair_eq.1 he).1 (pair_eq.1 he).2)];refine congrArg (fun r=>[V0.one (T.sl 2 r)]) ?_;simp [chunk,cPair,List.map_take,List.map_drop,List.take_of_length_le (show (List.map cPair l).length≤l.length by simp)]
theorem findI_pair (l:List TPair) (p:TPair):l.any (fun x=>decide (x=p))=decide (p∈l):=by
 rw [Bool.eq_iff_iff,List.any_eq_true]
 simp
theorem specl15Has (l:List TPair) (p:TPair):FnT Tryz.prog 56 [.one (.sl 2 (l.map cPair)),.agg (cPair p)] (.a (.one (.v (.bool (decide (p∈l)))))):=by
 refine Ay Tryz.func56 U (by kernel_rfl) Tryz.ntmps56 U fun hlen w0=>?_
 try simp [cPair,cToken,cExpr,cEdge,cGraph,cStep,cWalk,cChange,cBatch,cHistory,cPositions,cAutomaton,cProductStep,cPathAtom,cConjunction,cView,cDelta,cRegistered,cRegistry] at hlen
 refine Ae (Ag (B9 U U U (.tm U) (ts:=_) (by rfl)) U ?_);refine Ak ?_;refine Aa (Ac (Ae (Ak ?_)));refine Aa (AW.block (Bj (fun (k:Nat)=>(k≤l.length∧∀ j y,j<k→l[j]?=some y→(!decide (y=p))=true)∧True) (fun (k:Nat)=>⟨_,[(5,(true,.a (.one (.t (.v (.int .i64 (k:Nat))))))),(0,_),(3,_)],[]⟩) (fun (k:Nat)=>l.length-k) (0) ⟨⟨Nat.zero_le _,fun j y hj=>absurd hj (Nat.not_lt_zero j)⟩,Y⟩ (Ar U ⟨U,U,U,Y⟩ trivial) ?_))
 rintro k ⟨hk,he⟩
 refine Ac (Ae (Ab ?_));refine Ab ?_;refine Bc (.t) Tryz.underlying89 ?_;refine AWl.lt ?_;refine Aa (Ai (.tm U) (fun h9=>?_) (fun h9=>?_))
 · try simp at h9
   obtain⟨x,hx⟩:∃ ξ,l[k]?=some ξ:=⟨_,List.getElem?_eq_getElem (by omega)⟩
   refine Aj (Ac (AW.block (Ac (Bq 6 (nthB [[],[],[0,1],[0,1,2],[],[0,1,2,3,4]]) (by kernel_rfl) (by kernel_rfl) (by kernel_rfl) ?_))));refine Ap ?_;refine Ap ?_;refine DrawC.s (fun _ hs=>(by exact An U (.no U) (Af hs U) (hs.tm U) (hs.tm U) Tryz.underlying89 Cj (fun _=>⟨by omega,Ao hx⟩))) ?_;refine A5 Cj ?_;refine A5 Cj ?_;refine DrawC.s (fun _ hs=>R_eqs U (.no U) (Af hs U) (hs.tm U) (hs.tm U) U U (by kernel_rfl) (eqS97 _ _ _ _)) ?_;refine Bi U U ?_;refine Aa (Ai (.tm U) (fun h17=>?_) (fun h17=>?_))
   · try simp at h17
     refine Ac (Am (As [0,3,5] []) ?_);refine Ad (Ak ?_);refine Aa (Al (Bb U U ?_))
     rw [decide_eq_true (show p∈l by rw [←pair_eq.2 h17];exact List.mem_of_getElem? hx)]
   try simp at h17
   refine Aj (Am (As [0,3,5] []) ?_);refine Ad (Ab ?_);refine A8 ?_;refine Ah ?_;refine Aa ?_
   repeat (with_reducible refine Au ?_)
   refine Round1.next (k+1) ⟨⟨by omega,each_succ hk.2 hx (by rw [decide_eq_false (fun e=>h17 (pair_eq.1 e).1 (pair_eq.1 e).2)];rfl)⟩,Y⟩ (by omega) (Ar rfl ⟨rfl,rfl,rfl,Y⟩ trivial)
 try simp at h9
 refine Ba (Ae (Ak ?_));refine Aa (Al (Bb U U ?_))
 rw [←findI_pair,any_not hk.2 (by omega)]
end Go.Proofs.YtdhojcaoljhbiaaGreatDoor
set_option maxHeartbeats 1000000
set_option maxRecDepth 100000
namespace Go.Q
open Go.D
theorem nodup_le {α:Type} [DecidableEq α]:∀ {l r:List α},l.Nodup→(∀ x∈l,x∈r)→l.length≤r.length
 | [],_,_,_=>Nat.zero_le _
 | a::l,r,h,hs=>by
  have h2:=List.nodup_cons.1 h
  have ha:=hs a (by simp)
  have:=nodup_le (l:=l) (r:=r.erase a) h2.2 fun x hx=>(List.mem_erase_of_ne (fun e=>h2.1 (by rw [←e];exact hx))).2 (hs x (by simp [hx]))
  rw [List.length_erase_of_mem ha] at this
  have hp:=List.length_pos_of_mem ha
  simp only [List.length_cons];omega
theorem compactL_snoc {α:Type} [DecidableEq α] (y x:α):∀ l:List α,compactL (l++[y,x])=compactL (l++[y])++if y=x then [] else [x]
 | []=>by simp only [List.nil_append,compactL];split<;>simp [compactL, *]
 | [z]=>by
  simp only [List.cons_append,List.nil_append,compactL]
  by_cases h1:z=y<;>by_cases h2:y=x<;>simp [h1,h2,compactL]
 | z::w::l=>by
  have ih:=compactL_snoc y x (w::l)
  simp only [List.cons_append] at ih ⊢
  rw [compactL,compactL]
  split
  · exact ih
  rw [ih,List.cons_append]
theorem compactL_take {α:Type} [DecidableEq α] {l:List α} {m:Nat} {x y:α} (hx:l[m+1]?=some x) (hy:l[m]?=some y):compactL (l.take (m+2))=compactL (l.take (m+1))++if y=x then [] else [x]:=by
 rw [take_at hx,take_at hy,List.append_assoc]
 exact compactL_snoc y x _
theorem compactL_id {α:Type} [DecidableEq α] {l:List α}:∀ {k:Nat},k≤l.length→(∀ j x y,j+1<k→l[j+1]?=some x→l[j]?=some y→y≠x)→compactL (l.take k)=l.take k
 | 0,_,_=>by simp [compactL]
 | 1,hk,_=>by
  match l,hk with
  | x::l,_=>simp [compactL]
 | k+2,hk,h=>by
  have hx:l[k+1]?=some (l[k+1]'(by omega)):=List.getElem?_eq_getElem _
  have hy:l[k]?=some (l[k]'(by omega)):=List.getElem?_eq_getElem _
  rw [compactL_take hx hy,compactL_id (k:=k+1) (by omega) (fun j x y hj=>h j x y (by omega)),if_neg (h k _ _ (by omega) hx hy),←take_at hx]
theorem compactL_take' {α:Type} [DecidableEq α] {l:List α} {m:Nat} {x y:α} (hm:1≤m) (hx:l[m]?=some x) (hy:l[m-1]?=some y):compactL (l.take (m+1))=compactL (l.take m)++if y=x then [] else [x]:=by
 obtain⟨m',rfl⟩:∃ m',m=m'+1:=⟨m-1,by omega⟩
 exact compactL_take hx hy
theorem drop_more {α:Type} {l r:List α} {m m':Nat} (h:r.drop m=l.drop m) (hm:m≤m'):r.drop m'=l.drop m':=by
 have:m'=m+(m'-m):=by omega
 rw [this,←List.drop_drop,←List.drop_drop,h]
theorem compactL_all {α:Type} [DecidableEq α] {l:List α} {k:Nat} (hk:l.length≤k) (h:∀ j x y,j+1<k→l[j+1]?=some x→l[j]?=some y→y≠x):compactL l=l:=by
 have:=compactL_id (l:=l) (k:=l.length) (Nat.le_refl _) fun j x y hj=>h j x y (by omega)
 rwa [List.take_of_length_le (Nat.le_refl _)] at this
theorem cut_rows {α:Type} {c:α→List T} {R l:List α} {k:Nat} {z:List (List T)} (h:R.take k=l) (hk:k≤R.length):((R.map c).take k++z).take k=l.map c:=by
 rw [List.take_append_of_le_length (by simp;omega),List.take_take,Nat.min_self,←List.map_take,h]
theorem drop_get {α:Type} {l r:List α} {m i:Nat} (h:r.drop m=l.drop m) (hi:m≤i):r[i]?=l[i]?:=by
 have e1:r[i]?=(r.drop m)[i-m]?:=by rw [List.getElem?_drop];congr 1;omega
 have e2:l[i]?=(l.drop m)[i-m]?:=by rw [List.getElem?_drop];congr 1;omega
 rw [e1,e2,h]
theorem set_take {α:Type} {r:List α} {k:Nat} {x:α} (h:k<r.length):(r.set k x).take (k+1)=r.take k++[x]:=by
 rw [take_at (l:=r.set k x) (i:=k) (x:=x) (by rw [List.getElem?_set_self h]),List.take_set_of_le (Nat.le_refl _)]
theorem set_drop {α:Type} {r:List α} {k m:Nat} {x:α} (h:k<m):(r.set k x).drop m=r.drop m:=by
 rw [List.drop_set,if_pos h]
theorem filter_take {α:Type} {p:α→Bool} {l:List α} {k:Nat} {x:α} (h:l[k]?=some x):(l.take (k+1)).filter p=(l.take k).filter p++if p x then [x] else []:=by
 rw [take_at h,List.filter_append]
 cases hp:p x<;>simp [hp]
theorem findI_spec {α:Type} (p:α→Bool):∀ (l:List α) (m:Nat),(findI p l m=-1∧∀ x∈l,p x=false)∨∃ (k:Nat) (x:α),l[k]?=some x∧p x=true∧findI p l m=((m+k:Nat):Int)∧∀ y∈l.take k,p y=false
 | [],m=>.inl ⟨rfl,by simp⟩
 | z::l,m=>by
  rw [findI]
  cases hz:p z with
  | true=>exact .inr ⟨0,z,rfl,hz,by simp,by simp⟩
  | false=>
   rw [if_neg (by simp)]
   rcases findI_spec p l (m+1) with ⟨h1,h2⟩|⟨k,x,h1,h2,h3,h4⟩
   · refine .inl ⟨h1,fun x hx=>?_⟩
     rcases List.mem_cons.1 hx with rfl|hx
     · exact hz
     exact h2 x hx
   refine .inr ⟨k+1,x,by simpa using h1,h2,by rw [h3];omega,fun y hy=>?_⟩
   rw [List.take_succ_cons] at hy
   rcases List.mem_cons.1 hy with rfl|hy
   · exact hz
   exact h4 y hy
theorem filter_none {α:Type} {p:α→Bool} {l:List α} (h:∀ x∈l,p x=false):(l.filter fun x=>!p x)=l:=List.filter_eq_self.2 fun x hx=>by rw [h x hx];rfl
def okP (p:TPair):Bool:=inB p.From 0 4&&inB p.To 0 4
def apAt (l:List TPair) (k:Nat):Bool:=match l[k]? with
 | some p=>okP p&&!(decide (0<k)&&!(pless (l[k-1]?.getD default) p))
 | none=>true
def arePairs (l:List TPair):Bool:=(List.range l.length).all (apAt l)
end Go.Q
namespace Go.Proofs.YtdhojcaoljhbiaaGreatDoor
open Go.RowKit Go.Q Go.D
theorem CompactPair (l:List TPair) (hz:l.length≤1099511627776):FnC Tryz.prog 255 [(true,.one (.sl 2 (l.map cPair)))] (.a (.one (.sl 2 ((compactL l).map cPair)))):=by
 refine FnC.walk Tryz.func255 rfl (by kernel_rfl) Tryz.ntmps255 rfl (by rfl) fun w0=>?_
 refine Am (As [0] [1000]) ?_
 try simp [cPair,cToken,cExpr,cEdge,cGraph,cStep,cWalk,cChange,cBatch,cHistory,cPositions,cAutomaton,cProductStep,cPathAtom,cConjunction,cView,cDelta,cRegistered,cRegistry] at hlen
 refine Ae (Ak ?_);refine By (i:=2) 20001 2 U U ?_;refine Aa (Ac (Ae (Ab ?_)));refine Bc (.rf U) Tryz.underlying89 ?_;refine AWl.lc ?_;refine Aa (Ai (.tm U) (fun h8=>?_) (fun h8=>?_))
 · try simp at h8
   refine Ae (Ab ?_);refine Ah ?_;refine Aa (Al (Res.one U (.tmp U .nil) U ?_))
   rw [compactL_all (k:=1) (by omega) (fun j x y hj=>by omega)];rfl
 try simp at h8
 refine Aj (Ac (Ae (Ak ?_)));refine Aa (AW.block ?_);refine Bj (fun (k:Nat)=>((1≤k∧k≤l.length)∧∀ j x y,j+1<k→l[j+1]?=some x→l[j]?=some y→y≠x)∧True) (fun (k:Nat)=>⟨_,[(3,(true,.a (.one (.t (.v (.int .i64 (k:Nat))))))),(0,_)],[(1000,.row 2 (l.map cPair))]⟩) (fun (k:Nat)=>l.length-k) (1) ⟨⟨⟨Nat.le_refl _,by omega⟩,fun j x y hj=>by omega⟩,Y⟩ Bm ?_
 rintro k ⟨hk,he⟩
 refine Ac (Ae (Ab ?_));refine Ab ?_;refine Bc (.rf U) Tryz.underlying89 ?_;refine AWl.lt ?_;refine Aa (Ai (.tm U) (fun h13=>?_) (fun h13=>?_))
 · try simp at h13
   obtain⟨x,hx⟩:∃ ξ,l[k]?=some ξ:=⟨_,List.getElem?_eq_getElem (by omega)⟩
   obtain⟨y,hy⟩:∃ ξ,l[k-1]?=some ξ:=⟨_,List.getElem?_eq_getElem (by omega)⟩
   have hy2:l[((k:Int)-1).toNat]?=some y:=by (rw [show ((k:Int)-1).toNat=k-1 by omega];exact hy)
   refine Aj (Ac (AW.block (Ac (Bq 10 (nthB [[],[],[0,1],[0,1,2],[],[],[5],[4,5,6],[4,5,6,7],[0,1,2,3,4,5,6,7,8]]) (by kernel_rfl) (by kernel_rfl) (by kernel_rfl) ?_))));refine Ap ?_;refine Ap ?_;refine DrawC.s (fun _ hs=>(by exact Be U (.no U) (Af hs U) (hs.tm U) (hs.res _ _ U) (hs.tm U) Tryz.underlying89 Cj (fun _=>⟨by omega,(by exact Ao hx)⟩))) ?_;refine DrawC.s (fun _ hs=>(by exact Bx U (.no U) (Af hs U) (hs.tm U) (hs.res _ _ U) (by exact Ao hx) Cj U U)) ?_;refine Ap ?_;refine Ap ?_;refine DrawC.s (fun _ hs=>Dy U (.no U) (Af hs U) (hs.tm U) (.const U) (fun _=>by omega)) ?_;refine DrawC.s (fun _ hs=>(by exact Be U (.no U) (Af hs U) (hs.tm U) (hs.res _ _ U) (hs.tm U) Tryz.underlying89 Cj (fun _=>⟨by omega,(by exact Ao hy2)⟩))) ?_;refine DrawC.s (fun _ hs=>(by exact Bx U (.no U) (Af hs U) (hs.tm U) (hs.res _ _ U) (by exact Ao hy2) Cj U U)) ?_
   refine DrawC.s (fun _ hs=>R_eqs U (.no U) (Af hs U) (hs.tm U) (hs.tm U) U U (by kernel_rfl) (eqS97 _ _ _ _)) ?_;refine Bi U U ?_;refine Aa (Ai (.tm U) (fun h25=>?_) (fun h25=>?_))
   · try simp at h25
     have hst:l.take k=compactL (l.take (k+1)):=by (obtain⟨k',rfl⟩:∃ k',k=k'+1:=⟨k-1,by omega⟩;rw [compactL_take hx hy,if_pos (pair_eq.2 ⟨h25.1.symm,h25.2.symm⟩),List.append_nil,compactL_id hk.1.2 hk.2])
     refine Ac (Am (As [0,3] [1000]) ?_);refine Ad (Ab ?_);refine Ab ?_;refine Ag ((by exact R_slice_rf (m:=k) U (.no U) U (.tm U) U (.yes (.tm U) (fun _=>by first|rfl|omega|(simp<;>omega))) Tryz.underlying89 Cj (fun _=>by simp;omega))) U ?_;refine Ah ?_;refine Aa (Ac (Ae (Ak ?_)));refine Aa (AW.block ?_);refine AW.loop3 (fun (k2:Nat) (k1:Nat) (Rr:List TPair)=>((1≤k2∧k+k2≤l.length∧k1+1≤k+k2∧Rr.length=l.length))∧Rr.drop (k+k2-1)=l.drop (k+k2-1)∧Rr.take k1=compactL (l.take (k+k2))) (fun (k2:Nat) (k1:Nat) (Rr:List TPair)=>⟨_,[(5,(true,.a (.one (.t (.v (.int .i64 (k2:Nat))))))),(3,(true,.a (.one (.t (.v (.int .i64 (k1:Nat))))))),(4,(true,.a (.one (.tl 1000 2 k)))),(0,_)],[(1000,.row 2 (Rr.map cPair))]⟩) (fun (k2:Nat) (k1:Nat) (Rr:List TPair)=>l.length-k2) (1) (k) (l) ⟨⟨by omega,by omega,by omega,U⟩,U,hst⟩ Bm ?_
     rintro k2 k1 Rr ⟨hk1,he1⟩
     refine Ac (Ae (Ab ?_));refine Ab ?_;refine Ag (R_len_tl U (.no U) U (.tm U) U Tryz.underlying89) U ?_;refine AWl.lt ?_;refine Aa (Ai (.tm U) (fun h32=>?_) (fun h32=>?_))
     · try simp at h32
       obtain⟨x2,hx2⟩:∃ ξ,l[k+k2]?=some ξ:=⟨_,List.getElem?_eq_getElem (by omega)⟩
       obtain⟨y2,hy2'⟩:∃ ξ,l[k+k2-1]?=some ξ:=⟨_,List.getElem?_eq_getElem (by omega)⟩
       have hx2R:Rr[k+(k2:Int).toNat]?=some x2:=by (rw [drop_get he1.1 (by omega)];exact hx2)
       have hy2R:Rr[k+((k2:Int)-1).toNat]?=some y2:=by (rw [show k+((k2:Int)-1).toNat=k+k2-1 by omega,drop_get he1.1 (by omega)];exact hy2')
       obtain⟨r1,hr1⟩:∃ ξ,Rr[k1]?=some ξ:=⟨_,List.getElem?_eq_getElem (by omega)⟩
       refine Aj (Ac (AW.block (Ac (Bq 10 (nthB [[],[],[0,1],[0,1,2],[],[],[5],[4,5,6],[4,5,6,7],[0,1,2,3,4,5,6,7,8]]) (by kernel_rfl) (by kernel_rfl) (by kernel_rfl) ?_))));refine Ap ?_;refine Ap ?_;refine DrawC.s (fun _ hs=>(Dk U (.no U) (Af hs U) (hs.tm U) (hs.res _ _ U) (hs.tm U) Tryz.underlying89 Cj (fun _=>⟨by omega,(by exact Ao hx2R)⟩))) ?_;refine DrawC.s (fun _ hs=>(by exact Bx U (.no U) (Af hs U) (hs.tm U) (hs.res _ _ U) (by exact Ao hx2R) Cj U U)) ?_;refine Ap ?_;refine Ap ?_;refine DrawC.s (fun _ hs=>Dy U (.no U) (Af hs U) (hs.tm U) (.const U) (fun _=>by omega)) ?_;refine DrawC.s (fun _ hs=>(by exact Dk U (.no U) (Af hs U) (hs.tm U) (hs.res _ _ U) (hs.tm U) Tryz.underlying89 Cj (fun _=>⟨by omega,(by exact Ao hy2R)⟩))) ?_;refine DrawC.s (fun _ hs=>(by exact Bx U (.no U) (Af hs U) (hs.tm U) (hs.res _ _ U) (by exact Ao hy2R) Cj U U)) ?_
       refine DrawC.s (fun _ hs=>R_eqs U (.no U) (Af hs U) (hs.tm U) (hs.tm U) U U (by kernel_rfl) (neS97 _ _ _ _)) ?_;refine Bi U U ?_;refine Aa (Ai (.tm U) (fun h44=>?_) (fun h44=>?_))
       · try simp at h44
         refine Ac (Am (As [0,3,4,5] [1000]) ?_);refine Ad (Ab ?_);refine Ab ?_;refine Ab ?_;refine Ab ?_;refine Ag (by exact Dk U (.no U) U (.tm U) U (.tm U) Tryz.underlying89 Cj (fun _=>⟨by omega,(by exact Ao hx2R)⟩)) U ?_;refine Ag (Bx U (.no U) U (.tm U) U (by exact Ao hx2R) Cj U U) U ?_;refine Ag (Be U (.no U) U (.tm U) U (.tm U) Tryz.underlying89 Cj (fun _=>⟨by omega,Ao hr1⟩)) U ?_;refine C3 (Dc U U U (.tm U) U (.tm U) U (Ao hr1) Cj U U U U) ?_;refine Aa (Am (As [0,3,4,5] [1000]) ?_);refine Ad (Ab ?_);refine A8 ?_;refine Ah ?_;refine Aa (Ad (Ab ?_));refine A8 ?_;refine Ah ?_;refine Aa ?_
         repeat (with_reducible refine Au ?_)
         refine Round3.next (k2+1) (k1+1) (Rr.set k1 x2) ⟨⟨by omega,by omega,by omega,by simp;omega⟩,by rw [set_drop (by omega)];exact drop_more he1.1 (by omega),by rw [set_take (by omega),he1.2,show k+(k2+1)=k+k2+1 by omega,compactL_take' (by omega) hx2 hy2',if_neg (fun e=>h44.elim (fun h=>h (pair_eq.1 e).1.symm) (fun h=>h (pair_eq.1 e).2.symm))]⟩ (by omega) (Ar rfl ⟨rfl,rfl,rfl,rfl,Y⟩ ⟨(by (refine congrArg (fun r=>some (R.row _ r)) ?_;simp [chunk,List.map_set,cInt,cBool,cIntS,cPair,cToken,cExpr,cEdge,cGraph,cStep,cWalk,cChange,cBatch,cHistory,cPositions,cAutomaton,cProductStep,cPathAtom,cConjunction,cView,cDelta,cRegistered,cRegistry])),Y⟩)
       try simp at h44
       refine Aj (Am (As [0,3,4,5] [1000]) ?_);refine Ad (Ab ?_);refine A8 ?_;refine Ah ?_;refine Aa ?_
       repeat (with_reducible refine Au ?_)
       refine Round3.next (k2+1) (k1) (Rr) ⟨⟨by omega,by omega,by omega,hk1.2.2.2⟩,drop_more he1.1 (by omega),by rw [he1.2,show k+(k2+1)=k+k2+1 by omega,compactL_take' (by omega) hx2 hy2',if_pos (pair_eq.2 ⟨h44.1.symm,h44.2.symm⟩),List.append_nil]⟩ (by omega) (Ar rfl ⟨rfl,rfl,rfl,rfl,Y⟩ ⟨(by rfl),Y⟩)
     try simp at h32
     refine Ba (Ae (Ab ?_));refine Ab ?_;refine Ag ((by exact R_slice_rf (m:=k1) U (.no U) U (.tm U) U (.yes (.tm U) (fun _=>by first|rfl|omega|(simp<;>omega))) Tryz.underlying89 Cj (fun _=>by simp;omega))) U ?_;refine C3 (R_clear U U U (.tm U) U Tryz.underlying89 Du U U) ?_;refine Aa (Ac (Am (As [0,3,4,5] [1000]) ?_));refine Ad (Ab ?_);refine Ab ?_;refine Bu (R_cut (m:=k1) U U U (.tm U) U (.yes (.tm U) (fun _=>by first|rfl|omega|(simp<;>omega))) Tryz.underlying89 Cj (by simp;omega)) U ?_;refine Bt (As [0,3,4,5,59] [1000]) ?_;refine Ah ?_;refine Aa (Al (Res.one U (.tmp U .nil) U ?_));refine congrArg (fun r=>[V0.one (T.sl 2 r)]) ?_;exact cut_rows (by rw [he1.2,List.take_of_length_le (by omega)]) (by omega)
   try simp at h25
   refine Aj (Am (As [0,3] [1000]) ?_);refine Ad (Ab ?_);refine A8 ?_;refine Ah ?_;refine Aa ?_
   repeat (with_reducible refine Au ?_)
   refine Round1.next (k+1) ⟨⟨by omega,fun j x' y' hj hx' hy'=>by rcases Nat.lt_or_eq_of_le (Nat.le_of_lt_succ hj) with h|h;exact hk.2 j x' y' h hx' hy';(subst h;rw [hx] at hx';rw [show j=j+1-1 by omega] at hy';rw [hy] at hy';cases hx';cases hy';exact fun e=>h25 (by rw [e]) (by rw [e]))⟩,Y⟩ (by omega) (Ar rfl ⟨rfl,rfl,Y⟩ ⟨(by rfl),Y⟩)
 try simp at h13
 refine Ba (Ae (Ab ?_));refine Ah ?_;refine Aa (Al (Res.one U (.tmp U .nil) U ?_))
 rw [compactL_all h13 (fun j x y hj=>hk.2 j x y (by omega))];rfl
theorem implpairSet (l:List TPair) (hz:l.length≤4294967296):FnT Tryz.prog 233 [.one (.sl 2 (l.map cPair))] (.a (.one (.sl 2 ((setG pless l).map cPair)))):=by
 refine Ay Tryz.func233 U (by kernel_rfl) Tryz.ntmps233 U fun hlen w0=>?_
 try simp [cPair,cToken,cExpr,cEdge,cGraph,cStep,cWalk,cChange,cBatch,cHistory,cPositions,cAutomaton,cProductStep,cPathAtom,cConjunction,cView,cDelta,cRegistered,cRegistry] at hlen
 refine Ae (Ak ?_);refine By (i:=2) 20001 2 U U ?_;refine Aa (Ae (A6 (Ce 4 U U U Tryz.underlying89 Cj U) U ?_));refine Ab ?_;refine Bu (B7 U U U (.tm U) U (.tm U) (by exact .t) (by exact isV_map (fun _=>rfl) _) Tryz.underlying89 Du U (by (simp [chunk];omega)) (by (unfold maxLen;simp [chunk];omega))) U ?_;refine Bt (As [0,2,6] [20001,4]) ?_;refine Ah ?_;refine Aa (Ae (Ab ?_));refine AWl.updput (R_sortc U U U (.tm U) U .func (sortPairs l (by omega))) U ?_;refine Aa (Ae (Ab ?_));apply Cu
 case ho=>
  apply Da (xo:=.tmp 9) 1000 (CompactPair (sortG pless l) (by rw [sortG_len];omega)) rfl rfl rfl (.tm rfl)
  case ha=>rfl
  case hargs=>exact (ArgC.own .nil)
  all_goals rfl
 case hd=>rfl
 refine Ah ?_;refine Aa (Al (Res.one U (.tmp U .nil) U ?_))
 rw [compact_sort pless_so];rfl
end Go.Proofs.YtdhojcaoljhbiaaGreatDoor
set_option maxHeartbeats 1000000
set_option maxRecDepth 100000
namespace Go.Q
def compA (p:Nat→Nat→Bool):Nat→List Nat→List Nat
 | _,[]=>[]
 | y,x::l=>if p x y=true then compA p x l else x::compA p x l
def compK (p:Nat→Nat→Bool):List Nat→List Nat
 | []=>[]
 | x::l=>x::compA p x l
theorem compA_snoc (p:Nat→Nat→Bool) (a b:Nat):∀ (l:List Nat) (y:Nat),compA p y (l++[a,b])=compA p y (l++[a])++if p b a=true then [] else [b]
 | [],y=>by
  simp only [List.nil_append,compA]
  split<;>split<;>simp
 | x::l,y=>by
  simp only [List.cons_append,compA]
  split
  · exact compA_snoc p a b l x
  rw [compA_snoc p a b l x,List.cons_append]
theorem compK_snoc (p:Nat→Nat→Bool) (a b:Nat):∀ (l:List Nat),compK p (l++[a,b])=compK p (l++[a])++if p b a=true then [] else [b]
 | []=>by
  simp only [List.nil_append,compK,compA]
  split<;>simp
 | x::l=>by simp only [List.cons_append,compK,compA_snoc]
theorem compK_take (p:Nat→Nat→Bool) {l:List Nat} {m x y:Nat} (hm:1≤m) (hx:l[m]?=some x) (hy:l[m-1]?=some y):compK p (l.take (m+1))=compK p (l.take m)++if p x y=true then [] else [x]:=by
 obtain⟨m',rfl⟩:∃ m',m=m'+1:=⟨m-1,by omega⟩
 rw [take_at hx,take_at (l:=l) (i:=m') (x:=y) (by simpa using hy),List.append_assoc]
 exact compK_snoc p y x _
theorem compK_id (p:Nat→Nat→Bool) {l:List Nat}:∀ {k:Nat},k≤l.length→(∀ j x y,j+1<k→l[j+1]?=some x→l[j]?=some y→p x y=false)→compK p (l.take k)=l.take k
 | 0,_,_=>by simp [compK]
 | 1,hk,_=>by
  match l,hk with
  | x::l,_=>simp [compK,compA]
 | k+2,hk,h=>by
  have hx:l[k+1]?=some (l[k+1]'(by omega)):=List.getElem?_eq_getElem _
  have hy:l[k]?=some (l[k]'(by omega)):=List.getElem?_eq_getElem _
  rw [compK_take p (m:=k+1) (by omega) hx hy,compK_id p (k:=k+1) (by omega) (fun j x y hj=>h j x y (by omega)),h k _ _ (by omega) hx hy,if_neg (by simp),←take_at hx]
theorem compK_all (p:Nat→Nat→Bool) {l:List Nat} {k:Nat} (hk:l.length≤k) (h:∀ j x y,j+1<k→l[j+1]?=some x→l[j]?=some y→p x y=false):compK p l=l:=by
 have:=compK_id p (l:=l) (k:=l.length) (Nat.le_refl _) fun j x y hj=>h j x y (by omega)
 rwa [List.take_of_length_le (Nat.le_refl _)] at this
theorem compA_sub (p:Nat→Nat→Bool):∀ (l:List Nat) (y:Nat),(compA p y l).Sublist l
 | [],_=>List.Sublist.refl _
 | x::l,y=>by
  rw [compA]
  split
  · exact (compA_sub p l x).cons x
  exact (compA_sub p l x).cons_cons x
theorem compK_sub (p:Nat→Nat→Bool):∀ (l:List Nat),(compK p l).Sublist l
 | []=>List.Sublist.refl _
 | x::l=>(compA_sub p l x).cons_cons x
theorem compA_map {α:Type} [DecidableEq α] (f:Nat→α) (p:Nat→Nat→Bool):∀ (l:List Nat) (x:Nat),(∀ a∈x::l,∀ b∈x::l,p a b=decide (f a=f b))→(x::compA p x l).map f=compactL ((x::l).map f)
 | [],x,_=>by simp [compA,compactL]
 | y::l,x,hp=>by
  have ih:=compA_map f p l y fun a ha b hb=>hp a (by simp [List.mem_cons.1 ha]) b (by simp [List.mem_cons.1 hb])
  simp only [List.map_cons,compA,compactL] at ih ⊢
  rw [hp y (by simp) x (by simp)]
  by_cases h:f x=f y
  · rw [if_pos (by simp [h]),if_pos h,←ih,h]
  rw [if_neg (by simpa using fun e=>h (Eq.symm e)),if_neg h,←ih,List.map_cons]
theorem compK_map {α:Type} [DecidableEq α] (f:Nat→α) (p:Nat→Nat→Bool):∀ (l:List Nat),(∀ a∈l,∀ b∈l,p a b=decide (f a=f b))→(compK p l).map f=compactL (l.map f)
 | [],_=>rfl
 | x::l,h=>compA_map f p l x h
def cH (hd:Nat→Value) (i:Nat):List T:=[.v (hd i)]
end Go.Q
namespace Go.Proofs.YtdhojcaoljhbiaaGreatDoor
open Go.RowKit Go.Q Go.D
theorem CompactRows (l:List Nat) (hd:Nat→Value) (K:List (Nat×Obj)) (f:FuncId) (caps:List T) (p:Nat→Nat→Bool) (hp:∀ x y,x∈l→y∈l→FrTk Tryz.prog f K ([.one (.v (hd x)),.one (.v (hd y))]++caps.map .one) (.a (.one (.v (.bool (p x y)))))) (hz:l.length≤1099511627776):FnCk Tryz.prog 71 K ((true,.one (.sl 1 (l.map (cH hd))))::rdAll [.one (.fn (.func f) [] caps)]) (.a (.one (.sl 1 ((compK p l).map (cH hd))))):=by
 refine FnCk.walk Tryz.func71 rfl (by kernel_rfl) Tryz.ntmps71 rfl (by rfl) fun w0=>?_
 refine Am (As [0,1] [1000,999999]) ?_
 try simp [cPair,cToken,cExpr,cEdge,cGraph,cStep,cWalk,cChange,cBatch,cHistory,cPositions,cAutomaton,cProductStep,cPathAtom,cConjunction,cView,cDelta,cRegistered,cRegistry] at hlen
 have hlen:True:=trivial
 refine Ae (Ak ?_);refine By (i:=4) 20001 1 U U ?_;refine Aa (Ac (Ae (Ab ?_)));refine Bc (.rf U) Tryz.underlying44 ?_;refine AWl.lc ?_;refine Aa (Ai (.tm U) (fun h10=>?_) (fun h10=>?_))
 · try simp at h10
   refine Ae (Ab ?_);refine Ah ?_;refine Aa (Al (Res.one U (.tmp U .nil) U ?_))
   rw [compK_all p (k:=1) (by omega) (fun j x y hj=>by omega)];rfl
 try simp at h10
 refine Aj (Ac (Ae (Ak ?_)));refine Aa (AW.block ?_);refine Bj (fun (k:Nat)=>((1≤k∧k≤l.length)∧∀ j x y,j+1<k→l[j+1]?=some x→l[j]?=some y→p x y=false)∧True) (fun (k:Nat)=>⟨_,[(5,(true,.a (.one (.t (.v (.int .i64 (k:Nat))))))),(0,_),(1,_)],[(1000,.row 1 (l.map (cH hd))),(999999,.kept K)]⟩) (fun (k:Nat)=>l.length-k) (1) ⟨⟨⟨Nat.le_refl _,by omega⟩,fun j x y hj=>by omega⟩,Y⟩ Bm ?_
 rintro k ⟨hk,he⟩
 refine Ac (Ae (Ab ?_));refine Ab ?_;refine Bc (.rf U) Tryz.underlying44 ?_;refine AWl.lt ?_;refine Aa (Ai (.tm U) (fun h15=>?_) (fun h15=>?_))
 · try simp at h15
   obtain⟨x,hx⟩:∃ ξ,l[k]?=some ξ:=⟨_,List.getElem?_eq_getElem (by omega)⟩
   obtain⟨y,hy⟩:∃ ξ,l[k-1]?=some ξ:=⟨_,List.getElem?_eq_getElem (by omega)⟩
   have hy2:l[((k:Int)-1).toNat]?=some y:=by (rw [show ((k:Int)-1).toNat=k-1 by omega];exact hy)
   refine Aj (Ac (AW.block (Ac (Bq 11 (nthB [[],[],[],[1,2],[1,2,3],[],[],[6],[5,6,7],[5,6,7,8],[0,1,2,3,4,5,6,7,8,9]]) (by kernel_rfl) (by kernel_rfl) (by kernel_rfl) ?_))));refine Ap ?_;refine Ap ?_;refine Ap ?_;refine DrawC.s (fun _ hs=>(by exact Be U (.no U) (Af hs U) (hs.tm U) (hs.res _ _ U) (hs.tm U) Tryz.underlying44 Ca (fun _=>⟨by omega,(by exact Ao hx)⟩))) ?_;refine DrawC.s (fun _ hs=>(by exact Bx U (.no U) (Af hs U) (hs.tm U) (hs.res _ _ U) (by exact Ao hx) Ca U U)) ?_;refine Ap ?_;refine Ap ?_;refine DrawC.s (fun _ hs=>Dy U (.no U) (Af hs U) (hs.tm U) (.const U) (fun _=>by omega)) ?_;refine DrawC.s (fun _ hs=>(by exact Be U (.no U) (Af hs U) (hs.tm U) (hs.res _ _ U) (hs.tm U) Tryz.underlying44 Ca (fun _=>⟨by omega,(by exact Ao hy2)⟩))) ?_;refine DrawC.s (fun _ hs=>(by exact Bx U (.no U) (Af hs U) (hs.tm U) (hs.res _ _ U) (by exact Ao hy2) Ca U U)) ?_
   refine DrawC.s (fun _ hs=>R_callvk U (.no U) (Af hs U) (hs.tm U) (.cons (hs.tm U) (readA_sup hs U) (.cons (hs.tm U) (readA_sup hs U) .nil)) (hs.res _ _ U) (hp x y (List.mem_of_getElem? hx) (List.mem_of_getElem? hy))) ?_;refine Bi U U ?_;refine Aa (Ai (.tm U) (fun h28=>?_) (fun h28=>?_))
   · try simp at h28
     have hst:l.take k=compK p (l.take (k+1)):=by (rw [compK_take p hk.1.1 hx hy,if_pos h28,List.append_nil,compK_id p hk.1.2 hk.2])
     refine Ac (Am (As [0,1,5] [1000,999999]) ?_);refine Ad (Ab ?_);refine Ab ?_;refine Ag ((by exact R_slice_rf (m:=k) U (.no U) U (.tm U) U (.yes (.tm U) (fun _=>by first|rfl|omega|(simp<;>omega))) Tryz.underlying44 Ca (fun _=>by simp;omega))) U ?_;refine Ah ?_;refine Aa (Ac (Ae (Ak ?_)));refine Aa (AW.block ?_);refine AW.loop3 (fun (k2:Nat) (k1:Nat) (Rr:List Nat)=>((1≤k2∧k+k2≤l.length∧k1+1≤k+k2∧Rr.length=l.length))∧Rr.drop (k+k2-1)=l.drop (k+k2-1)∧Rr.take k1=compK p (l.take (k+k2))) (fun (k2:Nat) (k1:Nat) (Rr:List Nat)=>⟨_,[(7,(true,.a (.one (.t (.v (.int .i64 (k2:Nat))))))),(5,(true,.a (.one (.t (.v (.int .i64 (k1:Nat))))))),(6,(true,.a (.one (.tl 1000 1 k)))),(0,_),(1,_)],[(1000,.row 1 (Rr.map (cH hd))),(999999,.kept K)]⟩) (fun (k2:Nat) (k1:Nat) (Rr:List Nat)=>l.length-k2) (1) (k) (l) ⟨⟨by omega,by omega,by omega,U⟩,U,hst⟩ Bm ?_
     rintro k2 k1 Rr ⟨hk1,he1⟩
     refine Ac (Ae (Ab ?_));refine Ab ?_;refine Ag (R_len_tl U (.no U) U (.tm U) U Tryz.underlying44) U ?_;refine AWl.lt ?_;refine Aa (Ai (.tm U) (fun h35=>?_) (fun h35=>?_))
     · try simp at h35
       obtain⟨x2,hx2⟩:∃ ξ,l[k+k2]?=some ξ:=⟨_,List.getElem?_eq_getElem (by omega)⟩
       obtain⟨y2,hy2'⟩:∃ ξ,l[k+k2-1]?=some ξ:=⟨_,List.getElem?_eq_getElem (by omega)⟩
       have hx2R:Rr[k+(k2:Int).toNat]?=some x2:=by (rw [drop_get he1.1 (by omega)];exact hx2)
       have hy2R:Rr[k+((k2:Int)-1).toNat]?=some y2:=by (rw [show k+((k2:Int)-1).toNat=k+k2-1 by omega,drop_get he1.1 (by omega)];exact hy2')
       obtain⟨r1,hr1⟩:∃ ξ,Rr[k1]?=some ξ:=⟨_,List.getElem?_eq_getElem (by omega)⟩
       refine Aj (Ac (AW.block (Ac (Bq 12 (nthB [[],[],[],[1,2],[1,2,3],[],[],[6],[5,6,7],[5,6,7,8],[0,1,2,3,4,5,6,7,8,9],[0,1,2,3,4,5,6,7,8,9,10]]) (by kernel_rfl) (by kernel_rfl) (by kernel_rfl) ?_))));refine Ap ?_;refine Ap ?_;refine Ap ?_;refine DrawC.s (fun _ hs=>(Dk U (.no U) (Af hs U) (hs.tm U) (hs.res _ _ U) (hs.tm U) Tryz.underlying44 Ca (fun _=>⟨by omega,(by exact Ao hx2R)⟩))) ?_;refine DrawC.s (fun _ hs=>(by exact Bx U (.no U) (Af hs U) (hs.tm U) (hs.res _ _ U) (by exact Ao hx2R) Ca U U)) ?_;refine Ap ?_;refine Ap ?_;refine DrawC.s (fun _ hs=>Dy U (.no U) (Af hs U) (hs.tm U) (.const U) (fun _=>by omega)) ?_;refine DrawC.s (fun _ hs=>(by exact Dk U (.no U) (Af hs U) (hs.tm U) (hs.res _ _ U) (hs.tm U) Tryz.underlying44 Ca (fun _=>⟨by omega,(by exact Ao hy2R)⟩))) ?_
       refine DrawC.s (fun _ hs=>(by exact Bx U (.no U) (Af hs U) (hs.tm U) (hs.res _ _ U) (by exact Ao hy2R) Ca U U)) ?_;refine DrawC.s (fun _ hs=>R_callvk U (.no U) (Af hs U) (hs.tm U) (.cons (hs.tm U) (readA_sup hs U) (.cons (hs.tm U) (readA_sup hs U) .nil)) (hs.res _ _ U) (hp x2 y2 (List.mem_of_getElem? hx2) (List.mem_of_getElem? hy2'))) ?_;refine DrawC.s (fun _ hs=>Cy U (.no U) (Af hs U) (hs.tm U)) ?_;refine Bi U U ?_;refine Aa (Ai (.tm U) (fun h49=>?_) (fun h49=>?_))
       · try simp at h49
         refine Ac (Am (As [0,1,5,6,7] [1000,999999]) ?_);refine Ad (Ab ?_);refine Ab ?_;refine Ab ?_;refine Ab ?_;refine Ag (by exact Dk U (.no U) U (.tm U) U (.tm U) Tryz.underlying44 Ca (fun _=>⟨by omega,(by exact Ao hx2R)⟩)) U ?_;refine Ag (Bx U (.no U) U (.tm U) U (by exact Ao hx2R) Ca U U) U ?_;refine Ag (Be U (.no U) U (.tm U) U (.tm U) Tryz.underlying44 Ca (fun _=>⟨by omega,Ao hr1⟩)) U ?_;refine C3 (Dc U U U (.tm U) U (.tm U) U (Ao hr1) Ca U U U U) ?_;refine Aa (Am (As [0,1,5,6,7] [1000,999999]) ?_);refine Ad (Ab ?_);refine A8 ?_;refine Ah ?_;refine Aa (Ad (Ab ?_));refine A8 ?_;refine Ah ?_;refine Aa ?_
         repeat (with_reducible refine Au ?_)
         refine Round3.next (k2+1) (k1+1) (Rr.set k1 x2) ⟨⟨by omega,by omega,by omega,by simp;omega⟩,by rw [set_drop (by omega)];exact drop_more he1.1 (by omega),by rw [set_take (by omega),he1.2,show k+(k2+1)=k+k2+1 by omega,compK_take p (by omega) hx2 hy2',if_neg (by simp [h49])]⟩ (by omega) (Ar rfl ⟨rfl,rfl,rfl,rfl,rfl,Y⟩ ⟨(by (refine congrArg (fun r=>some (R.row _ r)) ?_;rw [List.map_set];rfl)),(by rfl),Y⟩)
       try simp at h49
       refine Aj (Am (As [0,1,5,6,7] [1000,999999]) ?_);refine Ad (Ab ?_);refine A8 ?_;refine Ah ?_;refine Aa ?_
       repeat (with_reducible refine Au ?_)
       refine Round3.next (k2+1) (k1) (Rr) ⟨⟨by omega,by omega,by omega,hk1.2.2.2⟩,drop_more he1.1 (by omega),by rw [he1.2,show k+(k2+1)=k+k2+1 by omega,compK_take p (by omega) hx2 hy2',if_pos (by simp [h49]),List.append_nil]⟩ (by omega) (Ar rfl ⟨rfl,rfl,rfl,rfl,rfl,Y⟩ ⟨(by rfl),(by rfl),Y⟩)
     try simp at h35
     refine Ba (Ae (Ab ?_));refine Ab ?_;refine Ag ((by exact R_slice_rf (m:=k1) U (.no U) U (.tm U) U (.yes (.tm U) (fun _=>by first|rfl|omega|(simp<;>omega))) Tryz.underlying44 Ca (fun _=>by simp;omega))) U ?_;refine C3 (R_clear U U U (.tm U) U Tryz.underlying44 in34 U U) ?_;refine Aa (Ac (Am (As [0,1,5,6,7] [1000,999999]) ?_));refine Ad (Ab ?_);refine Ab ?_;refine Bu (R_cut (m:=k1) U U U (.tm U) U (.yes (.tm U) (fun _=>by first|rfl|omega|(simp<;>omega))) Tryz.underlying44 Ca (by simp;omega)) U ?_;refine Bt (As [0,1,5,6,7,64] [1000,999999]) ?_;refine Ah ?_;refine Aa (Al (Res.one U (.tmp U .nil) U ?_));refine congrArg (fun r=>[V0.one (T.sl 1 r)]) ?_;exact cut_rows (by rw [he1.2,List.take_of_length_le (by omega)]) (by omega)
   try simp at h28
   refine Aj (Am (As [0,1,5] [1000,999999]) ?_);refine Ad (Ab ?_);refine A8 ?_;refine Ah ?_;refine Aa ?_
   repeat (with_reducible refine Au ?_)
   refine Round1.next (k+1) ⟨⟨by omega,fun j x' y' hj hx' hy'=>by rcases Nat.lt_or_eq_of_le (Nat.le_of_lt_succ hj) with h|h;exact hk.2 j x' y' h hx' hy';(subst h;rw [hx] at hx';rw [show j=j+1-1 by omega] at hy';rw [hy] at hy';cases hx';cases hy';exact h28)⟩,Y⟩ (by omega) (Ar rfl ⟨rfl,rfl,rfl,Y⟩ ⟨(by rfl),(by rfl),Y⟩)
 try simp at h15
 refine Ba (Ae (Ab ?_));refine Ah ?_;refine Aa (Al (Res.one U (.tmp U .nil) U ?_))
 rw [compK_all p h15 (fun j x y hj=>hk.2 j x y (by omega))];rfl
end Go.Proofs.YtdhojcaoljhbiaaGreatDoor
