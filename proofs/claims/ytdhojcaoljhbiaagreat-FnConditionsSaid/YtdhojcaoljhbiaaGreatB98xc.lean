import Derived.Test.YtdhojcaoljhbiaaGreatB08xc
import Derived.Test.YtdhojcaoljhbiaaGreatAbs4xc
import Derived.Maps.AppendAt
import Derived.Laws.Cover3
import Derived.Test.YtdhojcaoljhbiaaGreatKnnxc
import Derived.Test.YtdhojcaoljhbiaaGreatB18xc
import Derived.Test.YtdhojcaoljhbiaaGreatB07xc
import Derived.Lib.IndexMore
import Derived.Lib.SlTrimSet
import Derived.Test.YtdhojcaoljhbiaaGreatDraw5xc
import Derived.Test.YtdhojcaoljhbiaaGreatB55xc
import Derived.Shelf.Strings.SlTrimAscii
set_option linter.unusedVariables false
set_option linter.unusedSimpArgs false
set_option maxHeartbeats 1000000
set_option maxRecDepth 100000
open Go.Proofs.Tryz renaming prog->Z9,underlying24->ZA,underlying9->ZB,underlying200->ZC,underlying5->ZT,underlying3->ZU,func37->ZW,ntmps37->ZX,func86->ZY,ntmps86->ZZ,func142->Aaa,ntmps142->Aab,func143->Aac,ntmps143->Aad,func144->Aae,ntmps144->Aaf,func177->Aag,ntmps177->Aah,func184->Aai,ntmps184->Aaj,func183->Aak,ntmps183->Aal,func178->Aam,ntmps178->Aan,func171->Aao,ntmps171->Aap
open List renaming length_append->ZD,getElem?_eq_getElem->ZF,mem_append->ZG,append_assoc->ZK,map_append->ZL,take_of_length_le->ZM,range->ZN,take_left'->ZO,length_singleton->ZP,eq_nil_of_length_eq_zero->ZQ,mem_range->ZR
open Option.some renaming inj->ZE,injEq->ZV
open Bool renaming and_eq_true->ZH,eq_false_iff->ZS
open UInt8 renaming toNat_inj->ZI
open ByteArray renaming size_append->ZJ
namespace Go.Q
open Go.RowKit Go.D Go.Proofs.YtdhojcaoljhbiaaGreat
instance:Gy BD:=⟨4,true,fun x=>[.int .i64 x.Kind,.int .i64 x.Letter,.int .i64 x.Low,.int .i64 x.High],fun _=>rfl⟩
structure Ptr where
 b:Nat
instance:Gy Ptr:=⟨1,false,fun p=>[.pointer (some ⟨p.b,0,none⟩)],fun _=>rfl⟩
inductive Tr where
 | leaf (t:BD)
 | un (t:BD) (x:Tr)
 | bin (t:BD) (x y:Tr)
def Zy (t:BD):List Value:=[.int .i64 t.Kind,.int .i64 t.Letter,.int .i64 t.Low,.int .i64 t.High]
def Ot (tn:TypeId) (w:World) (S:Nat→Prop) (t:BD) (ks:List Ptr) (b:Nat):Prop:=
 S b∧∃ a len c F,Box w b (Zy t++[.slice a len c]) tn∧Sl w a len c ks F∧∀ n∈F,S n
def Fk (tn:TypeId) (w:World) (S:Nat→Prop):Tr→Nat→Prop
 | .leaf t,b=>Ot tn w S t [] b
 | .un t x,b=>∃ p,Ot tn w S t [⟨p⟩] b∧Fk tn w S x p
 | .bin t x y,b=>∃ p q,Ot tn w S t [⟨p⟩,⟨q⟩] b∧Fk tn w S x p∧Fk tn w S y q
theorem Ot.congr {tn:TypeId} {w w':World} {S S':Nat→Prop} {t:BD} {ks:List Ptr} {b:Nat} (h:Ot tn w S t ks b) (hc:∀ n,S n→n<w.heap.size→w'.heap[n]?=w.heap[n]?∧S' n):Ot tn w' S' t ks b:=by
 obtain⟨h0,a,len,c,F,h1,h2,h3⟩:=h
 exact⟨(hc b h0 h1.lt).2,a,len,c,F,(hc b h0 h1.lt).1.trans h1,h2.congr fun n hn=>(hc n (h3 n hn) (h2.lt n hn)).1,fun n hn=>(hc n (h3 n hn) (h2.lt n hn)).2⟩
theorem Fk.congr {tn:TypeId} {w w':World} {S S':Nat→Prop} (hc:∀ n,S n→n<w.heap.size→w'.heap[n]?=w.heap[n]?∧S' n):∀ {T:Tr} {b:Nat},Fk tn w S T b→Fk tn w' S' T b
 | .leaf _,_,h=>Ot.congr h hc
 | .un _ _,_,⟨p,h1,h2⟩=>⟨p,h1.congr hc,Fk.congr hc h2⟩
 | .bin _ _ _,_,⟨p,q,h1,h2,h3⟩=>⟨p,q,h1.congr hc,Fk.congr hc h2,Fk.congr hc h3⟩
theorem Fk.mono {tn:TypeId} {w w':World} {S:Nat→Prop} {T:Tr} {b:Nat} (h:Fk tn w S T b) (he:Ext w w'):Fk tn w' S T b:=h.congr fun _ hn hl=>⟨he.block hl,hn⟩
def nk (k:Int):Nat:=if k=4∨k=5 then 2 else if k=6∨k=7 then 1 else 0
def HU (ts:List Tr) (t:BD):Option (List Tr):=
 if Mh t=false∨ts.length<nk t.Kind then none
 else match nk t.Kind,ts.drop (ts.length-nk t.Kind) with
  | 0,_=>some (ts++[.leaf t])
  | 1,[x]=>some (ts.take (ts.length-1)++[.un t x])
  | 2,[x,y]=>some (ts.take (ts.length-2)++[.bin t x y])
  | _,_=>none
def KY:List Tr→List BD→Option (List Tr)
 | ts,[]=>some ts
 | ts,t::r=>match HU ts t with|some ts'=>KY ts' r|none=>none
def KO (l:List BD):Option Tr:=match KY [] l with|some [x]=>some x|_=>none
def Sa (tn:TypeId) (w:World) (l:List BD) (e:Ending) (w':World):Prop:=
 Ext w w'∧match KO l with
  | none=>e=.returned (.pointer none)
  | some T=>∃ b,e=.returned (.pointer (some ⟨b,0,none⟩))∧Fk tn w' (fun n=>w.heap.size≤n) T b
theorem Sa.none {tn:TypeId} {w w':World} {l:List BD} (h:Ext w w') (ht:KO l=none):Sa tn w l (.returned (.pointer none)) w':=⟨h,by rw [ht]⟩
def MP.empty:MP:=⟨[],fun _ v _=>∃ ad c,v=.slice (some ad) 0 c∧c≤maxLen,fun h _=>h,fun _ h=>h⟩
inductive Hn (tn:TypeId) (w:World) (S:Nat→Prop):List Ptr→List Tr→Prop where
 | nil:Hn tn w S [] []
 | snoc {ps:List Ptr} {ts:List Tr} {p:Ptr} {x:Tr}:Hn tn w S ps ts→Fk tn w S x p.b→Hn tn w S (ps++[p]) (ts++[x])
theorem Hn.congr {tn:TypeId} {w w':World} {S S':Nat→Prop} (hc:∀ n,S n→n<w.heap.size→w'.heap[n]?=w.heap[n]?∧S' n) {ps:List Ptr} {ts:List Tr} (h:Hn tn w S ps ts):Hn tn w' S' ps ts:=by
 induction h with
 | nil=>exact .nil
 | snoc _ h ih=>exact .snoc ih (h.congr hc)
theorem Hn.len {tn:TypeId} {w:World} {S:Nat→Prop} {ps:List Ptr} {ts:List Tr} (h:Hn tn w S ps ts):ps.length=ts.length:=by
 induction h with
 | nil=>rfl
 | snoc _ _ ih=>simp [ih]
theorem Hn.grow {tn:TypeId} {w w':World} {m g g':Nat} {ps:List Ptr} {ts:List Tr} (h:Hn tn w (fun b=>m≤b∧b≠g) ps ts) (hg:w.grownBy w' (some g)) (hat:g'=g∨g'=w.heap.size):Hn tn w' (fun b=>m≤b∧b≠g') ps ts:=
 h.congr fun n hn hl=>⟨hg.block n hl (by simpa using hn.2),hn.1,by rcases hat with rfl|rfl;exact hn.2;omega⟩
theorem Ext.own {w0 w w':World} (h:Ext w0 w) {g:Nat} (hg:w.grownBy w' (some g)) (hb:w0.heap.size≤g):Ext w0 w':=
 h.trans' hg.os hg.tape hg.output hg.size fun b hlt=>hg.block b (Nat.lt_of_lt_of_le hlt h.size) (by simp;omega)
theorem Hn.un {tn:TypeId} {w:World} {S:Nat→Prop} {ps:List Ptr} {ts:List Tr} (h:Hn tn w S ps ts) (hn:0<ts.length) :
 ∃ ps' ts' p x,ps=ps'++[p]∧ts=ts'++[x]∧Hn tn w S ps' ts'∧Fk tn w S x p.b:=by
 cases h with
 | nil=>simp at hn
 | snoc h1 h2=>exact⟨_,_,_,_,rfl,rfl,h1,h2⟩
def Tr.tok:Tr→BD
 | .leaf t=>t
 | .un t _=>t
 | .bin t _ _=>t
def Tr.kids:Tr→List Tr
 | .leaf _=>[]
 | .un _ x=>[x]
 | .bin _ x y=>[x,y]
def J9:Tr→List T
 | .leaf t=>AS t++[.sl 1 []]
 | .un t x=>AS t++[.sl 1 [[.ad (J9 x)]]]
 | .bin t x y=>AS t++[.sl 1 [[.ad (J9 x)],[.ad (J9 y)]]]
def XO (l:List BD):T:=match KO l with|some x=>.ad (J9 x)|none=>.v (.pointer none)
theorem RN {t:BD} (h:Mh t=true):BY t=nk t.Kind:=by
 unfold Mh at h
 unfold BY at h ⊢
 unfold nk
 have h:=of_decide_eq_true h
 repeat' split
 all_goals first|rfl|omega|skip
 all_goals simp_all
theorem Vy (k:Int):nk k=0∨nk k=1∨nk k=2:=by
 unfold nk
 split
 · exact .inr (.inr rfl)
 split
 · exact .inr (.inl rfl)
 exact .inl rfl
theorem QL {ts:List Tr} {t:BD} (h:Mh t=true) (hn:nk t.Kind≤ts.length):∃ ts',HU ts t=some ts'∧ts'.length=ts.length-nk t.Kind+1:=by
 unfold HU
 rw [if_neg (by simp [h];omega)]
 have hl:(ts.drop (ts.length-nk t.Kind)).length=nk t.Kind:=by rw [List.length_drop];omega
 generalize ts.drop (ts.length-nk t.Kind)=r at hl
 have h3:=Vy t.Kind
 generalize nk t.Kind=n at *
 match n,r,hl with
 | 0,_,_=>exact⟨_,rfl,by simp⟩
 | 1,[x],_=>exact⟨_,rfl,by simp⟩
 | 2,[x,y],_=>exact⟨_,rfl,by simp⟩
 | n+3,_,_=>omega
theorem UF (l:List BD):∀ ts:List Tr,EP ts.length l=match KY ts l with|some [_]=>true|_=>false:=by
 induction l with
 | nil=>
  intro ts
  match ts with
  | []=>rfl
  | [_]=>rfl
  | _::_::_=>simp [EP,KY];omega
 | cons t r ih=>
  intro ts
  rw [EP,KY]
  by_cases h:Mh t=true
  · have ha:=RN h
    by_cases hn:nk t.Kind≤ts.length
    · obtain⟨ts',h1,h2⟩:=QL h hn
      rw [if_neg (by omega),h1]
      have e:(ts.length:Int)-BY t+1=ts'.length:=by omega
      rw [e]
      exact ih ts'
    have:HU ts t=none:=by unfold HU;rw [if_pos (.inr (by omega))]
    rw [if_pos (.inr (by omega)),this]
  have:HU ts t=none:=by unfold HU;rw [if_pos (.inl (by simpa using h))]
  have ha:BY t<0:=by simpa [Mh] using h
  rw [if_pos (.inl ha),this]
theorem Mz (l:List BD):K6 l=(KO l).isSome:=by
 have h:=UF l []
 unfold K6 KO
 have e:EP 0 l=EP ([]:List Tr).length l:=rfl
 rw [e,h]
 cases KY [] l with
 | none=>rfl
 | some v=>match v with
  | []=>rfl
  | [_]=>rfl
  | _::_::_=>rfl
def CS (x:EW):Bool:=decide (x.Tokens.length≤24)&&K6 x.Tokens
def AO:Tr→List BD
 | .leaf t=>[t]
 | .un t x=>AO x++[t]
 | .bin t x y=>AO x++AO y++[t]
def DQ (ts:List Tr):List BD:=ts.flatMap AO
theorem Ez (a b:List Tr):DQ (a++b)=DQ a++DQ b:=by unfold DQ;simp
theorem EM (x:Tr):DQ [x]=AO x:=by simp [DQ]
theorem HS (x:Tr):AO x=DQ x.kids++[x.tok]:=by cases x<;>simp [AO,DQ,Tr.kids,Tr.tok]
theorem KP (x:Tr):0<(AO x).length:=by rw [HS];simp
def good:Tr→Prop
 | .leaf t=>BY t=0
 | .un t x=>BY t=1∧good x
 | .bin t x y=>BY t=2∧good x∧good y
theorem EI {x:Tr} (h:good x):BY x.tok=x.kids.length:=by
 cases x with
 | leaf t=>exact h
 | un t x=>exact h.1
 | bin t x y=>exact h.1
theorem CM {x:Tr} (h:good x):∀ y∈x.kids,good y:=by
 cases x with
 | leaf t=>intro y hy;cases hy
 | un t x=>intro y hy;simp [Tr.kids] at hy;subst hy;exact h.2
 | bin t x z=>intro y hy;simp [Tr.kids] at hy;rcases hy with rfl|rfl;exact h.2.1;exact h.2.2
theorem QK {ts ts':List Tr} {t:BD} (h:HU ts t=some ts') (hg:∀ x∈ts,good x):DQ ts++[t]=DQ ts'∧∀ x∈ts',good x:=by
 unfold HU at h
 split at h
 · cases h
 rename_i h0
 have hok:Mh t=true:=by
  cases hq:Mh t with
  | true=>rfl
  | false=>exact absurd (.inl hq) h0
 have ha:=RN hok
 have hlen:nk t.Kind≤ts.length:=Nat.le_of_not_lt fun h=>h0 (.inr h)
 have hsp:ts=ts.take (ts.length-nk t.Kind)++ts.drop (ts.length-nk t.Kind):=(List.take_append_drop _ _).symm
 have hgd:∀ x∈ts.drop (ts.length-nk t.Kind),good x:=fun x hx=>hg x (List.mem_of_mem_drop hx)
 have hgt:∀ m,∀ x∈ts.take m,good x:=fun m x hx=>hg x (List.mem_of_mem_take hx)
 generalize hr:ts.drop (ts.length-nk t.Kind)=r at h hsp hgd
 generalize hn:nk t.Kind=n at h hsp ha
 split at h
 · cases h
   refine⟨by rw [Ez,EM];rfl,fun x hx=>?_⟩
   rcases ZG.1 hx with hx|hx
   · exact hg x hx
   simp at hx;subst hx;exact ha
 · rename_i x
   cases h
   refine⟨?_,fun y hy=>?_⟩
   · conv=>lhs;rw [hsp]
     rw [Ez,Ez,EM,EM,ZK];rfl
   rcases ZG.1 hy with hy|hy
   · exact hgt _ y hy
   simp at hy;subst hy;exact⟨ha,hgd x (by simp)⟩
 · rename_i x z
   cases h
   refine⟨?_,fun y hy=>?_⟩
   · conv=>lhs;rw [hsp]
     rw [Ez,Ez,EM]
     simp [DQ,AO]
   rcases ZG.1 hy with hy|hy
   · exact hgt _ y hy
   simp at hy;subst hy;exact⟨ha,hgd x (by simp),hgd z (by simp)⟩
 cases h
theorem N6:∀ {l:List BD} {ts ts':List Tr},KY ts l=some ts'→(∀ x∈ts,good x)→DQ ts++l=DQ ts'∧∀ x∈ts',good x
 | [],ts,ts',h,hg=>by simp only [KY,ZV] at h;subst h;simpa using hg
 | t::l,ts,ts',h,hg=>by
  rw [KY] at h
  split at h
  · rename_i ts1 h1
    obtain⟨g1,g2⟩:=QK h1 hg
    obtain⟨k1,k2⟩:=N6 h g2
    exact⟨by rw [←k1,←g1];simp,k2⟩
  cases h
theorem Nn {l:List BD} {x:Tr} (h:KO l=some x):AO x=l∧good x:=by
 unfold KO at h
 split at h
 · rename_i y hy
   cases h
   obtain⟨g1,g2⟩:=N6 hy (by simp)
   rw [EM] at g1
   exact⟨by rw [←g1];simp [DQ],g2 x (by simp)⟩
 cases h
theorem Sm {e:EW} (h:CS e=true):∃ x,KO e.Tokens=some x∧AO x=e.Tokens∧good x∧e.Tokens.length≤24:=by
 unfold CS at h
 simp only [ZH,decide_eq_true_eq,Mz] at h
 obtain⟨x,hx⟩:=Option.isSome_iff_exists.1 h.2
 exact⟨x,hx,(Nn hx).1,(Nn hx).2,h.1⟩
inductive UN:T→Bool→Prop where
 | ad {cs:List T}:UN (.ad cs) false
 | nil:UN (.v (.pointer none)) true
theorem UN.tree (l:List BD):UN (XO l) (!K6 l):=by
 rw [Mz]
 unfold XO
 cases KO l with
 | none=>exact .nil
 | some x=>exact .ad
section
variable {P:Program} {ops:Array Oper} {o:Oper} {σ:St} {q:Bool}
theorem UN.val {I:Ip} {w:World} {x:T} {b:Bool} (h:UN x b) {v:Value} (hv:VE I w (.t x) v):∃ p,v=.pointer p∧p.isNone=b:=by
 obtain⟨G,h1,_⟩:=hv
 cases h with
 | ad=>simp only [C] at h1;obtain⟨b,off,G',rfl,_⟩:=h1;exact⟨_,rfl,rfl⟩
 | nil=>simp only [C] at h1;exact⟨_,h1.1,rfl⟩
end
theorem UT {l p:List BD} {n:Nat} {t:BD} (h:l.take (n+1)=p++[t]) (hp:p.length=n):l[n]?=some t∧l.take n=p:=by
 have h1:(l.take (n+1))[n]?=some t:=by rw [h,←hp];simp
 rw [List.getElem?_take] at h1
 have h2:l.take n=(l.take (n+1)).take n:=by rw [List.take_take];congr 1;omega
 refine⟨by simpa using h1,?_⟩
 rw [h2,h,←hp];simp
theorem Sr (ys:List Tr) (y:Tr):DQ (ys++[y])=DQ ys++DQ y.kids++[y.tok]:=by rw [Ez,EM,HS,ZK]
theorem Tr.ind {P:Tr→Prop} (h:∀ x,(∀ y∈x.kids,P y)→P x):∀ x,P x:=by
 intro x
 induction x with
 | leaf t=>exact h _ fun y hy=>by cases hy
 | un t x ih=>exact h _ fun y hy=>by simp [Tr.kids] at hy;subst hy;exact ih
 | bin t x z ih1 ih2=>exact h _ fun y hy=>by simp [Tr.kids] at hy;rcases hy with rfl|rfl;exact ih1;exact ih2
theorem Np (x:Tr):(AO x)[(((AO x).length:Int)-1).toNat]?=some x.tok:=by
 have e:(((AO x).length:Int)-1).toNat=(DQ x.kids).length:=by rw [HS];simp
 rw [e,HS];simp
theorem Rw {x:Tr} (hg:good x) (h:BY x.tok=1):∃ y,x.kids=[y]∧AO x=AO y++[x.tok]∧good y:=by
 rw [EI hg] at h
 cases x with
 | leaf t=>simp [Tr.kids] at h
 | un t y=>exact⟨y,rfl,rfl,hg.2⟩
 | bin t y z=>simp [Tr.kids] at h
theorem Rv {x:Tr} (hg:good x) (h:BY x.tok=2):∃ y z,x.kids=[y,z]∧AO x=AO y++AO z++[x.tok]∧good y∧good z:=by
 rw [EI hg] at h
 cases x with
 | leaf t=>simp [Tr.kids] at h
 | un t y=>simp [Tr.kids] at h
 | bin t y z=>exact⟨y,z,rfl,rfl,hg.2.1,hg.2.2⟩
theorem Gi {α β:Type} {f:α→β} {a b l:List α} (h:l=a++b):((l.map f).take a.length).drop 0=a.map f:=by subst h;simp
theorem JC {α β:Type} {f:α→β} {a b c l:List α} (h:l=a++b++c):((l.map f).take (a.length+b.length)).drop 0=(a++b).map f:=by
 subst h;rw [ZL,←ZD,ZO (by simp)];rfl
theorem L6 {α β:Type} {f:α→β} {a b c l:List α} (h:l=a++b++c):((l.map f).take (a.length+b.length)).drop a.length=b.map f:=by
 subst h;rw [ZL,←ZD,ZO (by simp),ZL,List.drop_left' (by simp)]
theorem Xj (x:Tr):x.kids.length≤2:=by cases x<;>simp [Tr.kids]
theorem LI {x y:Tr} (h:y∈x.kids):(AO y).length<(AO x).length:=by
 cases x with
 | leaf t=>cases h
 | un t x=>simp [Tr.kids] at h;subst h;simp [AO]
 | bin t x z=>simp [Tr.kids] at h;rcases h with rfl|rfl<;>simp [AO]<;>omega
theorem No:∀ ys:List Tr,ys.length≤(DQ ys).length
 | []=>by simp
 | y::ys=>by
  have h1:=No ys
  have h2:=KP y
  have e:DQ (y::ys)=AO y++DQ ys:=by simp [DQ]
  rw [e,ZD,List.length_cons];omega
theorem Ss {l pre:List BD} {zs:List Tr} {x:Tr} {k:Int} (h:l.take k.toNat=pre++DQ (zs++[x])) (hk:k=(pre.length:Int)+(DQ (zs++[x])).length) :
 l[(k-1).toNat]?=some x.tok∧l.take (k-1).toNat=pre++DQ (zs++x.kids)∧k-1=(pre.length:Int)+(DQ (zs++x.kids)).length:=by
 have e:DQ (zs++[x])=DQ (zs++x.kids)++[x.tok]:=by rw [Sr,Ez]
 rw [e,ZD,ZP] at hk
 have hn:k.toNat=(k-1).toNat+1:=by omega
 rw [e,←ZK,hn] at h
 have:=UT h (by rw [ZD];omega)
 exact⟨this.1,this.2,by omega⟩
theorem IA (e:EW):FnT Z9 37 [.agg (BH e)] (.a (.one (.v (.bool (CS e))))):=by
 refine A8 ZW U (by kernel_rfl) ZX U fun hlen w0=>?_
 try simp [AS,BH] at hlen
 refine Af (Ac (Bg U U U (.tm U) (ts:=_) (by rfl)) U ?_);refine An ?_;refine Aa (Af (A7 Dx ?_));refine Aj HR ?_;refine Bi (.t) ZA ?_;refine Ac (MN U (.no U) U (.tm U) (.const U)) U ?_;refine Ab ?_;refine Ac (Br U (by exact .yes1 U U U U) U (.tmp U (by exact fun _=>rfl)) Ck U U) U ?_;refine Ac (Cw U (by exact .yes1 U U U U) U (.cons (.tmp U (by exact id)) U .nil) fun hq=>FnT.fr (S3 _ (by have h24:=of_decide_eq_true hq;omega))) U ?_;refine Cn ?_;refine Ah ?_;refine Aa (Aq (Bl U U ?_))
 congr 1;unfold CS;congr 1;apply decide_eq_decide.2;omega
theorem QO (pre:List BD) (y:Tr) (hg:good y) (hz:(pre++AO y).length≤1048576):FnT Z9 86 [.one (.sl 4 ((pre++AO y).map AS))] (.a (.one (.v (.int .i64 pre.length)))):=by
 refine A8 ZY U (by kernel_rfl) ZZ U fun hlen w0=>?_
 try simp [AS,BH] at hlen
 rw [ZD] at hz
 refine Af (An ?_);refine Aa (Af (An ?_));refine Aa (Af (Ab ?_));refine Bi (.t) ZA ?_;refine Ah ?_;refine Aa (Ae (AW.block (Dz (fun (ys:List Tr) (need:Int) (k:Int)=>(need=ys.length∧k=(pre.length:Int)+(DQ ys).length∧k≤1048576∧∀ x∈ys,good x)∧(pre++AO y).take k.toNat=pre++DQ ys) (fun (ys:List Tr) (need:Int) (k:Int)=>⟨_,[(3,(true,.a (.one (.t (.v (.int .i64 need)))))),(4,(true,.a (.one (.t (.v (.int .i64 k)))))),(0,_),(2,_)],[]⟩) (fun (ys:List Tr) (need:Int) (k:Int)=>k.toNat) ([y]) (1) (((pre++AO y).length:Nat)) ⟨⟨U,by simp [EM],by simp;omega,by simpa using hg⟩,by rw [EM,ZM (by simp;omega)]⟩ (Au U ⟨U,U,U,U,Y⟩ trivial) ?_)))
 rintro ys need k ⟨hk,he⟩
 refine Ae (Af (Ab ?_));refine AWl.gc ?_;refine Aa (Ai (.tm U) (fun hlt=>?_) (fun hlt=>?_))
 · try simp at hlt
   obtain⟨zs,T0,rfl⟩:∃ zs T0,ys=zs++[T0]:=by rcases List.eq_nil_or_concat ys with h|⟨zs,T0,h⟩;subst h;simp at hk;omega;exact⟨zs,T0,by simpa using h⟩
   have hT:=hk.2.2.2 T0 (by simp)
   have hta:=EI hT
   obtain⟨hst1,hst2,hst3⟩:=Ss he hk.2.1
   have hge1:=No (zs++[T0])
   have hge2:=No (zs++T0.kids)
   rw [ZD] at hge2
   refine Am (AW.block (Af (Ab ?_)));refine C9 ?_;refine Ah ?_;refine Aa (Ad (Ab ?_));refine C9 ?_;refine Ab ?_;refine Ab ?_;refine Ac (Ak U (.no U) U (.tm U) (.tm U) ZA C6 (fun _=>⟨by omega,Ao hst1⟩)) U ?_;refine Aj C6 ?_;refine By (Ml _) ?_;refine Ac (Dn U (.no U) U (.tm U) (.tm U) (fun _=>by omega)) U ?_;refine Ah ?_;refine Aa ?_
   repeat (with_reducible refine Av ?_)
   refine Ef.next (zs++T0.kids) (need-1+BY T0.tok) (k-1) ⟨by exact⟨by rw [hk.1,hta];simp<;>omega,hst3,by omega,fun x hx=>by rcases ZG.1 hx with h|h;exact hk.2.2.2 x (by simp [h]);exact CM hT x h⟩,hst2⟩ (by omega) (Au rfl ⟨rfl,rfl,rfl,rfl,Y⟩ trivial)
 try simp at hlt
 refine Bf (Af (Ab ?_));refine Ah ?_;refine Aa (Aq (Bl U U ?_))
 have:ys=[]:=ZQ (by omega);subst this;rw [hk.2.1];simp [DQ]
theorem FE {y:Tr} (hg:good y) {pre:List BD} (hz:(pre++AO y).length≤1048576):∀ L,L=(pre++AO y).map AS→FnT Z9 86 [.one (.sl 4 L)] (.a (.one (.v (.int .i64 pre.length)))):=fun L hL=>by subst hL;exact QO pre y hg hz
theorem E2 {x:Tr} (hg:good x):0≤x.tok.Low∧x.tok.Low≤3∧((x.kids=[]∧(x.tok.Kind=1∨x.tok.Kind=2∨x.tok.Kind=3))∨(∃ y,x.kids=[y]∧(x.tok.Kind=6∨x.tok.Kind=7))∨(∃ y z,x.kids=[y,z]∧(x.tok.Kind=4∨x.tok.Kind=5))):=by
 have ha:=EI hg
 have hk:=Xj x
 have hl:x.kids.length=0∨x.kids.length=1∨x.kids.length=2:=by omega
 have harr:BY x.tok≥0:=by omega
 have key:0≤x.tok.Low∧x.tok.Low≤3∧(BY x.tok=0→x.tok.Kind=1∨x.tok.Kind=2∨x.tok.Kind=3)∧(BY x.tok=1→x.tok.Kind=6∨x.tok.Kind=7)∧(BY x.tok=2→x.tok.Kind=4∨x.tok.Kind=5):=by
  revert harr
  unfold BY HP inB
  intro harr
  repeat' split at harr
  all_goals first|omega|(simp_all<;>omega)
 refine⟨key.1,key.2.1,?_⟩
 rcases hl with h|h|h
 · exact .inl ⟨ZQ h,key.2.2.1 (by omega)⟩
 · obtain⟨y,hy,_⟩:=Rw hg (by omega)
   exact .inr (.inl ⟨y,hy,key.2.2.2.1 (by omega)⟩)
 obtain⟨y,z,hy,_⟩:=Rv hg (by omega)
 exact .inr (.inr ⟨y,z,hy,key.2.2.2.2 (by omega)⟩)
theorem Ft {x:Tr} (hg:good x) (h:x.tok.Kind=4∨x.tok.Kind=5):∃ y z,x.kids=[y,z]∧AO x=AO y++AO z++[x.tok]∧good y∧good z:=by
 rcases (E2 hg).2.2 with ⟨_,h1⟩|⟨y,_,h1⟩|⟨y,z,h1,_⟩
 · omega
 · omega
 exact Rv hg (by rw [EI hg,h1];rfl)
theorem HD {x:Tr} (hg:good x) (h:x.tok.Kind=6∨x.tok.Kind=7):∃ y,x.kids=[y]∧AO x=AO y++[x.tok]∧good y:=by
 rcases (E2 hg).2.2 with ⟨_,h1⟩|⟨y,h1,_⟩|⟨y,z,_,h1⟩
 · omega
 · exact Rw hg (by rw [EI hg,h1];rfl)
 omega
theorem FY {x:Tr} (hg:good x) (h:x.tok.Kind≠4∧x.tok.Kind≠5∧x.tok.Kind≠6∧x.tok.Kind≠7):x.kids=[]:=by
 rcases (E2 hg).2.2 with ⟨h1,_⟩|⟨y,_,h1⟩|⟨y,z,_,h1⟩
 · exact h1
 · omega
 omega
def Kw (k:Int):BD:=⟨k,0,0,0⟩
theorem HX (k:Int):FnT Z9 142 [.one (.v (.int .i64 k))] (.a (.agg (BH ⟨[Kw k]⟩))):=by
 refine A8 Aaa U (by kernel_rfl) Aab U fun hlen w0=>?_
 try simp [AS,BH] at hlen
 refine Af (A6 (Bd 2 U U U Dw U U U) U ?_);refine Aa (Af (Ab ?_));refine Ac (Bm (ps:=[(0,.tmp 3)]) U U U D1 U U Hr (.cons (.tm U) U U Dp .nil) U) U ?_;refine Bp (Ce (xs:=[.tmp 4]) 5 U U U (.cons (.tm U) U U .nil) ZA D1 U U U U) U ?_;refine Ac (Bm (ps:=[(0,.tmp 5)]) U U U Dw U U L3 (.cons (.tm U) U U Qj .nil) U) U ?_;refine A4 Ck ?_;refine Aa (Aq (Res.one U (.cell U U Ck U U .nil) U ?_))
 rfl
theorem Sx (l:List BD) (hz:l.length≤4194304):FnT Z9 143 [.one (.sl 4 (l.map AS))] (.a (.agg (BH ⟨l⟩))):=by
 refine A8 Aac U (by kernel_rfl) Aad U fun hlen w0=>?_
 try simp [AS,BH] at hlen
 refine Af (A6 (Bd 2 U U U Dw U U U) U ?_);refine Aa (Af (A6 (C7 3 U U U ZA C6 U) U ?_));refine Ab ?_;refine Bt (B8 U U U (.tm U) U (.tm U) (by exact .t) (by exact Ig (fun _=>rfl) _) ZA D1 U (by (simp [AH];omega)) (by (unfold maxLen;simp [AH];omega))) U ?_;refine Bv (Ay [0,2,5] [2,3]) ?_;refine Ac (Bm (ps:=[(0,.tmp 5)]) U U U Dw U U L3 (.cons (.tm U) U U Qj .nil) U) U ?_;refine A4 Ck ?_;refine Aa (Aq (Res.one U (.cell U U Ck U U .nil) U ?_))
 rfl
theorem DP (a b:EW) (t:BD) (hz:a.Tokens.length+b.Tokens.length≤4194304):FnT Z9 144 [.agg (BH a),.agg (BH b),.agg (AS t)] (.a (.agg (BH ⟨a.Tokens++b.Tokens++[t]⟩))):=by
 refine A8 Aae U (by kernel_rfl) Aaf U fun hlen w0=>?_
 try simp [AS,BH] at hlen
 refine Af (Ac (Bg U U U (.tm U) (ts:=_) (by rfl)) U ?_);refine Ac (Bg U U U (.tm U) (ts:=_) (by rfl)) U ?_;refine Ac (Bg U U U (.tm U) (ts:=_) (by rfl)) U ?_;refine A6 (Bd 6 U U U Dw U U U) U ?_;refine Aa (Af (A7 Dx ?_));refine Aj HR ?_;refine Cj (Dc 1000 (Sx _ (by omega)) U U U (.cons (.tm U) U .nil) U U) U ?_;refine A6 (Bd 7 U U U Dw U U U) U ?_;refine A4 Ck ?_;refine Aa (Af (Bq Dx ?_));refine Bb HR ?_;refine A7 Dx ?_;refine Aj HR ?_;refine Bt (B8 U U U (.tm U) U (.tm U) (by exact .t) (by exact Ig (fun _=>rfl) _) ZA D1 U (by (simp [AH];omega)) (by (unfold maxLen;simp [AH];omega))) U ?_;refine Bv (Ay [0,1,2,3,4,5,6,7,15] [6,1000,7]) ?_;refine Bq Dx ?_;refine A4 HR ?_;refine Aa (Af (Bq Dx ?_));refine Bb HR ?_;refine Aj C6 ?_;refine Bp (Ce (xs:=[.tmp 19]) 20 U U U (.cons (.tm U) U U .nil) ZA D1 U U U U) U ?_
 refine Dv (D4 U U U (.tm U) U (.tm U) U U ZA D1 U (by (simp [AH];omega)) (by (unfold maxLen;simp [AH];omega))) U ?_;refine Bv (Ay [0,1,2,3,4,5,6,7,21] [6,1000,7]) ?_;refine Bq Dx ?_;refine A4 HR ?_;refine Aa (Af (Bb Ck ?_));refine A4 Ck ?_;refine Aa (Aq (Res.one U (.cell U U Ck U U .nil) U ?_))
 simp [BH,Mf,AS,AH];rfl
theorem Uo (l:List UInt8) (c:UInt8) (hz:l.length≤1073741824):FnT Z9 177 [.one (.v (.string (bs l))),.one (.v (.int .u8 c.toNat))] (.a (.one (.sl 1 ((CY c l).map Qu)))):=by
 refine A8 Aag U (by kernel_rfl) Aah U fun hlen w0=>?_
 try simp [AS,BH] at hlen
 have hsz:=Iy l
 refine Af (An ?_);refine Ch (i:=4) 20001 1 U U ?_;refine Aa (Af (A6 (C7 8 U U U ZC ty9 U) U ?_));refine Ah ?_;refine Aa (Af (An ?_));refine Aa (Ae (Af (An ?_)));refine Aa (AW.block (Dz (fun (i:Nat) (F:Nat) (O:List (List UInt8))=>(F≤i∧i≤l.length∧c∉(l.take i).drop F∧O.length≤i)∧CY c l=O++CY c (l.drop F)) (fun (i:Nat) (F:Nat) (O:List (List UInt8))=>⟨_,[(6,(true,.a (.one (.t (.v (.int .i64 F)))))),(7,(true,.a (.one (.t (.v (.int .i64 i)))))),(5,(true,.a (.one (.rf 8)))),(0,_),(1,_),(4,_)],[(8,.row 1 (O.map Qu))]⟩) (fun (i:Nat) (F:Nat) (O:List (List UInt8))=>l.length-i) (0) (0) ([]) ⟨⟨by omega,by omega,by simp,by simp⟩,(by simp)⟩ Aw ?_))
 rintro i F O ⟨hk,he⟩
 refine Ae (Af (Ab ?_));refine Ab ?_;refine Ac (Ue U (.no U) U (.tm U) ZB) U ?_;refine AWl.lt ?_;refine Aa (Ai (.tm U) (fun h12=>?_) (fun h12=>?_))
 · try simp at h12
   obtain⟨b,hb⟩:∃ ξ,l[i]?=some ξ:=⟨_,ZF (by omega)⟩
   refine Am (Ae (AW.block (Af (Ab ?_))));refine Ab ?_;refine Ac (FK U (.no U) U (.tm U) (.tm U) ZB (fun _=>⟨by omega,(by rw [LS];exact hb)⟩)) U ?_;refine Ab ?_;refine AWl.eq ?_;refine Aa (Ai (.tm U) (fun h19=>?_) (fun h19=>?_))
   · try simp at h19
     refine Ae (As (Ay [0,1,4,5,6,7] [8]) ?_);refine Ad (Ab ?_);refine Ab ?_;refine Ab ?_;refine Ab ?_;refine Ac (Ox (n:=F) (m:=i) U (.no U) U (.tm U) (.yes (.tm U) (fun _=>by first|omega|(simp<;>omega))) (.yes (.tm U) (fun _=>by first|omega|(simp<;>omega))) ZB (fun _=>⟨by omega,by first|omega|(simp;omega)⟩)) U ?_;refine Bp (Ce (xs:=[.tmp 24]) 25 U U U (.cons (.tm U) U U .nil) ZC in9 U U U U) U ?_;refine Bt (B8 U U U (.tm U) U (.tm U) (by exact .rf U) (by rfl) ZC in9 U (by (simp [AH];omega)) (by (unfold maxLen;simp [AH];omega))) U ?_;refine Bv (Ay [0,1,4,5,6,7,26] [8,25]) ?_;refine Ah ?_;refine Aa (Ad (Ab ?_));refine A9 ?_;refine Ah ?_;refine Aa (Ad (Ab ?_));refine A9 ?_;refine Ah ?_;refine Aa ?_
     repeat (with_reducible refine Av ?_)
     refine Ef.next (i+1) (i+1) (O++[(l.take i).drop F]) ⟨⟨by omega,by omega,(by simp),(by rw [ZD,ZP];omega)⟩,(VT hb hk (ZI.1 (by omega)) he)⟩ (by omega) (Au rfl ⟨rfl,rfl,rfl,rfl,rfl,rfl,Y⟩ ⟨(by refine congrArg (fun r=>some (R.row 1 r)) ?_;simp [AH,Qu,KE];done),Y⟩)
   try simp at h19
   refine Am (As (Ay [0,1,4,5,6,7] [8]) ?_);refine Ad (Ab ?_);refine A9 ?_;refine Ah ?_;refine Aa ?_
   repeat (with_reducible refine Av ?_)
   refine Ef.next (i+1) (F) (O) ⟨⟨by omega,by omega,VV hb hk (fun e=>h19 (by rw [e])),by omega⟩,he⟩ (by omega) (Au rfl ⟨rfl,rfl,rfl,rfl,rfl,rfl,Y⟩ ⟨(by refine congrArg (fun r=>some (R.row 1 r)) ?_;simp [AH,Qu,KE];done),Y⟩)
 try simp at h12
 refine Bf (Af (Ab ?_));refine Ab ?_;refine Ab ?_;refine Ac (Ox (n:=F) U (.no U) U (.tm U) (.yes (.tm U) (fun _=>by first|omega|(simp<;>omega))) .no ZB (fun _=>⟨by omega,by first|omega|(simp;omega)⟩)) U ?_;refine Bp (Ce (xs:=[.tmp 32]) 33 U U U (.cons (.tm U) U U .nil) ZC in9 U U U U) U ?_;refine Bt (B8 U U U (.tm U) U (.tm U) (by exact .rf U) (by rfl) ZC in9 U (by (simp [AH];omega)) (by (unfold maxLen;simp [AH];omega))) U ?_;refine Bv (Ay [0,1,4,5,6,7,12,34] [8,33]) ?_;refine Ah ?_;refine Aa (Aq (Res.one U (.tmp U .nil) U ?_))
 (have hi:i=l.length:=(by omega);subst hi;rw [he,OU (by rw [ZM (Nat.le_refl _)] at hk;exact hk.2.2.1)];refine congrArg (fun r=>[V0.one (T.sl 1 r)]) ?_;simp [AH,Qu,KE,hsz];done)
def Nq (t:BD):List UInt8:=
 if t.Kind=1 then [33] else if t.Kind=2 then [40,41] else if t.Kind=3 then NN t.Letter else if t.Kind=4 then [46] else if t.Kind=5 then [124] else if t.Kind=6 then [42]
 else [123]++SC t.Low++[44]++SC t.High++[125]
theorem RC:∀ {l:List BD} {d:Int},EP d l=true→∀ t∈l,0≤BY t
 | [],_,_=>fun t ht=>by cases ht
 | x::r,d,h=>by
  rw [EP] at h
  split at h
  · cases h
  rename_i hc
  intro t ht
  rcases List.mem_cons.1 ht with rfl|ht
  · omega
  exact RC h t ht
theorem Nh {e:EW} (h:CS e=true):e.Tokens.length≤24∧∀ t∈e.Tokens,0≤BY t:=by
 unfold CS K6 at h
 simp only [ZH,decide_eq_true_eq] at h
 exact⟨h.1,RC h.2⟩
theorem WA {t:BD} (h:0≤BY t) (h1:t.Kind≠1) (h2:t.Kind≠2) (h3:t.Kind≠3) (h4:t.Kind≠4) (h5:t.Kind≠5) (h6:t.Kind≠6):(0≤t.Low∧t.Low≤3)∧0≤t.High∧t.High≤3:=by
 unfold BY at h
 rw [if_neg (by omega),if_neg h3,if_neg (by omega),if_neg h6] at h
 split at h
 · split at h
   · rename_i hc
     simp only [inB,ZH,decide_eq_true_eq] at hc
     omega
   omega
 omega
theorem Tt {t:BD} (h:0≤BY t) (h3:t.Kind=3):0≤t.Letter∧t.Letter≤8:=by
 unfold BY at h
 rw [if_neg (by omega),if_pos h3] at h
 split at h
 · rename_i hc
   simp only [inB,ZH,decide_eq_true_eq] at hc
   omega
 omega
def NO (s:List UInt8):Int×Bool:=match (ZN 9).find? (fun k=>decide (NN (k:Nat)=s)) with
 | some k=>((k:Int),true)
 | none=>(0,false)
theorem Xh {s:List UInt8} {k:Nat} (hk:k<9) (h:NN (k:Nat)=s) (hn:∀ j,j<k→NN (j:Nat)≠s):NO s=((k:Int),true):=by
 have:(ZN 9).find? (fun k=>decide (NN (k:Nat)=s))=some k:=by
  rw [List.find?_range_eq_some]
  exact⟨decide_eq_true h,ZR.2 hk,fun j hj=>by simpa using hn j hj⟩
 unfold NO
 rw [this]
theorem Xg {s:List UInt8} (hn:∀ j,j<9→NN (j:Nat)≠s):NO s=(0,false):=by
 have:(ZN 9).find? (fun k=>decide (NN (k:Nat)=s))=none:=by
  rw [List.find?_eq_none]
  intro x hx
  simpa using hn x (ZR.1 hx)
 unfold NO
 rw [this]
def tk0 (k:Int):BD:=⟨k,0,0,0⟩
def brS (s:List UInt8):BD:=if s.length=5∧s[0]?=some 123∧s[2]?=some 44∧s[4]?=some 125 then ⟨7,0,((s[1]?.getD 0).toNat:Int)-48,((s[3]?.getD 0).toNat:Int)-48⟩ else tk0 0
def rdT (rest:List UInt8→BD) (s:List UInt8):BD:=
 if s=[33] then tk0 1 else if s=[40,41] then tk0 2 else if s=[46] then tk0 4 else if s=[124] then tk0 5 else if s=[42] then tk0 6
 else if (NO s).2=true then ⟨3,(NO s).1,0,0⟩ else rest s
def exS (s:List UInt8):EW:=⟨(CY 32 s).map (rdT brS)⟩
def Jd (s:List UInt8):EW×Bool:=if CS (exS s)=true then (exS s,true) else (⟨[]⟩,false)
theorem Mw {s:List UInt8} {k:Nat} (hk:(CY 32 s).length≤k∨25≤k):Jd s=if CS ⟨((CY 32 s).take k).map (rdT brS)⟩=true then (⟨((CY 32 s).take k).map (rdT brS)⟩,true) else (⟨[]⟩,false):=by
 by_cases h:(CY 32 s).length≤k
 · rw [ZM h];rfl
 have h1:CS (exS s)=false:=ZS.2 fun hh=>by
  have:=(Nh hh).1
  unfold exS at this;simp at this;omega
 have h2:CS ⟨((CY 32 s).take k).map (rdT brS)⟩=false:=ZS.2 fun hh=>by
  have:=(Nh hh).1
  simp at this;omega
 unfold Jd
 rw [h1,h2];rfl
theorem M9 (s:List UInt8):FnT Z9 184 [.one (.v (.string (bs s)))] (.tup [.one (.v (.int .i64 (NO s).1)),.one (.v (.bool (NO s).2))]):=by
 refine A8 Aai U (by kernel_rfl) Aaj U fun hlen w0=>?_
 try simp [AS,BH] at hlen
 refine Af (An ?_);refine An ?_;refine Aa (Ae (Af (An ?_)));refine Aa (AW.block (B9 (fun (k:Nat)=>(k≤9∧∀ j:Nat,j<k→NN (j:Nat)≠s)∧True) (fun (k:Nat)=>⟨_,[(4,(true,.a (.one (.t (.v (.int .i64 (k:Nat))))))),(0,_)],[]⟩) (fun (k:Nat)=>9-k) (0) ⟨⟨by omega,fun j hj=>by omega⟩,Y⟩ (Au U ⟨U,U,Y⟩ trivial) ?_))
 rintro k ⟨hk,he⟩
 refine Ae (Af (Ab ?_));refine D7 ?_;refine Aa (Ai (.tm U) (fun h6=>?_) (fun h6=>?_))
 · try simp at h6
   refine Am (Ae (AW.block (Af (Ab ?_))));refine Ac (Bc (FnT.fr (H3 (k:Int) (by omega) (by omega))) U (.no U) U (.cons (.tm U) U .nil)) U ?_;refine Ab ?_;refine Ac (Uf U (.no U) U (.tm U) (.tm U)) U ?_;refine Aa (Ai (.tm U) (fun h12=>?_) (fun h12=>?_))
   · try simp at h12
     refine Ae (As (Ay [0,4] []) ?_);refine Ad (Ab ?_);refine Ah ?_;refine An ?_;refine Aa (Aq (Cd U (.tmp U (.tmp U .nil)) U ?_ (by simp)))
     rw [Xh (k:=k) (by omega) (Wb h12) hk.2];rfl
   try simp at h12
   refine Am (As (Ay [0,4] []) ?_);refine Ad (Ab ?_);refine A9 ?_;refine Ah ?_;refine Aa ?_
   repeat (with_reducible refine Av ?_)
   refine BF.next (k+1) ⟨⟨by omega,fun j hj=>(by by_cases e:j=k;(subst e;exact fun e2=>h12 (by rw [e2]));exact hk.2 j (by omega))⟩,Y⟩ (by omega) (Au rfl ⟨rfl,rfl,Y⟩ trivial)
 try simp at h6
 refine Bf (Af (An ?_));refine An ?_;refine Aa (Aq (Cd U (.tmp U (.tmp U .nil)) U ?_ (by simp)))
 rw [Xg fun j hj=>hk.2 j (by omega)];rfl
theorem QN (t:BD) (h:0≤BY t):FnT Z9 183 [.agg (AS t)] (.a (.one (.v (.string (bs (Nq t)))))):=by
 refine A8 Aak U (by kernel_rfl) Aal U fun hlen w0=>?_
 try simp [AS,BH] at hlen
 skip
 have e1:(⟨#[123]⟩:ByteArray).size=1:=rfl
 have e2:(⟨#[44]⟩:ByteArray).size=1:=rfl
 have e3:(⟨#[125]⟩:ByteArray).size=1:=rfl
 refine Af (Ac (Bg U U U (.tm U) (ts:=_) (by rfl)) U ?_);refine An ?_;refine Aa (Ae (Af (A7 LO ?_)));refine Aj ty3 ?_;refine Aa (AW.block (Af (Bw ?_)));refine Ah ?_;refine Aa (Ai (.tm U) (fun h5=>?_) (fun h5=>?_))
 · try simp at h5
   refine Af (An ?_);refine Aa (Aq (Bl U U ?_))
   (unfold Nq;rw [if_pos h5];rfl)
 try simp at h5
 refine Af (Bw ?_);refine Ah ?_;refine Aa (Ai (.tm U) (fun h7=>?_) (fun h7=>?_))
 · try simp at h7
   refine Af (An ?_);refine Aa (Aq (Bl U U ?_))
   (unfold Nq;rw [if_neg h5,if_pos h7];rfl)
 try simp at h7
 refine Af (Bw ?_);refine Ah ?_;refine Aa (Ai (.tm U) (fun h9=>?_) (fun h9=>?_))
 · try simp at h9
   refine Ae (As (Ay [0,1,2,4] []) ?_);refine Ad (A7 Hw ?_);refine Aj ty3 ?_;refine By (H3 t.Letter (Tt h h9).1 (Tt h h9).2) ?_;refine Ah ?_;refine Aa (Aq (Bl U U ?_))
   (unfold Nq;rw [if_neg h5,if_neg h7,if_pos h9])
 try simp at h9
 refine Ae (As (Ay [0,1,2,4] []) ?_);refine Ad (Bw ?_);refine Ah ?_;refine Aa (Ai (.tm U) (fun h14=>?_) (fun h14=>?_))
 · try simp at h14
   refine Af (An ?_);refine Aa (Aq (Bl U U ?_))
   (unfold Nq;rw [if_neg h5,if_neg h7,if_neg h9,if_pos h14];rfl)
 try simp at h14
 refine Af (Bw ?_);refine Ah ?_;refine Aa (Ai (.tm U) (fun h16=>?_) (fun h16=>?_))
 · try simp at h16
   refine Af (An ?_);refine Aa (Aq (Bl U U ?_))
   (unfold Nq;rw [if_neg h5,if_neg h7,if_neg h9,if_neg h14,if_pos h16];rfl)
 try simp at h16
 refine Af (Bw ?_);refine Ah ?_;refine Aa (Ai (.tm U) (fun h18=>?_) (fun h18=>?_))
 · try simp at h18
   refine Ae (As (Ay [0,1,2,4] []) ?_);refine Ad (An ?_);refine Aa (Aq (Bl U U ?_))
   (unfold Nq;rw [if_neg h5,if_neg h7,if_neg h9,if_neg h14,if_neg h16,if_pos h18];rfl)
 try simp at h18
 have hr:=WA h h5 h7 h9 h14 h16 h18
 have s1:=Rn (n:=t.Low) (by omega)
 have s2:=Rn (n:=t.High) (by omega)
 refine Am (Ae (As (Ay [0,1,2,4] []) ?_));refine Bx 11 (DM [[],[0],[0,1],[0,1,2],[0,1,2,3],[],[5],[0,1,2,5,6],[0,1,2,3,4,5,6,7],[0,1,2,3,4,5,6,7,8],[0,1,2,3,4,5,6,7,8,9]]) (by kernel_rfl) (by kernel_rfl) (by kernel_rfl) ?_;refine Bz Iq ?_;refine A5 ty3 ?_;refine AB.s (fun _ hs=>Bc (FnT.fr (Kg t.Low (by omega) (by omega))) U (.no U) (Ag hs U) (.cons (hs.tm U) (AD hs U) .nil)) ?_;refine AB.s (fun _ hs=>Se U (.no U) (Ag hs U) (.const U) (hs.tm U) (fun _=>by simp only [ZJ,Iy];omega)) ?_;refine AB.s (fun _ hs=>Se U (.no U) (Ag hs U) (hs.tm U) (.const U) (fun _=>by simp only [ZJ,Iy];omega)) ?_;refine Bz GO ?_;refine A5 ty3 ?_;refine AB.s (fun _ hs=>Bc (FnT.fr (Kg t.High (by omega) (by omega))) U (.no U) (Ag hs U) (.cons (hs.tm U) (AD hs U) .nil)) ?_
 refine AB.s (fun _ hs=>Se U (.no U) (Ag hs U) (hs.tm U) (hs.tm U) (fun _=>by simp only [ZJ,Iy];omega)) ?_;refine AB.s (fun _ hs=>Se U (.no U) (Ag hs U) (hs.tm U) (.const U) (fun _=>by simp only [ZJ,Iy];omega)) ?_;refine AB.s (fun _ hs=>Cl U (.no U) (Ag hs U) (hs.tm U)) ?_;refine Bs U U ?_;refine Aa (Aq (Bl U U ?_))
 (unfold Nq;rw [if_neg h5,if_neg h7,if_neg h9,if_neg h14,if_neg h16,if_neg h18,show (⟨#[123]⟩:ByteArray)=bs [123] from rfl,show (⟨#[44]⟩:ByteArray)=bs [44] from rfl,show (⟨#[125]⟩:ByteArray)=bs [125] from rfl];simp only [LU])
theorem WR {rest:List UInt8→BD} {s:List UInt8} (n:s≠[33]∧s≠[40,41]∧s≠[46]∧s≠[124]∧s≠[42]) (h:(NO s).2=true):rdT rest s=⟨3,(NO s).1,0,0⟩:=by
 obtain⟨n1,n2,n3,n4,n5⟩:=n
 unfold rdT
 rw [if_neg n1,if_neg n2,if_neg n3,if_neg n4,if_neg n5,if_pos h]
theorem Rf {rest:List UInt8→BD} {s:List UInt8} (n:s≠[33]∧s≠[40,41]∧s≠[46]∧s≠[124]∧s≠[42]) (h:(NO s).2=false):rdT rest s=rest s:=by
 obtain⟨n1,n2,n3,n4,n5⟩:=n
 unfold rdT
 rw [if_neg n1,if_neg n2,if_neg n3,if_neg n4,if_neg n5,if_neg (by rw [h];decide)]
theorem Ze {k:Int} (h:k=1∨k=2∨k=4∨k=5∨k=6):0≤BY (tk0 k):=by
 rcases h with rfl|rfl|rfl|rfl|rfl<;>decide
theorem Vq {rest:List UInt8→BD} {s:List UInt8} {k:Int} (hk:k=1∨k=2∨k=4∨k=5∨k=6) (h:Nq (tk0 k)=s):rdT rest s=tk0 k:=by
 rcases hk with rfl|rfl|rfl|rfl|rfl<;>subst h<;>rfl
theorem Rp {s:List UInt8} (h:∀ j:Nat,1≤j→j<7→j≠3→Nq (tk0 (j:Nat))≠s):s≠[33]∧s≠[40,41]∧s≠[46]∧s≠[124]∧s≠[42]:=
 ⟨fun e=>h 1 (by decide) (by decide) (by decide) (by rw [e];rfl),fun e=>h 2 (by decide) (by decide) (by decide) (by rw [e];rfl),fun e=>h 4 (by decide) (by decide) (by decide) (by rw [e];rfl),fun e=>h 5 (by decide) (by decide) (by decide) (by rw [e];rfl),fun e=>h 6 (by decide) (by decide) (by decide) (by rw [e];rfl)⟩
theorem SV {x:List UInt8} (h:x.length=5):∃ a b c d e,x=[a,b,c,d,e]:=by
 match x,h with
 | [a,b,c,d,e],_=>exact⟨a,b,c,d,e,rfl⟩
theorem XA {x0 x1 x2 x3 x4:UInt8} (h0:(x0.toNat:Int)=123) (h2:(x2.toNat:Int)=44) (h4:(x4.toNat:Int)=125):brS [x0,x1,x2,x3,x4]=⟨7,0,(x1.toNat:Int)-48,(x3.toNat:Int)-48⟩:=by
 have e0:x0=123:=ZI.1 (show x0.toNat=123 by omega)
 have e2:x2=44:=ZI.1 (show x2.toNat=44 by omega)
 have e4:x4=125:=ZI.1 (show x4.toNat=125 by omega)
 subst e0 e2 e4
 rfl
theorem Y9 {s:List UInt8} {b0 b2 b4:UInt8} (hb0:s.length=5→s[0]?=some b0) (hb2:s.length=5→s[2]?=some b2) (hb4:s.length=5→s[4]?=some b4) (h:¬ (((s.length=5∧(b0.toNat:Int)=123)∧(b2.toNat:Int)=44)∧(b4.toNat:Int)=125)):brS s=tk0 0:=by
 unfold brS
 rw [if_neg]
 rintro⟨h5,h0,h2,h4⟩
 rw [hb0 h5] at h0
 rw [hb2 h5] at h2
 rw [hb4 h5] at h4
 refine h ⟨⟨⟨h5,?_⟩,?_⟩,?_⟩
 · rw [ZE h0];rfl
 · rw [ZE h2];rfl
 rw [ZE h4];rfl
open Go.Shelf
theorem Su (s:List UInt8):FnT Z9 178 [.one (.v (.string (bs s)))] (.a (.agg (AS (rdT brS s)))):=by
 obtain⟨b0,hb0⟩:∃ b,s.length=5→s[0]?=some b:=⟨s[0]?.getD 0,fun h=>by rw [ZF (by omega)];rfl⟩
 obtain⟨b2,hb2⟩:∃ b,s.length=5→s[2]?=some b:=⟨s[2]?.getD 0,fun h=>by rw [ZF (by omega)];rfl⟩
 obtain⟨b4,hb4⟩:∃ b,s.length=5→s[4]?=some b:=⟨s[4]?.getD 0,fun h=>by rw [ZF (by omega)];rfl⟩
 refine A8 Aam U (by kernel_rfl) Aan U fun hlen w0=>?_
 try simp [AS,BH] at hlen
 have hsz:=Iy s
 refine Af (A6 (Bd 2 U U U D1 U U U) U ?_);refine Aa (Ae (Af (An ?_)));refine Aa (AW.block ?_);refine B9 (fun (k:Nat)=>((1≤k∧k≤7)∧∀ j:Nat,1≤j→j<k→j≠3→Nq (tk0 (j:Nat))≠s)∧True) (fun (k:Nat)=>⟨_,[(3,(true,.a (.one (.t (.v (.int .i64 (k:Nat))))))),(0,_),(2,_)],[(2,.box [.t (.v (.int .i64 0)),.t (.v (.int .i64 0)),.t (.v (.int .i64 0)),.t (.v (.int .i64 0))])]⟩) (fun (k:Nat)=>7-k) (1) ⟨⟨⟨by omega,by omega⟩,fun j h1 h2=>by omega⟩,Y⟩ Aw ?_
 rintro k ⟨hk,he⟩
 refine Ae (Af (Ab ?_));refine Ac (MN U (.no U) U (.tm U) (.const U)) U ?_;refine Aa (Ai (.tm U) (fun h7=>?_) (fun h7=>?_))
 · try simp at h7
   refine Am (Ae (AW.block (Af (Ab ?_))));refine AWl.nc ?_;refine Ab ?_;refine Cm ?_;refine Ac (Zk (by exact .yes1 U U U U) U fun hq=>Bm (ps:=[(0,.tmp 13)]) U U U D1 U U Hr (.cons (.tmp U (by exact fun _=>hq)) U U Dp .nil) U) U ?_;refine Ac (Cw U (by exact .yes1 U U U U) U (.cons (.tmp U (by exact id)) U .nil) fun hq=>FnT.fr (QN (tk0 (k:Int)) (Ze (by simp at hq;omega)))) U ?_;refine Cm ?_;refine Ac (Uf U (by exact .yes1 U U U U) U (.tmp U (by exact id)) (.tmp U (by exact id))) U ?_;refine Cn ?_;refine Aa (Ai (.tm U) (fun h18=>?_) (fun h18=>?_))
   · try simp at h18
     refine Ae (As (Ay [0,2,3] [2]) ?_);refine Ad (Ab ?_);refine Ac (Bm (ps:=[(0,.tmp 19)]) U U U D1 U U Hr (.cons (.tm U) U U Dp .nil) U) U ?_;refine A4 C6 ?_;refine Aa (Aq (Res.one U (.cell U U C6 U U .nil) U ?_))
     rw [Vq (k:=(k:Int)) (by omega) (Wb h18.2)];rfl
   try simp at h18
   refine Am (As (Ay [0,2,3] [2]) ?_);refine Ad (Ab ?_);refine A9 ?_;refine Ah ?_;refine Aa ?_
   repeat (with_reducible refine Av ?_)
   refine BF.next (k+1) ⟨⟨⟨by omega,by omega⟩,fun j h1 h2 h3=>(by by_cases e:j=k;(subst e;exact fun e2=>h18 (by omega) (by rw [e2]));exact hk.2 j h1 (by omega) h3)⟩,Y⟩ (by omega) (Au rfl ⟨rfl,rfl,rfl,Y⟩ ⟨(by rfl),Y⟩)
 try simp at h7
 refine Bf (Af (Ab ?_));refine By (M9 s) ?_;refine Ac (Dd U (.no U) U U fun _=>rfl) U ?_;refine Ac (Bk U (.no U) U U (fun _=>rfl) U) U ?_;refine Ac (Bk U (.no U) U U (fun _=>rfl) U) U ?_;refine Ah ?_;refine Ah ?_;refine Aa (Ae (Ae (As (Ay [0,2,3,4,5] [2]) ?_)));refine Ad (Ab ?_);refine Aa (Ai (.tm U) (fun h26=>?_) (fun h26=>?_))
 · try simp at h26
   have hne:=Rp fun j h1 h2 h3=>hk.2 j h1 (by omega) h3
   refine Af (Ab ?_);refine Ac (Bm (ps:=[(0,.const (.int .i64 (3))),(1,.tmp 27)]) U U U D1 U U Hr (.cons (.const U) U U Dp (.cons (.tm U) U U VK .nil)) U) U ?_;refine A4 C6 ?_;refine Aa (Aq (Res.one U (.cell U U C6 U U .nil) U ?_))
   rw [WR hne h26];rfl
 try simp at h26
 have hne:=Rp fun j h1 h2 h3=>hk.2 j h1 (by omega) h3
 refine Am (Ae (Af (Ab ?_)));refine Ac (Ue U (.no U) U (.tm U) ZB) U ?_;refine Bw ?_;refine Ab ?_;refine Cm ?_;refine Ac (FK U (by exact .yes1 U U U U) U (.tmp U (by exact id)) (.const U) ZB (fun hq=>⟨by omega,by rw [LS];exact hb0 (by simp at hq;omega)⟩)) U ?_;refine Ac (Kc U (by exact .yes1 U U U U) U (.tmp U (by exact id)) (.const U)) U ?_;refine Cn ?_;refine Ab ?_;refine Cm ?_;refine Ac (FK U (by exact .yes1 U U U U) U (.tmp U (by exact id)) (.const U) ZB (fun hq=>⟨by omega,by rw [LS];exact hb2 (by simp at hq;omega)⟩)) U ?_;refine Ac (Kc U (by exact .yes1 U U U U) U (.tmp U (by exact id)) (.const U)) U ?_;refine Cn ?_;refine Ab ?_;refine Cm ?_
 refine Ac (FK U (by exact .yes1 U U U U) U (.tmp U (by exact id)) (.const U) ZB (fun hq=>⟨by omega,by rw [LS];exact hb4 (by simp at hq;omega)⟩)) U ?_;refine Ac (Kc U (by exact .yes1 U U U U) U (.tmp U (by exact id)) (.const U)) U ?_;refine Cn ?_;refine Aa (Ai (.tm U) (fun h46=>?_) (fun h46=>?_))
 · try simp at h46
   obtain⟨x0,x1,x2,x3,x4,hx⟩:=SV (x:=s) (by omega)
   have hx1:x1.toNat<256:=x1.toNat_lt
   have hx3:x3.toNat<256:=x3.toNat_lt
   have e0:b0=x0:=by (have:=hb0 (by rw [hx];rfl);rw [hx] at this;exact (ZE this).symm)
   have e2:b2=x2:=by (have:=hb2 (by rw [hx];rfl);rw [hx] at this;exact (ZE this).symm)
   have e4:b4=x4:=by (have:=hb4 (by rw [hx];rfl);rw [hx] at this;exact (ZE this).symm)
   refine Ae (As (Ay [0,2,3,4,5] [2]) ?_);refine Bx 9 (DM [[],[0],[0,1],[0,1,2],[],[4],[4,5],[4,5,6],[0,1,2,3,4,5,6,7]]) (by kernel_rfl) (by kernel_rfl) (by kernel_rfl) ?_;refine Az ?_;refine AB.s (fun _ hs=>FK U (.no U) (Ag hs U) (hs.tm U) (.const U) ZB (fun _=>⟨by omega,by rw [LS,hx];rfl⟩)) ?_;refine AB.s (fun _ hs=>Mb U (.no U) (Ag hs U) (hs.tm U) (by rw [ZT];rfl) ZU (fun _=>(show IntKind.i64.wrap (x1.toNat:Int)=(x1.toNat:Int) from XN (by omega)))) ?_;refine AB.s (fun _ hs=>D8 U (.no U) (Ag hs U) (hs.tm U) (.const U) (fun _=>by omega)) ?_;refine Az ?_;refine AB.s (fun _ hs=>FK U (.no U) (Ag hs U) (hs.tm U) (.const U) ZB (fun _=>⟨by omega,by rw [LS,hx];rfl⟩)) ?_
   refine AB.s (fun _ hs=>Mb U (.no U) (Ag hs U) (hs.tm U) (by rw [ZT];rfl) ZU (fun _=>(show IntKind.i64.wrap (x3.toNat:Int)=(x3.toNat:Int) from XN (by omega)))) ?_;refine AB.s (fun _ hs=>D8 U (.no U) (Ag hs U) (hs.tm U) (.const U) (fun _=>by omega)) ?_;refine AB.s (fun _ hs=>Bm (ps:=[(0,.const (.int .i64 (7))),(2,.tmp 50),(3,.tmp 54)]) U U (Ag hs U) D1 U U Hr (.cons (.const U) U U Dp (.cons (hs.tm U) U U VJ (.cons (hs.tm U) U U VI .nil))) U) ?_;refine Bs U U ?_;refine A4 C6 ?_;refine Aa (Aq (Res.one U (.cell U U C6 U U .nil) U ?_))
   rw [Rf hne h26,hx,XA (by rw [←e0];exact h46.1.1.2) (by rw [←e2];exact h46.1.2) (by rw [←e4];exact h46.2)];rfl
 try simp at h46
 refine Am (Ae (As (Ay [0,2,3,4,5] [2]) ?_));refine Ad (Ac (Bm (ps:=[]) U U U D1 U U Hr .nil U) U ?_);refine A4 C6 ?_;refine Aa (Aq (Res.one U (.cell U U C6 U U .nil) U ?_))
 rw [Rf hne h26,Y9 hb0 hb2 hb4 (by intro hh;grind)];rfl
theorem OB (l:List UInt8) (hz:l.length≤1073741824):FnT Z9 171 [.one (.v (.string (bs l)))] (.tup [.agg (BH (Jd l).1),.one (.v (.bool (Jd l).2))]):=by
 refine A8 Aao U (by kernel_rfl) Aap U fun hlen w0=>?_
 try simp [AS,BH] at hlen
 have hsz:=Iy l
 have hcl:=Nv 32 l
 have hcl2:=List.count_le_length (a:=32) (l:=l)
 refine Af (A6 (Bd 2 U U U Dw U U U) U ?_);refine An ?_;refine Aa (Af (Ac (Bm (ps:=[]) U U U Dw U U L3 .nil U) U ?_));refine Cg (i:=7) 20001 4 0 U U U ?_;refine A6 (Bd 4 U U U Dw U U U) U ?_;refine A4 Ck ?_;refine Aa (Af (Ab ?_));refine By (Uo l 32 hz) ?_;refine Ah ?_;refine Aa (Ae (Af (An ?_)));refine Aa (AW.block ?_);refine B9 (fun (k:Nat)=>(k≤(CY 32 l).length∧k≤25)∧True) (fun (k:Nat)=>⟨_,[(6,(true,.a (.one (.t (.v (.int .i64 (k:Nat))))))),(2,_),(3,_),(4,_),(5,_)],[(2,.box [.t (.v (.slice none 0 0))]),(4,.box [.rf 20001]),(20001,.row 4 ((((CY 32 l).take k).map (rdT brS)).map AS))]⟩) (fun (k:Nat)=>(CY 32 l).length-k) (0) ⟨⟨Nat.zero_le _,by omega⟩,Y⟩ Aw ?_
 rintro k ⟨hk,he⟩
 refine Ae (Af (Ab ?_));refine Ab ?_;refine Bi (.t) ZC ?_;refine AWl.lt ?_;refine Ab ?_;refine Cm ?_;refine Ac (MN U (by exact .yes1 U U U U) U (.tmp U (by exact id)) (.const U)) U ?_;refine Cn ?_;refine Aa (Ai (.tm U) (fun h17=>?_) (fun h17=>?_))
 · try simp at h17
   obtain⟨x,hx⟩:∃ ξ,(CY 32 l)[k]?=some ξ:=⟨_,ZF (by omega)⟩
   refine Am (Ae (AW.block (As (Ay [2,3,4,5,6] [2,4,20001]) ?_)));refine As (Ay [2,3,4,5,6] [2,4,20001]) ?_;apply Cr (N:=8) (k:=2) (Hs:=[0,1,2,3,4,5]) (ms:=[[],[6],[6,7]]) (es:=[(0,6,1),(1,7,2)]) (σ1:=_) (SM:=⟨_,[(2,_),(3,_),(4,_),(5,_),(6,_),(20,_),(21,_),(22,_),(23,_),(24,_),(25,_)],[(2,_),(4,_),(20001,_)]⟩)
   case hm=>kernel_rfl
   case hB=>kernel_rfl
   case hP=>kernel_rfl
   case hL=>kernel_rfl
   case hN=>rfl
   case hpre=>
    apply Ax (P:=Z9) 0 rfl ((Bj rfl (.no rfl) rfl (.tm rfl) Dx)) (by exact .pp) rfl rfl rfl;apply Ax (P:=Z9) 1 rfl ((by exact Be rfl (.no rfl) rfl (.tm rfl) rfl HR rfl rfl)) (by exact BM.load (x:=.tmp 20) (.tm rfl) rfl HR rfl rfl) rfl rfl rfl;apply Ax (P:=Z9) 2 rfl (Bh rfl (.no rfl) rfl (.tm rfl)) (by exact BM.slot (t:=5) rfl) rfl rfl rfl;apply Ax (P:=Z9) 3 rfl (Bh rfl (.no rfl) rfl (.tm rfl)) (by exact BM.slot (t:=6) rfl) rfl rfl rfl;apply Ax (P:=Z9) 4 rfl ((by exact Ak rfl (.no rfl) rfl (.tm rfl) (.tm rfl) ZC ty9 (fun _=>⟨by omega,(Ao hx)⟩))) (by exact BM.ix (x:=.tmp 22) (.tm rfl) (y:=.tmp 23) (.tm rfl) ZC ty9 (fun _=>⟨by omega,(Ao hx)⟩)) rfl rfl rfl;apply Ax (P:=Z9) 5 rfl ((by exact Br rfl (.no rfl) rfl (.tm rfl) ty9 rfl rfl)) (by exact BM.ld (x:=.tmp 24) (.tm rfl) rfl rfl) rfl rfl rfl
    exact EC.nil
   case hS=>exact Ba
   case hH=>
    refine AX.fq Dx ?_;refine AX.lq HR ?_;refine AX.mv ?_;refine AX.mv ?_
    refine⟨⟨_,_,_,rfl,rfl,rfl,fun σ' hs=>(by exact Ak rfl (.no rfl) (Ag hs rfl) (.tm (hs.slots _ _ rfl)) (.tm (hs.slots _ _ rfl)) ZC ty9 (fun _=>⟨by omega,(Ao hx)⟩))⟩,?_⟩
    refine⟨⟨_,_,_,rfl,rfl,rfl,fun σ' hs=>(by exact Br rfl (.no rfl) (Ag hs rfl) (.tm (hs.slots _ _ rfl)) ty9 rfl rfl)⟩,?_⟩
    trivial
   apply Dh.new0 (i:=6);rfl;rfl;rfl
   · intro w9 _;refine By (Su x) ?_;exact Al [2,3,4,5,6,20,21,22,23,24,25,26] [2,4,20001]
   intros;exact Ba
   apply Dh.new0 (i:=7);rfl;rfl;rfl
   · intro w9 _;refine Bp (Ce (xs:=[.tmp 26]) 27 U U U (.cons (.tm U) U U .nil) ZA D1 U U U U) U ?_;exact Al [2,3,4,5,6,20,21,22,23,24,25,27] [2,4,20001,27]
   intros;exact Ba
   refine Dh.fin0 (k:=2) rfl ?_;intro  hp
   obtain _:=hp
   refine Bt (B8 U U U (.tm U) U (.tm U) (by exact .rf U) (by rfl) ZA D1 U (by (simp [AH];omega)) (by (unfold maxLen;simp [AH];omega))) U ?_;refine Bv (Ay [2,3,4,5,6,28] [2,4,20001,27]) ?_;refine Bq Dx ?_;refine A4 HR ?_;refine Aa (Ad (Ab ?_));refine A9 ?_;refine Ah ?_;refine Aa ?_
   repeat (with_reducible refine Av ?_)
   refine BF.next (k+1) ⟨⟨by omega,by omega⟩,Y⟩ (by omega) (Au rfl ⟨rfl,rfl,rfl,rfl,rfl,Y⟩ ⟨(by rfl),(by rfl),(by refine congrArg (fun r=>some (R.row 4 r)) ?_;rw [CO hx];simp [AH,AS];done),Y⟩)
 try simp at h17
 refine Bf (Ae (Ae (As (Ay [2,3,4,5,6] [2,4,20001]) ?_)));refine Ad (Bb Ck ?_);refine By (IA ⟨((CY 32 l).take k).map (rdT brS)⟩) ?_;refine Cy ?_;refine Aa (Ai (.tm U) (fun h32=>?_) (fun h32=>?_))
 · try simp at h32
   refine Af (Ac (Bm (ps:=[]) U U U Dw U U L3 .nil U) U ?_);refine Cg (i:=33) 20002 4 0 U U U ?_;refine A4 Ck ?_;refine Bv (Ay [2,3,4,5,6,32] [2,4,20001,20002]) ?_;refine An ?_;refine Aa (Aq (Cd U (.cell U U Ck U U (.tmp U .nil)) U ?_ (by simp)))
   rw [Mw (k:=k) (by omega),if_neg (by simpa using h32)];rfl
 try simp at h32
 refine Am (Af (Bb Ck ?_));refine A4 Ck ?_;refine Bv (Ay [2,3,4,5,6,32] [2,4,20001]) ?_;refine An ?_;refine Aa (Aq (Cd U (.cell U U Ck U U (.tmp U .nil)) U ?_ (by simp)))
 rw [Mw (k:=k) (by omega),if_pos (by simpa using h32)];rfl
end Go.Q
