import Derived.Test.YtdhojcaoljhbiaaGreatOpenBxc
set_option linter.unusedVariables false
set_option linter.unusedSimpArgs false
open Nat renaming blt->Z9,zero_add->ZF,add_mul->ZI,le_refl->ZL,zero_mul->ZT,zero_le->ZV,lt_of_lt_of_le->ZZ,le_trans->Aaa,succ_mul->Aac,min_eq_left->Aae,shiftRight_eq_div_pow->Aag,and_one_is_mod->Aah,div_eq_zero_iff_lt->Aal,sub_sub->Aam,mul_le_mul_right->Aaq
open List renaming getElem?_eq_some_iff->ZA,mem_append->ZC,flatten_append->ZD,length_append->ZG,length_take->ZH,nodup_append->ZJ,toArray->ZM,length_cons->ZN,length_drop->ZO,eq_nil_of_length_eq_zero->ZP,getElem?_eq_getElem->ZQ,all_append->ZR,nodup_nil->ZU,any_cons->ZW,flatten_cons->Aab,mem_of_mem_take->Aad,nodup_cons->Aaf,take_append_drop->Aan,size_toArray->Aao,mem_singleton->Aap,getElem?_eq_none->Aar
open Array renaming getElem?_eq_some_iff->ZB,getElem?_append_left->ZY
open Bool renaming false_eq_true->ZE,or_eq_false_iff->ZX
open BitVec renaming ofInt->ZK,toNat_ofInt->Aai
namespace Go.Q
open Go.RowKit
section
variable {P:Program} {ops:Array Oper} {o:Oper} {σ:St} {q:Bool}
theorem AU.reslot {I:Ip} {w0:BB} {w:World} {a:Act} (h:AU I w0 σ a w) {i:Nat} {x:Bool×S} (hv:VS I w x (a.tmps.getD i undef)):AU I w0 ⟨σ.n,(i,x)::σ.slots,σ.res⟩ a w:=
 ⟨h.ext,h.defers,h.size,fun j y hj=>by
  rw [AF] at hj
  by_cases e:i=j
  · subst e;rw [if_pos rfl] at hj;cases hj;exact hv
  rw [if_neg e] at hj;exact h.slots j y hj,h.res,h.old,h.lt,h.own,h.apart⟩
theorem AU.nilrow {I:Ip} {w0:BB} {w:World} {a:Act} (h:AU I w0 σ a w) {id:Nat} (k:Nat) (hf:σ.has id=false):AU (I.set id [] (.slice none 0 0) 0) w0 (σ.add id (.row k [])) a w:=
 h.addF hf ZU (fun b hb=>by cases hb) (by
  show C true w (.sl k []) _ _
  simp only [Ip.set,if_true]
  unfold C
  exact⟨none,0,0,rfl,rfl,ZL _,ZV _,.inl ⟨rfl,rfl,fun _=>rfl⟩⟩)
theorem Ws {I:Ip} {w:World} {id:Nat} {c:Value} (h:VE I w (.t (.v (.slice none 0 0))) c):VE (I.set id [] (.slice none 0 0) 0) w (.rf id) c:=by
 obtain⟨G,h1,_⟩:=h
 simp only [C] at h1
 refine⟨?_,none,0,0,h1.1⟩
 simp only [Ip.set,if_true];exact h1.1
theorem Qz {I:Ip} {w:World} {id:Nat}:∀ {es:List E} {cs:List Value} {j:Nat},es.any (E.has id)=false→VEs I w es cs→es[j]?=some (.t (.v (.slice none 0 0)))→VEs (I.set id [] (.slice none 0 0) 0) w (es.set j (.rf id)) cs
 | [],_,_,_,_,h=>by simp at h
 | e::es,_,0,hh,⟨c,cr,rfl,h1,h2⟩,h=>by
  simp at h
  subst h
  simp only [ZW,ZX] at hh
  exact⟨c,cr,rfl,Ws h1,h2.set hh.2⟩
 | e::es,_,j+1,hh,⟨c,cr,rfl,h1,h2⟩,h=>by
  simp only [ZW,ZX] at hh
  exact⟨c,cr,rfl,h1.set hh.1,Qz hh.2 h2 (by simpa using h)⟩
variable {w0:BB} {Q:Exit→St→Prop} {n:Nat} {sl:List (Nat×(Bool×S))} {rs:List (Nat×R)} {l:List Oper}
theorem Ch {i:Nat} (id k:Nat) (hi:look sl i=some (true,.a (.one (.t (.v (.slice none 0 0)))))) (hf:St.has ⟨n,sl,rs⟩ id=false) (h:AWl P w0 ops Q l ⟨n,(i,(true,.a (.one (.rf id))))::sl,(id,.row k [])::rs⟩):AWl P w0 ops Q l ⟨n,sl,rs⟩:=fun a w ⟨I,hr⟩=>
 h a w ⟨_,(hr.nilrow k hf).reslot (Ws (hr.slots _ _ hi))⟩
theorem Cg {i:Nat} (id k j:Nat) {es:List E} (hi:look sl i=some (true,.a (.agg es))) (hj:es[j]?=some (.t (.v (.slice none 0 0)))) (hf:St.has ⟨n,sl,rs⟩ id=false) (h:AWl P w0 ops Q l ⟨n,(i,(true,.a (.agg (es.set j (.rf id)))))::sl,(id,.row k [])::rs⟩):AWl P w0 ops Q l ⟨n,sl,rs⟩:=fun a w ⟨I,hr⟩=>by
 have hh:=St.has_slot hf hi
 obtain⟨cs,h1,h2⟩:=hr.slots _ _ hi
 exact h a w ⟨_,(hr.nilrow k hf).reslot ⟨cs,h1,Qz (by simpa [S.has,A.has] using hh) h2 hj⟩⟩
theorem Cz {b:Nat} (id k j:Nat) {cs:List E} (hb:look rs b=some (.box cs)) (hj:cs[j]?=some (.t (.v (.slice none 0 0)))) (hf:St.has ⟨n,sl,rs⟩ id=false) (h:AWl P w0 ops Q l ⟨n,sl,(id,.row k [])::FA rs b (.box (cs.set j (.rf id)))⟩):AWl P w0 ops Q l ⟨n,sl,rs⟩:=fun a w ⟨I,hr⟩=>by
 have hh:=St.has_res hf hb
 have hne:id≠b:=fun e=>hh.1 e.symm
 have hr':=(hr.nilrow k hf)
 have hb':look (St.add ⟨n,sl,rs⟩ id (.row k [])).res b=some (.box cs):=by
  rw [St.add,AF,if_neg hne];exact hb
 refine h a w ⟨I.set id [] (.slice none 0 0) 0,?_⟩
 have hr0:AU (I.set id [] (.slice none 0 0) 0) w0 ⟨n,sl,FA ((id,.row k [])::rs) b (.box (cs.set j (.rf id)))⟩ a w:=by
  have key:∀ i r,look (FA ((id,R.row k [])::rs) b (.box (cs.set j (.rf id)))) i=some r→(i=b∧r=.box (cs.set j (.rf id)))∨look ((id,R.row k [])::rs) i=some r:=fun i r hi=>by
   rcases HA _ _ _ _ _ hi with ⟨h1,h2,_⟩|⟨_,h2⟩
   · exact .inl ⟨h1,h2⟩
   exact .inr h2
  refine⟨hr'.ext,hr'.defers,hr'.size,hr'.slots,fun i r hi=>?_,hr'.old,hr'.lt,fun i r hi=>?_,hr'.apart⟩
  · rcases key i r hi with ⟨rfl,rfl⟩|hi
    · obtain⟨h1,vs,e,h2,h3⟩:=hr.res _ _ hb
      refine⟨by simp only [Ip.set,if_neg hh.1];exact h1,vs,e,by simp only [Ip.set,if_neg hh.1];exact h2,Qz (by simpa [R.has] using hh.2) h3 hj⟩
    exact hr'.res i r hi
  rcases key i r hi with ⟨rfl,rfl⟩|hi
  · exact hr'.own _ _ hb'
  exact hr'.own i r hi
 have e:FA ((id,R.row k [])::rs) b (.box (cs.set j (.rf id)))=(id,.row k [])::FA rs b (.box (cs.set j (.rf id))):=by
  rw [FA,Fw hne];rfl
 rw [←e];exact hr0
theorem Bv {σ':St} (hl:Le σ σ') (h:AWl P w0 ops Q l σ'):AWl P w0 ops Q l σ:=fun a w hr=>h a w (hl w0 a w hr)
theorem Av {id:Nat} (h:Q .normal σ):I8 id Q .normal σ:=h
def BF {β1:Type} (Inv:β1→Prop) (J:β1→St) (m:β1→Nat) (a1:β1) (Q:Exit→St→Prop):Exit→St→Prop:=EX (β:=β1) (fun x=>Inv x) (fun x=>J x) (fun x=>m x) a1 Q
theorem B9 {β1:Type} (Inv:β1→Prop) (J:β1→St) (m:β1→Nat) (y1:β1) {c:Code} (h0:Inv y1) (hs:Le σ (J y1)) (round:∀ a1,Inv a1→AW P w0 c (BF Inv J m a1 Q) (J a1)):AW P w0 (.loop c) Q σ:=
 De (β:=β1) (fun x=>Inv x) (fun x=>J x) (fun x=>m x) y1 h0 hs fun x h=>round x h
theorem BF.next {β1:Type} {Inv:β1→Prop} {J:β1→St} {m:β1→Nat} {a1:β1} (y1:β1) (h1:Inv y1) (h2:m y1<m a1) (h3:Le σ (J y1)):BF Inv J m a1 Q .normal σ:=⟨y1,h1,h2,h3⟩
def BV {β1 β2:Type} (Inv:β1→β2→Prop) (J:β1→β2→St) (m:β1→β2→Nat) (a1:β1) (a2:β2) (Q:Exit→St→Prop):Exit→St→Prop:=EX (β:=β1×β2) (fun x=>Inv x.1 x.2) (fun x=>J x.1 x.2) (fun x=>m x.1 x.2) (a1,a2) Q
theorem Cp {β1 β2:Type} (Inv:β1→β2→Prop) (J:β1→β2→St) (m:β1→β2→Nat) (y1:β1) (y2:β2) {c:Code} (h0:Inv y1 y2) (hs:Le σ (J y1 y2)) (round:∀ a1 a2,Inv a1 a2→AW P w0 c (BV Inv J m a1 a2 Q) (J a1 a2)):AW P w0 (.loop c) Q σ:=
 De (β:=β1×β2) (fun x=>Inv x.1 x.2) (fun x=>J x.1 x.2) (fun x=>m x.1 x.2) (y1,y2) h0 hs fun x h=>round (x.1) (x.2) h
theorem BV.next {β1 β2:Type} {Inv:β1→β2→Prop} {J:β1→β2→St} {m:β1→β2→Nat} {a1:β1} {a2:β2} (y1:β1) (y2:β2) (h1:Inv y1 y2) (h2:m y1 y2<m a1 a2) (h3:Le σ (J y1 y2)):BV Inv J m a1 a2 Q .normal σ:=⟨(y1,y2),h1,h2,h3⟩
def Ef {β1 β2 β3:Type} (Inv:β1→β2→β3→Prop) (J:β1→β2→β3→St) (m:β1→β2→β3→Nat) (a1:β1) (a2:β2) (a3:β3) (Q:Exit→St→Prop):Exit→St→Prop:=EX (β:=β1×β2×β3) (fun x=>Inv x.1 x.2.1 x.2.2) (fun x=>J x.1 x.2.1 x.2.2) (fun x=>m x.1 x.2.1 x.2.2) (a1,a2,a3) Q
theorem Dz {β1 β2 β3:Type} (Inv:β1→β2→β3→Prop) (J:β1→β2→β3→St) (m:β1→β2→β3→Nat) (y1:β1) (y2:β2) (y3:β3) {c:Code} (h0:Inv y1 y2 y3) (hs:Le σ (J y1 y2 y3)) (round:∀ a1 a2 a3,Inv a1 a2 a3→AW P w0 c (Ef Inv J m a1 a2 a3 Q) (J a1 a2 a3)):AW P w0 (.loop c) Q σ:=
 De (β:=β1×β2×β3) (fun x=>Inv x.1 x.2.1 x.2.2) (fun x=>J x.1 x.2.1 x.2.2) (fun x=>m x.1 x.2.1 x.2.2) (y1,y2,y3) h0 hs fun x h=>round (x.1) (x.2.1) (x.2.2) h
theorem Ef.next {β1 β2 β3:Type} {Inv:β1→β2→β3→Prop} {J:β1→β2→β3→St} {m:β1→β2→β3→Nat} {a1:β1} {a2:β2} {a3:β3} (y1:β1) (y2:β2) (y3:β3) (h1:Inv y1 y2 y3) (h2:m y1 y2 y3<m a1 a2 a3) (h3:Le σ (J y1 y2 y3)):Ef Inv J m a1 a2 a3 Q .normal σ:=⟨(y1,y2,y3),h1,h2,h3⟩
def Jz {β1 β2 β3 β4:Type} (Inv:β1→β2→β3→β4→Prop) (J:β1→β2→β3→β4→St) (m:β1→β2→β3→β4→Nat) (a1:β1) (a2:β2) (a3:β3) (a4:β4) (Q:Exit→St→Prop):Exit→St→Prop:=EX (β:=β1×β2×β3×β4) (fun x=>Inv x.1 x.2.1 x.2.2.1 x.2.2.2) (fun x=>J x.1 x.2.1 x.2.2.1 x.2.2.2) (fun x=>m x.1 x.2.1 x.2.2.1 x.2.2.2) (a1,a2,a3,a4) Q
theorem AW.loop4 {β1 β2 β3 β4:Type} (Inv:β1→β2→β3→β4→Prop) (J:β1→β2→β3→β4→St) (m:β1→β2→β3→β4→Nat) (y1:β1) (y2:β2) (y3:β3) (y4:β4) {c:Code} (h0:Inv y1 y2 y3 y4) (hs:Le σ (J y1 y2 y3 y4)) (round:∀ a1 a2 a3 a4,Inv a1 a2 a3 a4→AW P w0 c (Jz Inv J m a1 a2 a3 a4 Q) (J a1 a2 a3 a4)):AW P w0 (.loop c) Q σ:=
 De (β:=β1×β2×β3×β4) (fun x=>Inv x.1 x.2.1 x.2.2.1 x.2.2.2) (fun x=>J x.1 x.2.1 x.2.2.1 x.2.2.2) (fun x=>m x.1 x.2.1 x.2.2.1 x.2.2.2) (y1,y2,y3,y4) h0 hs fun x h=>round (x.1) (x.2.1) (x.2.2.1) (x.2.2.2) h
theorem Jz.next {β1 β2 β3 β4:Type} {Inv:β1→β2→β3→β4→Prop} {J:β1→β2→β3→β4→St} {m:β1→β2→β3→β4→Nat} {a1:β1} {a2:β2} {a3:β3} {a4:β4} (y1:β1) (y2:β2) (y3:β3) (y4:β4) (h1:Inv y1 y2 y3 y4) (h2:m y1 y2 y3 y4<m a1 a2 a3 a4) (h3:Le σ (J y1 y2 y3 y4)):Jz Inv J m a1 a2 a3 a4 Q .normal σ:=⟨(y1,y2,y3,y4),h1,h2,h3⟩
def Jy {β1 β2 β3 β4 β5:Type} (Inv:β1→β2→β3→β4→β5→Prop) (J:β1→β2→β3→β4→β5→St) (m:β1→β2→β3→β4→β5→Nat) (a1:β1) (a2:β2) (a3:β3) (a4:β4) (a5:β5) (Q:Exit→St→Prop):Exit→St→Prop:=EX (β:=β1×β2×β3×β4×β5) (fun x=>Inv x.1 x.2.1 x.2.2.1 x.2.2.2.1 x.2.2.2.2) (fun x=>J x.1 x.2.1 x.2.2.1 x.2.2.2.1 x.2.2.2.2) (fun x=>m x.1 x.2.1 x.2.2.1 x.2.2.2.1 x.2.2.2.2) (a1,a2,a3,a4,a5) Q
theorem AW.loop5 {β1 β2 β3 β4 β5:Type} (Inv:β1→β2→β3→β4→β5→Prop) (J:β1→β2→β3→β4→β5→St) (m:β1→β2→β3→β4→β5→Nat) (y1:β1) (y2:β2) (y3:β3) (y4:β4) (y5:β5) {c:Code} (h0:Inv y1 y2 y3 y4 y5) (hs:Le σ (J y1 y2 y3 y4 y5)) (round:∀ a1 a2 a3 a4 a5,Inv a1 a2 a3 a4 a5→AW P w0 c (Jy Inv J m a1 a2 a3 a4 a5 Q) (J a1 a2 a3 a4 a5)):AW P w0 (.loop c) Q σ:=
 De (β:=β1×β2×β3×β4×β5) (fun x=>Inv x.1 x.2.1 x.2.2.1 x.2.2.2.1 x.2.2.2.2) (fun x=>J x.1 x.2.1 x.2.2.1 x.2.2.2.1 x.2.2.2.2) (fun x=>m x.1 x.2.1 x.2.2.1 x.2.2.2.1 x.2.2.2.2) (y1,y2,y3,y4,y5) h0 hs fun x h=>round (x.1) (x.2.1) (x.2.2.1) (x.2.2.2.1) (x.2.2.2.2) h
theorem Jy.next {β1 β2 β3 β4 β5:Type} {Inv:β1→β2→β3→β4→β5→Prop} {J:β1→β2→β3→β4→β5→St} {m:β1→β2→β3→β4→β5→Nat} {a1:β1} {a2:β2} {a3:β3} {a4:β4} {a5:β5} (y1:β1) (y2:β2) (y3:β3) (y4:β4) (y5:β5) (h1:Inv y1 y2 y3 y4 y5) (h2:m y1 y2 y3 y4 y5<m a1 a2 a3 a4 a5) (h3:Le σ (J y1 y2 y3 y4 y5)):Jy Inv J m a1 a2 a3 a4 a5 Q .normal σ:=⟨(y1,y2,y3,y4,y5),h1,h2,h3⟩
end
section
variable {P:Program} {ops:Array Oper} {o:Oper} {σ:St} {q:Bool}
def V0c (w:World) (FF:List Nat):List (Bool×V0)→List Value→List Nat→Prop
 | [],vs,F=>vs=[]∧F=[]
 | (o,x)::r,vs,F=>∃ v vr G1 G2,vs=v::vr∧V0r o w x v G1∧V0c w FF r vr G2∧(if o=true then F=G1++G2 else F=G2∧∀ b∈G1,b∉FF)
def Uj (w:World) (out:V) (F:List Nat) (e:Ending) (w':World):Prop:=
 ∃ v F',e=.returned v∧Vr true w' out v F'∧F'.Nodup∧(∀ b∈F',(w.heap.size≤b∨b∈F)∧DJ w' b)∧Chg w w' F
def FnC (P:Program) (f:FuncId) (ins:List (Bool×V0)) (out:V):Prop:=Ek P f∧∀ w vs F,Good w F→V0c w F ins vs F→F.Nodup→(∀ b∈F,DJ w b)→Calls P f (ZM vs) w (Uj w out F)
theorem V0c.len {w:World} {FF:List Nat}:∀ {ins:List (Bool×V0)} {vs:List Value} {F:List Nat},V0c w FF ins vs F→vs.length=ins.length
 | [],_,_,⟨h,_⟩=>by subst h;rfl
 | (_,_)::_,_,_,⟨v,vr,_,_,rfl,_,h,_⟩=>by simp [h.len]
theorem V0c.sub {w:World} {FF:List Nat}:∀ {ins:List (Bool×V0)} {vs:List Value} {F:List Nat},V0c w FF ins vs F→∀ b∈F,b<w.heap.size
 | [],_,_,⟨_,h⟩,b,hb=>by subst h;cases hb
 | (o,x)::r,_,F,⟨v,vr,G1,G2,rfl,h1,h2,h3⟩,b,hb=>by
  cases o with
  | true=>
   simp only [if_true] at h3
   subst h3
   rcases ZC.1 hb with hb|hb
   · exact h1.lt b hb
   exact h2.sub b hb
  | false=>
   simp only [ZE,if_false] at h3
   rw [h3.1] at hb
   exact h2.sub b hb
def IE:Nat→List (Bool×V0)→St→Option St
 | _,[],σ=>some σ
 | i,(false,x)::r,σ=>IE (i+1) r ⟨σ.n,(i,(true,.a (inA x)))::σ.slots,σ.res⟩
 | i,(true,x)::r,σ=>match Pi (1000+50*i) x with
  | some (y,rs)=>bif (rs.all fun x=>!σ.has x.1) then IE (i+1) r ⟨σ.n,(i,(true,.a y))::σ.slots,Ee rs σ.res⟩ else none
  | none=>none
theorem FZ {w0:BB} {w:World} {a:Act} {FF:List Nat} (hZ0:∀ b,b<w.heap.size→b∉FF→True):∀ {ins:List (Bool×V0)} {i:Nat} {σ σ':St} {I:Ip} {vs:List Value} {F:List Nat},IE i ins σ=some σ'→AU I w0 σ a w→(∀ b,b<w.heap.size→b∉FF→I.Z b)→V0c w FF ins vs F→F.Nodup→(∀ b∈F,EK I w0 w b)→(∀ j v,vs[j]?=some v→a.tmps.getD (i+j) undef=v)→
 ∃ I',AU I' w0 σ' a w
 | [],i,σ,σ',I,vs,F,h,hr,_,_,_,_,_=>by simp only [IE,Option.some.injEq] at h;subst h;exact⟨I,hr⟩
 | (false,x)::r,i,σ,σ',I,vs,F,h,hr,hZ,⟨v,vr,G1,G2,e,h1,h2,h3⟩,hn,hf,hv=>by
  subst e
  rw [IE] at h
  simp only [ZE,if_false] at h3
  obtain⟨rfl,h3⟩:=h3
  refine FZ hZ0 h (hr.reslot ?_) hZ h2 hn hf fun j u hj=>?_
  · rw [show a.tmps.getD i undef=v from hv 0 v rfl]
    exact Q2 h1 fun b hb=>hZ b (h1.lt b hb) (h3 b hb)
  rw [show i+1+j=i+(j+1) by omega];exact hv (j+1) u (by simpa using hj)
 | (true,x)::r,i,σ,σ',I,vs,F,h,hr,hZ,⟨v,vr,G1,G2,e,h1,h2,h3⟩,hn,hf,hv=>by
  subst e
  rw [IE] at h
  simp only [if_true] at h3
  subst h3
  split at h
  · rename_i y rs hy
    cases hb:(rs.all fun x=>!σ.has x.1) with
    | false=>rw [hb] at h;cases h
    | true=>
     rw [hb] at h
     obtain⟨n1,n2,n3⟩:=ZJ.1 hn
     obtain⟨I1,r1,r2,r3,r4⟩:=NG hy hb hr h1 n1 fun b hb=>hf b (by simp [hb])
     have e1:σ.adds rs=⟨σ.n,σ.slots,Ee rs σ.res⟩:=I6 rs σ.n σ.slots σ.res
     rw [e1] at r1
     refine FZ hZ0 (σ:=⟨σ.n,(i,(true,.a y))::σ.slots,Ee rs σ.res⟩) h (r1.reslot ?_) (by rw [r3.1];exact hZ) h2 n2 (fun b hb=>r4 b (hf b (by simp [hb])) fun hm=>n3 b hm b hb rfl) fun j u hj=>?_
     · rw [show a.tmps.getD i undef=v from hv 0 v rfl];exact r2
     rw [show i+1+j=i+(j+1) by omega];exact hv (j+1) u (by simpa using hj)
  cases h
theorem FnC.walk {n:Nat} {f:FuncId} {fn:Func} {c:Code} {ins:List (Bool×V0)} {out:V} {σ':St} (hf:P.funcs[f]?=some fn) (hb:fn.body=some c) (hname:(fn.name == "runtime.NumGoroutine")=false) (hnt:fn.ntmps=n) (hn:Nat.ble ins.length n=true) (hi:IE 0 ins ⟨n,[],[]⟩=some σ')
 (h:∀ w0,AW P w0 c (Th P fn true out) σ'):FnC P f ins out:=by
 subst hnt
 refine⟨⟨fn,hf,hname,by rw [hb];rfl⟩,fun w vs F hG hv hnd hth=>?_⟩
 have hl:=hv.len
 have hn':ins.length≤fn.ntmps:=Nat.le_of_ble_eq_true hn
 have hlt:=hv.sub
 let a0:Act:=⟨(ZM vs)++Array.replicate (fn.ntmps-(ZM vs).size) undef,[]⟩
 let I0:Ip:=⟨fun b=>b<w.heap.size∧b∉F,fun _=>[],fun _=>undef,fun _=>0⟩
 have hr0:AU I0 ⟨w,F,hG⟩ ⟨fn.ntmps,[],[]⟩ a0 w:=by
  refine⟨Chg.refl w F,rfl,by simp [a0,hl];omega,fun i z hi=>(by cases hi),fun id r hi=>(by cases hi),fun b hb=>hb.1,fun id b hb=>(by cases hb),fun id r hi=>(by cases hi),fun i j _ b hb=>(by cases hb)⟩
 obtain⟨I1,r1⟩:=FZ (fun _ _ _=>trivial) hi hr0 (fun b h1 h2=>⟨h1,h2⟩) hv hnd (fun b hb=>⟨.inr hb,hlt b hb,hth b hb,fun hz=>hz.2 hb,fun i hi=>by cases hi⟩) fun j v hj=>by
  have hjl:j<vs.length:=(ZA.1 hj).1
  simp only [ZF,a0]
  rw [Array.getD_eq_getD_getElem?,ZY (by simpa using hjl)]
  simp [hj]
 refine calls_of_wp hf hb (Code.wp_mono ?_ (h ⟨w,F,hG⟩ _ _ ⟨_,r1⟩))
 rintro e a' w' ⟨σ1,h1,I,hI⟩
 have key:Res P fn true out σ1→a'.defers=[]∧∃ v',(results fn a'.tmps).run P w'=.ok v' w'∧Uj w out F (.returned v') w':=fun h1=>by
  obtain⟨v',F',g1,g2,g3,g4⟩:=h1 I ⟨w,F,hG⟩ a' w' hI
  exact⟨hI.defers,v',g1,v',F',rfl,g2,(g4 rfl).1,fun b hb=>⟨g3 b hb,(g4 rfl).2 b hb⟩,hI.ext⟩
 cases e with
 | normal=>exact key h1
 | ret=>exact key h1
 | exit id=>exact h1.elim
 | goto l=>exact h1.elim
 | panic c=>exact h1.elim
 | outgrown=>exact h1.elim
theorem AU.chgF {I:Ip} {w0:BB} {w w':World} {a:Act} (h:AU I w0 σ a w) {G:List Nat} (hG:∀ b∈G,EK I w0 w b) (hc:Chg w w' G):AU I w0 σ a w':=by
 have hZ:∀ b,I.Z b→b∉G:=fun b hz hb=>(hG b hb).2.2.2.1 hz
 have hv:∀ i,∀ b∈I.F i,b∉G:=fun i b hb hg=>(hG b hg).2.2.2.2 i hb
 have hm:∀ i,BI [] i=false→∀ b∈I.F i,b∉G:=fun i _=>hv i
 have hI:I.newF [] I.F=I:=by unfold Ip.newF;congr 1
 have hE:∀ e:E,e.puvL []=e:=fun e=>by cases e<;>rfl
 have hA:∀ e:A,e.puvL []=e:=fun e=>by
  cases e with
  | one e=>simp only [A.puvL,hE]
  | agg l=>simp only [A.puvL];rw [EH fun e _=>hE e]
 have hS:∀ e:S,e.puvL []=e:=fun e=>by
  cases e with
  | a x=>simp only [S.puvL,hA]
  | tup l=>simp only [S.puvL];rw [EH fun e _=>hA e]
 refine⟨Chg.ext h.ext hc fun b hb=>(hG b hb).1,h.defers,h.size,fun i x hi=>?_,fun i r hi=>?_,fun b hb=>ZZ (h.old b hb) hc.size,fun i b hb=>⟨ZZ (h.lt i b hb).1 hc.size,(h.lt i b hb).2⟩,fun i r hi=>⟨(h.own i r hi).1,fun b hb=>⟨((h.own i r hi).2 b hb).1,((h.own i r hi).2 b hb).2.chg hc (hv i b hb)⟩⟩,h.apart⟩
 · have:=(h.slots i x hi).puvL (NF:=I.F) hc hZ hm
   rw [hI,hS] at this
   exact this
 have:=h.res i r hi
 cases r with
 | row k rows=>
  have this:C true w (.sl k rows) (I.hd i) (I.F i):=this
  exact (this.congr fun b hb=>hc.block b (this.lt b hb) (hv i b hb):C true w' (.sl k rows) (I.hd i) (I.F i))
 | box cs=>
  obtain⟨h1,vs,t,h2,h3⟩:=this
  refine⟨h1,vs,t,?_,?_⟩
  · exact (hc.block _ (ZB.1 h2).1 (hv i _ (by rw [h1];simp))).trans h2
  have:=h3.puvL (NF:=I.F) hc hZ hm
  rw [hI,EH fun e _=>hE e] at this
  exact this
 | hdr j x=>exact this
 | blk j b=>exact this
 | opq=>trivial
 | cur g=>
  have this:I.F i=[g.1]∧I.B i=g.1∧CuB I.Z w g:=this
  exact⟨this.1,this.2.1,this.2.2.congr (hc.block _ this.2.2.lt (hv i _ (by rw [this.1];simp))) fun b hb hz=>⟨hz,hc.block b hb (hZ b hz)⟩⟩
 | mp b f=>
  have this:I.F i=[b]∧FL w b f:=this
  exact⟨this.1,this.2.congr (hc.block _ this.2.lt (hv i _ (by rw [this.1];simp)))⟩
 | kept K=>exact⟨this.1,fun x hx=>⟨(hc.block x.1 (h.old _ (this.2 x hx).2) (hZ _ (this.2 x hx).2)).trans (this.2 x hx).1,(this.2 x hx).2⟩⟩
inductive FC (σ:St):List Operand→List (Bool×V0)→Prop where
 | nil:FC σ [] []
 | cons {x:Operand} {A0:A} {ts:List T} {l:List Operand} {ins:List (Bool×V0)} (hx:Get σ true x A0) (hts:BK A0=ts.map .t) (h:FC σ l ins):FC σ (x::l) ((false,Tg A0 ts)::ins)
inductive IM (σ:St) (xo:Operand) (x0:V0):List Operand→List (Bool×V0)→Prop where
 | own {l:List Operand} {ins:List (Bool×V0)} (h:FC σ l ins):IM σ xo x0 (xo::l) ((true,x0)::ins)
 | cons {x:Operand} {A0:A} {ts:List T} {l:List Operand} {ins:List (Bool×V0)} (hx:Get σ true x A0) (hts:BK A0=ts.map .t) (h:IM σ xo x0 l ins):IM σ xo x0 (x::l) ((false,Tg A0 ts)::ins)
theorem FC.one {σ:St} {x:Operand} {t:T} {l:List Operand} {ins:List (Bool×V0)} (hx:Get σ true x (.one (.t t))) (h:FC σ l ins):FC σ (x::l) ((false,.one t)::ins):=.cons (ts:=[t]) hx rfl h
theorem FC.agg {σ:St} {x:Operand} {ts:List T} {l:List Operand} {ins:List (Bool×V0)} (hx:Get σ true x (.agg (ts.map .t))) (h:FC σ l ins):FC σ (x::l) ((false,.agg ts)::ins):=.cons hx rfl h
theorem IM.one {σ:St} {xo x:Operand} {x0:V0} {t:T} {l:List Operand} {ins:List (Bool×V0)} (hx:Get σ true x (.one (.t t))) (h:IM σ xo x0 l ins):IM σ xo x0 (x::l) ((false,.one t)::ins):=.cons (ts:=[t]) hx rfl h
theorem IM.agg {σ:St} {xo x:Operand} {x0:V0} {ts:List T} {l:List Operand} {ins:List (Bool×V0)} (hx:Get σ true x (.agg (ts.map .t))) (h:IM σ xo x0 l ins):IM σ xo x0 (x::l) ((false,.agg ts)::ins):=.cons hx rfl h
theorem Yc {I:Ip} {w:World}:∀ {ts:List T} {cs:List Value},VEs I w (ts.map .t) cs→∃ G,Cs false w ts cs G∧∀ b∈G,I.Z b
 | [],cs,h=>⟨[],by unfold Cs;exact⟨h,rfl⟩,by simp⟩
 | t::ts,cs,⟨c,cr,e,⟨G1,h1,h2⟩,h3⟩=>by
  obtain⟨G2,g1,g2⟩:=Yc h3
  exact⟨G1++G2,by unfold Cs;exact⟨c,cr,G1,G2,e,h1,g1,rfl⟩,fun b hb=>by rcases ZC.1 hb with hb|hb;exact h2 b hb;exact g2 b hb⟩
theorem Vk {I:Ip} {w0:BB} {w:World} {a:Act} (hr:AU I w0 σ a w) {x:Operand} {A0:A} {ts:List T} (hx:Get σ true x A0) (hts:BK A0=ts.map .t):∃ G,V0r false w (Tg A0 ts) (a.eval x) G∧∀ b∈G,I.Z b:=by
 have hv:=hx.va hr rfl
 obtain⟨cs,h1,h2⟩:=Tf hv
 rw [hts] at h1
 obtain⟨G,g1,g2⟩:=Yc h1
 exact⟨G,(h2 (by rw [hts];simp)).2 g1,g2⟩
theorem FC.ok {I:Ip} {w0:BB} {w:World} {a:Act} (hr:AU I w0 σ a w) {FF:List Nat} (hZ:∀ b,I.Z b→b∉FF) {l:List Operand} {ins:List (Bool×V0)} (h:FC σ l ins):V0c w FF ins (l.map a.eval) []:=by
 induction h with
 | nil=>exact⟨rfl,rfl⟩
 | cons hx hts h ih=>
  obtain⟨G,g1,g2⟩:=Vk hr hx hts
  exact⟨_,_,G,[],rfl,g1,ih,by simp only [ZE,if_false];exact⟨trivial,fun b hb=>hZ b (g2 b hb)⟩⟩
theorem IM.ok {I:Ip} {w0:BB} {w:World} {a:Act} (hr:AU I w0 σ a w) {F:List Nat} (hZ:∀ b,I.Z b→b∉F) {xo:Operand} {x0:V0} (hx0:V0r true w x0 (a.eval xo) F) {l:List Operand} {ins:List (Bool×V0)} (h:IM σ xo x0 l ins):V0c w F ins (l.map a.eval) F:=by
 induction h with
 | own h=>exact⟨_,_,F,[],rfl,hx0,h.ok hr hZ,by simp⟩
 | cons hx hts h ih=>
  obtain⟨G,g1,g2⟩:=Vk hr hx hts
  exact⟨_,_,G,F,rfl,g1,ih,by simp only [ZE,if_false];exact⟨trivial,fun b hb=>hZ b (g2 b hb)⟩⟩
theorem G9 {f:FuncId} {xo:Operand} {l:List Operand} {tys:Array TypeId} {ins:List (Bool×V0)} {out:V} {A0:A} {ts:List T} {σ':St} {y:S} {rs:List (Nat×R)} (n:Nat) (h:FnC P f ins out) (ho:o.op=.call { callee:=.value (.func f),args:=l.toArray,argTypes:=tys }) (hg:o.guard=none) (hd:o.dst.all (fun d=>Z9 d σ.n)=true)
 (hx:Get σ true xo A0) (ha:absorb σ (BK A0)=some (σ',ts)) (hl:Nat.beq ts.length (BK A0).length=true) (hargs:IM σ' xo (Tg A0 ts) l ins) (hout:OE n out=some (y,rs)) (hf:(rs.all fun x=>!σ'.has x.1)=true):Op1 P ops o σ ((σ'.adds rs).put o.dst (true,y)):=by
 rintro w0 a w ⟨I,hr⟩ K Q hK
 simp only [Region.wanted,hg,if_true]
 obtain⟨cs,hes,hcs⟩:=Tf (hx.va hr rfl)
 obtain⟨I',G,r1,r2,r3,r4,_⟩:=AU.absorb ha hr hes
 have hx0:=(hcs (oo:=true) (w':=w) (F:=G) (Nat.eq_of_beq_eq_true hl)).2 r2
 have hZ:∀ b,I'.Z b→b∉G:=fun b hz hb=>(r4 b hb).2.2.2.1 hz
 have hc:=hargs.ok r1 hZ hx0
 unfold Oper.wp
 rw [Et h.1 ho]
 refine (h.2 w _ G (r1.goodF fun b hb=>(r4 b hb).1) hc r3 fun b hb=>(r4 b hb).2.2.1).mono fun e w' hR=>?_
 obtain⟨v,F',rfl,h1,h2,h3,h4⟩:=hR
 have r1':=r1.chgF r4 h4
 have hfree:∀ b∈F',EK I' w0 w' b:=fun b hb=>by
  rcases (h3 b hb).1 with g|g
  · exact⟨.inl (Aaa r1.ext.size g),Vr.lt h1 b hb,(h3 b hb).2,fun hz=>by have:=r1.old b hz;omega,fun i hi=>by have:=(r1.lt i b hi).1;omega⟩
  exact⟨(r4 b g).1,Vr.lt h1 b hb,(h3 b hb).2,(r4 b g).2.2.2.1,(r4 b g).2.2.2.2⟩
 obtain⟨I2,g1,g2⟩:=JG hout hf r1' h1 h2 hfree
 refine hK _ _ ⟨I2,g1.put ?_ g2⟩
 have e1:(σ'.adds rs).n=σ'.n:=KG rs
 rw [e1,Lw ha];exact hd
variable {w0:BB} {Q:Exit→St→Prop} {n:Nat} {sl:List (Nat×(Bool×S))} {rs:List (Nat×R)} {l:List Oper}
theorem Ec {d:Nat} {rl:List (Nat×R)} {σ':St} {x:Bool×S} (ho:Op1 P ops o ⟨n,sl,rs⟩ ((σ'.adds rl).put o.dst x)) (hd:o.dst=some d) (h:AWl P w0 ops Q l ⟨σ'.n,(d,x)::σ'.slots,Ee rl σ'.res⟩):AWl P w0 ops Q (o::l) ⟨n,sl,rs⟩:=
 AWl.op ho (by rw [hd,show σ'=⟨σ'.n,σ'.slots,σ'.res⟩ from rfl,I6];exact h)
end
section
variable {P:Program} {ops:Array Oper} {o:Oper} {σ:St} {q:Bool}
variable {w0:BB} {Q:Exit→St→Prop} {n:Nat} {sl:List (Nat×(Bool×S))} {rs:List (Nat×R)} {l:List Oper}
theorem AU.take {I:Ip} {w:World} {a:Act} {id k i p k2:Nat} (nid:Nat) {rows rows2:List (List T)} {row:List T} (hr:AU I w0 ⟨n,sl,rs⟩ a w) (hs:look rs id=some (.row k rows)) (hi:rows[i]?=some row) (hp:row[p]?=some (.sl k2 rows2))
 (hf:∀ c0,St.has ⟨n,S8 id sl,So id (.row k (rows.set i (row.take p++.v c0::row.drop (p+1)))) rs⟩ nid=false) :
 ∃ c I',(∃ a l k,c=.slice a l k)∧AU I' w0 ⟨n,S8 id sl,(nid,.row k2 rows2)::So id (.row k (rows.set i (row.take p++.v c::row.drop (p+1)))) rs⟩ a w∧I'.hd nid=c∧∀ g n' m',I.hd id=.slice (some ⟨g,0,none⟩) n' m'→w.cell? ⟨g,i*k+p,none⟩=some c:=by
 have hC:C true w (.sl k rows) _ _:=hr.res id _ hs
 have own:=hr.own id _ hs
 simp only [C] at hC
 obtain⟨a0,len,cap,g1,g2,g3,g4,g5⟩:=hC
 have hlti:i<rows.length:=(ZA.1 hi).1
 rcases g5 with ⟨g5,_⟩|⟨g,off,Gr,rfl,hF,g6,g7,g8⟩
 · omega
 obtain⟨rfl,cur,e,hcur,hcs⟩:=g7 trivial
 have hg1:=g1
 rw [hF] at own
 obtain⟨u1,xs,u2,u3,u4⟩:=g8.flat
 simp only [ZF] at u4
 obtain⟨p1,_⟩:=FD (.sl k2 rows2:T) hp
 have hrk:row.length=k:=u1 row (List.mem_of_getElem? hi)
 have hpl:p<row.length:=(ZA.1 hp).1
 have s1:=(FD row hi).1
 have e1:rows.flatten=((rows.take i).flatten++row.take p)++([.sl k2 rows2]++(row.drop (p+1)++(rows.drop (i+1)).flatten)):=by
  conv=>lhs;rw [s1,p1]
  simp
 rw [e1] at u2
 obtain⟨x1,x23,F1,F23,rfl,rfl,v1,v2,v3⟩:=u2.split
 obtain⟨x2,x3,F2,F3,rfl,rfl,v4,v5,v6⟩:=v2.split
 match x2,v6 with
 | [c],_=>
 have v4':C true w (.sl k2 rows2) c F2:=by
  rw [Cs] at v4
  obtain⟨c',cr,G1,G2,e,h1,h2,rfl⟩:=v4
  cases e
  rw [Cs] at h2
  obtain⟨_,rfl⟩:=h2
  simpa using h1
 have hfl:((rows.take i).flatten).length=i*k:=by
  have key:∀ (l:List (List T)),(∀ r∈l,r.length=k)→l.flatten.length=l.length*k:=by
   intro l
   induction l with
   | nil=>intro _;simp
   | cons r l ih=>intro h;rw [Aab,ZG,ih fun r hr=>h r (by simp [hr]),h r (by simp),ZN,Aac];omega
  rw [key _ fun r hr=>u1 r (Aad hr),ZH,Aae (Nat.le_of_lt hlti)]
 have lx1:x1.length=i*k+p:=by rw [v3,ZG,hfl,ZH];omega
 have hc:=u4 (i*k+p) c (by rw [←lx1,List.getElem?_append_right (ZL _),Nat.sub_self];rfl)
 have hsl:∃ a l k,c=.slice a l k:=by
  simp only [C] at v4'
  obtain⟨a1,l1,c1,e,_⟩:=v4'
  exact⟨_,_,_,e⟩
 have hnd:=Aaf.1 own.1
 obtain⟨d1,d23,d12⟩:=ZJ.1 hnd.2
 obtain⟨d2,d3,d23'⟩:=ZJ.1 d23
 have inG:∀ b,b∈g::(F1++F3)→b∈g::(F1++(F2++F3))∧b∉F2:=fun b hb=>by
  rcases List.mem_cons.1 hb with rfl|hb
  · exact⟨by simp,fun hm=>hnd.1 (by simp [hm])⟩
  rcases ZC.1 hb with hb|hb
  · exact⟨by simp [hb],fun hm=>d12 b hb b (by simp [hm]) rfl⟩
  exact⟨by simp [hb],fun hm=>d23' b hm b hb rfl⟩
 have r1:=hr.upd (G:=g::(F1++F3)) (r:=.row k (rows.set i (row.take p++.v c::row.drop (p+1)))) hs (Chg.refl w _) ⟨Aaf.2 ⟨fun hm=>?_,ZJ.2 ⟨d1,d3,fun b hb b' hb' e=>?_⟩⟩,fun b hb=>?_⟩ ?_
 · have r2:=r1.addF (hf c) (G:=F2) (u:=c) (b:=0) (r:=.row k2 rows2) d2 (fun b hb=>?_) (by
    show C true w (.sl k2 rows2) _ _
    simp only [Ip.set,if_true]
    exact v4')
   · refine⟨c,_,hsl,r2,by simp only [Ip.set,if_true],fun g0 n0 m0 h0=>?_⟩
     rw [hg1] at h0
     cases h0
     exact hc
   obtain⟨o1,cc,ee,o2⟩:=own.2 b (by simp [hb])
   have hlt:b<w.heap.size:=(ZB.1 o2).1
   refine⟨o1,hlt,⟨cc,ee,o2⟩,fun hz=>(hr.lt id b (by rw [hF];simp [hb])).2 hz,fun j hj=>?_⟩
   by_cases ej:j=id
   · simp only [Ip.set,if_pos ej] at hj
     exact (inG b hj).2 hb
   simp only [Ip.set,if_neg ej] at hj
   exact hr.apart j id ej b hj (by rw [hF];simp [hb])
 · rcases ZC.1 hm with hm|hm
   · exact hnd.1 (by simp [hm])
   exact hnd.1 (by simp [hm])
 · subst e
   exact d12 b hb b (by simp [hb']) rfl
 · obtain⟨hin,_⟩:=inG b hb
   obtain⟨o1,cc,ee,o2⟩:=own.2 b hin
   exact⟨o1,(ZB.1 o2).1,⟨cc,ee,o2⟩,.inl (by rw [hF];exact hin)⟩
 show C true _ _ _ _
 simp only [Ip.set,if_true]
 unfold C
 refine⟨_,_,_,hg1,by simpa using g2,g3,g4,.inr ⟨g,0,F1++F3,rfl,rfl,g6,fun _=>⟨rfl,cur,e,hcur,hcs⟩,Rws.of (xs:=x1++([c]++x3)) (fun r hm=>?_) ?_ fun j u hj=>?_⟩⟩
 · rcases List.mem_or_eq_of_mem_set hm with hm|rfl
   · exact u1 r hm
   simp only [ZG,ZH,ZN,ZO]
   omega
 · rw [(FD (row.take p++.v c::row.drop (p+1)) hi).2]
   have ef:(rows.take i++(row.take p++.v c::row.drop (p+1))::rows.drop (i+1)).flatten=((rows.take i).flatten++row.take p)++([.v c]++(row.drop (p+1)++(rows.drop (i+1)).flatten)):=by simp
   rw [ef]
   refine v1.append (Cs.append (F:=[]) ?_ v5)
   unfold Cs
   obtain⟨a1,l1,c1,rfl⟩:=hsl
   exact⟨_,[],[],[],rfl,by unfold C;exact⟨rfl,rfl,rfl⟩,by unfold Cs;exact⟨rfl,rfl⟩,rfl⟩
 rw [ZF]
 exact u4 j u hj
theorem AW.takeR {code:Code} {id k i p k2:Nat} (nid hid:Nat) {rows rows2:List (List T)} {row:List T} (hs:look rs id=some (.row k rows)) (hi:rows[i]?=some row) (hp:row[p]?=some (.sl k2 rows2))
 (hf:∀ c0,St.has ⟨n,S8 id sl,So id (.row k (rows.set i (row.take p++.v c0::row.drop (p+1)))) rs⟩ nid=false)
 (hf2:∀ c0,St.has ⟨n,S8 id sl,(nid,.row k2 rows2)::So id (.row k (rows.set i (row.take p++.v c0::row.drop (p+1)))) rs⟩ hid=false)
 (h:∀ c0,AW P w0 code Q ⟨n,S8 id sl,(hid,.hdr (some nid) c0)::(nid,.row k2 rows2)::So id (.row k (rows.set i (row.take p++.v c0::row.drop (p+1)))) rs⟩):AW P w0 code Q ⟨n,sl,rs⟩:=fun a w ⟨I,hr⟩=>by
 obtain⟨c,I',h1,h2,h3,h4⟩:=hr.take nid hs hi hp hf
 have hne:nid≠hid:=fun e=>by
  have:=hf2 c
  simp [St.has,e,Nat.beq_refl] at this
 refine h c a w ⟨_,h2.addF (id:=hid) (G:=[]) (u:=undef) (b:=0) (r:=.hdr (some nid) c) (hf2 c) ZU (by simp) ⟨by simp [Ip.set],fun j hj=>?_⟩⟩
 cases hj
 simp only [Ip.set,if_neg hne]
 exact h3
theorem J3 {t t':TypeId} {x y:Operand} {n m:Int} (ho:o.op=.binOp .shr t x y t') (hg:Grd ops o σ q) (hd:o.dst.all (fun d=>Z9 d σ.n)=true) (hx:Get σ q x (.one (.t (.v (.int .i64 n))))) (hy:Get σ q y (.one (.t (.v (.int .i64 m)))))
 (hb:q=true→0≤n∧0≤m∧m≤64):Op1 P ops o σ (σ.put o.dst (q,.a (.one (.t (.v (.int .i64 ((n.toNat>>>m.toNat:Nat):Int))))))):=
 D9 ho hg hd hx hy CP (h:=fun hq w=>by
  obtain⟨h1,h2,h3⟩:=hb hq
  have e1:min m.toNat IntKind.i64.bits=m.toNat:=by simp [IntKind.bits];omega
  have e2:n.fdiv (2^m.toNat)=((n.toNat>>>m.toNat:Nat):Int):=by
   have e3:n=(n.toNat:Int):=by omega
   have h2p:(0:Int)≤2^m.toNat:=Int.pow_nonneg (by omega)
   rw [Int.fdiv_eq_ediv_of_nonneg n h2p,Aag,Int.natCast_ediv,←e3]
   simp
  simp only [binOp,Op.shift,e1]
  rw [if_neg (by omega),e2]
  rfl)
theorem Hz {t t':TypeId} {x y:Operand} {n:Int} (ho:o.op=.binOp .and t x y t') (hg:Grd ops o σ q) (hd:o.dst.all (fun d=>Z9 d σ.n)=true) (hx:Get σ q x (.one (.t (.v (.int .i64 n))))) (hy:Get σ q y (.one (.t (.v (.int .i64 1)))))
 (hb:q=true→0≤n):Op1 P ops o σ (σ.put o.dst (q,.a (.one (.t (.v (.int .i64 ((n.toNat&&&(1:Int).toNat:Nat):Int))))))):=
 D9 ho hg hd hx hy CP (h:=fun hq w=>by
  have h1:=hb hq
  have e0:n.toNat&&&(1:Int).toNat=n.toNat%2:=Aah n.toNat
  have e1:(ZK 64 n&&&ZK 64 1).toNat=n.toNat%2:=by
   rw [BitVec.toNat_and,Aai,Aai]
   show (n%(2^64:Int)).toNat&&&1=_
   rw [Aah]
   omega
  simp only [binOp,Op.intBits]
  simp only [ne_eq,not_true_eq_false,if_false]
  show (pure (Value.int .i64 (IntKind.i64.wrap ((ZK 64 n&&&ZK 64 1).toNat:Int))):Sem Value).run P w=_
  rw [e1,e0,Gn ⟨by omega,by omega⟩]
  rfl)
theorem F9 {t t':TypeId} {x y:Operand} {m:Int} (ho:o.op=.binOp .shl t x y t') (hg:Grd ops o σ q) (hd:o.dst.all (fun d=>Z9 d σ.n)=true) (hx:Get σ q x (.one (.t (.v (.int .i64 1))))) (hy:Get σ q y (.one (.t (.v (.int .i64 m)))))
 (hb:q=true→0≤m∧m≤62):Op1 P ops o σ (σ.put o.dst (q,.a (.one (.t (.v (.int .i64 ((2^m.toNat:Nat):Int))))))):=by
 have:=YI (P:=P) (ops:=ops) (n:=1) (m:=m) ho hg hd hx hy (fun hq=>by
  obtain⟨h1,h2⟩:=hb hq
  have e:(2:Nat)^m.toNat≤2^62:=Nat.pow_le_pow_right (by omega) (by omega)
  have e2:((2^m.toNat:Nat):Int)=2^m.toNat:=by simp
  refine⟨h1,by omega,by omega,?_⟩
  rw [Int.one_mul,←e2]
  omega)
 rwa [Int.one_mul,show ((2:Int)^m.toNat)=((2^m.toNat:Nat):Int) by simp] at this
end
theorem BE (m:Nat) (q:Int):decide (((((m:Int).toNat>>>q.toNat:Nat):Int).toNat&&&(1:Int).toNat:Nat)=(1:Int))=m.testBit q.toNat:=by
 generalize q.toNat=q
 rw [Nat.testBit]
 simp only [Int.toNat_natCast]
 show decide ((((m>>>q)&&&1:Nat):Int)=1)=_
 rw [Nat.and_comm]
 have h:1&&&(m>>>q)≤1:=Nat.and_le_left
 by_cases e:1&&&(m>>>q)=0
 · rw [e];simp
 have e1:1&&&(m>>>q)=1:=by omega
 rw [e1];simp
theorem AN (m:Nat) (q:Int):decide (((((m:Int).toNat>>>q.toNat:Nat):Int).toNat&&&(1:Int).toNat:Nat)=(0:Int))=!m.testBit q.toNat:=by
 have h1:=BE m q
 have h:((((m:Int).toNat>>>q.toNat:Nat):Int).toNat&&&(1:Int).toNat)≤1:=Nat.and_le_right
 rw [←h1]
 generalize ((((m:Int).toNat>>>q.toNat:Nat):Int).toNat&&&(1:Int).toNat)=n at h ⊢
 have h2:n=0∨n=1:=by omega
 rcases h2 with rfl|rfl<;>rfl
theorem AM (m:Nat) (q:Int):decide ((((m:Int).toNat>>>q.toNat:Nat):Int)=0)=decide (m<2^q.toNat):=by
 generalize q.toNat=q
 have hp:0<2^q:=Nat.two_pow_pos q
 have e:(((m:Int).toNat>>>q:Nat):Int)=((m / 2^q:Nat):Int):=by
  rw [Int.toNat_natCast,Aag]
 rw [decide_eq_decide,e]
 constructor
 · intro h
   exact (Aal hp).1 (by omega)
 intro h
 have h:m / 2^q=0:=(Aal hp).2 h
 omega
section
variable {P:Program} {ops:Array Oper} {o:Oper} {σ:St} {q:Bool}
theorem C.hdr {o:Bool} {w:World} {k:Nat} {rows:List (List T)} {a:Option Addr} {n m:Nat} {F:List Nat} (h:C o w (.sl k rows) (.slice a n m) F):rows.length=n∧n≤m∧m≤maxLen:=by
 simp only [C] at h
 obtain⟨a',n',m',e,h1,h2,h3,_⟩:=h
 cases e
 exact⟨h1,h2,h3⟩
theorem C.blk {w:World} {k:Nat} {rows:List (List T)} {a:Option Addr} {n m:Nat} {F:List Nat} (h:C true w (.sl k rows) (.slice a n m) F):(m=0∧F=[]∧rows=[])∨∃ g G cur e,a=some ⟨g,0,none⟩∧F=g::G∧w.heap[g]?=some (.cells cur e (0,0))∧cur.size=m*k∧Rws true w g k 0 rows G:=by
 simp only [C] at h
 obtain⟨a',n',m',e,h1,h2,h3,h4⟩:=h
 cases e
 rcases h4 with ⟨h4,rfl,h5⟩|⟨b,off,G,rfl,rfl,h6,h7,h8⟩
 · exact .inl ⟨h5 trivial,rfl,ZP (by omega)⟩
 obtain⟨rfl,cur,e,h9,h10⟩:=h7 trivial
 exact .inr ⟨b,G,cur,e,rfl,rfl,h9,h10,h8⟩
theorem Le.toTl {n:Nat} {sl:List (Nat×(Bool×S))} {rs:List (Nat×R)} {d id k:Nat} {rows:List (List T)} (hd:look sl d=some (true,.a (.one (.rf id)))) (hs:look rs id=some (.row k rows)):Le ⟨n,sl,rs⟩ ⟨n,(d,(true,.a (.one (.tl id k 0))))::sl,rs⟩:=fun w0 a w ⟨I,hr⟩=>by
 refine⟨I,hr.reslot (x:=(true,.a (.one (.tl id k 0)))) ?_⟩
 obtain⟨h1,a0,n0,m0,h2⟩:VE I w (.rf id) (a.tmps.getD d undef):=hr.slots _ _ hd
 have hC:C true w (.sl k rows) (I.hd id) (I.F id):=hr.res id _ hs
 rw [h1] at h2
 rw [h2] at hC
 obtain⟨e1,e2,e3⟩:=hC.hdr
 refine⟨a0,a0,n0,m0,h2,by rw [h1,h2];rfl,ZV _,e2,fun hm=>?_⟩
 rcases hC.blk with ⟨h3,_⟩|⟨g,G,cur,e,h4,_⟩
 · omega
 exact⟨g,h4,by rw [h4];simp⟩
theorem Ww {id k j:Nat} {rows:List (List T)} {x:Operand} {t e:TypeId} (ho:o.op=.call { callee:=.builtin .len,args:=#[x],argTypes:=#[t] }) (hg:Grd ops o σ q) (hd:o.dst.all (fun d=>Z9 d σ.n)=true)
 (hx:Get σ q x (.one (.tl id k j))) (hs:look σ.res id=some (.row k rows)) (hu:P.underlying t=some (.slice e)):Op1 P ops o σ (σ.put o.dst (q,.a (.one (.t (.v (.int .i64 ((rows.length-j:Nat):Int))))))):=
 .val hg hd fun I w0 a w hr hq=>by
  obtain⟨a0,a',n,m,h1,h2,h3,h4,h5⟩:VE I w (.tl id k j) (a.eval x):=hx.va hr hq
  have hC:C true w (.sl k rows) (I.hd id) (I.F id):=hr.res id _ hs
  rw [h1] at hC
  obtain⟨e1,e2,e3⟩:=hC.hdr
  refine⟨.int .i64 ((rows.length-j:Nat):Int),?_,[],by unfold C;exact⟨rfl,rfl,rfl⟩,by simp⟩
  simp [execOp,ho,resolve,invoke,builtin,Builtin.len_,h2,run_underlying hu,Builtin.lenOf,e1]
  rfl
theorem J4 {id k j:Nat} {t e:TypeId} {x y:Operand} {n:Int} {ag:Bool} {rows:List (List T)} {row:List T} (ho:o.op=.indexAddr t x y) (hg:Grd ops o σ q) (hd:o.dst.all (fun d=>Z9 d σ.n)=true) (hx:Get σ q x (.one (.tl id k j)))
 (hs:look σ.res id=some (.row k rows)) (hy:Get σ q y (.one (.t (.v (.int .i64 n))))) (hu:P.underlying t=some (.slice e)) (hk:tyB P e ag k=true) (hi:q=true→0≤n∧rows[j+n.toNat]?=some row):Op1 P ops o σ (σ.put o.dst (q,.a (.one (.pr id k (j+n.toNat) 0)))):=
 .val hg hd fun I w0 a w hr hq=>by
  obtain⟨a0,a',N,M,h1,h2,h3,h4,h5⟩:VE I w (.tl id k j) (a.eval x):=hx.va hr hq
  have hC:C true w (.sl k rows) (I.hd id) (I.F id):=hr.res id _ hs
  rw [h1] at hC
  obtain⟨e1,e2,e3⟩:=hC.hdr
  obtain⟨h0,hi⟩:=hi hq
  have hlt:j+n.toNat<rows.length:=(ZA.1 hi).1
  obtain⟨g,rfl,rfl⟩:=h5 (by omega)
  have hn:n<((N-j:Nat):Int):=by omega
  refine⟨.pointer (some ⟨g,j*k+n.toNat*k,none⟩),?_,g,N,M,h1,by rw [ZI];simp⟩
  simp [execOp,ho,hy.int hr hq,h2,Instr.indexAt,asIntOf,run_underlying hu,h0,hn,E6 hk,Addr.add_lit]
theorem Ti {id k j m:Nat} {t e:TypeId} {x:Operand} {lo:Option Operand} {ag:Bool} {rows:List (List T)} (ho:o.op=.slice t x lo none none) (hg:Grd ops o σ q) (hd:o.dst.all (fun d=>Z9 d σ.n)=true) (hx:Get σ q x (.one (.tl id k j)))
 (hs:look σ.res id=some (.row k rows)) (hl:Bnd σ q lo 0 m) (hu:P.underlying t=some (.slice e)) (hk:tyB P e ag k=true) (hb:q=true→j+m≤rows.length):Op1 P ops o σ (σ.put o.dst (q,.a (.one (.tl id k (j+m))))):=
 .val hg hd fun I w0 a w hr hq=>by
  obtain⟨a0,a',N,M,h1,h2,h3,h4,h5⟩:VE I w (.tl id k j) (a.eval x):=hx.va hr hq
  have hC:C true w (.sl k rows) (I.hd id) (I.F id):=hr.res id _ hs
  rw [h1] at hC
  obtain⟨e1,e2,e3⟩:=hC.hdr
  have hb:=hb hq
  have hrun:(Instr.sliceAt t (.slice a' (N-j) (M-j)) (lo.map a.eval) none none).run P w=.ok (.slice (if M-j=m then a' else a'.map (·.add (m*k))) (N-j-m) (M-j-m)) w:=by
   have b1:m≤M-j:=by omega
   have b2:m≤N-j:=by omega
   have b3:N-j≤M-j:=by omega
   rcases hl.val hr hq with ⟨h6,rfl⟩|h6<;>rw [h6]<;>simp [Instr.sliceAt,Instr.slice,run_underlying hu,Instr.sliceBounds,Instr.sliceBound,asIntOf,E6 hk,b1,b2,b3]
  rw [Aam,Aam] at hrun
  refine⟨.slice (if M-j=m then a' else a'.map (·.add (m*k))) (N-(j+m)) (M-(j+m)),by simp [execOp,ho,h2,hrun],a0,(if M-j=m then a' else a'.map (·.add (m*k))),N,M,h1,rfl,by omega,h4,fun hm=>?_⟩
  obtain⟨g,rfl,rfl⟩:=h5 (by omega)
  refine⟨g,rfl,?_⟩
  rw [if_neg (by omega)]
  simp [Addr.add_lit,ZI]
theorem Dj {id k m:Nat} {t e:TypeId} {x:Operand} {lo:Option Operand} {ag:Bool} {rows:List (List T)} (ho:o.op=.slice t x lo none none) (hg:Grd ops o σ q) (hd:o.dst.all (fun d=>Z9 d σ.n)=true) (hx:Get σ q x (.one (.rf id)))
 (hs:look σ.res id=some (.row k rows)) (hl:Bnd σ q lo 0 m) (hu:P.underlying t=some (.slice e)) (hk:tyB P e ag k=true) (hb:q=true→m≤rows.length):Op1 P ops o σ (σ.put o.dst (q,.a (.one (.tl id k m)))):=
 .val hg hd fun I w0 a w hr hq=>by
  obtain⟨h1,a0,N,M,h2⟩:VE I w (.rf id) (a.eval x):=hx.va hr hq
  have hC:C true w (.sl k rows) (I.hd id) (I.F id):=hr.res id _ hs
  rw [←h1,h2] at hC
  obtain⟨e1,e2,e3⟩:=hC.hdr
  have hb:=hb hq
  have hrun:(Instr.sliceAt t (.slice a0 N M) (lo.map a.eval) none none).run P w=.ok (.slice (if M=m then a0 else a0.map (·.add (m*k))) (N-m) (M-m)) w:=by
   have b1:m≤M:=by omega
   have b2:m≤N:=by omega
   rcases hl.val hr hq with ⟨h6,rfl⟩|h6<;>rw [h6]<;>simp [Instr.sliceAt,Instr.slice,run_underlying hu,Instr.sliceBounds,Instr.sliceBound,asIntOf,E6 hk,b1,b2,e2]
  refine⟨.slice (if M=m then a0 else a0.map (·.add (m*k))) (N-m) (M-m),by simp [execOp,ho,h2,hrun],a0,(if M=m then a0 else a0.map (·.add (m*k))),N,M,by rw [←h1,h2],rfl,by omega,e2,fun hm=>?_⟩
  rcases hC.blk with ⟨h3,_⟩|⟨g,G,cur,e,rfl,_⟩
  · omega
  refine⟨g,rfl,?_⟩
  rw [if_neg (by omega)]
  simp [Addr.add_lit]
theorem OD (w:World) (t ty e e0:TypeId) (i:TypeInfo) (ht:P.underlying t=some (.slice e)) (hi:P.info? e=some i)
 (g p sLen sCap:Nat) (cur:Array Value) (hg:w.heap[g]?=some (.cells cur e0 (0,0)))
 (a:Addr) (m c:Nat) (news:List Value) (hl:news.length=m*i.size) (hnews:∀ j u,news[j]?=some u→w.cell? (a.add j)=some u) (h1:∀ u∈news,u.oneCell'=true)
 (hroom:sLen+m≤sCap) (hfit:p+sLen*i.size+news.length≤cur.size) :
 (Builtin.append_ #[t,t] ty #[.slice (some ⟨g,p,none⟩) sLen sCap,.slice (some a) m c]).run P w =
  .ok (.slice (some ⟨g,p,none⟩) (sLen+m) sCap) (w.setRow g (cur.toList.take (p+sLen*i.size)++news++cur.toList.drop (p+sLen*i.size+news.length)).toArray):=by
 have hf:=run_firstCells_some (P:=P) w i.size m a m c news hl hnews
 have hst:=run_storeCells_at P g (p+sLen*i.size) e0 news 0 cur w hg (by simpa using hfit) h1
 simp only [Nat.add_zero] at hst
 simp [Builtin.append_,run_underlying ht,sizeOf,typeInfo,hi,Builtin.lenOf,hroom,hf,Addr.add_lit,hst]
theorem Cs.cell1' {o:Bool} {w:World} {ts:List T} {cs:List Value} {F:List Nat} (h:Cs o w ts cs F):∀ u∈cs,u.oneCell'=true:=by
 intro u hu
 obtain⟨j,hj⟩:=List.getElem?_of_mem hu
 have hjl:=(ZA.1 hj).1
 have:=h.len
 obtain⟨c',G',k1,k2,_⟩:=h.get (i:=j) (t:=ts[j]'(by omega)) (ZQ _)
 rw [hj] at k1;cases k1
 exact k2.cell1
def OpE (P:Program) (ops:Array Oper) (o:Oper) (σ:St) (Φ:St→Prop):Prop:=∀ w0 a w,Rel w0 σ a w→∀ (K:Act→World→Prop) (Q:Exit→Act→World→Prop),(∀ σ' a' w',Φ σ'→Rel w0 σ' a' w'→K a' w')→
 if Region.wanted o (yielded ops a.tmps) then o.wp P a w K Q else K (a.put o.dst undef) w
theorem OpE.eff {Φ:St→Prop} (hg:o.guard=none) (h:∀ w0 a w,Rel w0 σ a w→∃ v w' σ',(execOp a.eval o).run P w=.ok (.value v) w'∧Φ σ'∧Rel w0 σ' (a.put o.dst v) w'):OpE P ops o σ Φ:=by
 intro w0 a w hr K Q hK
 simp only [Region.wanted,hg,if_true]
 obtain⟨v,w',σ',h1,h2,h3⟩:=h w0 a w hr
 unfold Oper.wp
 rw [h1]
 exact hK _ _ _ h2 h3
theorem Bn {w0:BB} {Q:Exit→St→Prop} {l:List Oper} {Φ:St→Prop} (ho:OpE P ops o σ Φ) (h:∀ σ',Φ σ'→AWl P w0 ops Q l σ'):AWl P w0 ops Q (o::l) σ:=fun a w hr=>
 wpList_step fun K hK=>ho w0 a w hr K _ fun σ' a' w' hφ hr'=>hK a' w' (h σ' hφ a' w' hr')
theorem M5 {id k j:Nat} {t e:TypeId} {x y:Operand} {A2:A} {rows rows2:List (List T)} {z:Value} {bytes:Nat} (ho:o.op=.call { callee:=.builtin .append,args:=#[x,y],argTypes:=#[t,t] }) (hg:o.guard=none) (hd:o.dst.all (fun d=>Z9 d σ.n)=true)
 (hx:Get σ true x (.one (.tl id k j))) (hs:look σ.res id=some (.row k rows)) (hy:Get σ true y A2) (hq:Sq σ A2 k rows2) (hv1:rows.flatten.all T.isV=true) (hv2:rows2.flatten.all T.isV=true) (ht:P.underlying t=some (.slice e)) (hi:(P.info? e).map (fun i=>(i.zero,i.size,i.bytes))=some (some z,k,bytes)) (hzs:z.cells.size=k)
 (hj:j≤rows.length) (hb:(rows.length+rows2.length)*bytes≤140737488355328) (hm:rows.length+rows2.length≤maxLen) :
 OpE P ops o σ fun σ'=>∃ j' rows',j'≤rows'.length∧rows'.drop j'=rows.drop j++rows2∧rows'.flatten.all T.isV=true∧rows'.length≤rows.length+rows2.length∧σ'=(σ.chg id (.row k rows')).put o.dst (true,.a (.one (.tl id k j'))):=
 .eff hg fun w0 a w ⟨I,hr⟩=>by
 obtain⟨a0,a',N,M,h1,h2,h3,h4,h5⟩:VE I w (.tl id k j) (a.eval x):=hx.va hr rfl
 have hC:C true w (.sl k rows) (I.hd id) (I.F id):=hr.res id _ hs
 have own:=hr.own id _ hs
 have hC0:=hC
 rw [h1] at hC
 obtain⟨e1,e2,e3⟩:=hC.hdr
 obtain⟨F2,hC2⟩:=hq.val hr (hy.va hr rfl)
 obtain⟨i,hi1,hi2,hi3,hi4⟩:=info_parts hi
 subst hi3;subst hi4
 have key:∀ (v':Value) (w':World) (j':Nat) (rows':List (List T)) (u:Value) (G:List Nat),(Builtin.append_ #[t,t] o.type #[a.eval x,a.eval y]).run P w=.ok v' w'→AU (I.set id G u (I.B id)) w0 (σ.chg id (.row i.size rows')) a w'→VE (I.set id G u (I.B id)) w' (.tl id i.size j') v'→
  j'≤rows'.length→rows'.drop j'=rows.drop j++rows2→rows'.flatten.all T.isV=true→rows'.length≤rows.length+rows2.length→
  ∃ v w' σ',(execOp a.eval o).run P w=.ok (.value v) w'∧(∃ j' rows',j'≤rows'.length∧rows'.drop j'=rows.drop j++rows2∧rows'.flatten.all T.isV=true∧rows'.length≤rows.length+rows2.length∧σ'=(σ.chg id (.row i.size rows')).put o.dst (true,.a (.one (.tl id i.size j'))))∧Rel w0 σ' (a.put o.dst v) w':=by
  intro v' w' j' rows' u G hrun hR hV g1 g2 g3 g4
  exact⟨v',w',_,by simp [execOp,ho,resolve,invoke,builtin,hrun],⟨j',rows',g1,g2,g3,g4,rfl⟩,_,hR.put hd hV⟩
 generalize hev:a.eval y=yv at hC2 key
 have hC2':=hC2
 simp only [C] at hC2'
 obtain⟨a2,m,c,rfl,rfl,g3,g4,g5⟩:=hC2'
 by_cases h0:rows2=[]
 · subst h0
   have hrun:(Builtin.append_ #[t,t] o.type #[a.eval x,.slice a2 0 c]).run P w=.ok (a.eval x) w:=by
    have hf:∀ w:World,(Builtin.firstCells i.size 0 (.slice a2 0 c)).run P w=.ok #[] w:=by
     intro w;cases a2<;>simp [Builtin.firstCells,loadCells,loadCellsFrom]
    have h34:N-j≤M-j:=by omega
    rw [h2]
    cases a'<;>simp [Builtin.append_,run_underlying ht,sizeOf,typeInfo,hi1,Builtin.lenOf,h34,hf,storeCells]
   have hR:=hr.chg hs (Chg.refl _ _) (G:=I.F id) (u:=I.hd id) (r:=.row i.size rows) ⟨own.1,fun b hb=>⟨(own.2 b hb).1,(hr.lt id b hb).1,(own.2 b hb).2,.inl hb⟩⟩ (by show C true _ _ _ _;simpa [Ip.set] using hC0)
   exact key _ w j rows _ _ hrun hR ⟨a0,a',N,M,by simp [Ip.set,h1],h2,h3,h4,h5⟩ hj (by simp) hv1 (by simp)
 have hpos:0<rows2.length:=List.length_pos_iff.2 h0
 rcases g5 with ⟨g5,_⟩|⟨b2,off2,G2,rfl,rfl,g6,_,g8⟩
 · omega
 obtain⟨r1,news,r2,r3,r4⟩:=g8.flat
 have hone:=r2.cell1'
 obtain⟨r2',_⟩:=ED (o':=true) (w':=w) hv2 r2
 have hnews:∀ j u,news[j]?=some u→w.cell? ((⟨b2,off2,none⟩:Addr).add j)=some u:=fun j u hj=>by rw [Addr.add_lit];exact r4 j u hj
 have h63:rows.length+rows2.length≤9223372036854775807:=by simp only [maxLen] at hm;omega
 have hdl:(rows.drop j).length=N-j:=by simp [e1]
 have hvd:(rows.drop j).flatten.all T.isV=true:=by
  have:rows.flatten=(rows.take j).flatten++(rows.drop j).flatten:=by rw [←ZD,Aan]
  rw [this,ZR,Bool.and_eq_true] at hv1
  exact hv1.2
 have grown:∀ (xs:List Value),Cs true w (rows.drop j).flatten xs []→xs.length=(N-j)*i.size→(∀ row∈rows.drop j,row.length=i.size)→
  (Builtin.append_ #[t,t] o.type #[a.eval x,.slice (some ⟨b2,off2,none⟩) rows2.length c]).run P w=.ok (.slice (some ⟨w.heap.size,0,none⟩) (N-j+rows2.length) (grownCap w (N-j+rows2.length) (M-j) e))
   (w.drew.alloc (.cells (xs.toArray++news.toArray++Builtin.zeroCells z.cells (grownCap w (N-j+rows2.length) (M-j) e-(N-j+rows2.length))) e))→
  M-j<N-j+rows2.length→∃ v w' σ',(execOp a.eval o).run P w=.ok (.value v) w'∧(∃ j' rows',j'≤rows'.length∧rows'.drop j'=rows.drop j++rows2∧rows'.flatten.all T.isV=true∧rows'.length≤rows.length+rows2.length∧σ'=(σ.chg id (.row i.size rows')).put o.dst (true,.a (.one (.tl id i.size j'))))∧Rel w0 σ' (a.put o.dst v) w':=by
  intro xs x1 x2 x3 hrun hlt
  have hge:=grownCap_ge w (N-j+rows2.length) (M-j) e
  have hle:=grownCap_le_maxLen w (N-j+rows2.length) (M-j) e (by omega)
  generalize hcap:grownCap w (N-j+rows2.length) (M-j) e=cap at hrun hge hle
  generalize hobj:xs.toArray++news.toArray++Builtin.zeroCells z.cells (cap-(N-j+rows2.length))=arr at hrun
  have hgn:(w.drew.alloc (.cells arr e)).heap[w.heap.size]?=some (.cells arr e (0,0)):=heap_alloc_new w.drew _
  have hsz:arr.size=cap*i.size:=by
   rw [←hobj]
   simp only [Array.size_append,Aao,size_zeroCells,hzs,x2,r3,←ZI]
   congr 1
   omega
  have hcell:∀ (q:Nat) (u:Value),(xs++news)[q]?=some u→(w.drew.alloc (.cells arr e)).cell? ⟨w.heap.size,q,none⟩=some u:=fun q u hq=>by
   have hq':arr[q]?=some u:=by
    have hlt:=(ZA.1 hq).1
    rw [←hobj,ZY (by simpa using hlt)]
    simpa using hq
   simp only [World.cell?,hgn]
   simpa using hq'
  have hch:Chg w (w.drew.alloc (.cells arr e)) (I.F id):=⟨rfl,rfl,rfl,by simp,fun k hk _=>heap_alloc_old w.drew _ (by simpa using hk)⟩
  have hR:=hr.chg hs hch (G:=[w.heap.size]) (u:=.slice (some ⟨w.heap.size,0,none⟩) (N-j+rows2.length) cap) (r:=.row i.size (rows.drop j++rows2)) ⟨by simp,fun b hb=>by
   simp only [Aap] at hb
   subst hb
   exact⟨.inl hr.ext.size,(ZB.1 hgn).1,⟨.inl _,_,hgn⟩,.inr (.inl (ZL _))⟩⟩ (by
   show C true _ _ _ _
   simp only [Ip.set,if_true]
   unfold C
   refine⟨_,_,_,rfl,by simp [hdl],hge,hle,.inr ⟨w.heap.size,0,[],rfl,rfl,(ZB.1 hgn).1,fun _=>⟨rfl,arr,e,hgn,hsz⟩,Rws.of (xs:=xs++news) (fun row hm=>?_) ?_ fun q u hq=>by simpa using hcell q u hq⟩⟩
   · rcases ZC.1 hm with hm|hm
     · exact x3 row hm
     exact r1 row hm
   rw [ZD]
   exact Cs.append (F:=[]) (ED (o':=true) (w':=_) hvd x1).1 (ED (o':=true) (w':=_) hv2 r2').1)
  exact key _ _ 0 (rows.drop j++rows2) _ _ hrun hR ⟨some ⟨w.heap.size,0,none⟩,some ⟨w.heap.size,0,none⟩,N-j+rows2.length,cap,by simp only [Ip.set,if_true],by simp,by omega,hge,fun _=>⟨w.heap.size,rfl,by rw [ZT]⟩⟩ (by simp) (by simp) (by rw [ZD,ZR,hvd,hv2];rfl) (by simp<;>omega)
 rcases hC.blk with ⟨q1,q2,q3⟩|⟨g,G,cur,e',q1,q2,q3,q4,q5⟩
 · -- an empty row without memory
   subst q3
   have hN:N=0:=by simpa using e1.symm
   have hj0:j=0:=by omega
   refine grown [] (by unfold Cs;simp) (by simp [hN]) (by simp) ?_ (by omega)
   rw [h2,hN,q1]
   have hb':rows2.length*i.bytes≤140737488355328:=by simpa using hb
   simp only [Nat.zero_sub,ZF]
   cases a' with
   | none=>
    have hr':=run_append_nil (P:=P) w t o.type e i z ht hi1 hi2 ⟨b2,off2,none⟩ rows2.length c news r3 hnews (by omega) (by omega) (by omega)
    simpa using hr'
   | some ga=>
    have hr':=run_append_grow (P:=P) w t o.type e i z ht hi1 hi2 ga 0 0 [] (by simp) (by simp) ⟨b2,off2,none⟩ rows2.length c news r3 hnews (by omega) (by omega) (growslice_fits (by omega) (by simpa using hb'))
    simpa using hr'
 obtain⟨s1,xs,s2,s3,s4⟩:=q5.flat
 simp only [ZF] at s4
 have hG:G=[]:=(ED (o':=true) (w':=w) hv1 s2).2
 subst hG
 have hxd:Cs true w (rows.drop j).flatten (xs.drop (j*i.size)) []:=by
  have e5:rows.flatten=(rows.take j).flatten++(rows.drop j).flatten:=by rw [←ZD,Aan]
  rw [e5] at s2
  obtain⟨x1,x2,F1,F2,rfl,hF,v1,v2,v3⟩:=s2.split
  have:x1.length=j*i.size:=by
   rw [v3]
   have key:∀ (l:List (List T)),(∀ r∈l,r.length=i.size)→l.flatten.length=l.length*i.size:=by
    intro l
    induction l with
    | nil=>intro _;simp
    | cons r l ih=>intro h;rw [Aab,ZG,ih fun r hr=>h r (by simp [hr]),h r (by simp),ZN,Aac];omega
   rw [key _ fun r hr=>s1 r (Aad hr),ZH,Aae hj]
  rw [List.drop_left' this]
  have:F1=[]∧F2=[]:=List.append_eq_nil_iff.1 hF.symm
  rw [←this.2];exact v2
 have hxl:(xs.drop (j*i.size)).length=(N-j)*i.size:=by rw [ZO,s3,e1,Nat.sub_mul]
 by_cases hroom:N+rows2.length≤M
 · -- in place
   obtain⟨g',e6,e7⟩:=h5 (by omega)
   rw [q1] at e6
   cases e6
   have hjk:j*i.size+(N-j)*i.size=N*i.size:=by rw [←ZI];congr 1;omega
   have hfit:j*i.size+(N-j)*i.size+news.length≤cur.size:=by rw [hjk,r3,q4,←ZI];exact Aaq _ hroom
   have hrun:=OD (P:=P) w t o.type e e' i ht hi1 g (j*i.size) (N-j) (M-j) cur q3 ⟨b2,off2,none⟩ rows2.length c news r3 hnews hone (by omega) hfit
   rw [hjk] at hrun hfit
   rw [←e7,←h2] at hrun
   have hxs:cur.toList.take (N*i.size)=xs:=by
    apply List.ext_getElem?;intro q
    by_cases hq:q<xs.length
    · have:=s4 q _ (ZQ hq)
      simp only [World.cell?,q3] at this
      rw [List.getElem?_take,if_pos (by rw [s3,e1] at hq;exact hq),ZQ hq]
      simpa using this
    rw [Aar (by simp;rw [s3,e1] at hq;omega),Aar (by omega)]
   generalize harr:(cur.toList.take (N*i.size)++news++cur.toList.drop (N*i.size+news.length)).toArray=arr at hrun
   have hgn:(w.setRow g arr).heap[g]?=some (.cells arr e' (0,0)):=setRow_heap w g cur _ e' _ q3
   have hsz:arr.size=M*i.size:=by
    rw [←harr,←q4]
    simp only [Aao,ZG,ZH,ZO,Array.length_toList]
    omega
   have hcell:∀ (q:Nat) (u:Value),(xs++news)[q]?=some u→(w.setRow g arr).cell? ⟨g,q,none⟩=some u:=fun q u hq=>by
    simp only [World.cell?,hgn]
    rw [←harr,hxs]
    have hlt:=(ZA.1 hq).1
    simp only [Option.isSome_none,ZE,if_false,List.getElem?_toArray]
    rw [List.getElem?_append_left hlt];exact hq
   have hch:Chg w (w.setRow g arr) (I.F id):=⟨rfl,rfl,rfl,by simp [World.setRow],fun b _ hb=>setRow_other w g b _ (fun e=>hb (by rw [q2,e];simp))⟩
   have hR:=hr.chg hs hch (G:=[g]) (u:=.slice (some ⟨g,0,none⟩) (N+rows2.length) M) (r:=.row i.size (rows++rows2)) ⟨by simp,fun b hb=>by
    simp only [Aap] at hb
    subst hb
    exact⟨(own.2 b (by rw [q2];simp)).1,(ZB.1 hgn).1,⟨.inl _,_,hgn⟩,.inl (by rw [q2];simp)⟩⟩ (by
    show C true _ _ _ _
    simp only [Ip.set,if_true]
    unfold C
    refine⟨_,_,_,rfl,by simp [e1],hroom,e3,.inr ⟨g,0,[],rfl,rfl,(ZB.1 hgn).1,fun _=>⟨rfl,arr,e',hgn,hsz⟩,Rws.of (xs:=xs++news) (fun row hm=>?_) ?_ fun q u hq=>by simpa using hcell q u hq⟩⟩
    · rcases ZC.1 hm with hm|hm
      · exact s1 row hm
      exact r1 row hm
    rw [ZD]
    exact Cs.append (F:=[]) (ED (o':=true) (w':=_) hv1 s2).1 (ED (o':=true) (w':=_) hv2 r2').1)
   refine key _ _ j (rows++rows2) _ _ hrun hR ⟨some ⟨g,0,none⟩,some ⟨g,j*i.size,none⟩,N+rows2.length,M,by simp only [Ip.set,if_true],by rw [show N-j+rows2.length=N+rows2.length-j by omega,e7],by omega,hroom,fun _=>⟨g,rfl,rfl⟩⟩ (by simp;omega) (by rw [List.drop_append_of_le_length hj]) (by rw [ZD,ZR,hv1,hv2];rfl) (by simp)
 refine grown (xs.drop (j*i.size)) hxd hxl (fun row hm=>s1 row (List.mem_of_mem_drop hm)) ?_ (by omega)
 have hbb:(N-j+rows2.length)*i.bytes≤140737488355328:=Aaa (Aaq _ (by omega)) hb
 rw [h2]
 have holds:∀ ga,a'=some ga→∀ q u,(xs.drop (j*i.size))[q]?=some u→w.cell? (ga.add q)=some u:=fun ga hga q u hq=>by
  by_cases hjm:j<M
  · obtain⟨g',e6,e7⟩:=h5 hjm
    rw [q1] at e6
    cases e6
    rw [hga] at e7
    cases e7
    rw [Addr.add_lit]
    exact s4 _ u (by simpa using hq)
  have:xs.drop (j*i.size)=[]:=ZP (by rw [hxl,show N-j=0 by omega,ZT])
  rw [this] at hq;cases hq
 cases a' with
 | none=>
  have hjM:¬ j<M:=fun hjm=>by obtain⟨g',e6,e7⟩:=h5 hjm;cases e7
  have hz:xs.drop (j*i.size)=[]:=ZP (by rw [hxl,show N-j=0 by omega,ZT])
  rw [hz,show N-j=0 by omega,show M-j=0 by omega]
  rw [show N-j=0 by omega] at hbb
  have hr':=run_append_nil (P:=P) w t o.type e i z ht hi1 hi2 ⟨b2,off2,none⟩ rows2.length c news r3 hnews (by omega) (by omega) (by simp at hbb;omega)
  simpa using hr'
 | some ga=>
  exact run_append_grow (P:=P) w t o.type e i z ht hi1 hi2 ga (N-j) (M-j) (xs.drop (j*i.size)) hxl (holds ga rfl) ⟨b2,off2,none⟩ rows2.length c news r3 hnews (by omega) (by omega) (growslice_fits (by omega) hbb)
variable {w0:BB} {Q:Exit→St→Prop} {n:Nat} {sl:List (Nat×(Bool×S))} {rs:List (Nat×R)} {l:List Oper}
theorem AWl.appendTl {d id k j m:Nat} {rows rows2:List (List T)} (ho:OpE P ops o ⟨n,sl,rs⟩ fun σ'=>∃ j' rows',j'≤rows'.length∧rows'.drop j'=rows.drop j++rows2∧rows'.flatten.all T.isV=true∧rows'.length≤m∧σ'=(St.chg ⟨n,sl,rs⟩ id (.row k rows')).put o.dst (true,.a (.one (.tl id k j')))) (hd:o.dst=some d)
 (h:∀ j' rows',j'≤rows'.length→rows'.drop j'=rows.drop j++rows2→rows'.flatten.all T.isV=true→rows'.length≤m→AWl P w0 ops Q l ⟨n,(d,(true,.a (.one (.tl id k j'))))::WV id sl,X7 id (.row k rows') rs⟩):AWl P w0 ops Q (o::l) ⟨n,sl,rs⟩:=
 Bn ho fun σ' ⟨j',rows',g1,g2,g3,g4,g5⟩=>by rw [g5,hd];exact h j' rows' g1 g2 g3 g4
end
end Go.Q
