import Derived.Test.YtdhojcaoljhbiaaGreatAbs15xs
set_option linter.unusedVariables false
set_option linter.unusedSimpArgs false
namespace Go.Q
open Go.RowKit
section
variable {P:Program} {ops:Array Oper} {o:Oper} {σ:St} {q:Bool}
theorem RelI.reslot {I:Ip} {w0:Base} {w:World} {a:Act} (h:RelI I w0 σ a w) {i:Nat} {x:Bool×S} (hv:VS I w x (a.tmps.getD i undef)):RelI I w0 ⟨σ.n,(i,x)::σ.slots,σ.res⟩ a w:=
 ⟨h.ext,h.defers,h.size,fun j y hj=>by
  rw [look_cons] at hj
  by_cases e:i=j
  · subst e;rw [if_pos rfl] at hj;cases hj;exact hv
  rw [if_neg e] at hj;exact h.slots j y hj,h.res,h.old,h.lt,h.own,h.apart⟩
theorem RelI.nilrow {I:Ip} {w0:Base} {w:World} {a:Act} (h:RelI I w0 σ a w) {id:Nat} (k:Nat) (hf:σ.has id=false):RelI (I.set id [] (.slice none 0 0) 0) w0 (σ.add id (.row k [])) a w:=
 h.addF hf List.nodup_nil (fun b hb=>by cases hb) (by
  show C true w (.sl k []) _ _
  simp only [Ip.set,if_true]
  unfold C
  exact⟨none,0,0,rfl,rfl,Nat.le_refl _,Nat.zero_le _,.inl ⟨rfl,rfl,fun _=>rfl⟩⟩)
theorem VE_nil {I:Ip} {w:World} {id:Nat} {c:Value} (h:VE I w (.t (.v (.slice none 0 0))) c):VE (I.set id [] (.slice none 0 0) 0) w (.rf id) c:=by
 obtain⟨G,h1,_⟩:=h
 simp only [C] at h1
 refine⟨?_,none,0,0,h1.1⟩
 simp only [Ip.set,if_true];exact h1.1
theorem VEs_nil {I:Ip} {w:World} {id:Nat}:∀ {es:List E} {cs:List Value} {j:Nat},es.any (E.has id)=false→VEs I w es cs→es[j]?=some (.t (.v (.slice none 0 0)))→VEs (I.set id [] (.slice none 0 0) 0) w (es.set j (.rf id)) cs
 | [],_,_,_,_,h=>by simp at h
 | e::es,_,0,hh,⟨c,cr,rfl,h1,h2⟩,h=>by
  simp at h
  subst h
  simp only [List.any_cons,Bool.or_eq_false_iff] at hh
  exact⟨c,cr,rfl,VE_nil h1,h2.set hh.2⟩
 | e::es,_,j+1,hh,⟨c,cr,rfl,h1,h2⟩,h=>by
  simp only [List.any_cons,Bool.or_eq_false_iff] at hh
  exact⟨c,cr,rfl,h1.set hh.1,VEs_nil hh.2 h2 (by simpa using h)⟩
variable {w0:Base} {Q:Exit→St→Prop} {n:Nat} {sl:List (Nat×(Bool×S))} {rs:List (Nat×R)} {l:List Oper}
theorem AWl.nilS {i:Nat} (id k:Nat) (hi:look sl i=some (true,.a (.one (.t (.v (.slice none 0 0)))))) (hf:St.has ⟨n,sl,rs⟩ id=false) (h:AWl P w0 ops Q l ⟨n,(i,(true,.a (.one (.rf id))))::sl,(id,.row k [])::rs⟩):AWl P w0 ops Q l ⟨n,sl,rs⟩:=fun a w ⟨I,hr⟩=>
 h a w ⟨_,(hr.nilrow k hf).reslot (VE_nil (hr.slots _ _ hi))⟩
theorem B7 {i:Nat} (id k j:Nat) {es:List E} (hi:look sl i=some (true,.a (.agg es))) (hj:es[j]?=some (.t (.v (.slice none 0 0)))) (hf:St.has ⟨n,sl,rs⟩ id=false) (h:AWl P w0 ops Q l ⟨n,(i,(true,.a (.agg (es.set j (.rf id)))))::sl,(id,.row k [])::rs⟩):AWl P w0 ops Q l ⟨n,sl,rs⟩:=fun a w ⟨I,hr⟩=>by
 have hh:=St.has_slot hf hi
 obtain⟨cs,h1,h2⟩:=hr.slots _ _ hi
 exact h a w ⟨_,(hr.nilrow k hf).reslot ⟨cs,h1,VEs_nil (by simpa [S.has,A.has] using hh) h2 hj⟩⟩
theorem Cr {b:Nat} (id k j:Nat) {cs:List E} (hb:look rs b=some (.box cs)) (hj:cs[j]?=some (.t (.v (.slice none 0 0)))) (hf:St.has ⟨n,sl,rs⟩ id=false) (h:AWl P w0 ops Q l ⟨n,sl,(id,.row k [])::setR rs b (.box (cs.set j (.rf id)))⟩):AWl P w0 ops Q l ⟨n,sl,rs⟩:=fun a w ⟨I,hr⟩=>by
 have hh:=St.has_res hf hb
 have hne:id≠b:=fun e=>hh.1 e.symm
 have hr':=(hr.nilrow k hf)
 have hb':look (St.add ⟨n,sl,rs⟩ id (.row k [])).res b=some (.box cs):=by
  rw [St.add,look_cons,if_neg hne];exact hb
 refine h a w ⟨I.set id [] (.slice none 0 0) 0,?_⟩
 have hr0:RelI (I.set id [] (.slice none 0 0) 0) w0 ⟨n,sl,setR ((id,.row k [])::rs) b (.box (cs.set j (.rf id)))⟩ a w:=by
  have key:∀ i r,look (setR ((id,R.row k [])::rs) b (.box (cs.set j (.rf id)))) i=some r→(i=b∧r=.box (cs.set j (.rf id)))∨look ((id,R.row k [])::rs) i=some r:=fun i r hi=>by
   rcases look_setR _ _ _ _ _ hi with ⟨h1,h2,_⟩|⟨_,h2⟩
   · exact .inl ⟨h1,h2⟩
   exact .inr h2
  refine⟨hr'.ext,hr'.defers,hr'.size,hr'.slots,fun i r hi=>?_,hr'.old,hr'.lt,fun i r hi=>?_,hr'.apart⟩
  · rcases key i r hi with ⟨rfl,rfl⟩|hi
    · obtain⟨h1,vs,e,h2,h3⟩:=hr.res _ _ hb
      refine⟨by simp only [Ip.set,if_neg hh.1];exact h1,vs,e,by simp only [Ip.set,if_neg hh.1];exact h2,VEs_nil (by simpa [R.has] using hh.2) h3 hj⟩
    exact hr'.res i r hi
  rcases key i r hi with ⟨rfl,rfl⟩|hi
  · exact hr'.own _ _ hb'
  exact hr'.own i r hi
 have e:setR ((id,R.row k [])::rs) b (.box (cs.set j (.rf id)))=(id,.row k [])::setR rs b (.box (cs.set j (.rf id))):=by
  rw [setR,beq_false hne];rfl
 rw [←e];exact hr0
theorem Bm {σ':St} (hl:Le σ σ') (h:AWl P w0 ops Q l σ'):AWl P w0 ops Q l σ:=fun a w hr=>h a w (hl w0 a w hr)
theorem A7 {id:Nat} (h:Q .normal σ):BlockQ id Q .normal σ:=h
def Round1 {β1:Type} (Inv:β1→Prop) (J:β1→St) (m:β1→Nat) (a1:β1) (Q:Exit→St→Prop):Exit→St→Prop:=Round (β:=β1) (fun x=>Inv x) (fun x=>J x) (fun x=>m x) a1 Q
theorem Dp {β1:Type} (Inv:β1→Prop) (J:β1→St) (m:β1→Nat) (y1:β1) {c:Code} (h0:Inv y1) (hs:Le σ (J y1)) (round:∀ a1,Inv a1→AW P w0 c (Round1 Inv J m a1 Q) (J a1)):AW P w0 (.loop c) Q σ:=
 Dl (β:=β1) (fun x=>Inv x) (fun x=>J x) (fun x=>m x) y1 h0 hs fun x h=>round x h
theorem Round1.next {β1:Type} {Inv:β1→Prop} {J:β1→St} {m:β1→Nat} {a1:β1} (y1:β1) (h1:Inv y1) (h2:m y1<m a1) (h3:Le σ (J y1)):Round1 Inv J m a1 Q .normal σ:=⟨y1,h1,h2,h3⟩
def Round2 {β1 β2:Type} (Inv:β1→β2→Prop) (J:β1→β2→St) (m:β1→β2→Nat) (a1:β1) (a2:β2) (Q:Exit→St→Prop):Exit→St→Prop:=Round (β:=β1×β2) (fun x=>Inv x.1 x.2) (fun x=>J x.1 x.2) (fun x=>m x.1 x.2) (a1,a2) Q
theorem C6 {β1 β2:Type} (Inv:β1→β2→Prop) (J:β1→β2→St) (m:β1→β2→Nat) (y1:β1) (y2:β2) {c:Code} (h0:Inv y1 y2) (hs:Le σ (J y1 y2)) (round:∀ a1 a2,Inv a1 a2→AW P w0 c (Round2 Inv J m a1 a2 Q) (J a1 a2)):AW P w0 (.loop c) Q σ:=
 Dl (β:=β1×β2) (fun x=>Inv x.1 x.2) (fun x=>J x.1 x.2) (fun x=>m x.1 x.2) (y1,y2) h0 hs fun x h=>round (x.1) (x.2) h
theorem Round2.next {β1 β2:Type} {Inv:β1→β2→Prop} {J:β1→β2→St} {m:β1→β2→Nat} {a1:β1} {a2:β2} (y1:β1) (y2:β2) (h1:Inv y1 y2) (h2:m y1 y2<m a1 a2) (h3:Le σ (J y1 y2)):Round2 Inv J m a1 a2 Q .normal σ:=⟨(y1,y2),h1,h2,h3⟩
def Round3 {β1 β2 β3:Type} (Inv:β1→β2→β3→Prop) (J:β1→β2→β3→St) (m:β1→β2→β3→Nat) (a1:β1) (a2:β2) (a3:β3) (Q:Exit→St→Prop):Exit→St→Prop:=Round (β:=β1×β2×β3) (fun x=>Inv x.1 x.2.1 x.2.2) (fun x=>J x.1 x.2.1 x.2.2) (fun x=>m x.1 x.2.1 x.2.2) (a1,a2,a3) Q
theorem AW.loop3 {β1 β2 β3:Type} (Inv:β1→β2→β3→Prop) (J:β1→β2→β3→St) (m:β1→β2→β3→Nat) (y1:β1) (y2:β2) (y3:β3) {c:Code} (h0:Inv y1 y2 y3) (hs:Le σ (J y1 y2 y3)) (round:∀ a1 a2 a3,Inv a1 a2 a3→AW P w0 c (Round3 Inv J m a1 a2 a3 Q) (J a1 a2 a3)):AW P w0 (.loop c) Q σ:=
 Dl (β:=β1×β2×β3) (fun x=>Inv x.1 x.2.1 x.2.2) (fun x=>J x.1 x.2.1 x.2.2) (fun x=>m x.1 x.2.1 x.2.2) (y1,y2,y3) h0 hs fun x h=>round (x.1) (x.2.1) (x.2.2) h
theorem Round3.next {β1 β2 β3:Type} {Inv:β1→β2→β3→Prop} {J:β1→β2→β3→St} {m:β1→β2→β3→Nat} {a1:β1} {a2:β2} {a3:β3} (y1:β1) (y2:β2) (y3:β3) (h1:Inv y1 y2 y3) (h2:m y1 y2 y3<m a1 a2 a3) (h3:Le σ (J y1 y2 y3)):Round3 Inv J m a1 a2 a3 Q .normal σ:=⟨(y1,y2,y3),h1,h2,h3⟩
def Round4 {β1 β2 β3 β4:Type} (Inv:β1→β2→β3→β4→Prop) (J:β1→β2→β3→β4→St) (m:β1→β2→β3→β4→Nat) (a1:β1) (a2:β2) (a3:β3) (a4:β4) (Q:Exit→St→Prop):Exit→St→Prop:=Round (β:=β1×β2×β3×β4) (fun x=>Inv x.1 x.2.1 x.2.2.1 x.2.2.2) (fun x=>J x.1 x.2.1 x.2.2.1 x.2.2.2) (fun x=>m x.1 x.2.1 x.2.2.1 x.2.2.2) (a1,a2,a3,a4) Q
theorem AW.loop4 {β1 β2 β3 β4:Type} (Inv:β1→β2→β3→β4→Prop) (J:β1→β2→β3→β4→St) (m:β1→β2→β3→β4→Nat) (y1:β1) (y2:β2) (y3:β3) (y4:β4) {c:Code} (h0:Inv y1 y2 y3 y4) (hs:Le σ (J y1 y2 y3 y4)) (round:∀ a1 a2 a3 a4,Inv a1 a2 a3 a4→AW P w0 c (Round4 Inv J m a1 a2 a3 a4 Q) (J a1 a2 a3 a4)):AW P w0 (.loop c) Q σ:=
 Dl (β:=β1×β2×β3×β4) (fun x=>Inv x.1 x.2.1 x.2.2.1 x.2.2.2) (fun x=>J x.1 x.2.1 x.2.2.1 x.2.2.2) (fun x=>m x.1 x.2.1 x.2.2.1 x.2.2.2) (y1,y2,y3,y4) h0 hs fun x h=>round (x.1) (x.2.1) (x.2.2.1) (x.2.2.2) h
theorem Round4.next {β1 β2 β3 β4:Type} {Inv:β1→β2→β3→β4→Prop} {J:β1→β2→β3→β4→St} {m:β1→β2→β3→β4→Nat} {a1:β1} {a2:β2} {a3:β3} {a4:β4} (y1:β1) (y2:β2) (y3:β3) (y4:β4) (h1:Inv y1 y2 y3 y4) (h2:m y1 y2 y3 y4<m a1 a2 a3 a4) (h3:Le σ (J y1 y2 y3 y4)):Round4 Inv J m a1 a2 a3 a4 Q .normal σ:=⟨(y1,y2,y3,y4),h1,h2,h3⟩
def Round5 {β1 β2 β3 β4 β5:Type} (Inv:β1→β2→β3→β4→β5→Prop) (J:β1→β2→β3→β4→β5→St) (m:β1→β2→β3→β4→β5→Nat) (a1:β1) (a2:β2) (a3:β3) (a4:β4) (a5:β5) (Q:Exit→St→Prop):Exit→St→Prop:=Round (β:=β1×β2×β3×β4×β5) (fun x=>Inv x.1 x.2.1 x.2.2.1 x.2.2.2.1 x.2.2.2.2) (fun x=>J x.1 x.2.1 x.2.2.1 x.2.2.2.1 x.2.2.2.2) (fun x=>m x.1 x.2.1 x.2.2.1 x.2.2.2.1 x.2.2.2.2) (a1,a2,a3,a4,a5) Q
theorem AW.loop5 {β1 β2 β3 β4 β5:Type} (Inv:β1→β2→β3→β4→β5→Prop) (J:β1→β2→β3→β4→β5→St) (m:β1→β2→β3→β4→β5→Nat) (y1:β1) (y2:β2) (y3:β3) (y4:β4) (y5:β5) {c:Code} (h0:Inv y1 y2 y3 y4 y5) (hs:Le σ (J y1 y2 y3 y4 y5)) (round:∀ a1 a2 a3 a4 a5,Inv a1 a2 a3 a4 a5→AW P w0 c (Round5 Inv J m a1 a2 a3 a4 a5 Q) (J a1 a2 a3 a4 a5)):AW P w0 (.loop c) Q σ:=
 Dl (β:=β1×β2×β3×β4×β5) (fun x=>Inv x.1 x.2.1 x.2.2.1 x.2.2.2.1 x.2.2.2.2) (fun x=>J x.1 x.2.1 x.2.2.1 x.2.2.2.1 x.2.2.2.2) (fun x=>m x.1 x.2.1 x.2.2.1 x.2.2.2.1 x.2.2.2.2) (y1,y2,y3,y4,y5) h0 hs fun x h=>round (x.1) (x.2.1) (x.2.2.1) (x.2.2.2.1) (x.2.2.2.2) h
theorem Round5.next {β1 β2 β3 β4 β5:Type} {Inv:β1→β2→β3→β4→β5→Prop} {J:β1→β2→β3→β4→β5→St} {m:β1→β2→β3→β4→β5→Nat} {a1:β1} {a2:β2} {a3:β3} {a4:β4} {a5:β5} (y1:β1) (y2:β2) (y3:β3) (y4:β4) (y5:β5) (h1:Inv y1 y2 y3 y4 y5) (h2:m y1 y2 y3 y4 y5<m a1 a2 a3 a4 a5) (h3:Le σ (J y1 y2 y3 y4 y5)):Round5 Inv J m a1 a2 a3 a4 a5 Q .normal σ:=⟨(y1,y2,y3,y4,y5),h1,h2,h3⟩
end
end Go.Q
namespace Go.Q
open Go.RowKit
def swN (u v i:Nat):Nat:=bif Nat.beq i u then v else bif Nat.beq i v then u else i
theorem swN_if (u v i:Nat):swN u v i=if i=u then v else if i=v then u else i:=by
 unfold swN
 have e:∀ a b:Nat,Nat.beq a b=decide (a=b):=fun a b=>by
  cases h:Nat.beq a b with
  | true=>simp [Nat.eq_of_beq_eq_true h]
  | false=>simp [Nat.ne_of_beq_eq_false h]
 rw [e,e]
 by_cases h1:i=u
 · simp [h1]
 by_cases h2:i=v
 · simp [h1,h2]
 simp [h1,h2]
theorem swN_swN (u v i:Nat):swN u v (swN u v i)=i:=by
 rw [swN_if,swN_if]
 by_cases h1:i=u
 · subst h1
   rw [if_pos rfl]
   by_cases h2:v=i
   · rw [if_pos h2,h2]
   rw [if_neg h2,if_pos rfl]
 rw [if_neg h1]
 by_cases h2:i=v
 · subst h2;rw [if_pos rfl,if_pos rfl]
 rw [if_neg h2,if_neg h1,if_neg h2]
theorem swN_inj {u v i j:Nat} (h:swN u v i=swN u v j):i=j:=by
 have:=congrArg (swN u v) h
 rwa [swN_swN,swN_swN] at this
def swE (u v:Nat):E→E
 | .t x=>.t x
 | .rf id=>.rf (swN u v id)
 | .vw id x=>.vw (swN u v id) x
 | .pp id o=>.pp (swN u v id) o
 | .pr id k i j=>.pr (swN u v id) k i j
 | .sb id k i j=>.sb (swN u v id) k i j
 | .tl id k j=>.tl (swN u v id) k j
 | .pf id k m=>.pf (swN u v id) k m
 | .no=>.no
def swEs (u v:Nat):List E→List E
 | []=>[]
 | e::r=>swE u v e::swEs u v r
def swA (u v:Nat):A→A
 | .one e=>.one (swE u v e)
 | .agg l=>.agg (swEs u v l)
def swAs (u v:Nat):List A→List A
 | []=>[]
 | e::r=>swA u v e::swAs u v r
def swS (u v:Nat):S→S
 | .a x=>.a (swA u v x)
 | .tup l=>.tup (swAs u v l)
def swR (u v:Nat):R→R
 | .row k rows=>.row k rows
 | .box cs=>.box (swEs u v cs)
 | .hdr none x=>.hdr none x
 | .hdr (some j) x=>.hdr (some (swN u v j)) x
 | .blk none x=>.blk none x
 | .blk (some j) x=>.blk (some (swN u v j)) x
 | .kept K=>.kept K
 | .opq=>.opq
 | .cur g=>.cur g
 | .mp b f=>.mp b f
def swSl (u v:Nat):List (Nat×(Bool×S))→List (Nat×(Bool×S))
 | []=>[]
 | (i,p,x)::r=>(i,p,swS u v x)::swSl u v r
def swRl (u v:Nat):List (Nat×R)→List (Nat×R)
 | []=>[]
 | (i,x)::r=>(swN u v i,swR u v x)::swRl u v r
def St.sw (u v:Nat) (σ:St):St:=⟨σ.n,swSl u v σ.slots,swRl u v σ.res⟩
def Ip.sw (u v:Nat) (I:Ip):Ip:=⟨I.Z,fun i=>I.F (swN u v i),fun i=>I.hd (swN u v i),fun i=>I.B (swN u v i)⟩
section
variable {u v:Nat} {I:Ip} {w:World}
theorem VE.sw {e:E} {c:Value} (h:VE I w e c):VE (I.sw u v) w (swE u v e) c:=by
 cases e<;>simp only [VE,swE,Ip.sw,swN_swN] at h ⊢<;>exact h
theorem VEs.sw:∀ {l:List E} {cs:List Value},VEs I w l cs→VEs (I.sw u v) w (swEs u v l) cs
 | [],_,h=>h
 | e::r,cs,h=>by
  obtain⟨c,cr,h1,h2,h3⟩:=h
  exact⟨c,cr,h1,h2.sw,VEs.sw h3⟩
theorem VA.sw {x:A} {c:Value} (h:VA I w x c):VA (I.sw u v) w (swA u v x) c:=by
 cases x with
 | one e=>exact VE.sw (show VE I w e c from h)
 | agg l=>obtain⟨cs,h1,h2⟩:=h;exact⟨cs,h1,h2.sw⟩
theorem VAs.sw:∀ {l:List A} {cs:List Value},VAs I w l cs→VAs (I.sw u v) w (swAs u v l) cs
 | [],_,h=>h
 | e::r,cs,h=>by
  obtain⟨c,cr,h1,h2,h3⟩:=h
  exact⟨c,cr,h1,h2.sw,VAs.sw h3⟩
theorem VS.sw {p:Bool} {x:S} {c:Value} (h:VS I w (p,x) c):VS (I.sw u v) w (p,swS u v x) c:=by
 unfold VS at h ⊢
 simp only at h ⊢
 split at h
 · rename_i hp
   rw [if_pos hp]
   cases x with
   | a x=>exact VA.sw h
   | tup l=>obtain⟨vs,h1,h2⟩:=h;exact⟨vs,h1,h2.sw⟩
 rename_i hp
 rw [if_neg hp];exact h
theorem RR.sw {id:Nat} {r:R} (h:RR I w id r):RR (I.sw u v) w (swN u v id) (swR u v r):=by
 cases r with
 | row k rows=>unfold RR swR Ip.sw;simp only [swN_swN];exact h
 | box cs=>
  obtain⟨h1,vs,e,h2,h3⟩:=h
  unfold RR swR
  simp only
  refine⟨by simpa only [Ip.sw,swN_swN] using h1,vs,e,by simpa only [Ip.sw,swN_swN] using h2,h3.sw⟩
 | opq=>trivial
 | cur g=>unfold RR swR Ip.sw;simp only [swN_swN];exact h
 | mp b f=>unfold RR swR Ip.sw;simp only [swN_swN];exact h
 | kept K=>exact⟨by unfold Ip.sw;simp only [swN_swN];exact h.1,h.2⟩
 | hdr j x=>
  obtain⟨h1,h2⟩:=h
  cases j with
  | none=>exact⟨by simpa only [Ip.sw,swN_swN] using h1,fun i hi=>by cases hi⟩
  | some j=>
   refine⟨by simpa only [Ip.sw,swN_swN] using h1,fun i hi=>?_⟩
   cases hi
   simpa only [Ip.sw,swN_swN] using h2 j rfl
 | blk j x=>
  obtain⟨h1,h2⟩:=h
  cases j with
  | none=>exact⟨by simpa only [Ip.sw,swN_swN] using h1,fun i hi=>by cases hi⟩
  | some j=>
   refine⟨by simpa only [Ip.sw,swN_swN] using h1,fun i hi=>?_⟩
   cases hi
   simpa only [Ip.sw,swN_swN] using h2 j rfl
end
theorem look_swSl (u v:Nat):∀ (l:List (Nat×(Bool×S))) (i:Nat) (y:Bool×S),look (swSl u v l) i=some y→∃ x,look l i=some (y.1,x)∧y.2=swS u v x
 | [],_,_,h=>by cases h
 | (k,p,x)::r,i,y,h=>by
  rw [swSl,look_cons] at h
  by_cases e:k=i
  · rw [if_pos e] at h
    cases h
    exact⟨x,by rw [look_cons,if_pos e],rfl⟩
  rw [if_neg e] at h
  obtain⟨x',h1,h2⟩:=look_swSl u v r i y h
  exact⟨x',by rw [look_cons,if_neg e];exact h1,h2⟩
theorem look_swRl (u v:Nat):∀ (l:List (Nat×R)) (i:Nat) (y:R),look (swRl u v l) i=some y→∃ x,look l (swN u v i)=some x∧y=swR u v x
 | [],_,_,h=>by cases h
 | (k,x)::r,i,y,h=>by
  rw [swRl,look_cons] at h
  by_cases e:swN u v k=i
  · rw [if_pos e] at h
    cases h
    exact⟨x,by rw [look_cons,if_pos (by rw [←e,swN_swN])],rfl⟩
  rw [if_neg e] at h
  obtain⟨x',h1,h2⟩:=look_swRl u v r i y h
  exact⟨x',by rw [look_cons,if_neg (fun h=>e (by rw [h,swN_swN]))];exact h1,h2⟩
theorem Le.sw (u v:Nat) (σ:St):Le σ (σ.sw u v):=by
 rintro w0 a w ⟨I,h⟩
 refine⟨I.sw u v,⟨h.ext,h.defers,h.size,fun i x hx=>?_,fun id r hr=>?_,h.old,fun id b hb=>h.lt (swN u v id) b hb,fun id r hr=>?_,fun i j hij b hb=>?_⟩⟩
 · obtain⟨y,h1,h2⟩:=look_swSl u v σ.slots i x hx
   have:=(h.slots i _ h1).sw (u:=u) (v:=v)
   rw [←h2] at this
   exact this
 · obtain⟨y,h1,h2⟩:=look_swRl u v σ.res id r hr
   have:=(h.res _ _ h1).sw (u:=u) (v:=v)
   rw [swN_swN,←h2] at this
   exact this
 · obtain⟨y,h1,h2⟩:=look_swRl u v σ.res id r hr
   exact h.own _ _ h1
 exact h.apart (swN u v i) (swN u v j) (fun e=>hij (swN_inj e)) b hb
theorem Le.trans {σ σ' σ'':St} (h1:Le σ σ') (h2:Le σ' σ''):Le σ σ'':=fun w0 a w h=>h2 w0 a w (h1 w0 a w h)
section
variable {Q:Exit→St→Prop} {σ:St}
theorem ThenQ.ex {K:St→Prop} {i:Nat} (h:Q (.exit i) σ):ThenQ K Q (.exit i) σ:=h
theorem Round1.ex {β1:Type} {Inv:β1→Prop} {J:β1→St} {m:β1→Nat} {a1:β1} {i:Nat} (h:Q (.exit i) σ):Round1 Inv J m a1 Q (.exit i) σ:=h
theorem Round2.ex {β1 β2:Type} {Inv:β1→β2→Prop} {J:β1→β2→St} {m:β1→β2→Nat} {a1:β1} {a2:β2} {i:Nat} (h:Q (.exit i) σ):Round2 Inv J m a1 a2 Q (.exit i) σ:=h
theorem Round3.ex {β1 β2 β3:Type} {Inv:β1→β2→β3→Prop} {J:β1→β2→β3→St} {m:β1→β2→β3→Nat} {a1:β1} {a2:β2} {a3:β3} {i:Nat} (h:Q (.exit i) σ):Round3 Inv J m a1 a2 a3 Q (.exit i) σ:=h
theorem Round4.ex {β1 β2 β3 β4:Type} {Inv:β1→β2→β3→β4→Prop} {J:β1→β2→β3→β4→St} {m:β1→β2→β3→β4→Nat} {a1:β1} {a2:β2} {a3:β3} {a4:β4} {i:Nat} (h:Q (.exit i) σ):Round4 Inv J m a1 a2 a3 a4 Q (.exit i) σ:=h
theorem Round5.ex {β1 β2 β3 β4 β5:Type} {Inv:β1→β2→β3→β4→β5→Prop} {J:β1→β2→β3→β4→β5→St} {m:β1→β2→β3→β4→β5→Nat} {a1:β1} {a2:β2} {a3:β3} {a4:β4} {a5:β5} {i:Nat} (h:Q (.exit i) σ):Round5 Inv J m a1 a2 a3 a4 a5 Q (.exit i) σ:=h
end
section
variable {P:Program} {ops:Array Oper} {o:Oper} {σ:St} {q:Bool}
theorem R_grd {x:S} (hg:Grd ops o σ q) (hd:o.dst.all (fun d=>Nat.blt d σ.n)=true) (h:q=true→Op1 P ops { o with guard:=none } σ (σ.put o.dst (true,x))):Op1 P ops o σ (σ.put o.dst (q,x)):=by
 rintro w0 a w ⟨I,hr⟩ K Q hK
 rw [hg.wanted hr]
 cases q with
 | false=>exact hK _ _ ⟨I,hr.put hd rfl⟩
 | true=>exact h rfl w0 a w ⟨I,hr⟩ K Q hK
end
end Go.Q
namespace Go.Q
open Go.RowKit
end Go.Q
namespace Go.Q
open Go.RowKit
theorem Le.frzR (id d:Nat) {n k:Nat} {sl:List (Nat×(Bool×S))} {rs:List (Nat×R)} {rows:List (List T)} (h1:look rs id=some (.row k rows)) (h2:look sl d=some (true,.a (.one (.rf id)))) :
 Le ⟨n,sl,rs⟩ ⟨n,(d,(true,.a (.one (.t (.sl k rows)))))::((⟨n,sl,rs⟩:St).chg id (.hdr none undef)).slots,((⟨n,sl,rs⟩:St).chg id (.hdr none undef)).res⟩:=by
 rintro w0 a w ⟨I,hr⟩
 have hC:C true w (.sl k rows) (I.hd id) (I.F id):=hr.res id _ h1
 have hv:VS I w (true,.a (.one (.rf id))) (a.tmps.getD d undef):=hr.slots d _ h2
 obtain⟨hv,_⟩:VE I w (.rf id) (a.tmps.getD d undef):=hv
 have s1:=hr.chg h1 (Chg.refl w _) (G:=[]) (u:=undef) (r:=.hdr none undef) ⟨List.nodup_nil,by simp⟩ ⟨by simp [Ip.set],fun i h=>by cases h⟩
 have s2:=s1.also (G:=I.F id) fun b hb=>by
  refine⟨(hr.lt id b hb).1,fun i hi=>?_⟩
  by_cases e:i=id
  · subst e;simp [Ip.set] at hi
  simp only [Ip.set,if_neg e] at hi
  exact hr.apart i id e _ hi hb
 refine⟨_,⟨s2.ext,s2.defers,s2.size,fun i x hx=>?_,s2.res,s2.old,s2.lt,s2.own,s2.apart⟩⟩
 rw [look_cons] at hx
 by_cases ei:d=i
 · rw [if_pos ei] at hx
   cases hx
   subst ei
   exact⟨I.F id,by rw [hv];exact hC.read,fun b hb=>.inr hb⟩
 rw [if_neg ei] at hx
 exact s2.slots i x hx
section
variable {P:Program} {ops:Array Oper} {o:Oper} {σ:St}
end
end Go.Q
namespace Go.Q
open Go.RowKit
section
variable {P:Program} {ops:Array Oper} {o:Oper} {σ:St} {q:Bool}
theorem guard_str {op:BinOp} {t:TypeId} {x y:Operand} {a b:ByteArray} (w:World):(eqGuard op t x y (.string a) (.string b)).run P w=.ok () w:=by
 unfold eqGuard;split<;>rfl
theorem str_eq (a b:ByteArray):(a.toList == b.toList)=decide (a=b):=by
 rw [Bool.eq_iff_iff,beq_iff_eq,decide_eq_true_eq]
 exact⟨fun h=>by
  rw [ByteArray.toList_eq,ByteArray.toList_eq] at h
  exact ByteArray.ext (Array.toList_inj.1 h),fun h=>by rw [h]⟩
theorem R_cat {t t':TypeId} {x y:Operand} {a b:ByteArray} (ho:o.op=.binOp .add t x y t') (hg:Grd ops o σ q) (hd:o.dst.all (fun d=>Nat.blt d σ.n)=true) (hx:Get σ q x (.one (.t (.v (.string a))))) (hy:Get σ q y (.one (.t (.v (.string b)))))
 (hb:q=true→a.size+b.size≤9223372036854775807):Op1 P ops o σ (σ.put o.dst (q,.a (.one (.t (.v (.string (a++b))))))):=
 Dm ho hg hd hx hy guard_str (h:=fun hq w=>by
  have:=hb hq
  simp only [binOp,Op.stringOp]
  rw [if_neg (show ¬ (((a.size+b.size:Nat):Int)>IntKind.i64.max) by rw [show IntKind.i64.max=9223372036854775807 from rfl];omega)]
  rfl)
theorem R_eqstr {t t':TypeId} {x y:Operand} {a b:ByteArray} (ho:o.op=.binOp .eql t x y t') (hg:Grd ops o σ q) (hd:o.dst.all (fun d=>Nat.blt d σ.n)=true) (hx:Get σ q x (.one (.t (.v (.string a))))) (hy:Get σ q y (.one (.t (.v (.string b))))) :
 Op1 P ops o σ (σ.put o.dst (q,.a (.one (.t (.v (.bool (decide (a=b)))))))):=
 Dm ho hg hd hx hy guard_str (h:=fun hq w=>by simp only [binOp,Op.stringOp,str_eq];rfl)
theorem R_strIndex {t:TypeId} {x y:Operand} {s:ByteArray} {n:Int} {b:UInt8} (ho:o.op=.index t x y) (hg:Grd ops o σ q) (hd:o.dst.all (fun d=>Nat.blt d σ.n)=true) (hx:Get σ q x (.one (.t (.v (.string s))))) (hy:Get σ q y (.one (.t (.v (.int .i64 n)))))
 (hu:P.underlying t=some .string) (hi:q=true→0≤n∧s[n.toNat]?=some b):Op1 P ops o σ (σ.put o.dst (q,.a (.one (.t (.v (.int .u8 b.toNat)))))):=
 .val hg hd fun I w0 a w hr hq=>⟨_,by
  obtain⟨h0,h1⟩:=hi hq
  simp [execOp,ho,hx.int hr hq,hy.int hr hq,Instr.index,asIntOf,run_underlying hu,h0,h1],VS_v _⟩
theorem R_strSlice {t:TypeId} {x:Operand} {lo hi:Option Operand} {n m:Nat} {s:ByteArray} (ho:o.op=.slice t x lo hi none) (hg:Grd ops o σ q) (hd:o.dst.all (fun d=>Nat.blt d σ.n)=true) (hx:Get σ q x (.one (.t (.v (.string s)))))
 (hl:Bnd σ q lo 0 n) (hh:Bnd σ q hi s.size m) (hu:P.underlying t=some .string) (hb:q=true→n≤m∧m≤s.size):Op1 P ops o σ (σ.put o.dst (q,.a (.one (.t (.v (.string (s.extract n m))))))):=
 .val hg hd fun I w0 a w hr hq=>⟨_,by
  obtain⟨b1,b2⟩:=hb hq
  have b3:n≤s.size:=Nat.le_trans b1 b2
  have hs:=hx.int hr hq
  have hlo:=hl.val hr hq
  have hhi:=hh.val hr hq
  rcases hlo with ⟨e1,rfl⟩|e1<;>rcases hhi with ⟨e2,rfl⟩|e2<;>simp [execOp,ho,hs,e1,e2,Instr.sliceAt,Instr.slice,run_underlying hu,Instr.sliceBounds,Instr.sliceBound,asIntOf,b1,b2,b3],VS_v _⟩
end
end Go.Q
namespace Go.Q
open Go.RowKit
section
variable {P:Program} {ops:Array Oper} {o:Oper} {σ:St} {q:Bool}
def V0c (w:World) (FF:List Nat):List (Bool×V0)→List Value→List Nat→Prop
 | [],vs,F=>vs=[]∧F=[]
 | (o,x)::r,vs,F=>∃ v vr G1 G2,vs=v::vr∧V0r o w x v G1∧V0c w FF r vr G2∧(if o=true then F=G1++G2 else F=G2∧∀ b∈G1,b∉FF)
def CPost (w:World) (out:V) (F:List Nat) (e:Ending) (w':World):Prop:=
 ∃ v F',e=.returned v∧Vr true w' out v F'∧F'.Nodup∧(∀ b∈F',(w.heap.size≤b∨b∈F)∧Thaw w' b)∧Chg w w' F
def FnC (P:Program) (f:FuncId) (ins:List (Bool×V0)) (out:V):Prop:=Callee P f∧∀ w vs F,Good w F→V0c w F ins vs F→F.Nodup→(∀ b∈F,Thaw w b)→Calls P f (List.toArray vs) w (CPost w out F)
theorem V0c.len {w:World} {FF:List Nat}:∀ {ins:List (Bool×V0)} {vs:List Value} {F:List Nat},V0c w FF ins vs F→vs.length=ins.length
 | [],_,_,⟨h,_⟩=>by subst h;rfl
 | (_,_)::_,_,_,⟨v,vr,_,_,rfl,_,h,_⟩=>by simp [h.len]
theorem V0c.sub {w:World} {FF:List Nat}:∀ {ins:List (Bool×V0)} {vs:List Value} {F:List Nat},V0c w FF ins vs F→∀ b∈F,b<w.heap.size
 | [],_,_,⟨_,h⟩,b,hb=>by subst h;cases hb
 | (o,x)::r,_,F,⟨v,vr,G1,G2,rfl,h1,h2,h3⟩,b,hb=>by
  cases o with
  | true=>
   simp only [if_true] at h3
   subst h3
   rcases List.mem_append.1 hb with hb|hb
   · exact h1.lt b hb
   exact h2.sub b hb
  | false=>
   simp only [Bool.false_eq_true,if_false] at h3
   rw [h3.1] at hb
   exact h2.sub b hb
def initC:Nat→List (Bool×V0)→St→Option St
 | _,[],σ=>some σ
 | i,(false,x)::r,σ=>initC (i+1) r ⟨σ.n,(i,(true,.a (inA x)))::σ.slots,σ.res⟩
 | i,(true,x)::r,σ=>match outV0 (1000+50*i) x with
  | some (y,rs)=>bif (rs.all fun x=>!σ.has x.1) then initC (i+1) r ⟨σ.n,(i,(true,.a y))::σ.slots,addsR rs σ.res⟩ else none
  | none=>none
theorem initC_ok {w0:Base} {w:World} {a:Act} {FF:List Nat} (hZ0:∀ b,b<w.heap.size→b∉FF→True):∀ {ins:List (Bool×V0)} {i:Nat} {σ σ':St} {I:Ip} {vs:List Value} {F:List Nat},initC i ins σ=some σ'→RelI I w0 σ a w→(∀ b,b<w.heap.size→b∉FF→I.Z b)→V0c w FF ins vs F→F.Nodup→(∀ b∈F,Free I w0 w b)→(∀ j v,vs[j]?=some v→a.tmps.getD (i+j) undef=v)→
 ∃ I',RelI I' w0 σ' a w
 | [],i,σ,σ',I,vs,F,h,hr,_,_,_,_,_=>by simp only [initC,Option.some.injEq] at h;subst h;exact⟨I,hr⟩
 | (false,x)::r,i,σ,σ',I,vs,F,h,hr,hZ,⟨v,vr,G1,G2,e,h1,h2,h3⟩,hn,hf,hv=>by
  subst e
  rw [initC] at h
  simp only [Bool.false_eq_true,if_false] at h3
  obtain⟨rfl,h3⟩:=h3
  refine initC_ok hZ0 h (hr.reslot ?_) hZ h2 hn hf fun j u hj=>?_
  · rw [show a.tmps.getD i undef=v from hv 0 v rfl]
    exact VA_also h1 fun b hb=>hZ b (h1.lt b hb) (h3 b hb)
  rw [show i+1+j=i+(j+1) by omega];exact hv (j+1) u (by simpa using hj)
 | (true,x)::r,i,σ,σ',I,vs,F,h,hr,hZ,⟨v,vr,G1,G2,e,h1,h2,h3⟩,hn,hf,hv=>by
  subst e
  rw [initC] at h
  simp only [if_true] at h3
  subst h3
  split at h
  · rename_i y rs hy
    cases hb:(rs.all fun x=>!σ.has x.1) with
    | false=>rw [hb] at h;cases h
    | true=>
     rw [hb] at h
     obtain⟨n1,n2,n3⟩:=List.nodup_append.1 hn
     obtain⟨I1,r1,r2,r3,r4⟩:=outV0_ok hy hb hr h1 n1 fun b hb=>hf b (by simp [hb])
     have e1:σ.adds rs=⟨σ.n,σ.slots,addsR rs σ.res⟩:=adds_eq rs σ.n σ.slots σ.res
     rw [e1] at r1
     refine initC_ok hZ0 (σ:=⟨σ.n,(i,(true,.a y))::σ.slots,addsR rs σ.res⟩) h (r1.reslot ?_) (by rw [r3.1];exact hZ) h2 n2 (fun b hb=>r4 b (hf b (by simp [hb])) fun hm=>n3 b hm b hb rfl) fun j u hj=>?_
     · rw [show a.tmps.getD i undef=v from hv 0 v rfl];exact r2
     rw [show i+1+j=i+(j+1) by omega];exact hv (j+1) u (by simpa using hj)
  cases h
theorem FnC.walk {n:Nat} {f:FuncId} {fn:Func} {c:Code} {ins:List (Bool×V0)} {out:V} {σ':St} (hf:P.funcs[f]?=some fn) (hb:fn.body=some c) (hname:(fn.name == "runtime.NumGoroutine")=false) (hnt:fn.ntmps=n) (hn:Nat.ble ins.length n=true) (hi:initC 0 ins ⟨n,[],[]⟩=some σ')
 (h:∀ w0,AW P w0 c (RetQ P fn true out) σ'):FnC P f ins out:=by
 subst hnt
 refine⟨⟨fn,hf,hname,by rw [hb];rfl⟩,fun w vs F hG hv hnd hth=>?_⟩
 have hl:=hv.len
 have hn':ins.length≤fn.ntmps:=Nat.le_of_ble_eq_true hn
 have hlt:=hv.sub
 let a0:Act:=⟨(List.toArray vs)++Array.replicate (fn.ntmps-(List.toArray vs).size) undef,[]⟩
 let I0:Ip:=⟨fun b=>b<w.heap.size∧b∉F,fun _=>[],fun _=>undef,fun _=>0⟩
 have hr0:RelI I0 ⟨w,F,hG⟩ ⟨fn.ntmps,[],[]⟩ a0 w:=by
  refine⟨Chg.refl w F,rfl,by simp [a0,hl];omega,fun i z hi=>(by cases hi),fun id r hi=>(by cases hi),fun b hb=>hb.1,fun id b hb=>(by cases hb),fun id r hi=>(by cases hi),fun i j _ b hb=>(by cases hb)⟩
 obtain⟨I1,r1⟩:=initC_ok (fun _ _ _=>trivial) hi hr0 (fun b h1 h2=>⟨h1,h2⟩) hv hnd (fun b hb=>⟨.inr hb,hlt b hb,hth b hb,fun hz=>hz.2 hb,fun i hi=>by cases hi⟩) fun j v hj=>by
  have hjl:j<vs.length:=(List.getElem?_eq_some_iff.1 hj).1
  simp only [Nat.zero_add,a0]
  rw [Array.getD_eq_getD_getElem?,Array.getElem?_append_left (by simpa using hjl)]
  simp [hj]
 refine calls_of_wp hf hb (Code.wp_mono ?_ (h ⟨w,F,hG⟩ _ _ ⟨_,r1⟩))
 rintro e a' w' ⟨σ1,h1,I,hI⟩
 have key:Res P fn true out σ1→a'.defers=[]∧∃ v',(results fn a'.tmps).run P w'=.ok v' w'∧CPost w out F (.returned v') w':=fun h1=>by
  obtain⟨v',F',g1,g2,g3,g4⟩:=h1 I ⟨w,F,hG⟩ a' w' hI
  exact⟨hI.defers,v',g1,v',F',rfl,g2,(g4 rfl).1,fun b hb=>⟨g3 b hb,(g4 rfl).2 b hb⟩,hI.ext⟩
 cases e with
 | normal=>exact key h1
 | ret=>exact key h1
 | exit id=>exact h1.elim
 | goto l=>exact h1.elim
 | panic c=>exact h1.elim
 | outgrown=>exact h1.elim
theorem RelI.chgF {I:Ip} {w0:Base} {w w':World} {a:Act} (h:RelI I w0 σ a w) {G:List Nat} (hG:∀ b∈G,Free I w0 w b) (hc:Chg w w' G):RelI I w0 σ a w':=by
 have hZ:∀ b,I.Z b→b∉G:=fun b hz hb=>(hG b hb).2.2.2.1 hz
 have hv:∀ i,∀ b∈I.F i,b∉G:=fun i b hb hg=>(hG b hg).2.2.2.2 i hb
 have hm:∀ i,memN [] i=false→∀ b∈I.F i,b∉G:=fun i _=>hv i
 have hI:I.newF [] I.F=I:=by unfold Ip.newF;congr 1
 have hE:∀ e:E,e.puvL []=e:=fun e=>by cases e<;>rfl
 have hA:∀ e:A,e.puvL []=e:=fun e=>by
  cases e with
  | one e=>simp only [A.puvL,hE]
  | agg l=>simp only [A.puvL];rw [map_same fun e _=>hE e]
 have hS:∀ e:S,e.puvL []=e:=fun e=>by
  cases e with
  | a x=>simp only [S.puvL,hA]
  | tup l=>simp only [S.puvL];rw [map_same fun e _=>hA e]
 refine⟨Chg.ext h.ext hc fun b hb=>(hG b hb).1,h.defers,h.size,fun i x hi=>?_,fun i r hi=>?_,fun b hb=>Nat.lt_of_lt_of_le (h.old b hb) hc.size,fun i b hb=>⟨Nat.lt_of_lt_of_le (h.lt i b hb).1 hc.size,(h.lt i b hb).2⟩,fun i r hi=>⟨(h.own i r hi).1,fun b hb=>⟨((h.own i r hi).2 b hb).1,((h.own i r hi).2 b hb).2.chg hc (hv i b hb)⟩⟩,h.apart⟩
 · have:=(h.slots i x hi).puvL (NF:=I.F) hc hZ hm
   rw [hI,hS] at this
   exact this
 have:=h.res i r hi
 cases r with
 | row k rows=>
  have this:C true w (.sl k rows) (I.hd i) (I.F i):=this
  exact (this.congr fun b hb=>hc.block b (this.lt b hb) (hv i b hb):C true w' (.sl k rows) (I.hd i) (I.F i))
 | box cs=>
  obtain⟨h1,vs,t,h2,h3⟩:=this
  refine⟨h1,vs,t,?_,?_⟩
  · exact (hc.block _ (Array.getElem?_eq_some_iff.1 h2).1 (hv i _ (by rw [h1];simp))).trans h2
  have:=h3.puvL (NF:=I.F) hc hZ hm
  rw [hI,map_same fun e _=>hE e] at this
  exact this
 | hdr j x=>exact this
 | blk j b=>exact this
 | opq=>trivial
 | cur g=>
  have this:I.F i=[g.1]∧I.B i=g.1∧CuB I.Z w g:=this
  exact⟨this.1,this.2.1,this.2.2.congr (hc.block _ this.2.2.lt (hv i _ (by rw [this.1];simp))) fun b hb hz=>⟨hz,hc.block b hb (hZ b hz)⟩⟩
 | mp b f=>
  have this:I.F i=[b]∧MapB w b f:=this
  exact⟨this.1,this.2.congr (hc.block _ this.2.lt (hv i _ (by rw [this.1];simp)))⟩
 | kept K=>exact⟨this.1,fun x hx=>⟨(hc.block x.1 (h.old _ (this.2 x hx).2) (hZ _ (this.2 x hx).2)).trans (this.2 x hx).1,(this.2 x hx).2⟩⟩
inductive ArgRd (σ:St):List Operand→List (Bool×V0)→Prop where
 | nil:ArgRd σ [] []
 | cons {x:Operand} {A0:A} {ts:List T} {l:List Operand} {ins:List (Bool×V0)} (hx:Get σ true x A0) (hts:cellsA A0=ts.map .t) (h:ArgRd σ l ins):ArgRd σ (x::l) ((false,V0of A0 ts)::ins)
inductive ArgC (σ:St) (xo:Operand) (x0:V0):List Operand→List (Bool×V0)→Prop where
 | own {l:List Operand} {ins:List (Bool×V0)} (h:ArgRd σ l ins):ArgC σ xo x0 (xo::l) ((true,x0)::ins)
 | cons {x:Operand} {A0:A} {ts:List T} {l:List Operand} {ins:List (Bool×V0)} (hx:Get σ true x A0) (hts:cellsA A0=ts.map .t) (h:ArgC σ xo x0 l ins):ArgC σ xo x0 (x::l) ((false,V0of A0 ts)::ins)
theorem ArgRd.one {σ:St} {x:Operand} {t:T} {l:List Operand} {ins:List (Bool×V0)} (hx:Get σ true x (.one (.t t))) (h:ArgRd σ l ins):ArgRd σ (x::l) ((false,.one t)::ins):=.cons (ts:=[t]) hx rfl h
theorem ArgRd.agg {σ:St} {x:Operand} {ts:List T} {l:List Operand} {ins:List (Bool×V0)} (hx:Get σ true x (.agg (ts.map .t))) (h:ArgRd σ l ins):ArgRd σ (x::l) ((false,.agg ts)::ins):=.cons hx rfl h
theorem ArgC.one {σ:St} {xo x:Operand} {x0:V0} {t:T} {l:List Operand} {ins:List (Bool×V0)} (hx:Get σ true x (.one (.t t))) (h:ArgC σ xo x0 l ins):ArgC σ xo x0 (x::l) ((false,.one t)::ins):=.cons (ts:=[t]) hx rfl h
theorem ArgC.agg {σ:St} {xo x:Operand} {x0:V0} {ts:List T} {l:List Operand} {ins:List (Bool×V0)} (hx:Get σ true x (.agg (ts.map .t))) (h:ArgC σ xo x0 l ins):ArgC σ xo x0 (x::l) ((false,.agg ts)::ins):=.cons hx rfl h
theorem VEs_Z {I:Ip} {w:World}:∀ {ts:List T} {cs:List Value},VEs I w (ts.map .t) cs→∃ G,Cs false w ts cs G∧∀ b∈G,I.Z b
 | [],cs,h=>⟨[],by unfold Cs;exact⟨h,rfl⟩,by simp⟩
 | t::ts,cs,⟨c,cr,e,⟨G1,h1,h2⟩,h3⟩=>by
  obtain⟨G2,g1,g2⟩:=VEs_Z h3
  exact⟨G1++G2,by unfold Cs;exact⟨c,cr,G1,G2,e,h1,g1,rfl⟩,fun b hb=>by rcases List.mem_append.1 hb with hb|hb;exact h2 b hb;exact g2 b hb⟩
theorem read_Z {I:Ip} {w0:Base} {w:World} {a:Act} (hr:RelI I w0 σ a w) {x:Operand} {A0:A} {ts:List T} (hx:Get σ true x A0) (hts:cellsA A0=ts.map .t):∃ G,V0r false w (V0of A0 ts) (a.eval x) G∧∀ b∈G,I.Z b:=by
 have hv:=hx.va hr rfl
 obtain⟨cs,h1,h2⟩:=V0of_r hv
 rw [hts] at h1
 obtain⟨G,g1,g2⟩:=VEs_Z h1
 exact⟨G,(h2 (by rw [hts];simp)).2 g1,g2⟩
theorem ArgRd.ok {I:Ip} {w0:Base} {w:World} {a:Act} (hr:RelI I w0 σ a w) {FF:List Nat} (hZ:∀ b,I.Z b→b∉FF) {l:List Operand} {ins:List (Bool×V0)} (h:ArgRd σ l ins):V0c w FF ins (l.map a.eval) []:=by
 induction h with
 | nil=>exact⟨rfl,rfl⟩
 | cons hx hts h ih=>
  obtain⟨G,g1,g2⟩:=read_Z hr hx hts
  exact⟨_,_,G,[],rfl,g1,ih,by simp only [Bool.false_eq_true,if_false];exact⟨trivial,fun b hb=>hZ b (g2 b hb)⟩⟩
theorem ArgC.ok {I:Ip} {w0:Base} {w:World} {a:Act} (hr:RelI I w0 σ a w) {F:List Nat} (hZ:∀ b,I.Z b→b∉F) {xo:Operand} {x0:V0} (hx0:V0r true w x0 (a.eval xo) F) {l:List Operand} {ins:List (Bool×V0)} (h:ArgC σ xo x0 l ins):V0c w F ins (l.map a.eval) F:=by
 induction h with
 | own h=>exact⟨_,_,F,[],rfl,hx0,h.ok hr hZ,by simp⟩
 | cons hx hts h ih=>
  obtain⟨G,g1,g2⟩:=read_Z hr hx hts
  exact⟨_,_,G,F,rfl,g1,ih,by simp only [Bool.false_eq_true,if_false];exact⟨trivial,fun b hb=>hZ b (g2 b hb)⟩⟩
theorem R_consume {f:FuncId} {xo:Operand} {l:List Operand} {tys:Array TypeId} {ins:List (Bool×V0)} {out:V} {A0:A} {ts:List T} {σ':St} {y:S} {rs:List (Nat×R)} (n:Nat) (h:FnC P f ins out) (ho:o.op=.call { callee:=.value (.func f),args:=l.toArray,argTypes:=tys }) (hg:o.guard=none) (hd:o.dst.all (fun d=>Nat.blt d σ.n)=true)
 (hx:Get σ true xo A0) (ha:absorb σ (cellsA A0)=some (σ',ts)) (hl:Nat.beq ts.length (cellsA A0).length=true) (hargs:ArgC σ' xo (V0of A0 ts) l ins) (hout:outV n out=some (y,rs)) (hf:(rs.all fun x=>!σ'.has x.1)=true):Op1 P ops o σ ((σ'.adds rs).put o.dst (true,y)):=by
 rintro w0 a w ⟨I,hr⟩ K Q hK
 simp only [Region.wanted,hg,if_true]
 obtain⟨cs,hes,hcs⟩:=V0of_r (hx.va hr rfl)
 obtain⟨I',G,r1,r2,r3,r4,_⟩:=RelI.absorb ha hr hes
 have hx0:=(hcs (oo:=true) (w':=w) (F:=G) (Nat.eq_of_beq_eq_true hl)).2 r2
 have hZ:∀ b,I'.Z b→b∉G:=fun b hz hb=>(r4 b hb).2.2.2.1 hz
 have hc:=hargs.ok r1 hZ hx0
 unfold Oper.wp
 rw [run_enter h.1 ho]
 refine (h.2 w _ G (r1.goodF fun b hb=>(r4 b hb).1) hc r3 fun b hb=>(r4 b hb).2.2.1).mono fun e w' hR=>?_
 obtain⟨v,F',rfl,h1,h2,h3,h4⟩:=hR
 have r1':=r1.chgF r4 h4
 have hfree:∀ b∈F',Free I' w0 w' b:=fun b hb=>by
  rcases (h3 b hb).1 with g|g
  · exact⟨.inl (Nat.le_trans r1.ext.size g),Vr.lt h1 b hb,(h3 b hb).2,fun hz=>by have:=r1.old b hz;omega,fun i hi=>by have:=(r1.lt i b hi).1;omega⟩
  exact⟨(r4 b g).1,Vr.lt h1 b hb,(h3 b hb).2,(r4 b g).2.2.2.1,(r4 b g).2.2.2.2⟩
 obtain⟨I2,g1,g2⟩:=outV_ok hout hf r1' h1 h2 hfree
 refine hK _ _ ⟨I2,g1.put ?_ g2⟩
 have e1:(σ'.adds rs).n=σ'.n:=adds_n rs
 rw [e1,absorb_n ha];exact hd
variable {w0:Base} {Q:Exit→St→Prop} {n:Nat} {sl:List (Nat×(Bool×S))} {rs:List (Nat×R)} {l:List Oper}
theorem AWl.consume {d:Nat} {rl:List (Nat×R)} {σ':St} {x:Bool×S} (ho:Op1 P ops o ⟨n,sl,rs⟩ ((σ'.adds rl).put o.dst x)) (hd:o.dst=some d) (h:AWl P w0 ops Q l ⟨σ'.n,(d,x)::σ'.slots,addsR rl σ'.res⟩):AWl P w0 ops Q (o::l) ⟨n,sl,rs⟩:=
 AWl.op ho (by rw [hd,show σ'=⟨σ'.n,σ'.slots,σ'.res⟩ from rfl,adds_eq];exact h)
end
end Go.Q
namespace Go.Q
open Go.RowKit
section
variable {P:Program} {ops:Array Oper} {o:Oper} {σ:St} {q:Bool}
variable {w0:Base} {Q:Exit→St→Prop} {n:Nat} {sl:List (Nat×(Bool×S))} {rs:List (Nat×R)} {l:List Oper}
theorem RelI.take {I:Ip} {w:World} {a:Act} {id k i p k2:Nat} (nid:Nat) {rows rows2:List (List T)} {row:List T} (hr:RelI I w0 ⟨n,sl,rs⟩ a w) (hs:look rs id=some (.row k rows)) (hi:rows[i]?=some row) (hp:row[p]?=some (.sl k2 rows2))
 (hf:∀ c0,St.has ⟨n,puvS id sl,updR id (.row k (rows.set i (row.take p++.v c0::row.drop (p+1)))) rs⟩ nid=false) :
 ∃ c I',(∃ a l k,c=.slice a l k)∧RelI I' w0 ⟨n,puvS id sl,(nid,.row k2 rows2)::updR id (.row k (rows.set i (row.take p++.v c::row.drop (p+1)))) rs⟩ a w∧I'.hd nid=c∧∀ g n' m',I.hd id=.slice (some ⟨g,0,none⟩) n' m'→w.cell? ⟨g,i*k+p,none⟩=some c:=by
 have hC:C true w (.sl k rows) _ _:=hr.res id _ hs
 have own:=hr.own id _ hs
 simp only [C] at hC
 obtain⟨a0,len,cap,g1,g2,g3,g4,g5⟩:=hC
 have hlti:i<rows.length:=(List.getElem?_eq_some_iff.1 hi).1
 rcases g5 with ⟨g5,_⟩|⟨g,off,Gr,rfl,hF,g6,g7,g8⟩
 · omega
 obtain⟨rfl,cur,e,hcur,hcs⟩:=g7 trivial
 have hg1:=g1
 rw [hF] at own
 obtain⟨u1,xs,u2,u3,u4⟩:=g8.flat
 simp only [Nat.zero_add] at u4
 obtain⟨p1,_⟩:=set_split (.sl k2 rows2:T) hp
 have hrk:row.length=k:=u1 row (List.mem_of_getElem? hi)
 have hpl:p<row.length:=(List.getElem?_eq_some_iff.1 hp).1
 have s1:=(set_split row hi).1
 have e1:rows.flatten=((rows.take i).flatten++row.take p)++([.sl k2 rows2]++(row.drop (p+1)++(rows.drop (i+1)).flatten)):=by
  conv=>lhs;rw [s1,p1]
  simp
 rw [e1] at u2
 obtain⟨x1,x23,F1,F23,rfl,rfl,v1,v2,v3⟩:=u2.split
 obtain⟨x2,x3,F2,F3,rfl,rfl,v4,v5,v6⟩:=v2.split
 match x2,v6 with
 | [c],_=>
 have v4':C true w (.sl k2 rows2) c F2:=by
  rw [Cs] at v4
  obtain⟨c',cr,G1,G2,e,h1,h2,rfl⟩:=v4
  cases e
  rw [Cs] at h2
  obtain⟨_,rfl⟩:=h2
  simpa using h1
 have hfl:((rows.take i).flatten).length=i*k:=by
  have key:∀ (l:List (List T)),(∀ r∈l,r.length=k)→l.flatten.length=l.length*k:=by
   intro l
   induction l with
   | nil=>intro _;simp
   | cons r l ih=>intro h;rw [List.flatten_cons,List.length_append,ih fun r hr=>h r (by simp [hr]),h r (by simp),List.length_cons,Nat.succ_mul];omega
  rw [key _ fun r hr=>u1 r (List.mem_of_mem_take hr),List.length_take,Nat.min_eq_left (Nat.le_of_lt hlti)]
 have lx1:x1.length=i*k+p:=by rw [v3,List.length_append,hfl,List.length_take];omega
 have hc:=u4 (i*k+p) c (by rw [←lx1,List.getElem?_append_right (Nat.le_refl _),Nat.sub_self];rfl)
 have hsl:∃ a l k,c=.slice a l k:=by
  simp only [C] at v4'
  obtain⟨a1,l1,c1,e,_⟩:=v4'
  exact⟨_,_,_,e⟩
 have hnd:=List.nodup_cons.1 own.1
 obtain⟨d1,d23,d12⟩:=List.nodup_append.1 hnd.2
 obtain⟨d2,d3,d23'⟩:=List.nodup_append.1 d23
 have inG:∀ b,b∈g::(F1++F3)→b∈g::(F1++(F2++F3))∧b∉F2:=fun b hb=>by
  rcases List.mem_cons.1 hb with rfl|hb
  · exact⟨by simp,fun hm=>hnd.1 (by simp [hm])⟩
  rcases List.mem_append.1 hb with hb|hb
  · exact⟨by simp [hb],fun hm=>d12 b hb b (by simp [hm]) rfl⟩
  exact⟨by simp [hb],fun hm=>d23' b hm b hb rfl⟩
 have r1:=hr.upd (G:=g::(F1++F3)) (r:=.row k (rows.set i (row.take p++.v c::row.drop (p+1)))) hs (Chg.refl w _) ⟨List.nodup_cons.2 ⟨fun hm=>?_,List.nodup_append.2 ⟨d1,d3,fun b hb b' hb' e=>?_⟩⟩,fun b hb=>?_⟩ ?_
 · have r2:=r1.addF (hf c) (G:=F2) (u:=c) (b:=0) (r:=.row k2 rows2) d2 (fun b hb=>?_) (by
    show C true w (.sl k2 rows2) _ _
    simp only [Ip.set,if_true]
    exact v4')
   · refine⟨c,_,hsl,r2,by simp only [Ip.set,if_true],fun g0 n0 m0 h0=>?_⟩
     rw [hg1] at h0
     cases h0
     exact hc
   obtain⟨o1,cc,ee,o2⟩:=own.2 b (by simp [hb])
   have hlt:b<w.heap.size:=(Array.getElem?_eq_some_iff.1 o2).1
   refine⟨o1,hlt,⟨cc,ee,o2⟩,fun hz=>(hr.lt id b (by rw [hF];simp [hb])).2 hz,fun j hj=>?_⟩
   by_cases ej:j=id
   · simp only [Ip.set,if_pos ej] at hj
     exact (inG b hj).2 hb
   simp only [Ip.set,if_neg ej] at hj
   exact hr.apart j id ej b hj (by rw [hF];simp [hb])
 · rcases List.mem_append.1 hm with hm|hm
   · exact hnd.1 (by simp [hm])
   exact hnd.1 (by simp [hm])
 · subst e
   exact d12 b hb b (by simp [hb']) rfl
 · obtain⟨hin,_⟩:=inG b hb
   obtain⟨o1,cc,ee,o2⟩:=own.2 b hin
   exact⟨o1,(Array.getElem?_eq_some_iff.1 o2).1,⟨cc,ee,o2⟩,.inl (by rw [hF];exact hin)⟩
 show C true _ _ _ _
 simp only [Ip.set,if_true]
 unfold C
 refine⟨_,_,_,hg1,by simpa using g2,g3,g4,.inr ⟨g,0,F1++F3,rfl,rfl,g6,fun _=>⟨rfl,cur,e,hcur,hcs⟩,Rws.of (xs:=x1++([c]++x3)) (fun r hm=>?_) ?_ fun j u hj=>?_⟩⟩
 · rcases List.mem_or_eq_of_mem_set hm with hm|rfl
   · exact u1 r hm
   simp only [List.length_append,List.length_take,List.length_cons,List.length_drop]
   omega
 · rw [(set_split (row.take p++.v c::row.drop (p+1)) hi).2]
   have ef:(rows.take i++(row.take p++.v c::row.drop (p+1))::rows.drop (i+1)).flatten=((rows.take i).flatten++row.take p)++([.v c]++(row.drop (p+1)++(rows.drop (i+1)).flatten)):=by simp
   rw [ef]
   refine v1.append (Cs.append (F:=[]) ?_ v5)
   unfold Cs
   obtain⟨a1,l1,c1,rfl⟩:=hsl
   exact⟨_,[],[],[],rfl,by unfold C;exact⟨rfl,rfl,rfl⟩,by unfold Cs;exact⟨rfl,rfl⟩,rfl⟩
 rw [Nat.zero_add]
 exact u4 j u hj
theorem R_shr {t t':TypeId} {x y:Operand} {n m:Int} (ho:o.op=.binOp .shr t x y t') (hg:Grd ops o σ q) (hd:o.dst.all (fun d=>Nat.blt d σ.n)=true) (hx:Get σ q x (.one (.t (.v (.int .i64 n))))) (hy:Get σ q y (.one (.t (.v (.int .i64 m)))))
 (hb:q=true→0≤n∧0≤m∧m≤64):Op1 P ops o σ (σ.put o.dst (q,.a (.one (.t (.v (.int .i64 ((n.toNat>>>m.toNat:Nat):Int))))))):=
 Dm ho hg hd hx hy guard_int (h:=fun hq w=>by
  obtain⟨h1,h2,h3⟩:=hb hq
  have e1:min m.toNat IntKind.i64.bits=m.toNat:=by simp [IntKind.bits];omega
  have e2:n.fdiv (2^m.toNat)=((n.toNat>>>m.toNat:Nat):Int):=by
   have e3:n=(n.toNat:Int):=by omega
   have h2p:(0:Int)≤2^m.toNat:=Int.pow_nonneg (by omega)
   rw [Int.fdiv_eq_ediv_of_nonneg n h2p,Nat.shiftRight_eq_div_pow,Int.natCast_ediv,←e3]
   simp
  simp only [binOp,Op.shift,e1]
  rw [if_neg (by omega),e2]
  rfl)
theorem R_and1 {t t':TypeId} {x y:Operand} {n:Int} (ho:o.op=.binOp .and t x y t') (hg:Grd ops o σ q) (hd:o.dst.all (fun d=>Nat.blt d σ.n)=true) (hx:Get σ q x (.one (.t (.v (.int .i64 n))))) (hy:Get σ q y (.one (.t (.v (.int .i64 1)))))
 (hb:q=true→0≤n):Op1 P ops o σ (σ.put o.dst (q,.a (.one (.t (.v (.int .i64 ((n.toNat&&&(1:Int).toNat:Nat):Int))))))):=
 Dm ho hg hd hx hy guard_int (h:=fun hq w=>by
  have h1:=hb hq
  have e0:n.toNat&&&(1:Int).toNat=n.toNat%2:=Nat.and_one_is_mod n.toNat
  have e1:(BitVec.ofInt 64 n&&&BitVec.ofInt 64 1).toNat=n.toNat%2:=by
   rw [BitVec.toNat_and,BitVec.toNat_ofInt,BitVec.toNat_ofInt]
   show (n%(2^64:Int)).toNat&&&1=_
   rw [Nat.and_one_is_mod]
   omega
  simp only [binOp,Op.intBits]
  simp only [ne_eq,not_true_eq_false,if_false]
  show (pure (Value.int .i64 (IntKind.i64.wrap ((BitVec.ofInt 64 n&&&BitVec.ofInt 64 1).toNat:Int))):Sem Value).run P w=_
  rw [e1,e0,wrap_in ⟨by omega,by omega⟩]
  rfl)
theorem R_shlN {t t':TypeId} {x y:Operand} {m:Int} (ho:o.op=.binOp .shl t x y t') (hg:Grd ops o σ q) (hd:o.dst.all (fun d=>Nat.blt d σ.n)=true) (hx:Get σ q x (.one (.t (.v (.int .i64 1))))) (hy:Get σ q y (.one (.t (.v (.int .i64 m)))))
 (hb:q=true→0≤m∧m≤62):Op1 P ops o σ (σ.put o.dst (q,.a (.one (.t (.v (.int .i64 ((2^m.toNat:Nat):Int))))))):=by
 have:=R_shl1 (P:=P) (ops:=ops) (n:=1) (m:=m) ho hg hd hx hy (fun hq=>by
  obtain⟨h1,h2⟩:=hb hq
  have e:(2:Nat)^m.toNat≤2^62:=Nat.pow_le_pow_right (by omega) (by omega)
  have e2:((2^m.toNat:Nat):Int)=2^m.toNat:=by simp
  refine⟨h1,by omega,by omega,?_⟩
  rw [Int.one_mul,←e2]
  omega)
 rwa [Int.one_mul,show ((2:Int)^m.toNat)=((2^m.toNat:Nat):Int) by simp] at this
end
theorem bit_at (m:Nat) (q:Int):decide (((((m:Int).toNat>>>q.toNat:Nat):Int).toNat&&&(1:Int).toNat:Nat)=(1:Int))=m.testBit q.toNat:=by
 generalize q.toNat=q
 rw [Nat.testBit]
 simp only [Int.toNat_natCast]
 show decide ((((m>>>q)&&&1:Nat):Int)=1)=_
 rw [Nat.and_comm]
 have h:1&&&(m>>>q)≤1:=Nat.and_le_left
 by_cases e:1&&&(m>>>q)=0
 · rw [e];simp
 have e1:1&&&(m>>>q)=1:=by omega
 rw [e1];simp
theorem bit_zero (m:Nat) (q:Int):decide (((((m:Int).toNat>>>q.toNat:Nat):Int).toNat&&&(1:Int).toNat:Nat)=(0:Int))=!m.testBit q.toNat:=by
 have h1:=bit_at m q
 have h:((((m:Int).toNat>>>q.toNat:Nat):Int).toNat&&&(1:Int).toNat)≤1:=Nat.and_le_right
 rw [←h1]
 generalize ((((m:Int).toNat>>>q.toNat:Nat):Int).toNat&&&(1:Int).toNat)=n at h ⊢
 have h2:n=0∨n=1:=by omega
 rcases h2 with rfl|rfl<;>rfl
theorem shr_zero (m:Nat) (q:Int):decide ((((m:Int).toNat>>>q.toNat:Nat):Int)=0)=decide (m<2^q.toNat):=by
 generalize q.toNat=q
 have hp:0<2^q:=Nat.two_pow_pos q
 have e:(((m:Int).toNat>>>q:Nat):Int)=((m / 2^q:Nat):Int):=by
  rw [Int.toNat_natCast,Nat.shiftRight_eq_div_pow]
 rw [decide_eq_decide,e]
 constructor
 · intro h
   exact (Nat.div_eq_zero_iff_lt hp).1 (by omega)
 intro h
 have h:m / 2^q=0:=(Nat.div_eq_zero_iff_lt hp).2 h
 omega
end Go.Q
namespace Go.Q
open Go.RowKit
section
variable {P:Program} {ops:Array Oper} {o:Oper} {σ:St} {q:Bool}
theorem C.hdr {o:Bool} {w:World} {k:Nat} {rows:List (List T)} {a:Option Addr} {n m:Nat} {F:List Nat} (h:C o w (.sl k rows) (.slice a n m) F):rows.length=n∧n≤m∧m≤maxLen:=by
 simp only [C] at h
 obtain⟨a',n',m',e,h1,h2,h3,_⟩:=h
 cases e
 exact⟨h1,h2,h3⟩
theorem C.blk {w:World} {k:Nat} {rows:List (List T)} {a:Option Addr} {n m:Nat} {F:List Nat} (h:C true w (.sl k rows) (.slice a n m) F):(m=0∧F=[]∧rows=[])∨∃ g G cur e,a=some ⟨g,0,none⟩∧F=g::G∧w.heap[g]?=some (.cells cur e (0,0))∧cur.size=m*k∧Rws true w g k 0 rows G:=by
 simp only [C] at h
 obtain⟨a',n',m',e,h1,h2,h3,h4⟩:=h
 cases e
 rcases h4 with ⟨h4,rfl,h5⟩|⟨b,off,G,rfl,rfl,h6,h7,h8⟩
 · exact .inl ⟨h5 trivial,rfl,List.eq_nil_of_length_eq_zero (by omega)⟩
 obtain⟨rfl,cur,e,h9,h10⟩:=h7 trivial
 exact .inr ⟨b,G,cur,e,rfl,rfl,h9,h10,h8⟩
def OpE (P:Program) (ops:Array Oper) (o:Oper) (σ:St) (Φ:St→Prop):Prop:=∀ w0 a w,Rel w0 σ a w→∀ (K:Act→World→Prop) (Q:Exit→Act→World→Prop),(∀ σ' a' w',Φ σ'→Rel w0 σ' a' w'→K a' w')→
 if Region.wanted o (yielded ops a.tmps) then o.wp P a w K Q else K (a.put o.dst undef) w
theorem OpE.eff {Φ:St→Prop} (hg:o.guard=none) (h:∀ w0 a w,Rel w0 σ a w→∃ v w' σ',(execOp a.eval o).run P w=.ok (.value v) w'∧Φ σ'∧Rel w0 σ' (a.put o.dst v) w'):OpE P ops o σ Φ:=by
 intro w0 a w hr K Q hK
 simp only [Region.wanted,hg,if_true]
 obtain⟨v,w',σ',h1,h2,h3⟩:=h w0 a w hr
 unfold Oper.wp
 rw [h1]
 exact hK _ _ _ h2 h3
theorem Bl {w0:Base} {Q:Exit→St→Prop} {l:List Oper} {Φ:St→Prop} (ho:OpE P ops o σ Φ) (h:∀ σ',Φ σ'→AWl P w0 ops Q l σ'):AWl P w0 ops Q (o::l) σ:=fun a w hr=>
 wpList_step fun K hK=>ho w0 a w hr K _ fun σ' a' w' hφ hr'=>hK a' w' (h σ' hφ a' w' hr')
variable {w0:Base} {Q:Exit→St→Prop} {n:Nat} {sl:List (Nat×(Bool×S))} {rs:List (Nat×R)} {l:List Oper}
end
end Go.Q
namespace Go.Q
open Go.RowKit
section
variable {P:Program} {ops:Array Oper} {o:Oper} {σ:St} {q:Bool}
theorem Dk {f:FuncId} {l:List Operand} {tys:Array TypeId} {ins:List V0} {out:V} (ho:o.op=.call { callee:=.value (.func f),args:=l.toArray,argTypes:=tys }) (hg:Grd ops o σ q) (hd:o.dst.all (fun d=>Nat.blt d σ.n)=true)
 (ha:Args σ q l ins) (h:q=true→FrT P f ins out):Op1 P ops o σ (σ.put o.dst (q,inS out)):=by
 cases q with
 | true=>exact Aw (h rfl) ho hg hd ha
 | false=>
  rintro w0 a w ⟨I,hr⟩ K Q hK
  rw [hg.wanted hr]
  exact hK _ _ ⟨I,hr.put hd rfl⟩
theorem isV_map {α:Type} {f:α→List T} (h:∀ x,(f x).all T.isV=true):∀ l:List α,(l.map f).flatten.all T.isV=true
 | []=>rfl
 | x::l=>by rw [List.map_cons,List.flatten_cons,List.all_append,h x,isV_map h l];rfl
theorem R_slice_vwr {id:Nat} {t e:TypeId} {x:Operand} {lo hi:Option Operand} {k n m:Nat} {ag:Bool} {rows:List (List T)} (ho:o.op=.slice t x lo hi none) (hg:Grd ops o σ q) (hd:o.dst.all (fun d=>Nat.blt d σ.n)=true) (hx:Get σ q x (.one (.rf id))) (hs:look σ.res id=some (.row k rows))
 (hl:Bnd σ q lo 0 n) (hh:Bnd σ q hi rows.length m) (hu:P.underlying t=some (.slice e)) (hk:tyB P e ag k=true) (hb:q=true→n≤m∧m≤rows.length):Op1 P ops o σ (σ.put o.dst (q,.a (.one (.vw id (.sl k ((rows.take m).drop n)))))):=
 .val hg hd fun I w0 a w hr hq=>by
  have hv:VE I w (.rf id) (a.eval x):=hx.va hr hq
  have hC:C true w (.sl k rows) (I.hd id) (I.F id):=hr.res id _ hs
  obtain⟨v',F',g1,g2,g3⟩:=slice_C hu hk (C.read hC) (hl.val hr hq) (hh.val hr hq) (hb hq).2 (hb hq).1
  rw [←hv.1] at g1
  exact⟨v',by simp [execOp,ho,g1],F',g2,g3⟩
end
end Go.Q
