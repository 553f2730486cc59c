import Derived.Test.YtbecibmlbiebeaaGreatAbs4xb
import Derived.Laws.OwnMore
set_option linter.unusedVariables false
set_option linter.unusedSimpArgs false
namespace Go.Q
open Go.RowKit
theorem Ext.chg {w w':World} (h:Ext w w') (G:List Nat):Chg w w' G:=⟨h.1,h.2,h.3,h.size,fun _ hk _=>h.block hk⟩
def delR:List (Nat×R)→Nat→List (Nat×R)
 | [],_=>[]
 | (i,x)::l,id=>bif Nat.beq i id then delR l id else (i,x)::delR l id
theorem look_delR:∀ (l:List (Nat×R)) (id i:Nat) (x:R),look (delR l id) i=some x→i≠id∧look l i=some x
 | [],_,_,_,h=>by cases h
 | (j,y)::l,id,i,x,h=>by
  rw [delR] at h
  by_cases e:j=id
  · subst e
    simp only [Nat.beq_refl,cond_true] at h
    obtain⟨h1,h2⟩:=look_delR l j i x h
    exact⟨h1,by rw [look_cons,if_neg (fun e=>h1 e.symm)];exact h2⟩
  have eb:Nat.beq j id=false:=by
   cases hb:Nat.beq j id with
   | false=>rfl
   | true=>exact absurd (Nat.eq_of_beq_eq_true hb) e
  simp only [eb,cond_false] at h
  rw [look_cons] at h
  by_cases e':j=i
  · rw [if_pos e'] at h;cases h
    exact⟨fun h=>e (e'.trans h),by rw [look_cons,if_pos e']⟩
  rw [if_neg e'] at h
  obtain⟨h1,h2⟩:=look_delR l id i x h
  exact⟨h1,by rw [look_cons,if_neg e'];exact h2⟩
def St.kill (σ:St) (id:Nat):St:={ σ.pur id with res:=delR (σ.pur id).res id }
theorem RelI.kill {I:Ip} {w0:Base} {w:World} {σ:St} {a:Act} (h:RelI I w0 σ a w) {id:Nat} {r0:R} (h0:look σ.res id=some r0) :
 RelI (I.set id [] (I.hd id) (I.B id)) w0 (σ.kill id) a w∧(∀ b∈I.F id,Free (I.set id [] (I.hd id) (I.B id)) w0 w b)∧∀ b,Free I w0 w b→Free (I.set id [] (I.hd id) (I.B id)) w0 w b:=by
 have hZ:∀ b,I.Z b→b∉I.F id:=fun b hz hb=>(h.lt id b hb).2 hz
 have hv:∀ i,i≠id→∀ b∈I.F i,b∉I.F id:=fun i hi=>h.apart i id hi
 have hc:=Chg.refl w (I.F id)
 have Fid:(I.set id [] (I.hd id) (I.B id)).F id=[]:=by simp [Ip.set]
 have Foth:∀ i,i≠id→(I.set id [] (I.hd id) (I.B id)).F i=I.F i:=fun i hi=>by simp [Ip.set,hi]
 have key:∀ i r',look (σ.kill id).res i=some r'→i≠id∧∃ y,look σ.res i=some y∧r'=y.pur id:=by
  intro i r' hi
  obtain⟨h1,h2⟩:=look_delR _ _ _ _ hi
  refine⟨h1,?_⟩
  rw [St.pur,look_map] at h2
  obtain⟨y,hy,e⟩:=Option.map_eq_some_iff.1 h2
  exact⟨y,hy,e.symm⟩
 refine⟨⟨h.ext,h.defers,h.size,fun i x hi=>?_,fun i r' hi=>?_,h.old,fun i b hb=>?_,fun i r' hi=>?_,fun i j hne b hb hb'=>?_⟩,fun b hb=>?_,fun b hb=>?_⟩
 · have hi':look (σ.slots.map fun x=>(x.1,(x.2.1,x.2.2.pur id))) i=some x:=hi
   rw [look_map (fun x:Bool×S=>(x.1,x.2.pur id))] at hi'
   obtain⟨y,hy,rfl⟩:=Option.map_eq_some_iff.1 hi'
   exact (h.slots i y hy).pur hc hZ hv
 · obtain⟨e,y,hy,rfl⟩:=key i r' hi
   have:=h.res i y hy
   cases y with
   | row k rows=>
    have this:C true w (.sl k rows) (I.hd i) (I.F i):=this
    show C true w (.sl k rows) _ _
    simpa only [Ip.set,if_neg e] using this
   | box cs=>
    obtain⟨h1,vs,t,h2,h3⟩:=this
    exact⟨by simpa only [Ip.set,if_neg e] using h1,vs,t,by simpa only [Ip.set,if_neg e] using h2,h3.pur hc hZ hv⟩
   | kept K=>exact⟨by simp only [Ip.set,if_neg e];exact this.1,this.2⟩
   | opq=>trivial
   | cur g=>
    have this:I.F i=[g.1]∧I.B i=g.1∧CuB I.Z w g:=this
    exact⟨by simpa only [Ip.set,if_neg e] using this.1,by simpa only [Ip.set,if_neg e] using this.2.1,this.2.2⟩
   | mp b f=>
    have this:I.F i=[b]∧MapB w b f:=this
    exact⟨by simpa only [Ip.set,if_neg e] using this.1,this.2⟩
   | hdr j x=>
    refine⟨by simp only [Ip.set,if_neg e];exact this.1,fun k hk=>?_⟩
    cases j with
    | none=>cases hk
    | some j=>
     simp only at hk
     cases hb:Nat.beq j id with
     | true=>rw [hb] at hk;cases hk
     | false=>
      rw [hb] at hk
      cases hk
      simp only [Ip.set,if_neg (beq_ne hb)]
      exact this.2 _ rfl
   | blk j b=>
    refine⟨by simp only [Ip.set,if_neg e];exact this.1,fun k hk=>?_⟩
    cases j with
    | none=>cases hk
    | some j=>
     simp only at hk
     cases hb:Nat.beq j id with
     | true=>rw [hb] at hk;cases hk
     | false=>
      rw [hb] at hk
      cases hk
      simp only [Ip.set,if_neg (beq_ne hb)]
      exact this.2 _ rfl
 · by_cases e:i=id
   · rw [e,Fid] at hb;cases hb
   rw [Foth i e] at hb;exact h.lt i b hb
 · obtain⟨e,y,hy,rfl⟩:=key i r' hi
   rw [Foth i e];exact h.own i y hy
 · by_cases ei:i=id
   · rw [ei,Fid] at hb;cases hb
   by_cases ej:j=id
   · rw [ej,Fid] at hb';cases hb'
   rw [Foth i ei] at hb;rw [Foth j ej] at hb';exact h.apart i j hne b hb hb'
 · refine⟨((h.own id r0 h0).2 b hb).1,(h.lt id b hb).1,((h.own id r0 h0).2 b hb).2,(h.lt id b hb).2,fun i hi=>?_⟩
   by_cases e:i=id
   · rw [e,Fid] at hi;cases hi
   rw [Foth i e] at hi;exact h.apart i id e b hi hb
 refine⟨hb.1,hb.2.1,hb.2.2.1,hb.2.2.2.1,fun i hi=>?_⟩
 by_cases e:i=id
 · rw [e,Fid] at hi;cases hi
 rw [Foth i e] at hi;exact hb.2.2.2.2 i hi
theorem Free.mono {I:Ip} {w0:Base} {w w':World} {b:Nat} (h:Free I w0 w b) (hx:Ext w w'):Free I w0 w' b:=⟨h.1,Nat.lt_of_lt_of_le h.2.1 hx.size,h.2.2.1.ext hx,h.2.2.2⟩
theorem RelI.addF {I:Ip} {w0:Base} {w:World} {σ:St} {a:Act} (h:RelI I w0 σ a w) {id:Nat} (hf:σ.has id=false) {G:List Nat} {u:Value} {b:Nat} {r:R}
 (hn:G.Nodup) (hG:∀ b∈G,Free I w0 w b) (hr:RR (I.set id G u b) w id r):RelI (I.set id G u b) w0 (σ.add id r) a w:=by
 have key:∀ i r',look (σ.add id r).res i=some r'→(i=id∧r'=r)∨(i≠id∧look σ.res i=some r'):=by
  intro i r' hi
  rw [St.add,look_cons] at hi
  by_cases e:id=i
  · rw [if_pos e] at hi;cases hi;exact .inl ⟨e.symm,rfl⟩
  rw [if_neg e] at hi;exact .inr ⟨fun e'=>e e'.symm,hi⟩
 have Fid:(I.set id G u b).F id=G:=by simp [Ip.set]
 have Foth:∀ i,i≠id→(I.set id G u b).F i=I.F i:=fun i hi=>by simp [Ip.set,hi]
 refine⟨h.ext,h.defers,h.size,fun i x hi=>(h.slots i x hi).set (St.has_slot hf hi),fun i r' hi=>?_,h.old,fun i b hb=>?_,fun i r' hi=>?_,fun i j hne=>?_⟩
 · rcases key i r' hi with ⟨rfl,rfl⟩|⟨e,hi⟩
   · exact hr
   exact (h.res i r' hi).set e (St.has_res hf hi).2
 · by_cases e:i=id
   · rw [e,Fid] at hb;exact⟨(hG b hb).2.1,(hG b hb).2.2.2.1⟩
   rw [Foth i e] at hb;exact h.lt i b hb
 · rcases key i r' hi with ⟨rfl,rfl⟩|⟨e,hi⟩
   · rw [Fid];exact⟨hn,fun b hb=>⟨(hG b hb).1,(hG b hb).2.2.1⟩⟩
   rw [Foth i e];exact h.own i r' hi
 by_cases ei:i=id
 · by_cases ej:j=id
   · exact absurd (ei.trans ej.symm) hne
   rw [ei,Fid,Foth j ej];exact fun b hb hb'=>(hG b hb).2.2.2.2 j hb'
 by_cases ej:j=id
 · rw [ej,Fid,Foth i ei];exact fun b hb hb'=>(hG b hb').2.2.2.2 i hb
 rw [Foth i ei,Foth j ej];exact h.apart i j hne
theorem Free.set {I:Ip} {w0:Base} {w:World} {id:Nat} {G:List Nat} {u:Value} {b c:Nat} (h:Free I w0 w c) (hc:c∉G):Free (I.set id G u b) w0 w c:=
 ⟨h.1,h.2.1,h.2.2.1,h.2.2.2.1,fun i hi=>by
  by_cases e:i=id
  · simp only [Ip.set,if_pos e] at hi;exact hc hi
  simp only [Ip.set,if_neg e] at hi;exact h.2.2.2.2 i hi⟩
def absorb:St→List E→Option (St×List T)
 | σ,[]=>some (σ,[])
 | σ,e::r=>match e with
  | .t (.v x)=>match absorb σ r with|some (σ',ts)=>some (σ',.v x::ts)|none=>none
  | .rf id=>match look σ.res id with
   | some (.row k rows)=>match absorb (σ.kill id) r with|some (σ',ts)=>some (σ',.sl k rows::ts)|none=>none
   | _=>none
  | _=>none
theorem absorb_n:∀ {l:List E} {σ σ':St} {ts:List T},absorb σ l=some (σ',ts)→σ'.n=σ.n
 | [],σ,σ',ts,h=>by simp only [absorb,Option.some.injEq,Prod.mk.injEq] at h;rw [h.1]
 | e::r,σ,σ',ts,h=>by
  match e,h with
  | .t (.v x),h=>
   rw [absorb] at h
   split at h
   · rename_i h1;simp only [Option.some.injEq,Prod.mk.injEq] at h;rw [←h.1];exact absorb_n h1
   cases h
  | .rf id,h=>
   rw [absorb] at h
   split at h
   · split at h
     · rename_i h1;simp only [Option.some.injEq,Prod.mk.injEq] at h;rw [←h.1];exact (absorb_n h1).trans rfl
     cases h
   cases h
  | .t (.sl _ _),h=>cases h
  | .t (.ad _),h=>cases h
  | .t (.fn _ _ _),h=>cases h
  | .vw _ _,h=>cases h
  | .pp _ _,h=>cases h
  | .pr _ _ _ _,h=>cases h
  | .sb _ _ _ _,h=>cases h
  | .tl _ _ _,h=>cases h
  | .pf _ _ _,h=>cases h
  | .no,h=>cases h
theorem kill_live {σ:St} {id j:Nat} {r:R} (h:look (σ.kill id).res j=some r):j≠id∧∃ y,look σ.res j=some y:=by
 obtain⟨h1,h2⟩:=look_delR _ _ _ _ h
 rw [St.pur,look_map] at h2
 obtain⟨y,hy,_⟩:=Option.map_eq_some_iff.1 h2
 exact⟨h1,y,hy⟩
theorem RelI.absorbF {w0:Base} {w:World} {a:Act}:∀ {l:List E} {σ σ':St} {ts:List T} {I:Ip} {cs:List Value} (f:E→E),(∀ x,f (.t x)=.t x)→(∀ id r,look σ.res id=some r→f (.rf id)=.rf id)→absorb σ l=some (σ',ts)→RelI I w0 σ a w→VEs I w (l.map f) cs→
 ∃ I' G,RelI I' w0 σ' a w∧Cs true w ts cs G∧G.Nodup∧(∀ b∈G,Free I' w0 w b)∧∀ b,Free I w0 w b→Free I' w0 w b∧b∉G
 | [],σ,σ',ts,I,cs,f,_,_,h,hr,hv=>by
  simp only [Go.Q.absorb,Option.some.injEq,Prod.mk.injEq] at h
  obtain⟨rfl,rfl⟩:=h
  exact⟨I,[],hr,by unfold Cs;exact⟨hv,rfl⟩,List.nodup_nil,by simp,fun b hb=>⟨hb,by simp⟩⟩
 | e::r,σ,σ',ts,I,cs,f,hf1,hf2,h,hr,hv=>by
  obtain⟨c,cr,rfl,h1,h2⟩:=hv
  match e,h,h1 with
  | .t (.v x),h,h1=>
   rw [Go.Q.absorb] at h
   split at h
   · rename_i h3
     simp only [Option.some.injEq,Prod.mk.injEq] at h
     obtain⟨rfl,rfl⟩:=h
     obtain⟨I',G,g1,g2,g3,g4,g5⟩:=RelI.absorbF f hf1 hf2 h3 hr h2
     rw [hf1] at h1
     obtain⟨G0,h4,_⟩:=h1
     refine⟨I',G,g1,?_,g3,g4,g5⟩
     simp only [C] at h4
     unfold Cs
     exact⟨c,cr,[],G,rfl,by unfold C;exact⟨h4.1,rfl,h4.2.2⟩,g2,rfl⟩
   cases h
  | .rf id,h,h1=>
   rw [Go.Q.absorb] at h
   split at h
   · rename_i k rows h0
     split at h
     · rename_i h3
       simp only [Option.some.injEq,Prod.mk.injEq] at h
       obtain⟨rfl,rfl⟩:=h
       obtain⟨k1,k2,k3⟩:=hr.kill h0
       rw [hf2 id _ h0] at h1
       have hc:c=I.hd id:=h1.1
       have hC:C true w (.sl k rows) _ _:=hr.res id _ h0
       have hv2:VEs (I.set id [] (I.hd id) (I.B id)) w ((r.map f).map (E.pur id)) cr:=h2.pur (Chg.refl w (I.F id)) (fun b hz hb=>(hr.lt id b hb).2 hz) (fun i hi=>hr.apart i id hi)
       rw [List.map_map] at hv2
       obtain⟨I',G,g1,g2,g3,g4,g5⟩:=RelI.absorbF (E.pur id∘f) (fun x=>by simp [hf1,E.pur]) (fun j r' hj=>by
        obtain⟨e1,y,e2⟩:=kill_live hj
        have eb:Nat.beq j id=false:=by
         cases hb:Nat.beq j id with
         | false=>rfl
         | true=>exact absurd (Nat.eq_of_beq_eq_true hb) e1
        simp [hf2 j y e2,E.pur,eb]) h3 k1 hv2
       refine⟨I',I.F id++G,g1,?_,List.nodup_append.2 ⟨(hr.own id _ h0).1,g3,fun x hx y hy e=>(g5 x (k2 x hx)).2 (e▸hy)⟩,fun b hb=>?_,fun b hb=>⟨(g5 b (k3 b hb)).1,fun hm=>?_⟩⟩
       · unfold Cs;exact⟨c,cr,I.F id,G,rfl,by rw [hc];exact hC,g2,rfl⟩
       · rcases List.mem_append.1 hb with hb|hb
         · exact (g5 b (k2 b hb)).1
         exact g4 b hb
       rcases List.mem_append.1 hm with hm|hm
       · exact hb.2.2.2.2 id hm
       exact (g5 b (k3 b hb)).2 hm
     cases h
   cases h
  | .t (.sl _ _),h,_=>cases h
  | .t (.ad _),h,_=>cases h
  | .t (.fn _ _ _),h,_=>cases h
  | .vw _ _,h,_=>cases h
  | .pp _ _,h,_=>cases h
  | .pr _ _ _ _,h,_=>cases h
  | .sb _ _ _ _,h,_=>cases h
  | .tl _ _ _,h,_=>cases h
  | .pf _ _ _,h,_=>cases h
  | .no,h,_=>cases h
theorem RelI.absorb {w0:Base} {w:World} {a:Act} {l:List E} {σ σ':St} {ts:List T} {I:Ip} {cs:List Value} (h:absorb σ l=some (σ',ts)) (hr:RelI I w0 σ a w) (hv:VEs I w l cs) :
 ∃ I' G,RelI I' w0 σ' a w∧Cs true w ts cs G∧G.Nodup∧(∀ b∈G,Free I' w0 w b)∧∀ b,Free I w0 w b→Free I' w0 w b∧b∉G:=
 RelI.absorbF id (fun _=>rfl) (fun _ _ _=>rfl) h hr (by simpa using hv)
def mapO {α β:Type} (f:α→Option β):List α→Option (List β)
 | []=>some []
 | e::r=>match f e with
  | some t=>(match mapO f r with|some ts=>some (t::ts)|none=>none)
  | none=>none
def readE0 (σ:St):E→Option T
 | .t x=>some x
 | .vw _ x=>some x
 | .rf id=>match look σ.res id with|some (.row k rows)=>some (.sl k rows)|_=>none
 | _=>none
def readE (σ:St):Nat→E→Option T
 | 0=>readE0 σ
 | n+1=>fun e=>match e with
  | .pp id off=>(match look σ.res id with|some (.box cs)=>(match mapO (readE σ n) (cs.drop off) with|some ts=>some (.ad ts)|none=>none)|_=>none)
  | e=>readE0 σ e
theorem Ms_of_cells {w:World} {b:Nat}:∀ {ts:List T} {cs:List Value} {G:List Nat} (off:Nat),Cs false w ts cs G→(∀ (j:Nat) (u:Value),cs[j]?=some u→w.cell? ⟨b,off+j,none⟩=some u)→Ms false w b off ts G
 | [],cs,G,off,h,_=>by simp only [Cs] at h;simp only [Ms];exact h.2
 | t::r,cs,G,off,h,hc=>by
  simp only [Cs] at h
  obtain⟨c,cr,G1,G2,rfl,h2,h3,rfl⟩:=h
  simp only [Ms]
  exact⟨c,G1,G2,by simpa using hc 0 c rfl,h2,Ms_of_cells (off+1) h3 fun j u hj=>by have:=hc (j+1) u (by simpa using hj);simpa [Nat.add_comm,Nat.add_left_comm] using this,rfl⟩
theorem VEs_drop {I:Ip} {w:World}:∀ {l:List E} {cs:List Value} (n:Nat),VEs I w l cs→VEs I w (l.drop n) (cs.drop n)
 | l,cs,0,h=>by simpa using h
 | [],cs,n+1,h=>by simp only [VEs] at h;subst h;simp [VEs]
 | e::l,cs,n+1,h=>by obtain⟨c,cr,rfl,h1,h2⟩:=h;simpa using VEs_drop n h2
theorem VEs_take {I:Ip} {w:World}:∀ {l:List E} {cs:List Value} (n:Nat),VEs I w l cs→VEs I w (l.take n) (cs.take n)
 | l,cs,0,h=>by simp [VEs]
 | [],cs,n+1,h=>by simp only [VEs] at h;subst h;simp [VEs]
 | e::l,cs,n+1,h=>by
  obtain⟨c,cr,rfl,h1,h2⟩:=h
  exact⟨c,cr.take n,by simp,h1,VEs_take n h2⟩
theorem VEs_len {I:Ip} {w:World}:∀ {l:List E} {cs:List Value},VEs I w l cs→cs.length=l.length
 | [],cs,h=>by simp only [VEs] at h;subst h;rfl
 | e::l,cs,h=>by obtain⟨c,cr,rfl,h1,h2⟩:=h;simp [VEs_len h2]
theorem readE0_ok {σ:St} {I:Ip} {w0:Base} {w:World} {a:Act} (hr:RelI I w0 σ a w) {e:E} {t:T} {c:Value} (h:readE0 σ e=some t) (hv:VE I w e c):∃ G,C false w t c G:=by
 cases e with
 | t x=>cases h;obtain⟨G,h1,_⟩:=hv;exact⟨G,h1⟩
 | vw id x=>cases h;obtain⟨G,h1,_⟩:=hv;exact⟨G,h1⟩
 | rf id=>
  rw [readE0] at h
  split at h
  · rename_i k rows h0
    cases h
    have hc:c=I.hd id:=hv.1
    rw [hc];exact⟨_,C.read (show C true w (.sl k rows) _ _ from hr.res id _ h0)⟩
  cases h
 | pp id off=>cases h
 | pr id k i j=>cases h
 | sb id k i j=>cases h
 | tl id k j=>cases h
 | pf id k j=>cases h
 | no=>cases h
theorem mapO_ok {I:Ip} {w:World} {f:E→Option T} (hf:∀ e t c,f e=some t→VE I w e c→∃ G,C false w t c G):∀ {l:List E} {ts:List T} {cs:List Value},mapO f l=some ts→VEs I w l cs→∃ G,Cs false w ts cs G
 | [],ts,cs,h,hv=>by cases h;exact⟨[],by unfold Cs;exact⟨hv,rfl⟩⟩
 | e::r,ts,cs,h,hv=>by
  obtain⟨c,cr,rfl,h1,h2⟩:=hv
  rw [mapO] at h
  split at h
  · rename_i t e1
    split at h
    · rename_i ts' e2
      cases h
      obtain⟨G1,g1⟩:=hf e t c e1 h1
      obtain⟨G2,g2⟩:=mapO_ok hf e2 h2
      exact⟨G1++G2,by unfold Cs;exact⟨c,cr,G1,G2,rfl,g1,g2,rfl⟩⟩
    cases h
  cases h
theorem readE_ok {σ:St} {I:Ip} {w0:Base} {w:World} {a:Act} (hr:RelI I w0 σ a w):∀ (n:Nat) (e:E) (t:T) (c:Value),readE σ n e=some t→VE I w e c→∃ G,C false w t c G
 | 0,e,t,c,h,hv=>readE0_ok hr h hv
 | n+1,e,t,c,h,hv=>by
  rw [readE] at h
  dsimp only at h
  split at h
  · rename_i id off
    split at h
    · rename_i cs h0
      split at h
      · rename_i ts h1
        cases h
        obtain⟨hF,vs,ty,g1,g2⟩:=hr.res id _ h0
        obtain⟨G,g3⟩:=mapO_ok (readE_ok hr n) h1 (VEs_drop off g2)
        have hc:c=.pointer (some ⟨I.B id,off,none⟩):=hv
        refine⟨I.B id::G,?_⟩
        rw [hc]
        refine C_ad (Ms_of_cells off g3 fun j u hj=>?_) (Array.getElem?_eq_some_iff.1 g1).1
        have hj':vs[off+j]?=some u:=by rw [List.getElem?_drop] at hj;exact hj
        simp [World.cell?,g1,hj']
      cases h
    cases h
  exact readE0_ok hr h hv
def readA (σ:St):A→Option V0
 | .one e=>match readE σ 4 e with|some t=>some (.one t)|none=>none
 | .agg l=>match mapO (readE σ 4) l with|some ts=>some (.agg ts)|none=>none
theorem readA_ok {σ:St} {I:Ip} {w0:Base} {w:World} {a:Act} (hr:RelI I w0 σ a w) {x:A} {t:V0} {v:Value} (h:readA σ x=some t) (hv:VA I w x v):∃ G,V0r false w t v G:=by
 cases x with
 | one e=>
  rw [readA] at h
  split at h
  · rename_i t' h1;cases h;exact readE_ok hr 4 _ _ _ h1 hv
  cases h
 | agg l=>
  rw [readA] at h
  split at h
  · rename_i ts h1;cases h
    obtain⟨cs,h2,h3⟩:=hv
    obtain⟨G,h4⟩:=mapO_ok (readE_ok hr 4) h1 h3
    exact⟨G,cs,h2,h4⟩
  cases h
end Go.Q
namespace Go.Q
open Go.RowKit
section
variable {P:Program} {ops:Array Oper} {o:Oper} {σ:St} {q:Bool}
theorem Op1.eff {σ':St} (hg:o.guard=none) (h:∀ w0 a w,Rel w0 σ a w→∃ v w',(execOp a.eval o).run P w=.ok (.value v) w'∧Rel w0 σ' (a.put o.dst v) w'):Op1 P ops o σ σ':=by
 intro w0 a w hr K Q hK
 simp only [Region.wanted,hg,if_true]
 obtain⟨v,w',h1,h2⟩:=h w0 a w hr
 unfold Oper.wp
 rw [h1]
 exact hK _ _ h2
theorem Op1.skip {σ':St} (hg:o.guard=none) (h:∀ w0 a w,Rel w0 σ a w→∃ w',(execOp a.eval o).run P w=.ok .skip w'∧Rel w0 σ' (a.put o.dst undef) w'):Op1 P ops o σ σ':=by
 intro w0 a w hr K Q hK
 simp only [Region.wanted,hg,if_true]
 obtain⟨w',h1,h2⟩:=h w0 a w hr
 unfold Oper.wp
 rw [h1]
 exact hK _ _ h2
def cellsA:A→List E
 | .one e=>[e]
 | .agg l=>l
def E.cell1:E→Bool
 | .no=>false
 | .sb _ _ _ _=>false
 | _=>true
theorem C.cell1 {o:Bool} {w:World} {t:T} {c:Value} {F:List Nat} (h:C o w t c F):c.oneCell'=true:=by
 cases t with
 | v x=>simp only [C] at h;obtain⟨rfl,_,h⟩:=h;exact h
 | sl k rows=>simp only [C] at h;obtain⟨a,l,k,rfl,_⟩:=h;rfl
 | ad cs=>simp only [C] at h;obtain⟨b,off,G,rfl,_⟩:=h;rfl
 | fn f x y=>simp only [C] at h;obtain⟨xs,ys,G1,G2,rfl,_⟩:=h;rfl
theorem VE.cell1 {I:Ip} {w:World} {e:E} {c:Value} (h:VE I w e c) (he:e.cell1=true):c.oneCell'=true:=by
 cases e with
 | t x=>obtain⟨G,h1,_⟩:=h;exact h1.cell1
 | rf id=>obtain⟨_,a,l,k,rfl⟩:=h;rfl
 | tl id k j=>obtain⟨_,_,_,_,_,rfl,_⟩:=h;rfl
 | pf id k j=>obtain⟨_,_,_,_,rfl,_⟩:=h;rfl
 | vw id x=>obtain⟨G,h1,_⟩:=h;exact h1.cell1
 | pp id o=>have h':c=_:=h;rw [h'];rfl
 | pr id k i j=>obtain⟨_,_,_,_,h'⟩:=h;rw [h'];rfl
 | sb id k i j=>cases he
 | no=>cases he
theorem VEs.cell1 {I:Ip} {w:World}:∀ {l:List E} {cs:List Value},VEs I w l cs→l.all E.cell1=true→∀ c∈cs,c.oneCell'=true
 | [],cs,h,_,c,hc=>by simp only [VEs] at h;subst h;cases hc
 | e::l,cs,h,he,c,hc=>by
  obtain⟨c0,cr,rfl,h1,h2⟩:=h
  simp only [List.all_cons,Bool.and_eq_true] at he
  rcases List.mem_cons.1 hc with rfl|hc
  · exact h1.cell1 he.1
  exact VEs.cell1 h2 he.2 c hc
theorem cells_one {v:Value} (h:v.oneCell'=true):v.cells=#[v]:=by cases v<;>first|rfl|cases h
theorem VA.cells {I:Ip} {w:World} {x:A} {v:Value} (h:VA I w x v) (he:(cellsA x).all E.cell1=true):∃ cs,v.cells=List.toArray cs∧VEs I w (cellsA x) cs∧∀ c∈cs,c.oneCell'=true:=by
 cases x with
 | one e=>
  have h1:VEs I w [e] [v]:=⟨v,[],rfl,h,rfl⟩
  have h2:=h1.cell1 he
  exact⟨[v],by rw [cells_one (h2 v (by simp))],h1,h2⟩
 | agg l=>
  obtain⟨cs,rfl,h1⟩:=h
  exact⟨cs,rfl,h1,h1.cell1 he⟩
theorem thaw_new {w:World} {cs:Array Value} {t:TypeId}:Thaw (w.alloc (.cells cs t)) w.heap.size:=⟨cs,t,heap_alloc_new w _⟩
theorem RelI.box {I:Ip} {w0:Base} {w:World} {a:Act} (hr:RelI I w0 σ a w) {id:Nat} {l:List E} {cs:List Value} {t:TypeId} (hf:σ.has id=false) (hfl:l.any (E.has id)=false) (hv:VEs I w l cs) :
 RelI (I.set id [w.heap.size] undef w.heap.size) w0 (σ.add id (.box l)) a (w.alloc (.cells cs.toArray t)):=by
 refine hr.add hf ((Ext.refl w).alloc _) ⟨by simp,fun b hb=>?_⟩ ⟨by simp [Ip.set],cs,t,by simp only [Ip.set,if_true];exact heap_alloc_new w _,?_⟩
 · simp only [List.mem_singleton] at hb
   subst hb
   exact⟨Nat.le_refl _,by simp,thaw_new⟩
 exact VEs.set hfl (hv.mono ((Ext.refl w).alloc _))
theorem R_box {t:TypeId} {x:Operand} {A0:A} (id:Nat) (ho:o.op=.box t x) (hg:o.guard=none) (hd:o.dst.all (fun d=>Nat.blt d σ.n)=true) (hx:Get σ true x A0) (he:(cellsA A0).all E.cell1=true) (hf:σ.has id=false) (hfl:(cellsA A0).any (E.has id)=false) :
 Op1 P ops o σ ((σ.add id (.box (cellsA A0))).put o.dst (true,.a (.one (.pp id 0)))):=
 .eff hg fun w0 a w ⟨I,hr⟩=>by
  obtain⟨cs,h1,h2,h3⟩:=(hx.va hr rfl).cells he
  have hb:=hr.box (id:=id) (t:=t) hf hfl h2
  refine⟨.pointer (some ⟨w.heap.size,0,none⟩),w.alloc (.cells cs.toArray t),by simp [execOp,ho,Instr.box,newVar,newRow,h1],_,hb.put hd ?_⟩
  show Value.pointer _=Value.pointer _
  simp [Ip.set]
theorem VEs_vals {I:Ip} {w:World}:∀ {zs:List Value},zs.all Value.oneCell'=true→VEs I w (zs.map fun v=>.t (.v v)) zs
 | [],_=>rfl
 | z::zs,h=>by
  simp only [List.all_cons,Bool.and_eq_true] at h
  exact⟨z,zs,rfl,⟨[],by unfold C;exact⟨rfl,rfl,h.1⟩,by simp⟩,VEs_vals h.2⟩
theorem has_vals (id:Nat):∀ (zs:List Value),(zs.map fun v=>E.t (.v v)).any (E.has id)=false
 | []=>rfl
 | z::zs=>by simp [E.has]
theorem Bi {t:TypeId} {z:Value} {n by_:Nat} {zs:List Value} (id:Nat) (ho:o.op=.alloc t) (hg:o.guard=none) (hd:o.dst.all (fun d=>Nat.blt d σ.n)=true) (hi:(P.info? t).map (fun i=>(i.zero,i.size,i.bytes))=some (some z,n,by_)) (hz:z.cells=zs.toArray)
 (h1:zs.all Value.oneCell'=true) (hf:σ.has id=false) :
 Op1 P ops o σ ((σ.add id (.box (zs.map fun v=>.t (.v v)))).put o.dst (true,.a (.one (.pp id 0)))):=
 .eff hg fun w0 a w ⟨I,hr⟩=>by
  obtain⟨i,hi1,hi2,_,_⟩:=info_parts hi
  have hb:=hr.box (id:=id) (t:=t) hf (has_vals id zs) (VEs_vals h1)
  refine⟨.pointer (some ⟨w.heap.size,0,none⟩),w.alloc (.cells zs.toArray t),by simp [execOp,ho,Instr.alloc,zeroValue,typeInfo,hi1,hi2,newVar,newRow,hz],_,hb.put hd ?_⟩
  show Value.pointer _=Value.pointer _
  simp [Ip.set]
theorem Bk {id p:Nat} {t:TypeId} {x:Operand} {cs:List E} {ag:Bool} {n:Nat} (ho:o.op=.load t x) (hg:Grd ops o σ q) (hd:o.dst.all (fun d=>Nat.blt d σ.n)=true) (hx:Get σ q x (.one (.pp id p))) (hs:look σ.res id=some (.box cs)) (ht:tyB P t ag n=true)
 (hn:Nat.ble (p+n) cs.length=true) (h1:(ag||Nat.beq n 1)=true):Op1 P ops o σ (σ.put o.dst (q,.a (mkA ag ((cs.drop p).take n)))):=
 .val hg hd fun I w0 a w hr hq=>by
  have hv:a.eval x=.pointer (some ⟨I.B id,p,none⟩):=hx.va hr hq
  obtain⟨hF,vs,ty,g1,g2⟩:=hr.res id _ hs
  have g3:=VEs_take n (VEs_drop p g2)
  have hn':=Nat.le_of_ble_eq_true hn
  have hl:=VEs_len g2
  have h1':ag=false→n=1:=fun e=>by rw [e] at h1;exact Nat.eq_of_beq_eq_true (by simpa using h1)
  have hc:∀ (j:Nat) (u:Value),((vs.drop p).take n)[j]?=some u→w.cell? ⟨I.B id,p+j,none⟩=some u:=by
   intro j u hj
   rw [List.getElem?_take] at hj
   split at hj
   · rw [List.getElem?_drop] at hj;simp [World.cell?,g1,hj]
   cases hj
  exact⟨_,by simp [execOp,ho,hv,run_load ht (cs:=(vs.drop p).take n) (by simp;omega) h1' hc],VA_mk g3 fun e=>by have:=h1' e;simp;omega⟩
theorem Bu {id k i p:Nat} {t:TypeId} {x:Operand} {rows:List (List T)} {row:List T} {ag:Bool} {n:Nat} (ho:o.op=.load t x) (hg:Grd ops o σ q) (hd:o.dst.all (fun d=>Nat.blt d σ.n)=true) (hx:Get σ q x (.one (.pr id k i p))) (hs:look σ.res id=some (.row k rows)) (hi:rows[i]?=some row) (ht:tyB P t ag n=true)
 (hn:Nat.ble (p+n) row.length=true) (h1:(ag||Nat.beq n 1)=true):Op1 P ops o σ (σ.put o.dst (q,.a (mkA ag (((row.drop p).take n).map (toE id))))):=
 .val hg hd fun I w0 a w hr hq=>by
  obtain⟨g,n',m',hg1,hv⟩:VE I w (.pr id k i p) (a.eval x):=hx.va hr hq
  have hC:C true w (.sl k rows) _ _:=hr.res id _ hs
  simp only [C] at hC
  obtain⟨a0,len,cap,g1,g2,g3,g4,g5⟩:=hC
  have hlt:i<rows.length:=(List.getElem?_eq_some_iff.1 hi).1
  have hn':=Nat.le_of_ble_eq_true hn
  have h1':ag=false→n=1:=fun e=>by rw [e] at h1;exact Nat.eq_of_beq_eq_true (by simpa using h1)
  rcases g5 with ⟨g5,_⟩|⟨b,off,G,rfl,hF,g6,g7,g8⟩
  · omega
  obtain⟨rfl,cur,e,_⟩:=g7 trivial
  rw [hg1] at g1
  cases g1
  obtain⟨G',k1,k2,k3⟩:=g8.get hi
  obtain⟨G1,k4,k5⟩:=k1.drop p
  obtain⟨G2,k6,k7⟩:=k4.take n
  obtain⟨vs,k8,k9,k10⟩:=Ms.cells k6
  have hl:((row.drop p).take n).length=n:=by simp;omega
  have hc:∀ (j:Nat) (u:Value),vs[j]?=some u→w.cell? ⟨g,i*k+p+j,none⟩=some u:=fun j u hj=>by have:=k10 j u hj;simpa using this
  refine⟨_,by simp [execOp,ho,hv,run_load ht (cs:=vs) (by rw [k9,hl]) h1' hc],VA_mk (Cs_vw k8.read fun x hx=>?_) fun e=>by have:=h1' e;rw [List.length_map,hl];exact this⟩
  rw [hF];simp [k3 x (k5 x (k7 x hx))]
def setL (cs:List E) (p:Nat) (l:List E):List E:=cs.take p++l++cs.drop (p+l.length)
theorem VEs_append {I:Ip} {w:World}:∀ {l m:List E} {cs ds:List Value},VEs I w l cs→VEs I w m ds→VEs I w (l++m) (cs++ds)
 | [],m,cs,ds,h,h'=>by simp only [VEs] at h;subst h;exact h'
 | e::l,m,cs,ds,h,h'=>by obtain⟨c,cr,rfl,h1,h2⟩:=h;exact⟨c,cr++ds,rfl,h1,VEs_append h2 h'⟩
def partsE:List (Nat×List E)→List E→List E
 | [],cs=>cs
 | (p,l)::r,cs=>partsE r (setL cs p l)
inductive Parts (P:Program) (σ:St) (t:TypeId):List (Nat×Operand)→List (Nat×List E)→Prop where
 | nil:Parts P σ t [] []
 | cons {j off n:Nat} {x:Operand} {A0:A} {r:List (Nat×Operand)} {r':List (Nat×List E)} (hx:Get σ true x A0) (he:(cellsA A0).all E.cell1=true) (hn:Nat.beq (cellsA A0).length n=true) (hf:(match P.underlying t with|some (.struct fs)=>(match fs[j]? with|some f=>Nat.beq f.offset off&&(match P.info? f.type with|some i=>Nat.beq i.size n|none=>false)|none=>false)|_=>false)=true) (h:Parts P σ t r r'):Parts P σ t ((j,x)::r) ((off,cellsA A0)::r')
theorem foldl_setAll (p:Nat):∀ (ds:List Value) (k:Nat) (cs:List Value),((ds.zipIdx k).foldl (fun (acc:Array Value) x=>acc.setIfInBounds (p+x.2) x.1) cs.toArray)=(setAll cs (p+k) ds).toArray
 | [],k,cs=>by simp [setAll]
 | d::ds,k,cs=>by
  simp only [List.zipIdx_cons,List.foldl_cons,List.setIfInBounds_toArray]
  rw [foldl_setAll p ds (k+1),setAll,Nat.add_assoc]
theorem foldl_set (p:Nat) (ds cs:List Value) (h:p+ds.length≤cs.length) :
 ((ds.zipIdx 0).foldl (fun (acc:Array Value) x=>acc.setIfInBounds (p+x.2) x.1) cs.toArray)=(cs.take p++ds++cs.drop (p+ds.length)).toArray:=by
 rw [foldl_setAll p ds 0 cs,Nat.add_zero]
 have e:cs=cs.take p++((cs.drop p).take ds.length++cs.drop (p+ds.length)):=by
  rw [←List.drop_drop,List.take_append_drop,List.take_append_drop]
 have hl:(cs.take p).length=p:=by simp;omega
 have:=setAll_mid ds (cs.take p) ((cs.drop p).take ds.length) (cs.drop (p+ds.length)) (by simp;omega)
 rw [←e,hl] at this
 rw [this,List.append_assoc]
theorem run_fill {I:Ip} {w0:Base} {w:World} {a:Act} (hr:RelI I w0 σ a w) {t:TypeId} {fs:Array Field} (hu:P.underlying t=some (.struct fs)) {pl:Array (Nat×Nat)}
 (hpl:∀ (j:Nat) (f:Field),fs[j]?=some f→∃ i,P.info? f.type=some i∧pl[j]?=some (f.offset,i.size)):∀ {ps:List (Nat×Operand)} {ds:List (Nat×List E)} {l:List E} {cs:List Value},Parts P σ t ps ds→VEs I w l cs→(ds.all fun x=>Nat.ble (x.1+x.2.length) l.length)=true→
 ∃ cs',Instr.fill (fun i=>pl[i]?) cs.toArray (ps.map fun x=>(x.1,a.eval x.2))=some (List.toArray cs')∧VEs I w (partsE ds l) cs'
 | [],ds,l,cs,hp,hv,_=>by cases hp;exact⟨cs,rfl,hv⟩
 | (j,x)::ps,ds,l,cs,hp,hv,hb=>by
  cases hp with
  | cons hx he hn hf h=>
   rename_i off n A0 r'
   rw [hu] at hf
   simp only at hf
   split at hf
   · rename_i f hf1
     simp only [Bool.and_eq_true] at hf
     obtain⟨i,hi1,hi2⟩:=hpl j f hf1
     rw [hi1] at hf
     have e1:=Nat.eq_of_beq_eq_true hf.1
     have e2:=Nat.eq_of_beq_eq_true hf.2
     have e3:=Nat.eq_of_beq_eq_true hn
     obtain⟨xs,h1,h2,h3⟩:=(hx.va hr rfl).cells he
     have e4:=VEs_len h2
     have e5:=VEs_len hv
     simp only [List.all_cons,Bool.and_eq_true] at hb
     have hb1:=Nat.le_of_ble_eq_true hb.1
     have hlen:(setL l off (cellsA A0)).length=l.length:=by simp [setL];omega
     obtain⟨cs',g1,g2⟩:=run_fill hr hu hpl (ps:=ps) (l:=setL l off (cellsA A0)) (cs:=cs.take off++xs++cs.drop (off+xs.length)) h (by rw [setL,←e4];exact VEs_append (VEs_append (VEs_take off hv) h2) (VEs_drop _ hv)) (by rw [hlen];exact hb.2)
     refine⟨cs',?_,g2⟩
     have hfo:=foldl_set off xs cs (by omega)
     simp only [List.map_cons,Instr.fill,hi2,e1,h1]
     rw [if_neg (by simp;omega)]
     rw [←g1,←hfo]
     congr 1
     simp
   cases hf
theorem run_fmap {α β:Type} (f:α→β) (s:Sem α) (w:World):(Functor.map f s).run P w=(s.run P w).andThen fun a w'=>.ok (f a) w':=by
 rw [map_eq_pure_bind];simp
theorem Bo {t:TypeId} {ps:List (Nat×Operand)} {z:Value} {n by_:Nat} {zs:List Value} {ds:List (Nat×List E)} (ho:o.op=.build t ps.toArray) (hg:o.guard=none) (hd:o.dst.all (fun d=>Nat.blt d σ.n)=true) (hi:(P.info? t).map (fun i=>(i.zero,i.size,i.bytes))=some (some z,n,by_)) (hz:z.cells=zs.toArray)
 (h1:zs.all Value.oneCell'=true) (hS:(match P.underlying t with|some (.struct fs)=>fs.all (fun f=>(P.info? f.type).isSome)|_=>false)=true) (hp:Parts P σ t ps ds) (hb:(ds.all fun x=>Nat.ble (x.1+x.2.length) zs.length)=true) :
 Op1 P ops o σ (σ.put o.dst (true,.a (.agg (partsE ds (zs.map fun v=>.t (.v v)))))):=
 .eff hg fun w0 a w ⟨I,hr⟩=>by
  obtain⟨i,hi1,hi2,_,_⟩:=info_parts hi
  split at hS
  · rename_i fs hu
    have hm:∀ (l:List Field),(∀ f∈l,(P.info? f.type).isSome=true)→(l.mapM fun f=>Functor.map (Prod.mk f.offset) (sizeOf f.type):Sem (List (Nat×Nat))).run P w=.ok (l.map fun f=>(f.offset,P.cellsOf f.type)) w:=by
     intro l
     induction l with
     | nil=>intro _;rfl
     | cons f l ih=>
      intro hl
      have hf:=hl f (by simp)
      obtain⟨fi,hfi⟩:=Option.isSome_iff_exists.1 hf
      have hs:(sizeOf f.type).run P w=.ok (P.cellsOf f.type) w:=run_sizeOf _ hfi
      rw [List.mapM_cons]
      simp only [map_eq_pure_bind,Sem.run_bind,hs,Result.andThen_ok,Sem.run_pure] at ih ⊢
      simp only [ih (fun g hg=>hl g (by simp [hg])),Result.andThen_ok,List.map_cons]
    have hall:∀ f∈fs.toList,(P.info? f.type).isSome=true:=by
     intro f hf
     have:=Array.all_eq_true_iff_forall_mem.1 hS f (by simpa using hf)
     simpa using this
    obtain⟨cs',g1,g2⟩:=run_fill hr hu (pl:=(fs.toList.map fun f=>(f.offset,P.cellsOf f.type)).toArray) (fun j f hj=>by
     have hmem:f∈fs.toList:=by simpa using Array.mem_of_getElem? hj
     obtain⟨fi,hfi⟩:=Option.isSome_iff_exists.1 (hall f hmem)
     refine⟨fi,hfi,?_⟩
     have e:P.cellsOf f.type=fi.size:=by simp [Program.cellsOf,hfi]
     simp [hj,e]) hp (VEs_vals h1) (by simpa using hb)
    refine⟨.agg cs'.toArray,w,?_,I,hr.put hd ⟨cs',rfl,g2⟩⟩
    have hma:(fs.mapM fun f=>Functor.map (Prod.mk f.offset) (sizeOf f.type):Sem (Array (Nat×Nat))).run P w=.ok (fs.toList.map fun f=>(f.offset,P.cellsOf f.type)).toArray w:=by
     rw [Array.mapM_eq_mapM_toList,run_fmap,hm _ hall]
     rfl
    simp [execOp,ho,Instr.build,zeroValue,typeInfo,hi1,hi2,run_underlying hu,hma,hz]
    have e:(fun (x:Nat)=>Option.map (fun f=>(f.offset,P.cellsOf f.type)) fs[x]?)=fun (i:Nat)=>(List.map (fun f=>(f.offset,P.cellsOf f.type)) fs.toList).toArray[i]?:=by funext x;simp
    rw [e,g1]
    simp
  cases hS
end
end Go.Q
namespace Go.Q
open Go.RowKit
section
variable {P:Program} {ops:Array Oper} {o:Oper} {σ:St} {q:Bool}
theorem run_append_room' (w:World) (t ty e e0:TypeId) (i:TypeInfo) (ht:P.underlying t=some (.slice e)) (hi:P.info? e=some i)
 (g sLen sCap:Nat) (cur:Array Value) (hg:w.heap[g]?=some (.cells cur e0 (0,0)))
 (a:Addr) (m c:Nat) (news:List Value) (hl:news.length=m*i.size) (hnews:∀ j u,news[j]?=some u→w.cell? (a.add j)=some u) (h1:∀ u∈news,u.oneCell'=true)
 (hroom:sLen+m≤sCap) (hfit:sLen*i.size+news.length≤cur.size) :
 (Builtin.append_ #[t,t] ty #[.slice (some ⟨g,0,none⟩) sLen sCap,.slice (some a) m c]).run P w =
  .ok (.slice (some ⟨g,0,none⟩) (sLen+m) sCap) (w.setRow g (cur.toList.take (sLen*i.size)++news++cur.toList.drop (sLen*i.size+news.length)).toArray):=by
 have hf:=run_firstCells_some (P:=P) w i.size m a m c news hl hnews
 have hst:=run_storeCells_at P g (sLen*i.size) e0 news 0 cur w hg (by simpa using hfit) h1
 simp only [Nat.add_zero] at hst
 simp [Builtin.append_,run_underlying ht,sizeOf,typeInfo,hi,Builtin.lenOf,hroom,hf,Addr.add_lit,hst]
theorem run_append_T (w:World) {t ty e:TypeId} {z:Value} {k bytes:Nat} (ht:P.underlying t=some (.slice e)) (hi:(P.info? e).map (fun i=>(i.zero,i.size,i.bytes))=some (some z,k,bytes)) (hzs:z.cells.size=k)
 {rows rows2:List (List T)} {v u:Value} {F F2:List Nat} {oo:Bool} (hC:C true w (.sl k rows) v F) (hC2:C oo w (.sl k rows2) u F2) (hb:(rows.length+rows2.length)*bytes≤140737488355328) (hm:rows.length+rows2.length≤maxLen) :
 ∃ v' w',(Builtin.append_ #[t,t] ty #[v,u]).run P w=.ok v' w'∧
  ((rows2=[]∧v'=v∧w'=w)∨
   ∃ g cap cur e' G,v'=.slice (some ⟨g,0,none⟩) (rows.length+rows2.length) cap∧rows.length+rows2.length≤cap∧cap≤maxLen∧w'.heap[g]?=some (.cells cur e' (0,0))∧cur.size=cap*k∧Chg w w' [g]∧(F=[]∧rows=[]∧G=[]∨∃ b,F=b::G)∧
    ((∃ G',F=g::G')∨w.heap.size≤g)∧∃ xs news,Cs true w rows.flatten xs G∧Cs oo w rows2.flatten news (F2.drop 1)∧(∀ row∈rows,row.length=k)∧(∀ row∈rows2,row.length=k)∧
     (∀ (j:Nat) (u:Value),(xs++news)[j]?=some u→w'.cell? ⟨g,j,none⟩=some u)):=by
 obtain⟨i,hi1,hi2,hi3,hi4⟩:=info_parts hi
 subst hi3;subst hi4
 simp only [C] at hC hC2
 obtain⟨a1,n,cap,rfl,rfl,h3,h4,h5⟩:=hC
 obtain⟨a2,m,c,rfl,rfl,g3,g4,g5⟩:=hC2
 by_cases h0:rows2=[]
 · subst h0
   refine⟨.slice a1 rows.length cap,w,?_,.inl ⟨rfl,rfl,rfl⟩⟩
   have hf:∀ w:World,(Builtin.firstCells i.size 0 (.slice a2 0 c)).run P w=.ok #[] w:=by
    intro w;cases a2<;>simp [Builtin.firstCells,loadCells,loadCellsFrom]
   cases a1<;>simp [Builtin.append_,run_underlying ht,sizeOf,typeInfo,hi1,Builtin.lenOf,h3,hf,storeCells]
 have hpos:0<rows2.length:=List.length_pos_iff.2 h0
 rcases g5 with ⟨g5,_⟩|⟨b2,off2,G2,rfl,rfl,g6,_,g8⟩
 · omega
 obtain⟨r1,news,r2,r3,r4⟩:=g8.flat
 have hone:∀ u∈news,u.oneCell'=true:=by
  intro u hu
  obtain⟨j,hj⟩:=List.getElem?_of_mem hu
  have hjl:=(List.getElem?_eq_some_iff.1 hj).1
  have:=r2.len
  obtain⟨c',G',k1,k2,_⟩:=r2.get (i:=j) (t:=(rows2.flatten)[j]'(by omega)) (List.getElem?_eq_getElem _)
  rw [hj] at k1;cases k1
  exact k2.cell1
 have hnews:∀ j u,news[j]?=some u→w.cell? ((⟨b2,off2,none⟩:Addr).add j)=some u:=fun j u hj=>by rw [Addr.add_lit];exact r4 j u hj
 have h63:rows.length+rows2.length≤9223372036854775807:=by simp only [maxLen] at hm;omega
 have hold:∃ G xs,(F=[]∧rows=[]∧G=[]∨∃ b,F=b::G)∧Cs true w rows.flatten xs G∧xs.length=rows.length*i.size∧(∀ row∈rows,row.length=i.size)∧
  ((cap=0∧F=[]∧rows=[])∨∃ b cur e',a1=some ⟨b,0,none⟩∧F=b::G∧w.heap[b]?=some (.cells cur e' (0,0))∧cur.size=cap*i.size∧∀ (j:Nat) (u:Value),xs[j]?=some u→w.cell? ⟨b,j,none⟩=some u):=by
  rcases h5 with ⟨h5,rfl,h6⟩|⟨b,off,G,rfl,rfl,h6,h7,h8⟩
  · have:rows=[]:=List.eq_nil_of_length_eq_zero h5
    subst this
    exact⟨[],[],.inl ⟨rfl,rfl,rfl⟩,by simp [Cs],by simp,by simp,.inl ⟨h6 trivial,rfl,rfl⟩⟩
  obtain⟨rfl,cur,e',h9,h10⟩:=h7 trivial
  obtain⟨s1,xs,s2,s3,s4⟩:=h8.flat
  exact⟨G,xs,.inr ⟨b,rfl⟩,s2,s3,s1,.inr ⟨b,cur,e',rfl,rfl,h9,h10,fun j u hj=>by simpa using s4 j u hj⟩⟩
 obtain⟨G,xs,hG,o1,o2,o3,o4⟩:=hold
 have grown:∀ (old:Nat) (v:Value),old<rows.length+rows2.length→(Builtin.append_ #[t,t] ty #[v,.slice (some ⟨b2,off2,none⟩) rows2.length c]).run P w=.ok (.slice (some ⟨w.heap.size,0,none⟩) (rows.length+rows2.length) (grownCap w (rows.length+rows2.length) old e))
  (w.drew.alloc (.cells (xs.toArray++news.toArray++Builtin.zeroCells z.cells (grownCap w (rows.length+rows2.length) old e-(rows.length+rows2.length))) e))→
  ∃ v' w',(Builtin.append_ #[t,t] ty #[v,.slice (some ⟨b2,off2,none⟩) rows2.length c]).run P w=.ok v' w'∧((rows2=[]∧v'=v∧w'=w)∨
   ∃ g cap cur e' G,v'=.slice (some ⟨g,0,none⟩) (rows.length+rows2.length) cap∧rows.length+rows2.length≤cap∧cap≤maxLen∧w'.heap[g]?=some (.cells cur e' (0,0))∧cur.size=cap*i.size∧Chg w w' [g]∧(F=[]∧rows=[]∧G=[]∨∃ b,F=b::G)∧
    ((∃ G',F=g::G')∨w.heap.size≤g)∧∃ xs news,Cs true w rows.flatten xs G∧Cs oo w rows2.flatten news ((b2::G2).drop 1)∧(∀ row∈rows,row.length=i.size)∧(∀ row∈rows2,row.length=i.size)∧
     (∀ (j:Nat) (u:Value),(xs++news)[j]?=some u→w'.cell? ⟨g,j,none⟩=some u)):=by
  intro old v hold hrun
  have hge:=grownCap_ge w (rows.length+rows2.length) old e
  refine⟨_,_,hrun,.inr ⟨w.heap.size,_,_,e,G,rfl,hge,grownCap_le_maxLen w _ old e hm,heap_alloc_new w.drew _,?_,⟨rfl,rfl,rfl,by simp,fun k hk _=>heap_alloc_old w.drew _ (by simpa using hk)⟩,hG,.inr (Nat.le_refl _),xs,news,o1,r2,o3,r1,fun j u hj=>?_⟩⟩
  · simp only [Array.size_append,List.size_toArray,size_zeroCells,hzs,o2,r3,←Nat.add_mul]
    congr 1
    omega
  have hgn:=heap_alloc_new w.drew (.cells (xs.toArray++news.toArray++Builtin.zeroCells z.cells (grownCap w (rows.length+rows2.length) old e-(rows.length+rows2.length))) e)
  have hj':(xs.toArray++news.toArray++Builtin.zeroCells z.cells (grownCap w (rows.length+rows2.length) old e-(rows.length+rows2.length)))[j]?=some u:=by
   have hlt:=(List.getElem?_eq_some_iff.1 hj).1
   rw [Array.getElem?_append_left (by simpa using hlt)]
   simpa using hj
  have hgn':(w.drew.alloc (.cells (xs.toArray++news.toArray++Builtin.zeroCells z.cells (grownCap w (rows.length+rows2.length) old e-(rows.length+rows2.length))) e)).heap[w.heap.size]?=some (.cells (xs.toArray++news.toArray++Builtin.zeroCells z.cells (grownCap w (rows.length+rows2.length) old e-(rows.length+rows2.length))) e (0,0)):=hgn
  simp only [World.cell?,hgn']
  simpa using hj'
 rcases o4 with ⟨rfl,rfl,rfl⟩|⟨b,cur,e',rfl,rfl,o5,o6,o7⟩
 · have hx0:xs=[]:=List.eq_nil_of_length_eq_zero (by simpa using o2)
   subst hx0;refine grown 0 _ (by simp;omega) ?_
   cases a1 with
   | none=>
    have hr:=run_append_nil (P:=P) w t ty e i z ht hi1 hi2 ⟨b2,off2,none⟩ rows2.length c news r3 hnews (by omega) (by omega) (by simp at hb;omega)
    simpa using hr
   | some ga=>
    have hr:=run_append_grow (P:=P) w t ty e i z ht hi1 hi2 ga 0 0 [] (by simp) (by simp) ⟨b2,off2,none⟩ rows2.length c news r3 hnews (by omega) (by omega) (growslice_fits (by omega) (by simpa using hb))
    simpa using hr
 by_cases hroom:rows.length+rows2.length≤cap
 · have hfit:rows.length*i.size+news.length≤cur.size:=by rw [r3,o6,←Nat.add_mul];exact Nat.mul_le_mul_right _ hroom
   have hr:=run_append_room' (P:=P) w t ty e e' i ht hi1 b rows.length cap cur o5 ⟨b2,off2,none⟩ rows2.length c news r3 hnews hone hroom hfit
   have hxs:cur.toList.take (rows.length*i.size)=xs:=by
    apply List.ext_getElem?;intro j
    by_cases hj:j<xs.length
    · have:=o7 j _ (List.getElem?_eq_getElem hj)
      simp only [World.cell?,o5] at this
      rw [List.getElem?_take,if_pos (by omega),List.getElem?_eq_getElem hj]
      simpa using this
    rw [List.getElem?_eq_none (by simp;omega),List.getElem?_eq_none (by omega)]
   refine⟨_,_,hr,.inr ⟨b,cap,_,e',G,rfl,hroom,h4,setRow_heap w b cur _ e' _ o5,?_,⟨rfl,rfl,rfl,by simp [World.setRow],fun k _ hk=>setRow_other w b k _ (by simpa using hk)⟩,hG,.inl ⟨G,rfl⟩,xs,news,o1,r2,o3,r1,fun j u hj=>?_⟩⟩
   · simp only [List.size_toArray,List.length_append,List.length_take,List.length_drop,Array.length_toList]
     omega
   simp only [World.cell?,setRow_heap w b cur _ e' _ o5,hxs]
   have hlt:=(List.getElem?_eq_some_iff.1 hj).1
   simp only [Option.isSome_none,Bool.false_eq_true,if_false,List.getElem?_toArray]
   rw [List.getElem?_append_left hlt];exact hj
 refine grown cap _ (by omega) ?_
 have holds:∀ j u,xs[j]?=some u→w.cell? ((⟨b,0,none⟩:Addr).add j)=some u:=fun j u hj=>by rw [Addr.add_lit];simpa using o7 j u hj
 have hr:=run_append_grow (P:=P) w t ty e i z ht hi1 hi2 ⟨b,0,none⟩ rows.length cap xs o2 holds ⟨b2,off2,none⟩ rows2.length c news r3 hnews (by omega) (by omega) (growslice_fits (by omega) hb)
 simpa using hr

def T.isV:T→Bool
 | .v _=>true
 | _=>false
theorem Cs_flat {o o':Bool} {w w':World}:∀ {ts:List T} {cs:List Value} {F:List Nat},ts.all T.isV=true→Cs o w ts cs F→Cs o' w' ts cs []∧F=[]
 | [],cs,F,_,h=>by simp only [Cs] at h;exact⟨by unfold Cs;exact⟨h.1,rfl⟩,h.2⟩
 | t::ts,cs,F,ht,h=>by
  simp only [List.all_cons,Bool.and_eq_true] at ht
  simp only [Cs] at h
  obtain⟨c,cr,G1,G2,rfl,h2,h3,rfl⟩:=h
  obtain⟨g1,rfl⟩:=Cs_flat (o':=o') (w':=w') ht.2 h3
  cases t with
  | v x=>
   simp only [C] at h2
   obtain⟨h4,rfl,h5⟩:=h2
   exact⟨by unfold Cs;exact⟨c,cr,[],[],rfl,by unfold C;exact⟨h4,rfl,h5⟩,g1,rfl⟩,rfl⟩
  | sl k rows=>cases ht.1
  | ad cs=>cases ht.1
  | fn f x y=>cases ht.1
theorem RelI.append {I:Ip} {w0:Base} {w w':World} {a:Act} (hr:RelI I w0 σ a w) {id k:Nat} {rows rows2:List (List T)} (hs:look σ.res id=some (.row k rows)) {g cap:Nat} {cur:Array Value} {e':TypeId} {G G2:List Nat} {xs news:List Value}
 (h1:rows.length+rows2.length≤cap) (h2:cap≤maxLen) (h3:w'.heap[g]?=some (.cells cur e' (0,0))) (h4:cur.size=cap*k) (hc:Chg w w' [g]) (h5:I.F id=[]∧rows=[]∧G=[]∨∃ b,I.F id=b::G) (h6:(∃ G',I.F id=g::G')∨w.heap.size≤g)
 (h7:Cs true w rows.flatten xs G) (h8:Cs true w rows2.flatten news G2) (h9:∀ row∈rows,row.length=k) (h10:∀ row∈rows2,row.length=k) (h11:∀ (j:Nat) (u:Value),(xs++news)[j]?=some u→w'.cell? ⟨g,j,none⟩=some u)
 (h12:∀ b∈G2,Free I w0 w b) (h13:G2.Nodup) :
 RelI (I.set id (g::(G++G2)) (.slice (some ⟨g,0,none⟩) (rows.length+rows2.length) cap) (I.B id)) w0 (σ.chg id (.row k (rows++rows2))) a w':=by
 have own:=hr.own id _ hs
 have hgF:∀ b∈G,b∈I.F id∧b≠g:=by
  intro b hb
  rcases h5 with ⟨_,_,rfl⟩|⟨b0,h5⟩
  · cases hb
  refine⟨by rw [h5];simp [hb],fun e=>?_⟩
  rcases h6 with ⟨G',h6⟩|h6
  · rw [h5] at h6
    cases h6
    have:=own.1
    rw [h5] at this
    exact (List.nodup_cons.1 this).1 (e▸hb)
  have:=(hr.lt id b (by rw [h5];simp [hb])).1;omega
 have hGn:G.Nodup:=by
  rcases h5 with ⟨_,_,rfl⟩|⟨b0,h5⟩
  · exact List.nodup_nil
  have:=own.1;rw [h5] at this;exact (List.nodup_cons.1 this).2
 have hG2:∀ b∈G2,b≠g:=by
  intro b hb e
  rcases h6 with ⟨G',h6⟩|h6
  · exact (h12 b hb).2.2.2.2 id (by rw [h6,e];simp)
  have:=(h12 b hb).2.1;omega
 have hcF:Chg w w' (I.F id):=by
  refine⟨hc.os,hc.tape,hc.output,hc.size,fun k' hk' hn=>hc.block k' hk' fun hm=>?_⟩
  simp only [List.mem_singleton] at hm
  subst hm
  rcases h6 with ⟨G',h6⟩|h6
  · exact hn (by rw [h6];simp)
  omega
 have hlt:g<w'.heap.size:=(Array.getElem?_eq_some_iff.1 h3).1
 have hgw:w0.own g:=by
  rcases h6 with ⟨G',h6⟩|h6
  · exact (own.2 g (by rw [h6];simp)).1
  exact .inl (Nat.le_trans hr.ext.size h6)
 refine hr.chg hs hcF ⟨List.nodup_cons.2 ⟨fun hm=>?_,List.nodup_append.2 ⟨hGn,h13,fun x hx y hy e=>?_⟩⟩,fun b hb=>?_⟩ ?_
 · rcases List.mem_append.1 hm with hm|hm
   · exact (hgF g hm).2 rfl
   exact hG2 g hm rfl
 · exact (h12 y hy).2.2.2.2 id (e▸(hgF x hx).1)
 · rcases List.mem_cons.1 hb with rfl|hb
   · refine⟨hgw,hlt,⟨cur,e',h3⟩,?_⟩
     rcases h6 with ⟨G',h6⟩|h6
     · exact .inl (by rw [h6];simp)
     exact .inr (.inl h6)
   rcases List.mem_append.1 hb with hb|hb
   · have:=hgF b hb
     refine⟨(own.2 b this.1).1,Nat.lt_of_lt_of_le (hr.lt id b this.1).1 hc.size,(own.2 b this.1).2.chg hc (by simpa using this.2),.inl this.1⟩
   exact⟨(h12 b hb).1,Nat.lt_of_lt_of_le (h12 b hb).2.1 hc.size,(h12 b hb).2.2.1.chg hc (by simpa using hG2 b hb),.inr (.inr (h12 b hb))⟩
 show C true w' _ _ _
 simp only [Ip.set,if_true]
 unfold C
 refine⟨_,_,_,rfl,by simp,h1,h2,.inr ⟨g,0,G++G2,rfl,rfl,hlt,fun _=>⟨rfl,cur,e',h3,h4⟩,Rws.of (xs:=xs++news) (fun row hm=>?_) ?_ fun j u hj=>by simpa using h11 j u hj⟩⟩
 · rcases List.mem_append.1 hm with hm|hm
   · exact h9 row hm
   exact h10 row hm
 rw [List.flatten_append]
 exact (h7.congr fun b hb=>hc.block b (h7.lt b hb) (by simpa using (hgF b hb).2)).append (h8.congr fun b hb=>hc.block b (h8.lt b hb) (by simpa using hG2 b hb))
theorem Bw {t e:TypeId} {x y:Operand} {A2:A} {id k:Nat} {rows rows2:List (List T)} {z:Value} {bytes:Nat} (ho:o.op=.call { callee:=.builtin .append,args:=#[x,y],argTypes:=#[t,t] }) (hg:o.guard=none) (hd:o.dst.all (fun d=>Nat.blt d σ.n)=true)
 (hx:Get σ true x (.one (.rf id))) (hs:look σ.res id=some (.row k rows)) (hy:Get σ true y A2) (hq:Sq σ A2 k rows2) (hv:rows2.flatten.all T.isV=true) (ht:P.underlying t=some (.slice e)) (hi:(P.info? e).map (fun i=>(i.zero,i.size,i.bytes))=some (some z,k,bytes)) (hzs:z.cells.size=k)
 (hb:(rows.length+rows2.length)*bytes≤140737488355328) (hm:rows.length+rows2.length≤maxLen) :
 Op1 P ops o σ ((σ.chg id (.row k (rows++rows2))).put o.dst (true,.a (.one (.rf id)))):=
 .eff hg fun w0 a w ⟨I,hr⟩=>by
  have hv1:VE I w (.rf id) (a.eval x):=hx.va hr rfl
  have hC:C true w (.sl k rows) (I.hd id) (I.F id):=hr.res id _ hs
  obtain⟨F2,hC2⟩:=hq.val hr (hy.va hr rfl)
  obtain⟨v',w',hrun,h⟩:=run_append_T (ty:=o.type) w ht hi hzs hC hC2 hb hm
  refine⟨v',w',by simp [execOp,ho,resolve,invoke,builtin,hv1.1,hrun],?_⟩
  rcases h with ⟨rfl,rfl,rfl⟩|⟨g,cap,cur,e',G,rfl,h1,h2,h3,h4,h5,h6,h7,xs,news,h8,h9,h10,h11,h12⟩
  · have:=hr.chg hs (Chg.refl _ _) (G:=I.F id) (u:=I.hd id) (r:=.row k (rows++[])) ⟨(hr.own id _ hs).1,fun b hb=>⟨((hr.own id _ hs).2 b hb).1,(hr.lt id b hb).1,((hr.own id _ hs).2 b hb).2,.inl hb⟩⟩ (by show C true _ _ _ _;simpa [Ip.set] using hC)
    exact⟨_,this.put hd ⟨by simp [Ip.set],hv1.1▸hv1.2⟩⟩
  obtain⟨h13,_⟩:=Cs_flat (o':=true) (w':=w) hv h9
  have:=hr.append hs h1 h2 h3 h4 h5 h6 h7 h8 h13 h10 h11 h12 (by simp) List.nodup_nil
  exact⟨_,this.put hd ⟨by simp [Ip.set],_,_,_,rfl⟩⟩
end
end Go.Q
namespace Go.Q
open Go.RowKit
section
variable {P:Program} {ops:Array Oper} {o:Oper} {σ:St} {q:Bool}
def outL:Nat→List T→Option (List E×List (Nat×R))
 | _,[]=>some ([],[])
 | n,t::r=>match t with
  | .v x=>(match outL n r with|some (es,rs)=>some (.t (.v x)::es,rs)|none=>none)
  | .sl k rows=>(match outL (n+1) r with|some (es,rs)=>some (.rf n::es,(n,.row k rows)::rs)|none=>none)
  | _=>none
def St.adds (σ:St):List (Nat×R)→St
 | []=>σ
 | (id,r)::l=>(σ.add id r).adds l
def Ip.same (I I':Ip) (n:Nat):Prop:=I'.Z=I.Z∧∀ i,i<n→I'.F i=I.F i∧I'.hd i=I.hd i∧I'.B i=I.B i
theorem outL_ge:∀ {ts:List T} {n:Nat} {es:List E} {rs:List (Nat×R)},outL n ts=some (es,rs)→∀ x∈rs,n≤x.1
 | [],n,es,rs,h,x,hx=>by simp only [outL,Option.some.injEq,Prod.mk.injEq] at h;rw [←h.2] at hx;cases hx
 | t::r,n,es,rs,h,x,hx=>by
  match t,h with
  | .v y,h=>
   rw [outL] at h
   split at h
   · rename_i h1
     simp only [Option.some.injEq,Prod.mk.injEq] at h
     obtain⟨_,rfl⟩:=h
     exact outL_ge h1 x hx
   cases h
  | .sl k rows,h=>
   rw [outL] at h
   split at h
   · rename_i h1
     simp only [Option.some.injEq,Prod.mk.injEq] at h
     obtain⟨_,rfl⟩:=h
     rcases List.mem_cons.1 hx with rfl|hx
     · exact Nat.le_refl _
     have:=outL_ge h1 x hx;omega
   cases h
  | .ad _,h=>cases h
  | .fn _ _ _,h=>cases h
theorem has_add {σ:St} {id m k:Nat} {rows:List (List T)} (h:σ.has m=false) (hm:id≠m):(σ.add id (.row k rows)).has m=false:=by
 have:Nat.beq id m=false:=by
  cases hb:Nat.beq id m with
  | false=>rfl
  | true=>exact absurd (Nat.eq_of_beq_eq_true hb) hm
 simp only [St.has,St.add,Bool.or_eq_false_iff,List.any_cons] at h ⊢
 exact⟨h.1,by simp [this,R.has],h.2⟩
theorem outL_ok {w0:Base} {w:World} {a:Act}:∀ {ts:List T} {n:Nat} {es:List E} {rs:List (Nat×R)} {σ:St} {I:Ip} {cs:List Value} {G:List Nat},outL n ts=some (es,rs)→(rs.all fun x=>!σ.has x.1)=true→RelI I w0 σ a w→Cs true w ts cs G→G.Nodup→(∀ b∈G,Free I w0 w b)→
 ∃ I',RelI I' w0 (σ.adds rs) a w∧VEs I' w es cs∧I.same I' n∧∀ b,Free I w0 w b→b∉G→Free I' w0 w b
 | [],n,es,rs,σ,I,cs,G,h,_,hr,hC,_,_=>by
  simp only [outL,Option.some.injEq,Prod.mk.injEq] at h
  obtain⟨rfl,rfl⟩:=h
  simp only [Cs] at hC
  exact⟨I,hr,hC.1,⟨rfl,fun _ _=>⟨rfl,rfl,rfl⟩⟩,fun b hb _=>hb⟩
 | t::r,n,es,rs,σ,I,cs,G,h,hf,hr,hC,hn,hG=>by
  simp only [Cs] at hC
  obtain⟨c,cr,G1,G2,rfl,h2,h3,rfl⟩:=hC
  match t,h,h2 with
  | .v y,h,h2=>
   rw [outL] at h
   split at h
   · rename_i h1
     simp only [Option.some.injEq,Prod.mk.injEq] at h
     obtain⟨rfl,rfl⟩:=h
     simp only [C] at h2
     obtain⟨h4,rfl,h5⟩:=h2
     obtain⟨I',g1,g2,g3,g4⟩:=outL_ok h1 hf hr h3 (by simpa using hn) (by simpa using hG)
     exact⟨I',g1,⟨c,cr,rfl,⟨[],by unfold C;exact⟨h4,rfl,h5⟩,by simp⟩,g2⟩,g3,by simpa using g4⟩
   cases h
  | .sl k rows,h,h2=>
   rw [outL] at h
   split at h
   · rename_i es' rs' h1
     simp only [Option.some.injEq,Prod.mk.injEq] at h
     obtain⟨rfl,rfl⟩:=h
     simp only [List.all_cons,Bool.and_eq_true,Bool.not_eq_true',List.all_eq_true] at hf
     have hna:=List.nodup_append.1 hn
     have ha:=hr.addF (id:=n) (u:=c) (b:=0) hf.1 hna.1 (fun b hb=>hG b (by simp [hb])) (r:=.row k rows) (by show C true w _ _ _;simpa [Ip.set] using h2)
     obtain⟨I',g1,g2,g3,g4⟩:=outL_ok (σ:=σ.add n (.row k rows)) h1 (by
      rw [List.all_eq_true]
      intro x hx
      have:=outL_ge h1 x hx
      simpa using has_add (hf.2 x hx) (show n≠x.1 by omega)) ha h3 hna.2.1 (fun b hb=>(hG b (by simp [hb])).set fun hm=>hna.2.2 b hm b hb rfl)
     refine⟨I',g1,⟨c,cr,rfl,?_,g2⟩,⟨g3.1,fun i hi=>?_⟩,fun b hb hm=>g4 b (hb.set fun h=>hm (by simp [h])) fun h=>hm (by simp [h])⟩
     · refine⟨?_,?_⟩
       · rw [(g3.2 n (by omega)).2.1];simp [Ip.set]
       simp only [C] at h2;obtain⟨a',l',k',e,_⟩:=h2;exact⟨a',l',k',e⟩
     obtain⟨e1,e2,e3⟩:=g3.2 i (by omega)
     rw [e1,e2,e3]
     simp [Ip.set,show i≠n by omega]
   cases h
  | .ad _,h,_=>cases h
  | .fn _ _ _,h,_=>cases h
def outV0 (n:Nat):V0→Option (A×List (Nat×R))
 | .one t=>match outL n [t] with|some ([e],rs)=>some (.one e,rs)|_=>none
 | .agg l=>match outL n l with|some (es,rs)=>some (.agg es,rs)|none=>none
theorem outV0_ok {w0:Base} {w:World} {a:Act} {x:V0} {n:Nat} {y:A} {rs:List (Nat×R)} {I:Ip} {v:Value} {G:List Nat} (h:outV0 n x=some (y,rs)) (hf:(rs.all fun x=>!σ.has x.1)=true) (hr:RelI I w0 σ a w) (hC:V0r true w x v G) (hn:G.Nodup) (hG:∀ b∈G,Free I w0 w b) :
 ∃ I',RelI I' w0 (σ.adds rs) a w∧VA I' w y v∧I.same I' n∧∀ b,Free I w0 w b→b∉G→Free I' w0 w b:=by
 cases x with
 | one t=>
  rw [outV0] at h
  split at h
  · rename_i e rs' h1
    simp only [Option.some.injEq,Prod.mk.injEq] at h
    obtain⟨rfl,rfl⟩:=h
    have hC':Cs true w [t] [v] G:=by unfold Cs;exact⟨v,[],G,[],rfl,hC,by simp [Cs],by simp⟩
    obtain⟨I',g1,g2,g3,g4⟩:=outL_ok h1 hf hr hC' hn hG
    obtain⟨c,cr,e1,g5,_⟩:=g2
    cases e1
    exact⟨I',g1,g5,g3,g4⟩
  cases h
 | agg l=>
  rw [outV0] at h
  split at h
  · rename_i es rs' h1
    simp only [Option.some.injEq,Prod.mk.injEq] at h
    obtain⟨rfl,rfl⟩:=h
    obtain⟨cs,e1,hC⟩:=hC
    obtain⟨I',g1,g2,g3,g4⟩:=outL_ok h1 hf hr hC hn hG
    exact⟨I',g1,⟨cs,e1,g2⟩,g3,g4⟩
  cases h
end
end Go.Q
namespace Go.Q
open Go.RowKit
section
variable {P:Program} {ops:Array Oper} {o:Oper} {σ:St} {q:Bool}
def cellsV0:V0→List T
 | .one t=>[t]
 | .agg l=>l
def unflE:List V0→List E→List A
 | [],_=>[]
 | x::r,es=>match x with
  | .one _=>.one (es.headD .no)::unflE r (es.drop 1)
  | .agg l=>.agg (es.take l.length)::unflE r (es.drop l.length)
theorem V0s.cells {o:Bool} {w:World}:∀ {xs:List V0} {vs:List Value} {G:List Nat},V0s o w xs vs G→∃ cs,Cs o w (xs.flatMap cellsV0) cs G∧∀ I es,VEs I w es cs→VAs I w (unflE xs es) vs
 | [],vs,G,⟨h1,h2⟩=>⟨[],by unfold Cs;exact⟨rfl,h2⟩,fun I es h=>by rw [unflE];exact h1⟩
 | x::xs,vs,G,⟨v,vr,G1,G2,h1,h2,h3,h4⟩=>by
  obtain⟨cs,g1,g2⟩:=V0s.cells h3
  cases x with
  | one t=>
   refine⟨v::cs,?_,fun I es h=>?_⟩
   · rw [List.flatMap_cons]
     show Cs o w (t::_) _ _
     unfold Cs
     exact⟨v,cs,G1,G2,rfl,h2,g1,h4⟩
   match es,h with
   | [],h=>simp [VEs] at h
   | e::es,h=>
    obtain⟨c,cr,e1,k1,k2⟩:=h
    cases e1
    exact⟨v,vr,h1,k1,g2 I es k2⟩
  | agg l=>
   obtain⟨ds,e1,h2⟩:=h2
   refine⟨ds++cs,by rw [List.flatMap_cons,h4];exact h2.append g1,fun I es h=>?_⟩
   have hl:=h2.len
   refine⟨v,vr,h1,⟨ds,e1,?_⟩,g2 I _ ?_⟩
   · have:=VEs_take l.length h
     rwa [List.take_left' hl] at this
   have:=VEs_drop l.length h
   rwa [List.drop_left' hl] at this
def outV (n:Nat):V→Option (S×List (Nat×R))
 | .a x=>match outV0 n x with|some (y,rs)=>some (.a y,rs)|none=>none
 | .tup l=>match outL n (l.flatMap cellsV0) with|some (es,rs)=>some (.tup (unflE l es),rs)|none=>none
theorem outV_ok {w0:Base} {w:World} {a:Act} {x:V} {n:Nat} {y:S} {rs:List (Nat×R)} {I:Ip} {v:Value} {G:List Nat} (h:outV n x=some (y,rs)) (hf:(rs.all fun x=>!σ.has x.1)=true) (hr:RelI I w0 σ a w) (hC:Vr true w x v G) (hn:G.Nodup) (hG:∀ b∈G,Free I w0 w b) :
 ∃ I',RelI I' w0 (σ.adds rs) a w∧VS I' w (true,y) v:=by
 cases x with
 | a x=>
  rw [outV] at h
  split at h
  · rename_i h1
    simp only [Option.some.injEq,Prod.mk.injEq] at h
    obtain⟨rfl,rfl⟩:=h
    obtain⟨I',g1,g2,_,_⟩:=outV0_ok h1 hf hr hC hn hG
    exact⟨I',g1,g2⟩
  cases h
 | tup l=>
  rw [outV] at h
  split at h
  · rename_i es rs' h1
    simp only [Option.some.injEq,Prod.mk.injEq] at h
    obtain⟨rfl,rfl⟩:=h
    obtain⟨vs,e1,h2⟩:=hC
    obtain⟨cs,g1,g2⟩:=h2.cells
    obtain⟨I',k1,k2,_,_⟩:=outL_ok h1 hf hr g1 hn hG
    exact⟨I',k1,vs,e1,g2 I' es k2⟩
  cases h
inductive Args (σ:St) (q:Bool):List Operand→List V0→Prop where
 | nil:Args σ q [] []
 | cons {x:Operand} {A0:A} {v:V0} {l:List Operand} {vs:List V0} (hx:Get σ q x A0) (hv:readA σ A0=some v) (h:Args σ q l vs):Args σ q (x::l) (v::vs)
theorem Args.ok {l:List Operand} {ins:List V0} (h:Args σ q l ins) {I:Ip} {w0:Base} {w:World} {a:Act} (hr:RelI I w0 σ a w) (hq:q=true):∃ F,V0s false w ins (l.map a.eval) F:=by
 induction h with
 | nil=>exact⟨[],rfl,rfl⟩
 | cons hx hv h ih=>
  obtain⟨F,ih⟩:=ih
  obtain⟨G,hg⟩:=readA_ok hr hv (hx.va hr hq)
  exact⟨G++F,_,_,G,F,rfl,hg,ih,rfl⟩
theorem V0r.lt {oo:Bool} {w:World} {x:V0} {v:Value} {F:List Nat} (h:V0r oo w x v F):∀ b∈F,b<w.heap.size:=by
 cases x with
 | one t=>exact C.lt h
 | agg l=>obtain⟨cs,_,h⟩:=h;exact h.lt
theorem V0s.lt {oo:Bool} {w:World}:∀ {l:List V0} {vs:List Value} {F:List Nat},V0s oo w l vs F→∀ b∈F,b<w.heap.size
 | [],_,_,⟨_,h⟩,b,hb=>by subst h;cases hb
 | _::_,_,_,⟨v,vr,G1,G2,_,h2,h3,h4⟩,b,hb=>by
  subst h4
  rcases List.mem_append.1 hb with hb|hb
  · exact h2.lt b hb
  exact V0s.lt h3 b hb
theorem Vr.lt {oo:Bool} {w:World} {x:V} {v:Value} {F:List Nat} (h:Vr oo w x v F):∀ b∈F,b<w.heap.size:=by
 cases x with
 | a x=>exact V0r.lt h
 | tup l=>obtain⟨vs,_,h⟩:=h;exact h.lt
theorem adds_n:∀ {σ:St} (rs:List (Nat×R)),(σ.adds rs).n=σ.n
 | σ,[]=>rfl
 | σ,(id,r)::l=>by rw [St.adds,adds_n l];rfl
theorem run_enter {f:FuncId} (hc:Callee P f) {l:List Operand} {tys:Array TypeId} {a:Act} {w:World} (ho:o.op=.call { callee:=.value (.func f),args:=l.toArray,argTypes:=tys }) :
 (execOp a.eval o).run P w=.ok (.enter f (l.map a.eval).toArray) w:=by
 obtain⟨fn,h1,h2,h3⟩:=hc
 have:a.eval (.func f)=.func (.func f) #[] #[]:=rfl
 have h2':¬ fn.name= "runtime.NumGoroutine":=by simpa using h2
 have h3':¬ fn.body=none:=by intro e;rw [e] at h3;cases h3
 simp [execOp,ho,resolve,this,Deferred.ofValue,invoke,callFunc,h1,h2',h3']
theorem Cq {f:FuncId} {l:List Operand} {tys:Array TypeId} {ins:List V0} {out:V} {y:S} {rs:List (Nat×R)} (n:Nat) (h:FnT P f ins out) (ho:o.op=.call { callee:=.value (.func f),args:=l.toArray,argTypes:=tys }) (hg:o.guard=none) (hd:o.dst.all (fun d=>Nat.blt d σ.n)=true)
 (ha:Args σ true l ins) (hout:outV n out=some (y,rs)) (hf:(rs.all fun x=>!σ.has x.1)=true):Op1 P ops o σ ((σ.adds rs).put o.dst (true,y)):=by
 rintro w0 a w ⟨I,hr⟩ K Q hK
 simp only [Region.wanted,hg,if_true]
 obtain⟨F,hF⟩:=ha.ok hr rfl
 unfold Oper.wp
 rw [run_enter h.1 ho]
 refine (h.2 w _ F hr.good hF).mono fun e w' hR=>?_
 obtain⟨v,G,rfl,h1,h2,h3,h4⟩:=hR
 obtain⟨I',g1,g2⟩:=outV_ok hout hf (hr.later h4) h1 h2 fun b hb=>⟨.inl (Nat.le_trans hr.ext.size (h3 b hb).1),(Vr.lt h1 b hb),(h3 b hb).2,fun hz=>by have:=hr.old b hz;have:=(h3 b hb).1;omega,fun i hi=>by have:=(hr.lt i b hi).1;have:=(h3 b hb).1;omega⟩
 refine hK _ _ ⟨I',g1.put ?_ g2⟩
 have:(σ.adds rs).n=σ.n:=adds_n rs
 rw [this];exact hd
def Ip.also (I:Ip) (G:List Nat):Ip:=⟨fun b=>I.Z b∨b∈G,I.F,I.hd,I.B⟩
theorem VE.also {I:Ip} {w:World} (G:List Nat) {e:E} {c:Value} (h:VE I w e c):VE (I.also G) w e c:=by
 cases e with
 | t x=>obtain⟨G,h1,h2⟩:=h;exact⟨G,h1,fun b hb=>.inl (h2 b hb)⟩
 | rf i=>exact h
 | tl i k j=>exact h
 | pf i k j=>exact h
 | vw i x=>exact h
 | pp i x=>exact h
 | pr i a b c=>exact h
 | sb i a b c=>exact h
 | no=>trivial
theorem VEs.also {I:Ip} {w:World} (G:List Nat):∀ {l:List E} {cs:List Value},VEs I w l cs→VEs (I.also G) w l cs
 | [],_,h=>h
 | _::_,_,⟨c,cr,h1,h2,h3⟩=>⟨c,cr,h1,h2.also G,h3.also G⟩
theorem VA.also {I:Ip} {w:World} (G:List Nat) {x:A} {v:Value} (h:VA I w x v):VA (I.also G) w x v:=by
 cases x with
 | one e=>exact VE.also G h
 | agg l=>obtain⟨cs,h1,h2⟩:=h;exact⟨cs,h1,h2.also G⟩
theorem VAs.also {I:Ip} {w:World} (G:List Nat):∀ {l:List A} {cs:List Value},VAs I w l cs→VAs (I.also G) w l cs
 | [],_,h=>h
 | _::_,_,⟨c,cr,h1,h2,h3⟩=>⟨c,cr,h1,h2.also G,h3.also G⟩
theorem VS.also {I:Ip} {w:World} (G:List Nat) {x:Bool×S} {v:Value} (h:VS I w x v):VS (I.also G) w x v:=by
 obtain⟨p,x⟩:=x
 cases p
 · exact h
 cases x with
 | a x=>exact VA.also G h
 | tup l=>obtain⟨vs,h1,h2⟩:=h;exact⟨vs,h1,h2.also G⟩
theorem RelI.also {I:Ip} {w0:Base} {w:World} {a:Act} (h:RelI I w0 σ a w) {G:List Nat} (hG:∀ b∈G,b<w.heap.size∧∀ i,b∉I.F i):RelI (I.also G) w0 σ a w:=
 ⟨h.ext,h.defers,h.size,fun i x hi=>(h.slots i x hi).also G,fun i r hi=>by
  have:=h.res i r hi
  cases r with
  | row k rows=>exact this
  | box cs=>obtain⟨h1,vs,e,h2,h3⟩:=this;exact⟨h1,vs,e,h2,h3.also G⟩
  | kept K=>exact⟨this.1,fun x hx=>⟨(this.2 x hx).1,.inl (this.2 x hx).2⟩⟩
  | opq=>trivial
  | cur g=>exact⟨this.1,this.2.1,this.2.2.congr rfl fun b _ hz=>⟨.inl hz,rfl⟩⟩
  | mp b f=>exact this
  | hdr j x=>exact this
  | blk j b=>exact this,
  fun b hb=>hb.elim (h.old b) fun hb=>(hG b hb).1,fun i b hb=>⟨(h.lt i b hb).1,fun hz=>hz.elim (h.lt i b hb).2 fun hm=>(hG b hm).2 i hb⟩,h.own,h.apart⟩
def inS:V→S
 | .a x=>.a (inA x)
 | .tup l=>.tup (l.map inA)
theorem VEs_also {I:Ip} {w:World}:∀ {l:List T} {cs:List Value} {F:List Nat},Cs false w l cs F→(∀ b∈F,I.Z b)→VEs I w (l.map .t) cs
 | [],cs,F,h,_=>by simp only [Cs] at h;exact h.1
 | t::r,cs,F,h,hF=>by
  simp only [Cs] at h
  obtain⟨c,cr,G1,G2,h1,h2,h3,rfl⟩:=h
  exact⟨c,cr,h1,⟨G1,h2,fun b hb=>hF b (by simp [hb])⟩,VEs_also h3 fun b hb=>hF b (by simp [hb])⟩
theorem VA_also {I:Ip} {w:World} {x:V0} {v:Value} {F:List Nat} (h:V0r false w x v F) (hF:∀ b∈F,I.Z b):VA I w (inA x) v:=by
 cases x with
 | one t=>exact⟨F,h,hF⟩
 | agg l=>obtain⟨cs,h1,h2⟩:=h;exact⟨cs,h1,VEs_also h2 hF⟩
theorem VAs_also {I:Ip} {w:World}:∀ {l:List V0} {vs:List Value} {F:List Nat},V0s false w l vs F→(∀ b∈F,I.Z b)→VAs I w (l.map inA) vs
 | [],vs,F,⟨h,_⟩,_=>h
 | x::l,vs,F,⟨v,vr,G1,G2,h1,h2,h3,h4⟩,hF=>by
  subst h4
  exact⟨v,vr,h1,VA_also h2 fun b hb=>hF b (by simp [hb]),VAs_also h3 fun b hb=>hF b (by simp [hb])⟩
theorem VS_also {I:Ip} {w:World} {x:V} {v:Value} {F:List Nat} (h:Vr false w x v F) (hF:∀ b∈F,I.Z b):VS I w (true,inS x) v:=by
 cases x with
 | a x=>exact VA_also h hF
 | tup l=>obtain⟨vs,h1,h2⟩:=h;exact⟨vs,h1,VAs_also h2 hF⟩
theorem Bc {f:FuncId} {l:List Operand} {tys:Array TypeId} {ins:List V0} {out:V} (h:FrT P f ins out) (ho:o.op=.call { callee:=.value (.func f),args:=l.toArray,argTypes:=tys }) (hg:Grd ops o σ q) (hd:o.dst.all (fun d=>Nat.blt d σ.n)=true)
 (ha:Args σ q l ins):Op1 P ops o σ (σ.put o.dst (q,inS out)):=by
 rintro w0 a w ⟨I,hr⟩ K Q hK
 rw [hg.wanted hr]
 cases q with
 | false=>exact hK _ _ ⟨I,hr.put hd rfl⟩
 | true=>
  simp only [if_true]
  obtain⟨F,hF⟩:=ha.ok hr rfl
  unfold Oper.wp
  rw [run_enter h.1 ho]
  refine (h.2 w _ F hr.good hF).mono fun e w' hR=>?_
  obtain⟨v,G,rfl,h1,h3,h4⟩:=hR
  have hr':=(hr.later h4).also (G:=G) fun b hb=>⟨Vr.lt h1 b hb,fun i hi=>by have:=(hr.lt i b hi).1;have:=h3 b hb;omega⟩
  exact hK _ _ ⟨_,hr'.put hd (VS_also h1 fun b hb=>.inr hb)⟩
theorem B6 {t:Nat} {i:Nat} {p:Bool} {l:List A} {A0:A} (ho:o.op=.extract (.tmp t) i) (hg:Grd ops o σ q) (hd:o.dst.all (fun d=>Nat.blt d σ.n)=true) (hx:look σ.slots t=some (p,.tup l)) (hp:q=true→p=true) (hi:l[i]?=some A0):Op1 P ops o σ (σ.put o.dst (q,.a A0)):=
 .val hg hd fun I w0 a w hr hq=>by
  have:=hr.slots _ _ hx
  rw [hp hq] at this
  obtain⟨vs,h1,h2⟩:=this
  have key:∀ (l:List A) (vs:List Value) (i:Nat) (A0:A),VAs I w l vs→l[i]?=some A0→∃ v,vs[i]?=some v∧VA I w A0 v:=by
   intro l
   induction l with
   | nil=>intro vs i A0 _ hi;simp at hi
   | cons y l ih=>
    rintro vs i A0 ⟨c,cr,rfl,k1,k2⟩ hi
    match i,hi with
    | 0,hi=>simp at hi;subst hi;exact⟨c,rfl,k1⟩
    | i+1,hi=>obtain⟨v,k3,k4⟩:=ih cr i A0 k2 (by simpa using hi);exact⟨v,by simpa using k3,k4⟩
  obtain⟨v,h3,h4⟩:=key l vs i A0 h2 hi
  have e:a.eval (.tmp t)=.tuple vs.toArray:=h1
  exact⟨v,by simp [execOp,ho,e,Instr.extract,h3],h4⟩
theorem Bm {t:TypeId} {x:Operand} {A0:A} {ts:List T} (ho:o.op=.box t x) (hg:o.guard=none) (hd:o.dst.all (fun d=>Nat.blt d σ.n)=true) (hx:Get σ true x A0) (hts:cellsA A0=ts.map .t):Op1 P ops o σ (σ.put o.dst (true,.a (.one (.t (.ad ts))))):=
 .eff hg fun w0 a w ⟨I,hr⟩=>by
  have he:(cellsA A0).all E.cell1=true:=by rw [hts];simp [E.cell1]
  obtain⟨cs,h1,h2,h3⟩:=(hx.va hr rfl).cells he
  rw [hts] at h2
  have hx':Ext w (w.alloc (.cells cs.toArray t)):=(Ext.refl w).alloc _
  have hr':=(hr.later hx').also (G:=[w.heap.size]) fun b hb=>by
   simp only [List.mem_singleton] at hb
   subst hb
   exact⟨by simp,fun i hi=>by have:=(hr.lt i _ hi).1;omega⟩
  have key:∀ (ts:List T) (cs:List Value),VEs I w (ts.map .t) cs→∃ G,Cs false w ts cs G∧∀ b∈G,I.Z b:=by
   intro ts
   induction ts with
   | nil=>intro cs h;exact⟨[],by unfold Cs;exact⟨h,rfl⟩,by simp⟩
   | cons t ts ih=>
    rintro cs ⟨c,cr,rfl,⟨G1,k1,k2⟩,k3⟩
    obtain⟨G2,k4,k5⟩:=ih cr k3
    refine⟨G1++G2,by unfold Cs;exact⟨c,cr,G1,G2,rfl,k1,k4,rfl⟩,fun b hb=>?_⟩
    rcases List.mem_append.1 hb with hb|hb
    · exact k2 b hb
    exact k5 b hb
  obtain⟨G,g1,g2⟩:=key ts cs h2
  refine⟨.pointer (some ⟨w.heap.size,0,none⟩),w.alloc (.cells cs.toArray t),by simp [execOp,ho,Instr.box,newVar,newRow,h1],_,hr'.put hd ⟨w.heap.size::G,C_ad (Ms.of (g1.mono hx') fun j u hj=>?_) (by simp),fun b hb=>?_⟩⟩
  · have hgn:=heap_alloc_new w (.cells cs.toArray t)
    simp only [World.cell?,hgn]
    simpa using hj
  rcases List.mem_cons.1 hb with rfl|hb
  · exact .inr (by simp)
  exact .inl (g2 b hb)
inductive RVs (P:Program) (σ:St):List ResultVar→List A→Prop where
 | nil:RVs P σ [] []
 | tmp {t:Nat} {x:A} {l:List ResultVar} {xs:List A} (h:look σ.slots t=some (true,.a x)) (hr:RVs P σ l xs):RVs P σ (.tmp t::l) (x::xs)
 | cell {t:Nat} {ty:TypeId} {id:Nat} {cs:List E} {ag:Bool} {n:Nat} {l:List ResultVar} {xs:List A} (h:look σ.slots t=some (true,.a (.one (.pp id 0)))) (hs:look σ.res id=some (.box cs)) (ht:tyB P ty ag n=true) (hn:Nat.beq n cs.length=true) (h1:(ag||Nat.beq n 1)=true) (hr:RVs P σ l xs) :
  RVs P σ (.cell t ty::l) (mkA ag cs::xs)
def rvRun (tmps:Array Value):ResultVar→Sem Value
 | .tmp t=>pure (tmps.getD t undef)
 | .cell x t=>do loadVar t (←asAddr (tmps.getD x undef))
theorem RVs.run {I:Ip} {w0:Base} {w:World} {a:Act} (hr:RelI I w0 σ a w) {l:List ResultVar} {xs:List A} (h:RVs P σ l xs):∃ vs,(l.mapM (rvRun a.tmps)).run P w=.ok vs w∧VAs I w xs vs:=by
 induction h with
 | nil=>exact⟨[],rfl,rfl⟩
 | @tmp t x l xs h _ ih=>
  obtain⟨vs,h1,h2⟩:=ih
  refine⟨a.tmps.getD t undef::vs,?_,_,vs,rfl,hr.slots _ _ h,h2⟩
  rw [List.mapM_cons]
  simp only [rvRun,Sem.run_bind,Sem.run_pure,Result.andThen_ok,h1]
 | @cell t ty id cs ag n l xs h hs ht hn h1 _ ih=>
  obtain⟨vs,g1,g2⟩:=ih
  have hv:a.tmps.getD t undef=.pointer (some ⟨I.B id,0,none⟩):=hr.slots _ _ h
  obtain⟨hF,us,e,k1,k2⟩:=hr.res id _ hs
  have hn':=Nat.eq_of_beq_eq_true hn
  have hl:=VEs_len k2
  have h1':ag=false→n=1:=fun e=>by rw [e] at h1;exact Nat.eq_of_beq_eq_true (by simpa using h1)
  have hload:=run_load (w:=w) (b:=I.B id) (p:=0) ht (cs:=us) (by omega) h1' fun j u hj=>by simp [World.cell?,k1,hj]
  refine⟨(if ag=true then .agg us.toArray else us.headD undef)::vs,?_,_,vs,rfl,VA_mk k2 fun e=>by have:=h1' e;omega,g2⟩
  rw [List.mapM_cons]
  have hl2:(loadVar ty ⟨I.B id,0,none⟩).run P w=.ok (if ag=true then .agg us.toArray else us.headD undef) w:=by
   simpa [Instr.loadAt,Instr.sureAddr] using hload
  simp only [rvRun,Sem.run_bind,Sem.run_pure,Result.andThen_ok,hv,asAddr,hl2,g1]
def unflT:List A→List T→List V0
 | [],_=>[]
 | x::r,ts=>match x with
  | .one _=>.one (ts.headD (.v undef))::unflT r (ts.drop 1)
  | .agg l=>.agg (ts.take l.length)::unflT r (ts.drop l.length)
theorem VAs_cells {I:Ip} {w:World}:∀ {xs:List A} {vs:List Value},VAs I w xs vs→∃ cs,VEs I w (xs.flatMap cellsA) cs∧∀ (oo:Bool) (ts:List T) (G:List Nat),Cs oo w ts cs G→ts.length=(xs.flatMap cellsA).length→V0s oo w (unflT xs ts) vs G
 | [],vs,h=>⟨[],rfl,fun oo ts G hC hl=>by
  have:ts=[]:=List.eq_nil_of_length_eq_zero (by simpa using hl)
  subst this
  simp only [Cs] at hC
  exact⟨h,hC.2⟩⟩
 | x::xs,vs,⟨c,cr,h1,h2,h3⟩=>by
  obtain⟨cs,g1,g2⟩:=VAs_cells h3
  cases x with
  | one e=>
   refine⟨c::cs,⟨c,cs,rfl,h2,g1⟩,fun oo ts G hC hl=>?_⟩
   match ts,hC with
   | [],hC=>simp [Cs] at hC
   | t::ts,hC=>
    simp only [Cs] at hC
    obtain⟨c',cr',G1,G2,e1,k1,k2,k3⟩:=hC
    cases e1
    exact⟨c,cr,G1,G2,h1,k1,g2 oo ts G2 k2 (by simp [cellsA] at hl ⊢;omega),k3⟩
  | agg l=>
   obtain⟨ds,e1,h2⟩:=h2
   have hl2:=VEs_len h2
   refine⟨ds++cs,VEs_append h2 g1,fun oo ts G hC hl=>?_⟩
   have hlen:l.length≤ts.length:=by rw [hl];simp [cellsA]
   have hC':Cs oo w (ts.take l.length++ts.drop l.length) (ds++cs) G:=by rw [List.take_append_drop];exact hC
   obtain⟨c1,c2,F1,F2,e2,rfl,k1,k2,k3⟩:=hC'.split
   have hk:c1.length=ds.length:=by rw [k3,List.length_take];omega
   obtain⟨rfl,rfl⟩:=List.append_inj e2.symm hk
   exact⟨c,cr,F1,F2,h1,⟨c1,e1,k1⟩,g2 oo _ F2 k2 (by simp [cellsA] at hl ⊢;omega),rfl⟩
theorem run_results {fn:Func} {I:Ip} {w0:Base} {w:World} {a:Act} (hr:RelI I w0 σ a w) {l:List ResultVar} {xs:List A} (hl:fn.results=l.toArray) (h:RVs P σ l xs):∃ vs,(results fn a.tmps).run P w=.ok (match vs with|[v]=>v|_=>.tuple (List.toArray vs)) w∧VAs I w xs vs:=by
 obtain⟨vs,h1,h2⟩:=h.run hr
 refine⟨vs,?_,h2⟩
 have hres:results fn a.tmps=(do let vs ←fn.results.mapM (rvRun a.tmps);pure (if h:vs.size=1 then vs[0] else .tuple vs)):=by
  unfold results
  congr
 have e:(Array.mapM (rvRun a.tmps) l.toArray).run P w=.ok vs.toArray w:=by
  rw [Array.mapM_eq_mapM_toList,run_fmap]
  simp only [h1,Result.andThen_ok]
 rw [hres,hl,Sem.run_bind,e]
 simp only [Result.andThen_ok,Sem.run_pure]
 match vs with
 | []=>rfl
 | [v]=>rfl
 | _::_::_=>simp
theorem absorb_len:∀ {l:List E} {σ σ':St} {ts:List T},absorb σ l=some (σ',ts)→ts.length=l.length
 | [],σ,σ',ts,h=>by simp only [absorb,Option.some.injEq,Prod.mk.injEq] at h;rw [←h.2];rfl
 | e::r,σ,σ',ts,h=>by
  match e,h with
  | .t (.v x),h=>
   rw [absorb] at h
   split at h
   · rename_i h1;simp only [Option.some.injEq,Prod.mk.injEq] at h;rw [←h.2];simp [absorb_len h1]
   cases h
  | .rf id,h=>
   rw [absorb] at h
   split at h
   · split at h
     · rename_i h1;simp only [Option.some.injEq,Prod.mk.injEq] at h;rw [←h.2];simp [absorb_len h1]
     cases h
   cases h
  | .t (.sl _ _),h=>cases h
  | .t (.ad _),h=>cases h
  | .t (.fn _ _ _),h=>cases h
  | .vw _ _,h=>cases h
  | .pp _ _,h=>cases h
  | .pr _ _ _ _,h=>cases h
  | .sb _ _ _ _,h=>cases h
  | .tl _ _ _,h=>cases h
  | .pf _ _ _,h=>cases h
  | .no,h=>cases h
theorem Res.one {fn:Func} {r:ResultVar} {x:A} {σ':St} {ts:List T} {y:V0} (hl:fn.results=#[r]) (h:RVs P σ [r] [x]) (ha:absorb σ (cellsA x)=some (σ',ts)) (hy:unflT [x] ts=[y]):Res P fn true (.a y) σ:=by
 intro I w0 a w hr
 obtain⟨vs,h1,h2⟩:=run_results (fn:=fn) (l:=[r]) hr (by rw [hl]) h
 obtain⟨cs,g1,g2⟩:=VAs_cells h2
 simp only [List.flatMap_cons,List.flatMap_nil,List.append_nil] at g1 g2
 obtain⟨I',G,k1,k2,k3,k4,_⟩:=RelI.absorb ha hr g1
 have hV:=g2 true ts G k2 (absorb_len ha)
 rw [hy] at hV
 obtain⟨v,vr,G1,G2,rfl,m1,⟨rfl,rfl⟩,m2⟩:=hV
 rw [List.append_nil] at m2
 subst m2
 exact⟨v,_,h1,m1,fun b hb=>(k4 b hb).1,fun _=>⟨k3,fun b hb=>(k4 b hb).2.2.1⟩⟩
theorem Cy {fn:Func} {l:List ResultVar} {xs:List A} {σ':St} {ts:List T} {ys:List V0} (hl:fn.results=l.toArray) (h:RVs P σ l xs) (ha:absorb σ (xs.flatMap cellsA)=some (σ',ts)) (hy:unflT xs ts=ys) (h2:(2≤ys.length)=True):Res P fn true (.tup ys) σ:=by
 intro I w0 a w hr
 obtain⟨vs,h1,h2'⟩:=run_results (fn:=fn) hr hl h
 obtain⟨cs,g1,g2⟩:=VAs_cells h2'
 obtain⟨I',G,k1,k2,k3,k4,_⟩:=RelI.absorb ha hr g1
 have hV:=g2 true ts G k2 (absorb_len ha)
 rw [hy] at hV
 have hlen:∀ (ys:List V0) (vs:List Value) (G:List Nat),V0s true w ys vs G→vs.length=ys.length:=by
  intro ys
  induction ys with
  | nil=>rintro vs G ⟨rfl,_⟩;rfl
  | cons y ys ih=>rintro vs G ⟨v,vr,G1,G2,rfl,_,m,_⟩;simp [ih vr G2 m]
 have hl2:=hlen ys vs G hV
 have h3:2≤vs.length:=by rw [hl2,h2];trivial
 have e:(match vs with|[v]=>v|_=>Value.tuple (List.toArray vs))=.tuple vs.toArray:=by
  match vs,h3 with
  | _::_::_,_=>rfl
 rw [e] at h1
 exact⟨_,G,h1,⟨vs,rfl,hV⟩,fun b hb=>(k4 b hb).1,fun _=>⟨k3,fun b hb=>(k4 b hb).2.2.1⟩⟩
def swp (a b i:Nat):Nat:=bif Nat.beq i a then b else bif Nat.beq i b then a else i
def rnN:List (Nat×Nat)→Nat→Nat
 | [],i=>i
 | (a,b)::l,i=>swp a b (rnN l i)
theorem swp_inj {a b i j:Nat} (h:swp a b i=swp a b j):i=j:=by
 have e:∀ i,swp a b i=if i=a then b else if i=b then a else i:=by
  intro i
  unfold swp
  by_cases h1:i=a
  · subst h1;simp [Nat.beq_refl]
  have:Nat.beq i a=false:=by
   cases hb:Nat.beq i a with
   | false=>rfl
   | true=>exact absurd (Nat.eq_of_beq_eq_true hb) h1
  rw [this,if_neg h1]
  by_cases h2:i=b
  · subst h2;simp [Nat.beq_refl]
  have:Nat.beq i b=false:=by
   cases hb:Nat.beq i b with
   | false=>rfl
   | true=>exact absurd (Nat.eq_of_beq_eq_true hb) h2
  rw [this,if_neg h2];rfl
 rw [e,e] at h
 split at h<;>split at h<;>(try split at h)<;>(try split at h)<;>omega
theorem rnN_inj:∀ {l:List (Nat×Nat)} {i j:Nat},rnN l i=rnN l j→i=j
 | [],_,_,h=>h
 | _::l,_,_,h=>rnN_inj (l:=l) (swp_inj h)
def rnE (m:List (Nat×Nat)):E→E
 | .rf i=>.rf (rnN m i)
 | .vw i x=>.vw (rnN m i) x
 | .pp i o=>.pp (rnN m i) o
 | .pr i k a b=>.pr (rnN m i) k a b
 | .sb i k a b=>.sb (rnN m i) k a b
 | .tl i k j=>.tl (rnN m i) k j
 | .pf i k j=>.pf (rnN m i) k j
 | .t x=>.t x
 | .no=>.no
def rnA (m:List (Nat×Nat)):A→A
 | .one e=>.one (rnE m e)
 | .agg l=>.agg (l.map (rnE m))
def rnS (m:List (Nat×Nat)):S→S
 | .a x=>.a (rnA m x)
 | .tup l=>.tup (l.map (rnA m))
def rnR (m:List (Nat×Nat)):R→R
 | .row k rows=>.row k rows
 | .box cs=>.box (cs.map (rnE m))
 | .hdr j x=>.hdr (j.map (rnN m)) x
 | .blk j b=>.blk (j.map (rnN m)) b
 | .kept K=>.kept K
 | .opq=>.opq
 | .cur g=>.cur g
 | .mp b f=>.mp b f
def Ip.rn (I:Ip) (m:List (Nat×Nat)):Ip:=⟨I.Z,fun i=>I.F (rnN m i),fun i=>I.hd (rnN m i),fun i=>I.B (rnN m i)⟩
theorem VE.rn {I:Ip} {w:World} {m:List (Nat×Nat)} {e:E} {c:Value} (h:VE I w (rnE m e) c):VE (I.rn m) w e c:=by cases e<;>exact h
theorem VEs.rn {I:Ip} {w:World} {m:List (Nat×Nat)}:∀ {l:List E} {cs:List Value},VEs I w (l.map (rnE m)) cs→VEs (I.rn m) w l cs
 | [],_,h=>h
 | _::_,_,⟨c,cr,h1,h2,h3⟩=>⟨c,cr,h1,h2.rn,h3.rn⟩
theorem VA.rn {I:Ip} {w:World} {m:List (Nat×Nat)} {x:A} {v:Value} (h:VA I w (rnA m x) v):VA (I.rn m) w x v:=by
 cases x with
 | one e=>exact VE.rn h
 | agg l=>obtain⟨cs,h1,h2⟩:=h;exact⟨cs,h1,h2.rn⟩
theorem VAs.rn {I:Ip} {w:World} {m:List (Nat×Nat)}:∀ {l:List A} {cs:List Value},VAs I w (l.map (rnA m)) cs→VAs (I.rn m) w l cs
 | [],_,h=>h
 | _::_,_,⟨c,cr,h1,h2,h3⟩=>⟨c,cr,h1,h2.rn,h3.rn⟩
theorem VS.rn {I:Ip} {w:World} {m:List (Nat×Nat)} {p:Bool} {x:S} {v:Value} (h:VS I w (p,rnS m x) v):VS (I.rn m) w (p,x) v:=by
 cases p
 · exact h
 cases x with
 | a x=>exact VA.rn h
 | tup l=>obtain⟨vs,h1,h2⟩:=h;exact⟨vs,h1,h2.rn⟩
def SubS (σ:St) (m:List (Nat×Nat)):List (Nat×(Bool×S))→Prop
 | []=>True
 | (i,p,x)::l=>look σ.slots i=some (p,rnS m x)∧SubS σ m l
def SubR (σ:St) (m:List (Nat×Nat)):List (Nat×R)→Prop
 | []=>True
 | (i,x)::l=>look σ.res (rnN m i)=some (rnR m x)∧SubR σ m l
theorem Le.sub {σ':St} (m:List (Nat×Nat)) (hn:σ'.n=σ.n) (hs:SubS σ m σ'.slots) (hr:SubR σ m σ'.res):Le σ σ':=by
 rintro w0 a w ⟨I,h⟩
 have hslot:∀ (l:List (Nat×(Bool×S))),SubS σ m l→∀ i x,look l i=some x→look σ.slots i=some (x.1,rnS m x.2):=by
  intro l
  induction l with
  | nil=>intro _ i x hi;cases hi
  | cons y l ih=>
   obtain⟨j,p,z⟩:=y
   rintro⟨h1,h2⟩ i x hi
   rw [look_cons] at hi
   split at hi
   · rename_i e;subst e;cases hi;exact h1
   exact ih h2 i x hi
 have hres:∀ (l:List (Nat×R)),SubR σ m l→∀ i x,look l i=some x→look σ.res (rnN m i)=some (rnR m x):=by
  intro l
  induction l with
  | nil=>intro _ i x hi;cases hi
  | cons y l ih=>
   obtain⟨j,z⟩:=y
   rintro⟨h1,h2⟩ i x hi
   rw [look_cons] at hi
   split at hi
   · rename_i e;subst e;cases hi;exact h1
   exact ih h2 i x hi
 refine⟨I.rn m,h.ext,h.defers,h.size.trans hn.symm,fun i x hi=>?_,fun i r hi=>?_,h.old,fun i b hb=>h.lt _ b hb,fun i r hi=>h.own _ _ (hres _ hr i r hi),fun i j hne=>h.apart _ _ fun e=>hne (rnN_inj e)⟩
 · exact VS.rn (h.slots _ _ (hslot _ hs i x hi))
 have:=h.res _ _ (hres _ hr i r hi)
 cases r with
 | row k rows=>exact this
 | box cs=>obtain⟨h1,vs,e,h2,h3⟩:=this;exact⟨h1,vs,e,h2,h3.rn⟩
 | kept K=>exact this
 | opq=>trivial
 | cur g=>exact this
 | mp b f=>exact this
 | hdr j x=>exact⟨this.1,fun k hk=>this.2 _ (by rw [hk];rfl)⟩
 | blk j b=>exact⟨this.1,fun k hk=>this.2 _ (by rw [hk];rfl)⟩
end
end Go.Q
namespace Go.Q
open Go.RowKit
mutual
def LenT:T→Prop
 | .v _=>True
 | .sl _ rows=>rows.length≤9223372036854775807∧LenR rows
 | .ad cs=>LenL cs
 | .fn _ x y=>LenL x∧LenL y
def LenL:List T→Prop
 | []=>True
 | t::r=>LenT t∧LenL r
def LenR:List (List T)→Prop
 | []=>True
 | t::r=>LenL t∧LenR r
end
mutual
theorem C.lenT {o:Bool} {w:World}:∀ {t:T} {c:Value} {F:List Nat},C o w t c F→LenT t
 | .v _,_,_,_=>by simp only [LenT]
 | .sl k rows,c,F,h=>by
  simp only [C] at h
  obtain⟨a,len,cap,h1,h2,h3,h4,h5⟩:=h
  simp only [LenT]
  simp only [maxLen] at h4
  refine⟨by omega,?_⟩
  rcases h5 with ⟨h5,_⟩|⟨b,off,G,_,_,_,_,h9⟩
  · have:rows=[]:=List.eq_nil_of_length_eq_zero (by omega)
    subst this;simp only [LenR]
  exact Rws.lenT h9
 | .ad cs,c,F,h=>by
  simp only [C] at h
  obtain⟨b,off,G,h1,rfl,h2,h3⟩:=h
  simp only [LenT]
  exact Ms.lenT h3
 | .fn f first caps,c,F,h=>by
  simp only [C] at h
  obtain⟨xs,ys,G1,G2,h1,h2,h3,rfl⟩:=h
  simp only [LenT]
  exact⟨Cs.lenT h2,Cs.lenT h3⟩
theorem Cs.lenT {o:Bool} {w:World}:∀ {ts:List T} {cs:List Value} {F:List Nat},Cs o w ts cs F→LenL ts
 | [],_,_,_=>by simp only [LenL]
 | t::r,cs,F,h=>by
  simp only [Cs] at h
  obtain⟨c,cr,G1,G2,h1,h2,h3,rfl⟩:=h
  simp only [LenL]
  exact⟨C.lenT h2,Cs.lenT h3⟩
theorem Ms.lenT {o:Bool} {w:World} {b0:Nat}:∀ {ts:List T} {off:Nat} {F:List Nat},Ms o w b0 off ts F→LenL ts
 | [],_,_,_=>by simp only [LenL]
 | t::r,off,F,h=>by
  simp only [Ms] at h
  obtain⟨c,G1,G2,h1,h2,h3,rfl⟩:=h
  simp only [LenL]
  exact⟨C.lenT h2,Ms.lenT h3⟩
theorem Rws.lenT {o:Bool} {w:World} {b0 k:Nat}:∀ {rs:List (List T)} {off:Nat} {F:List Nat},Rws o w b0 k off rs F→LenR rs
 | [],_,_,_=>by simp only [LenR]
 | t::r,off,F,h=>by
  simp only [Rws] at h
  obtain⟨G1,G2,h1,h2,h3,rfl⟩:=h
  simp only [LenR]
  exact⟨Ms.lenT h2,Rws.lenT h3⟩
end
def LenV:List V0→Prop
 | []=>True
 | x::r=>(match x with|.one t=>LenT t|.agg l=>LenL l)∧LenV r
theorem V0s.lenV {o:Bool} {w:World}:∀ {l:List V0} {vs:List Value} {F:List Nat},V0s o w l vs F→LenV l
 | [],_,_,_=>trivial
 | x::r,_,_,⟨v,vr,G1,G2,_,h2,h3,_⟩=>by
  refine⟨?_,h3.lenV⟩
  cases x with
  | one t=>exact C.lenT h2
  | agg l=>obtain⟨cs,_,h2⟩:=h2;exact h2.lenT
theorem LenR_map {α:Type} {f:α→List T}:∀ {l:List α},LenR (l.map f)↔∀ x∈l,LenL (f x)
 | []=>by simp [LenR]
 | a::l=>by simp [LenR,LenR_map]
theorem FnT.len {P:Program} {f:FuncId} {ins:List V0} {out:V} (hc:LenV ins→FnT P f ins out) (hn:Callee P f):FnT P f ins out:=by
 refine⟨hn,fun w vs F hG hv=>?_⟩
 exact (hc hv.lenV).2 w vs F hG hv
theorem FrT.len {P:Program} {f:FuncId} {ins:List V0} {out:V} (hc:LenV ins→FrT P f ins out) (hn:Callee P f):FrT P f ins out:=by
 refine⟨hn,fun w vs F hG hv=>?_⟩
 exact (hc hv.lenV).2 w vs F hG hv
@[simp] theorem LenV_nil:LenV []=True:=rfl
@[simp] theorem LenV_one {t:T} {r:List V0}:LenV (.one t::r)=(LenT t∧LenV r):=rfl
@[simp] theorem LenV_agg {l:List T} {r:List V0}:LenV (.agg l::r)=(LenL l∧LenV r):=rfl
@[simp] theorem LenT_v {x:Value}:LenT (.v x)=True:=by simp only [LenT]
@[simp] theorem LenT_sl {k:Nat} {rows:List (List T)}:LenT (.sl k rows)=(rows.length≤9223372036854775807∧LenR rows):=by simp only [LenT]
@[simp] theorem LenT_ad {cs:List T}:LenT (.ad cs)=LenL cs:=by simp only [LenT]
@[simp] theorem LenL_nil:LenL []=True:=by simp only [LenL]
@[simp] theorem LenL_cons {t:T} {r:List T}:LenL (t::r)=(LenT t∧LenL r):=by simp only [LenL]
section
variable {P:Program} {ops:Array Oper} {o:Oper} {σ:St} {q:Bool}
theorem FnT.intro' {f:FuncId} {fn:Func} {c:Code} {ins:List V0} {out:V} (hf:P.funcs[f]?=some fn) (hb:fn.body=some c) (hname:(fn.name == "runtime.NumGoroutine")=false) (hn:Nat.ble ins.length fn.ntmps=true)
 (h:LenV ins→∀ w0,AW P w0 c (RetQ P fn true out) (st0 fn.ntmps ins)):FnT P f ins out:=
 FnT.len (fun hl=>FnT.intro hf hb hname hn (h hl)) ⟨fn,hf,hname,by rw [hb];rfl⟩
theorem Bp {fn:Func} {t:Nat} {x y:Value} {oo:Bool} (hl:fn.results=#[.tmp t]) (h:look σ.slots t=some (true,.a (.one (.t (.v x))))) (he:x=y):Res P fn oo (.a (.one (.v y))) σ:=by
 subst he;intro I w0 a w hr
 obtain⟨vs,h1,h2⟩:=run_results (fn:=fn) (l:=[.tmp t]) hr (by rw [hl]) (.tmp h .nil)
 obtain⟨v,vr,rfl,⟨G,h3,_⟩,rfl⟩:=h2
 simp only [C] at h3
 obtain⟨rfl,rfl,h5⟩:=h3
 exact⟨_,[],h1,by unfold Vr V0r C;exact⟨rfl,rfl,h5⟩,by simp,fun _=>⟨List.nodup_nil,by simp⟩⟩
theorem Cu {t e:TypeId} (id:Nat) {k:Nat} {ag:Bool} (ho:o.op=.buildSlice t 0 #[]) (hg:o.guard=none) (hd:o.dst.all (fun d=>Nat.blt d σ.n)=true) (hu:P.underlying t=some (.slice e)) (hk:tyB P e ag k=true) (hf:σ.has id=false) :
 Op1 P ops o σ ((σ.add id (.row k [])).put o.dst (true,.a (.one (.rf id)))):=
 .eff hg fun w0 a w ⟨I,hr⟩=>by
  have hx:Ext w (w.alloc (.cells #[] e)):=(Ext.refl w).alloc _
  have hr':=(hr.later hx).addF (id:=id) (G:=[]) (u:=.slice (some ⟨w.heap.size,0,none⟩) 0 0) (b:=0) (r:=.row k []) hf List.nodup_nil (by simp) (by
   show C true _ _ _ _
   simp only [Ip.set,if_true]
   unfold C
   exact⟨_,_,_,rfl,rfl,Nat.le_refl _,Nat.zero_le _,.inl ⟨rfl,rfl,fun _=>rfl⟩⟩)
  refine⟨.slice (some ⟨w.heap.size,0,none⟩) 0 0,w.alloc (.cells #[] e),?_,_,hr'.put hd ⟨by simp [Ip.set],_,_,_,rfl⟩⟩
  simp [execOp,ho,Instr.buildSlice,run_underlying hu,tyB_size hk,Instr.fill,newRow]
  have e0:Array.map (fun _=>(default:Value)) (Array.range 0)=#[]:=by simp [Array.range]
  rw [e0]
def SubS0 (σ:St):List (Nat×(Bool×S))→Prop
 | []=>True
 | (i,x)::l=>look σ.slots i=some x∧SubS0 σ l
def SubR0 (σ:St):List (Nat×R)→Prop
 | []=>True
 | (i,x)::l=>look σ.res i=some x∧SubR0 σ l
theorem look_SubS0:∀ {l:List (Nat×(Bool×S))},SubS0 σ l→∀ i x,look l i=some x→look σ.slots i=some x
 | [],_,i,x,hi=>by cases hi
 | (j,z)::l,⟨h1,h2⟩,i,x,hi=>by
  rw [look_cons] at hi
  split at hi
  · rename_i e;subst e;cases hi;exact h1
  exact look_SubS0 h2 i x hi
theorem look_SubR0:∀ {l:List (Nat×R)},SubR0 σ l→∀ i x,look l i=some x→look σ.res i=some x
 | [],_,i,x,hi=>by cases hi
 | (j,z)::l,⟨h1,h2⟩,i,x,hi=>by
  rw [look_cons] at hi
  split at hi
  · rename_i e;subst e;cases hi;exact h1
  exact look_SubR0 h2 i x hi
theorem Ap {σ':St} (hn:σ'.n=σ.n) (hs:SubS0 σ σ'.slots) (hr:SubR0 σ σ'.res):Le σ σ':=by
 rintro w0 a w ⟨I,h⟩
 exact⟨I,h.ext,h.defers,h.size.trans hn.symm,fun i x hi=>h.slots _ _ (look_SubS0 hs i x hi),fun i r hi=>h.res _ _ (look_SubR0 hr i r hi),h.old,h.lt,fun i r hi=>h.own _ _ (look_SubR0 hr i r hi),h.apart⟩
variable {w0:Base} {Q:Exit→St→Prop} {n:Nat} {sl:List (Nat×(Bool×S))} {rs:List (Nat×R)} {l:List Oper}
theorem A4 {σ':St} (hn:σ'.n=σ.n:=by exact rfl) (hs:SubS0 σ σ'.slots:=by (repeat refine⟨rfl,?_⟩);exact trivial) (hr:SubR0 σ σ'.res:=by (repeat refine⟨rfl,?_⟩);exact trivial):Le σ σ':=Ap hn hs hr
inductive SelL {α:Type} (l:List (Nat×α)):List Nat→List (Nat×α)→Prop
  | nil:SelL l [] []
  | cons {k:Nat} {x:α} {ks:List Nat} {r:List (Nat×α)} (h:look l k=some x) (t:SelL l ks r):SelL l (k::ks) ((k,x)::r)
theorem SelL.s {σ:St}:∀ {ks:List Nat} {r:List (Nat×(Bool×S))},SelL σ.slots ks r→SubS0 σ r
  | _,_,.nil=>trivial
  | _,_,.cons h t=>⟨h,t.s⟩
theorem SelL.r {σ:St}:∀ {ks:List Nat} {r:List (Nat×R)},SelL σ.res ks r→SubR0 σ r
  | _,_,.nil=>trivial
  | _,_,.cons h t=>⟨h,t.r⟩
theorem Av {σ:St} {sl:List (Nat×(Bool×S))} {rs:List (Nat×R)} (ks js:List Nat) (h:SelL σ.slots ks sl:=by (repeat (apply SelL.cons;exact rfl));exact .nil) (h':SelL σ.res js rs:=by (repeat (apply SelL.cons;exact rfl));exact .nil):Le σ ⟨σ.n,sl,rs⟩:=Ap rfl h.s h'.r
theorem Ad {d:Nat} {x:Bool×S} (ho:Op1 P ops o ⟨n,sl,rs⟩ (St.put ⟨n,sl,rs⟩ o.dst x)) (hd:o.dst=some d) (h:AWl P w0 ops Q l ⟨n,(d,x)::sl,rs⟩):AWl P w0 ops Q (o::l) ⟨n,sl,rs⟩:=
 AWl.op ho (by rw [hd];exact h)
theorem Get.tm {i:Nat} {x:A} (h:look σ.slots i=some (true,.a x)):Get σ q (.tmp i) x:=.tmp h fun _=>rfl
theorem Ab {d i:Nat} {x:A} (h:AWl P w0 ops Q l ⟨n,(d,(true,.a x))::sl,rs⟩) (ho:o.op=.move (.tmp i):=by exact rfl) (hg:o.guard=none:=by exact rfl) (hd:o.dst.all (fun d=>Nat.blt d n)=true:=by exact rfl) (hs:look sl i=some (true,.a x):=by exact rfl) (hds:o.dst=some d:=by exact rfl):AWl P w0 ops Q (o::l) ⟨n,sl,rs⟩:=
 Ad (Bh ho (.no hg) hd (.tm hs)) hds h
theorem Ag {d i:Nat} {x:A} (h:AWl P w0 ops Q l ⟨n,(d,(true,.a x))::sl,rs⟩) (ho:o.op=.assign (.tmp i):=by exact rfl) (hg:o.guard=none:=by exact rfl) (hd:o.dst.all (fun d=>Nat.blt d n)=true:=by exact rfl) (hs:look sl i=some (true,.a x):=by exact rfl) (hds:o.dst=some d:=by exact rfl):AWl P w0 ops Q (o::l) ⟨n,sl,rs⟩:=
 Ad (Da ho (.no hg) hd (.tm hs)) hds h
theorem Ak {d:Nat} {v:Value} (h:AWl P w0 ops Q l ⟨n,(d,(true,.a (.one (.t (.v v)))))::sl,rs⟩) (ho:o.op=.assign (.const v):=by exact rfl) (hg:o.guard=none:=by exact rfl) (hd:o.dst.all (fun d=>Nat.blt d n)=true:=by exact rfl) (hv:v.oneCell'=true:=by exact rfl) (hds:o.dst=some d:=by exact rfl):AWl P w0 ops Q (o::l) ⟨n,sl,rs⟩:=
 Ad (Da ho (.no hg) hd (.const hv)) hds h
theorem Af {id:Nat} {y:Code} {ls:List Oper} (h:AWl P w0 ls.toArray (ThenQ (AW P w0 y Q) Q) ls σ):AW P w0 (.seq (.region id ls.toArray false) y) Q σ:=Ae (Ac h)
theorem A6 {d id:Nat} {r:R} {x:Bool×S} (ho:Op1 P ops o ⟨n,sl,rs⟩ ((St.add ⟨n,sl,rs⟩ id r).put o.dst x)) (hd:o.dst=some d) (h:AWl P w0 ops Q l ⟨n,(d,x)::sl,(id,r)::rs⟩):AWl P w0 ops Q (o::l) ⟨n,sl,rs⟩:=
 AWl.op ho (by rw [hd];exact h)
def addsR:List (Nat×R)→List (Nat×R)→List (Nat×R)
 | [],rs=>rs
 | x::l,rs=>addsR l (x::rs)
theorem adds_eq:∀ (l:List (Nat×R)) (n:Nat) (sl:List (Nat×(Bool×S))) (rs:List (Nat×R)),St.adds ⟨n,sl,rs⟩ l=⟨n,sl,addsR l rs⟩
 | [],_,_,_=>rfl
 | (id,r)::l,n,sl,rs=>by rw [St.adds,St.add,adds_eq l];rfl
theorem Cc {d:Nat} {rl:List (Nat×R)} {x:Bool×S} (ho:Op1 P ops o ⟨n,sl,rs⟩ ((St.adds ⟨n,sl,rs⟩ rl).put o.dst x)) (hd:o.dst=some d) (h:AWl P w0 ops Q l ⟨n,(d,x)::sl,addsR rl rs⟩):AWl P w0 ops Q (o::l) ⟨n,sl,rs⟩:=
 AWl.op ho (by rw [hd,adds_eq];exact h)
def purS (id:Nat) (sl:List (Nat×(Bool×S))):List (Nat×(Bool×S)):=sl.map fun x=>(x.1,(x.2.1,x.2.2.pur id))
def chgR (id:Nat) (r:R) (rs:List (Nat×R)):List (Nat×R):=setR (rs.map fun x=>(x.1,x.2.pur id)) id r
theorem AWl.chg {id:Nat} {r:R} (ho:Op1 P ops o ⟨n,sl,rs⟩ (St.chg ⟨n,sl,rs⟩ id r)) (h:AWl P w0 ops Q l ⟨n,purS id sl,chgR id r rs⟩):AWl P w0 ops Q (o::l) ⟨n,sl,rs⟩:=AWl.op ho h
theorem Bl {d id:Nat} {r:R} {x:Bool×S} (ho:Op1 P ops o ⟨n,sl,rs⟩ ((St.chg ⟨n,sl,rs⟩ id r).put o.dst x)) (hd:o.dst=some d) (h:AWl P w0 ops Q l ⟨n,(d,x)::purS id sl,chgR id r rs⟩):AWl P w0 ops Q (o::l) ⟨n,sl,rs⟩:=
 AWl.op ho (by rw [hd];exact h)
theorem A7 {f:FuncId} {fn:Func} {c:Code} {ins:List V0} {out:V} (hf:P.funcs[f]?=some fn) (hb:fn.body=some c) (hname:(fn.name == "runtime.NumGoroutine")=false) (hnt:fn.ntmps=n) (hn:Nat.ble ins.length n=true)
 (h:LenV ins→∀ w0,AW P w0 c (RetQ P fn true out) ⟨n,inSlots 0 ins,[]⟩):FnT P f ins out:=by
 subst hnt;exact FnT.intro' hf hb hname hn h
theorem FrT.walk {f:FuncId} {fn:Func} {c:Code} {ins:List V0} {out:V} (hf:P.funcs[f]?=some fn) (hb:fn.body=some c) (hname:(fn.name == "runtime.NumGoroutine")=false) (hnt:fn.ntmps=n) (hn:Nat.ble ins.length n=true)
 (h:LenV ins→∀ w0,AW P w0 c (RetQ P fn false out) ⟨n,inSlots 0 ins,[]⟩):FrT P f ins out:=by
 subst hnt;exact FrT.len (fun hl=>FrT.intro hf hb hname hn (h hl)) ⟨fn,hf,hname,by rw [hb];rfl⟩
end
end Go.Q
