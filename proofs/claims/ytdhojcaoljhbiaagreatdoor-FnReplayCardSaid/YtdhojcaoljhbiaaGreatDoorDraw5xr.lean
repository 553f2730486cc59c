import Derived.Test.YtdhojcaoljhbiaaGreatDoorDraw1xr
import Derived.Test.YtdhojcaoljhbiaaGreatDoorB90xr
import Derived.Test.YtdhojcaoljhbiaaGreatDoorAbs14xr
import Derived.Test.YtdhojcaoljhbiaaGreatDoorAbsWxr
set_option linter.unusedVariables false
set_option linter.unusedSimpArgs false
namespace Go.Q
open Go.RowKit
section
variable {P:Program}
def EndP (Φ:St→Prop):Exit→St→Prop
 | .normal,σ=>∃ σt,Φ σt∧Le σ σt
 | _,_=>False
theorem EndP.run {ops:Array Oper} {o:Oper} {σ:St} {Φ:St→Prop} (h:∀ w0,AWl P w0 ops (EndP Φ) [o] σ) {w0:Base} {a:Act} {w:World} (hr:Rel w0 σ a w) (K:Act→World→Prop) (Q:Exit→Act→World→Prop) (hK:∀ a' w' σ',Φ σ'→Rel w0 σ' a' w'→K a' w') :
 if Region.wanted o (yielded ops a.tmps) then o.wp P a w K Q else K (a.put o.dst undef) w:=by
 have h1:=h w0 a w hr
 unfold wpList at h1
 have hN:∀ a' w',wpList P ops (lift w0 (EndP Φ)) [] a' w'→K a' w':=fun a' w' h=>by
  obtain⟨σ',⟨σt,h2,h4⟩,h3⟩:=h
  exact hK a' w' σt h2 (h4 w0 a' w' h3)
 have hF:∀ e a' w',e≠Exit.normal→lift w0 (EndP Φ) e a' w'→False:=fun e a' w' he h=>by
  obtain⟨σ',h2,h3⟩:=h
  cases e<;>first|exact he rfl|exact h2
 have hL:LetsOut (lift w0 (EndP Φ))→False:=fun ⟨a',w',h⟩=>hF _ a' w' (by simp) h
 split
 · rename_i hw
   rw [if_pos hw] at h1
   rcases h1 with h1|⟨_,h1⟩
   · unfold Oper.wp at *
     generalize (execOp a.eval o).run P w=r at *
     cases r with
     | ok n w'=>
      cases n<;>simp only [Oper.upon] at h1 ⊢<;>
       first
        | exact hN _ _ h1
        | exact Calls.mono h1 (fun e w'' he=>by cases e<;>first|exact hN _ _ he|exact (hL he).elim|exact (hF _ _ _ (by simp) he).elim)
        | exact Rows.mono h1 (fun _ _ he=>hN _ _ he)
     | halt x w'=>cases x<;>simp only [Oper.upon] at h1 ⊢<;>first|exact h1.elim|exact (hF _ _ _ (by simp) h1).elim
   exact (hL h1).elim
 rename_i hw
 rw [if_neg hw] at h1
 exact hN _ _ h1
def Stp (P:Program) (l:List Oper) (o:Oper) (Φ:St→Prop) (σ:St):Prop:=∀ w0 a w,Rel w0 σ a w→∀ (K:Act→World→Prop) (Q:Exit→Act→World→Prop),(∀ a' w' σ',Φ σ'→Rel w0 σ' a' w'→K a' w')→
 if Region.wanted o (yielded l.toArray a.tmps) then o.wp P a w K Q else K (a.put o.dst undef) w
structure Dg (P:Program) (l:List Oper) (acc:List (Nat×(St→Prop))) (es:List (Nat×Nat×Nat)) (Fin:(Nat→St→Prop)→Prop):Prop where
 pf:∃ st:Nat→St→Prop,(∀ k Φ,look acc k=some Φ→st k=Φ)∧(∀ e∈es,∀ o,l[e.2.1]?=some o→∀ σ,st e.1 σ→Stp P l o (st e.2.2) σ)∧Fin st
variable {l:List Oper} {acc:List (Nat×(St→Prop))} {es:List (Nat×Nat×Nat)} {Fin:(Nat→St→Prop)→Prop}
theorem Dg.new {a i b:Nat} {Φ Φ':St→Prop} {o:Oper} (ha:look acc a=some Φ) (ho:l[i]?=some o) (hb:look acc b=none) (hE:∀ σ,Φ σ→Stp P l o Φ' σ) (h:Dg P l ((b,Φ')::acc) es Fin):Dg P l acc ((a,i,b)::es) Fin:=by
 obtain⟨st,h1,h2,h3⟩:=h.pf
 have hne:b≠a:=fun e=>by subst e;rw [hb] at ha;cases ha
 have h1':∀ k σ,look acc k=some σ→st k=σ:=fun k σ hk=>h1 k σ (by
  rw [look_cons,if_neg (fun e=>?_)]
  · exact hk
  subst e;rw [hb] at hk;cases hk)
 refine⟨st,h1',fun e he o' ho' σ hσ=>?_,h3⟩
 rcases List.mem_cons.1 he with rfl|he
 · simp only at ho' hσ ⊢
   rw [ho] at ho';cases ho'
   rw [h1' a Φ ha] at hσ
   rw [h1 b Φ' (by rw [look_cons,if_pos rfl])]
   exact hE σ hσ
 exact h2 e he o' ho' σ hσ
theorem Dg.old {a i b:Nat} {Φ Φ':St→Prop} {o:Oper} (ha:look acc a=some Φ) (ho:l[i]?=some o) (hb:look acc b=some Φ') (hE:∀ σ,Φ σ→Stp P l o Φ' σ) (h:Dg P l acc es Fin):Dg P l acc ((a,i,b)::es) Fin:=by
 obtain⟨st,h1,h2,h3⟩:=h.pf
 refine⟨st,h1,fun e he o' ho' σ hσ=>?_,h3⟩
 rcases List.mem_cons.1 he with rfl|he
 · simp only at ho' hσ ⊢
   rw [ho] at ho';cases ho'
   rw [h1 a Φ ha] at hσ
   rw [h1 b Φ' hb]
   exact hE σ hσ
 exact h2 e he o' ho' σ hσ
theorem Dg.fin {w0:Base} {Q:Exit→St→Prop} {N k:Nat} {Φ:St→Prop} (hk:look acc k=some Φ) (h:∀ σ',Φ σ'→AWl P w0 l.toArray Q (l.drop N) σ'):Dg P l acc [] (fun st=>∀ σ',st k σ'→AWl P w0 l.toArray Q (l.drop N) σ'):=
 ⟨fun i=>(look acc i).getD fun _=>False,fun i σ' hi=>by simp [hi],fun e he=>(by cases he),by simpa [hk] using h⟩
theorem C7 {σ σ' s:St} (h:Le σ σ') (e:s=σ'):EndQ s .normal σ:=by subst e;exact h
theorem Stp.run {o:Oper} {σ σt:St} {Φ:St→Prop} (h:∀ w0,AWl P w0 l.toArray (EndQ σt) [o] σ) (hΦ:Φ σt):Stp P l o Φ σ:=fun w0 a w hr K Q hK=>EndQ.run h hr K Q fun a' w' hr'=>hK a' w' σt hΦ hr'
theorem Dp {o:Oper} {σ:St} {Φ Ψ:St→Prop} (h:OpE P l.toArray o σ Ψ) (hL:∀ σ',Ψ σ'→∃ σt,Φ σt∧Le σ' σt):Stp P l o Φ σ:=fun w0 a w hr K Q hK=>h w0 a w hr K Q fun σ' a' w' hσ' hr'=>by
 obtain⟨σt,h1,h2⟩:=hL σ' hσ'
 exact hK a' w' σt h1 (h2 w0 a' w' hr')
def Nd0  (p:Prop) (s:St):St→Prop:=fun σ=>p∧σ=s
def Nd1 {α1:Type} (p:α1→Prop) (s:α1→St):St→Prop:=fun σ=>∃ z1,p z1∧σ=s z1
def Nd2 {α1:Type} {α2:Type} (p:α1→α2→Prop) (s:α1→α2→St):St→Prop:=fun σ=>∃ z1 z2,p z1 z2∧σ=s z1 z2
def Nd3 {α1:Type} {α2:Type} {α3:Type} (p:α1→α2→α3→Prop) (s:α1→α2→α3→St):St→Prop:=fun σ=>∃ z1 z2 z3,p z1 z2 z3∧σ=s z1 z2 z3
def Nd4 {α1:Type} {α2:Type} {α3:Type} {α4:Type} (p:α1→α2→α3→α4→Prop) (s:α1→α2→α3→α4→St):St→Prop:=fun σ=>∃ z1 z2 z3 z4,p z1 z2 z3 z4∧σ=s z1 z2 z3 z4
theorem Dg.new0 {a i b:Nat}  {p:Prop} {s s':St} {o:Oper} (ha:look acc a=some (Nd0 p s)) (ho:l[i]?=some o) (hb:look acc b=none) (hE:∀ w0,p→AWl P w0 l.toArray (EndQ (s')) [o] (s)) (h:Dg P l ((b,Nd0 p s')::acc) es Fin):Dg P l acc ((a,i,b)::es) Fin:=
 Dg.new ha ho hb (fun σ h=>by obtain⟨hp,rfl⟩:=h;exact Stp.run (fun w0=>hE w0  hp) ⟨hp,rfl⟩) h
theorem Dg.old0 {a i b:Nat}  {p:Prop} {s s':St} {o:Oper} (ha:look acc a=some (Nd0 p s)) (ho:l[i]?=some o) (hb:look acc b=some (Nd0 p s')) (hE:∀ w0,p→AWl P w0 l.toArray (EndQ (s')) [o] (s)) (h:Dg P l acc es Fin):Dg P l acc ((a,i,b)::es) Fin:=
 Dg.old ha ho hb (fun σ h=>by obtain⟨hp,rfl⟩:=h;exact Stp.run (fun w0=>hE w0  hp) ⟨hp,rfl⟩) h
theorem Dg.fin0 {w0:Base} {Q:Exit→St→Prop} {N k:Nat}  {p:Prop} {s:St} (hk:look acc k=some (Nd0 p s)) (h:p→AWl P w0 l.toArray Q (l.drop N) (s)):Dg P l acc [] (fun st=>∀ σ',st k σ'→AWl P w0 l.toArray Q (l.drop N) σ'):=
 Dg.fin hk fun σ h'=>by obtain⟨hp,rfl⟩:=h';exact h  hp
theorem Dg.drw0 {a i b:Nat}  {β:Type} {p:Prop} {s:St} {q:β→Prop} {f s':β→St} {o:Oper} (ha:look acc a=some (Nd0 p s)) (ho:l[i]?=some o) (hE:p→OpE P l.toArray o (s) (fun σ'=>∃ y,q y∧σ'=f y)) (hb:look acc b=none) (hL:∀ y,p→q y→EndQ (s' y) .normal (f y)) (h:Dg P l ((b,Nd1 (fun y=>p∧q y) s')::acc) es Fin):Dg P l acc ((a,i,b)::es) Fin:=
 Dg.new ha ho hb (fun σ h=>by
  obtain⟨hp,rfl⟩:=h
  refine Dp (hE  hp) ?_
  rintro _ ⟨y,hy,rfl⟩
  exact⟨_,⟨y,⟨hp,hy⟩,rfl⟩,hL y hp hy⟩) h
theorem Dg.odr0 {a i b:Nat}  {β:Type} {p:Prop} {s:St} {q:β→Prop} {f s':β→St} {o:Oper} (ha:look acc a=some (Nd0 p s)) (ho:l[i]?=some o) (hE:p→OpE P l.toArray o (s) (fun σ'=>∃ y,q y∧σ'=f y)) (hb:look acc b=some (Nd1 (fun y=>p∧q y) s')) (hL:∀ y,p→q y→EndQ (s' y) .normal (f y)) (h:Dg P l acc es Fin):Dg P l acc ((a,i,b)::es) Fin:=
 Dg.old ha ho hb (fun σ h=>by
  obtain⟨hp,rfl⟩:=h
  refine Dp (hE  hp) ?_
  rintro _ ⟨y,hy,rfl⟩
  exact⟨_,⟨y,⟨hp,hy⟩,rfl⟩,hL y hp hy⟩) h
theorem Dg.new1 {a i b:Nat} {α1:Type} {p:α1→Prop} {s s':α1→St} {o:Oper} (ha:look acc a=some (Nd1 p s)) (ho:l[i]?=some o) (hb:look acc b=none) (hE:∀ w0,∀ z1,p z1→AWl P w0 l.toArray (EndQ (s' z1)) [o] (s z1)) (h:Dg P l ((b,Nd1 p s')::acc) es Fin):Dg P l acc ((a,i,b)::es) Fin:=
 Dg.new ha ho hb (fun σ h=>by obtain⟨z1,hp,rfl⟩:=h;exact Stp.run (fun w0=>hE w0 z1 hp) ⟨z1,hp,rfl⟩) h
theorem Dg.old1 {a i b:Nat} {α1:Type} {p:α1→Prop} {s s':α1→St} {o:Oper} (ha:look acc a=some (Nd1 p s)) (ho:l[i]?=some o) (hb:look acc b=some (Nd1 p s')) (hE:∀ w0,∀ z1,p z1→AWl P w0 l.toArray (EndQ (s' z1)) [o] (s z1)) (h:Dg P l acc es Fin):Dg P l acc ((a,i,b)::es) Fin:=
 Dg.old ha ho hb (fun σ h=>by obtain⟨z1,hp,rfl⟩:=h;exact Stp.run (fun w0=>hE w0 z1 hp) ⟨z1,hp,rfl⟩) h
theorem Dg.fin1 {w0:Base} {Q:Exit→St→Prop} {N k:Nat} {α1:Type} {p:α1→Prop} {s:α1→St} (hk:look acc k=some (Nd1 p s)) (h:∀ z1,p z1→AWl P w0 l.toArray Q (l.drop N) (s z1)):Dg P l acc [] (fun st=>∀ σ',st k σ'→AWl P w0 l.toArray Q (l.drop N) σ'):=
 Dg.fin hk fun σ h'=>by obtain⟨z1,hp,rfl⟩:=h';exact h z1 hp
theorem Dg.drw1 {a i b:Nat} {α1:Type} {β:Type} {p:α1→Prop} {s:α1→St} {q:α1→β→Prop} {f s':α1→β→St} {o:Oper} (ha:look acc a=some (Nd1 p s)) (ho:l[i]?=some o) (hE:∀ z1,p z1→OpE P l.toArray o (s z1) (fun σ'=>∃ y,q z1 y∧σ'=f z1 y)) (hb:look acc b=none) (hL:∀ z1 y,p z1→q z1 y→EndQ (s' z1 y) .normal (f z1 y)) (h:Dg P l ((b,Nd2 (fun z1 y=>p z1∧q z1 y) s')::acc) es Fin):Dg P l acc ((a,i,b)::es) Fin:=
 Dg.new ha ho hb (fun σ h=>by
  obtain⟨z1,hp,rfl⟩:=h
  refine Dp (hE z1 hp) ?_
  rintro _ ⟨y,hy,rfl⟩
  exact⟨_,⟨z1,y,⟨hp,hy⟩,rfl⟩,hL z1 y hp hy⟩) h
theorem Dg.odr1 {a i b:Nat} {α1:Type} {β:Type} {p:α1→Prop} {s:α1→St} {q:α1→β→Prop} {f s':α1→β→St} {o:Oper} (ha:look acc a=some (Nd1 p s)) (ho:l[i]?=some o) (hE:∀ z1,p z1→OpE P l.toArray o (s z1) (fun σ'=>∃ y,q z1 y∧σ'=f z1 y)) (hb:look acc b=some (Nd2 (fun z1 y=>p z1∧q z1 y) s')) (hL:∀ z1 y,p z1→q z1 y→EndQ (s' z1 y) .normal (f z1 y)) (h:Dg P l acc es Fin):Dg P l acc ((a,i,b)::es) Fin:=
 Dg.old ha ho hb (fun σ h=>by
  obtain⟨z1,hp,rfl⟩:=h
  refine Dp (hE z1 hp) ?_
  rintro _ ⟨y,hy,rfl⟩
  exact⟨_,⟨z1,y,⟨hp,hy⟩,rfl⟩,hL z1 y hp hy⟩) h
theorem Dg.new2 {a i b:Nat} {α1:Type} {α2:Type} {p:α1→α2→Prop} {s s':α1→α2→St} {o:Oper} (ha:look acc a=some (Nd2 p s)) (ho:l[i]?=some o) (hb:look acc b=none) (hE:∀ w0,∀ z1 z2,p z1 z2→AWl P w0 l.toArray (EndQ (s' z1 z2)) [o] (s z1 z2)) (h:Dg P l ((b,Nd2 p s')::acc) es Fin):Dg P l acc ((a,i,b)::es) Fin:=
 Dg.new ha ho hb (fun σ h=>by obtain⟨z1,z2,hp,rfl⟩:=h;exact Stp.run (fun w0=>hE w0 z1 z2 hp) ⟨z1,z2,hp,rfl⟩) h
theorem Dg.old2 {a i b:Nat} {α1:Type} {α2:Type} {p:α1→α2→Prop} {s s':α1→α2→St} {o:Oper} (ha:look acc a=some (Nd2 p s)) (ho:l[i]?=some o) (hb:look acc b=some (Nd2 p s')) (hE:∀ w0,∀ z1 z2,p z1 z2→AWl P w0 l.toArray (EndQ (s' z1 z2)) [o] (s z1 z2)) (h:Dg P l acc es Fin):Dg P l acc ((a,i,b)::es) Fin:=
 Dg.old ha ho hb (fun σ h=>by obtain⟨z1,z2,hp,rfl⟩:=h;exact Stp.run (fun w0=>hE w0 z1 z2 hp) ⟨z1,z2,hp,rfl⟩) h
theorem Dg.fin2 {w0:Base} {Q:Exit→St→Prop} {N k:Nat} {α1:Type} {α2:Type} {p:α1→α2→Prop} {s:α1→α2→St} (hk:look acc k=some (Nd2 p s)) (h:∀ z1 z2,p z1 z2→AWl P w0 l.toArray Q (l.drop N) (s z1 z2)):Dg P l acc [] (fun st=>∀ σ',st k σ'→AWl P w0 l.toArray Q (l.drop N) σ'):=
 Dg.fin hk fun σ h'=>by obtain⟨z1,z2,hp,rfl⟩:=h';exact h z1 z2 hp
theorem Dg.drw2 {a i b:Nat} {α1:Type} {α2:Type} {β:Type} {p:α1→α2→Prop} {s:α1→α2→St} {q:α1→α2→β→Prop} {f s':α1→α2→β→St} {o:Oper} (ha:look acc a=some (Nd2 p s)) (ho:l[i]?=some o) (hE:∀ z1 z2,p z1 z2→OpE P l.toArray o (s z1 z2) (fun σ'=>∃ y,q z1 z2 y∧σ'=f z1 z2 y)) (hb:look acc b=none) (hL:∀ z1 z2 y,p z1 z2→q z1 z2 y→EndQ (s' z1 z2 y) .normal (f z1 z2 y)) (h:Dg P l ((b,Nd3 (fun z1 z2 y=>p z1 z2∧q z1 z2 y) s')::acc) es Fin):Dg P l acc ((a,i,b)::es) Fin:=
 Dg.new ha ho hb (fun σ h=>by
  obtain⟨z1,z2,hp,rfl⟩:=h
  refine Dp (hE z1 z2 hp) ?_
  rintro _ ⟨y,hy,rfl⟩
  exact⟨_,⟨z1,z2,y,⟨hp,hy⟩,rfl⟩,hL z1 z2 y hp hy⟩) h
theorem Dg.new3 {a i b:Nat} {α1:Type} {α2:Type} {α3:Type} {p:α1→α2→α3→Prop} {s s':α1→α2→α3→St} {o:Oper} (ha:look acc a=some (Nd3 p s)) (ho:l[i]?=some o) (hb:look acc b=none) (hE:∀ w0,∀ z1 z2 z3,p z1 z2 z3→AWl P w0 l.toArray (EndQ (s' z1 z2 z3)) [o] (s z1 z2 z3)) (h:Dg P l ((b,Nd3 p s')::acc) es Fin):Dg P l acc ((a,i,b)::es) Fin:=
 Dg.new ha ho hb (fun σ h=>by obtain⟨z1,z2,z3,hp,rfl⟩:=h;exact Stp.run (fun w0=>hE w0 z1 z2 z3 hp) ⟨z1,z2,z3,hp,rfl⟩) h
theorem Dg.fin3 {w0:Base} {Q:Exit→St→Prop} {N k:Nat} {α1:Type} {α2:Type} {α3:Type} {p:α1→α2→α3→Prop} {s:α1→α2→α3→St} (hk:look acc k=some (Nd3 p s)) (h:∀ z1 z2 z3,p z1 z2 z3→AWl P w0 l.toArray Q (l.drop N) (s z1 z2 z3)):Dg P l acc [] (fun st=>∀ σ',st k σ'→AWl P w0 l.toArray Q (l.drop N) σ'):=
 Dg.fin hk fun σ h'=>by obtain⟨z1,z2,z3,hp,rfl⟩:=h';exact h z1 z2 z3 hp
theorem Dg.drw3 {a i b:Nat} {α1:Type} {α2:Type} {α3:Type} {β:Type} {p:α1→α2→α3→Prop} {s:α1→α2→α3→St} {q:α1→α2→α3→β→Prop} {f s':α1→α2→α3→β→St} {o:Oper} (ha:look acc a=some (Nd3 p s)) (ho:l[i]?=some o) (hE:∀ z1 z2 z3,p z1 z2 z3→OpE P l.toArray o (s z1 z2 z3) (fun σ'=>∃ y,q z1 z2 z3 y∧σ'=f z1 z2 z3 y)) (hb:look acc b=none) (hL:∀ z1 z2 z3 y,p z1 z2 z3→q z1 z2 z3 y→EndQ (s' z1 z2 z3 y) .normal (f z1 z2 z3 y)) (h:Dg P l ((b,Nd4 (fun z1 z2 z3 y=>p z1 z2 z3∧q z1 z2 z3 y) s')::acc) es Fin):Dg P l acc ((a,i,b)::es) Fin:=
 Dg.new ha ho hb (fun σ h=>by
  obtain⟨z1,z2,z3,hp,rfl⟩:=h
  refine Dp (hE z1 z2 z3 hp) ?_
  rintro _ ⟨y,hy,rfl⟩
  exact⟨_,⟨z1,z2,z3,y,⟨hp,hy⟩,rfl⟩,hL z1 z2 z3 y hp hy⟩) h
theorem Dg.new4 {a i b:Nat} {α1:Type} {α2:Type} {α3:Type} {α4:Type} {p:α1→α2→α3→α4→Prop} {s s':α1→α2→α3→α4→St} {o:Oper} (ha:look acc a=some (Nd4 p s)) (ho:l[i]?=some o) (hb:look acc b=none) (hE:∀ w0,∀ z1 z2 z3 z4,p z1 z2 z3 z4→AWl P w0 l.toArray (EndQ (s' z1 z2 z3 z4)) [o] (s z1 z2 z3 z4)) (h:Dg P l ((b,Nd4 p s')::acc) es Fin):Dg P l acc ((a,i,b)::es) Fin:=
 Dg.new ha ho hb (fun σ h=>by obtain⟨z1,z2,z3,z4,hp,rfl⟩:=h;exact Stp.run (fun w0=>hE w0 z1 z2 z3 z4 hp) ⟨z1,z2,z3,z4,hp,rfl⟩) h
theorem Dg.fin4 {w0:Base} {Q:Exit→St→Prop} {N k:Nat} {α1:Type} {α2:Type} {α3:Type} {α4:Type} {p:α1→α2→α3→α4→Prop} {s:α1→α2→α3→α4→St} (hk:look acc k=some (Nd4 p s)) (h:∀ z1 z2 z3 z4,p z1 z2 z3 z4→AWl P w0 l.toArray Q (l.drop N) (s z1 z2 z3 z4)):Dg P l acc [] (fun st=>∀ σ',st k σ'→AWl P w0 l.toArray Q (l.drop N) σ'):=
 Dg.fin hk fun σ h'=>by obtain⟨z1,z2,z3,z4,hp,rfl⟩:=h';exact h z1 z2 z3 z4 hp
end
end Go.Q
namespace Go.Q
open Go.RowKit
section
variable {P:Program} {ops:Array Oper} {o:Oper} {σ:St}
theorem stL_outs {L:Nat→Bool}:∀ (o1 o2:List Out) (i:Nat) (σ:St),o1.length=o2.length→(∀ j,L (i+j)=true→o1[j]?=o2[j]?)→stL L i o1 σ=stL L i o2 σ
 | [],[],_,_,_,_=>rfl
 | [],_::_,_,_,h,_=>by cases h
 | _::_,[],_,_,h,_=>by cases h
 | y::r,z::s,i,σ,h,hj=>by
  rw [stL,stL]
  have ih:=fun σ'=>stL_outs r s (i+1) σ' (by simpa using h) fun j hL=>by simpa using hj (j+1) (by rw [show i+(j+1)=i+1+j by omega];exact hL)
  rw [ih]
  cases hL:L i with
  | false=>rfl
  | true=>
   have:=hj 0 hL
   simp only [List.getElem?_cons_zero,Option.some.injEq] at this
   rw [this]
def Out.nv (u:Nat) (y:Out):Bool:=y.2.1.2.nv u&&y.2.2.all fun x=>x.2.nv u
theorem nv_addsR {u:Nat}:∀ (a b:List (Nat×R)),a.all (fun x=>x.2.nv u)=true→b.all (fun x=>x.2.nv u)=true→(addsR a b).all (fun x=>x.2.nv u)=true
 | [],_,_,h=>h
 | x::a,b,h1,h2=>by
  rw [List.all_cons,Bool.and_eq_true] at h1
  exact nv_addsR a _ h1.2 (by rw [List.all_cons,h1.1,h2];rfl)
theorem nv_stL {u:Nat} {L:Nat→Bool}:∀ (outs:List Out) (i:Nat) (σ:St),nvB u σ.slots σ.res=true→outs.all (Out.nv u)=true→nvB u (stL L i outs σ).slots (stL L i outs σ).res=true
 | [],_,_,h,_=>h
 | y::r,i,σ,h,ho=>by
  rw [List.all_cons,Bool.and_eq_true] at ho
  rw [stL]
  refine nv_stL r (i+1) _ ?_ ho.2
  cases L i with
  | false=>exact h
  | true=>
   unfold nvB at h ⊢
   rw [Bool.and_eq_true] at h ⊢
   have hy:=ho.1
   unfold Out.nv at hy
   rw [Bool.and_eq_true] at hy
   exact⟨by rw [cond_true,List.all_cons,h.1,hy.1];rfl,nv_addsR _ _ hy.2 h.2⟩
theorem mapD_sup {σ σ':St} {u:Nat} (hs:Sup σ σ'):∀ e t,readD u σ e=some t→readD u σ' e=some t:=fun e t h=>by
 cases e with
 | rf id=>
  rw [readD] at h ⊢
  split at h
  · rename_i k rows h0;rw [hs.res _ _ h0];exact h
  cases h
 | _=>exact h
theorem readDA_sup {σ σ':St} {u:Nat} (hs:Sup σ σ') {x:A} {v:V0} (h:readDA u σ x=some v):readDA u σ' x=some v:=by
 cases x with
 | one e=>
  rw [readDA] at h ⊢
  split at h
  · rename_i t h1;rw [mapD_sup hs _ _ h1];exact h
  cases h
 | agg l=>
  rw [readDA] at h ⊢
  split at h
  · rename_i ts h1;rw [mapO_sup (mapD_sup hs) h1];exact h
  cases h
abbrev Zs:=Nat→Int
def updZ (ζ:Zs) (i:Nat) (z:Int):Zs:=fun j=>if j=i then z else ζ j
def iS (z:Int):Bool×S:=(true,.a (.one (.t (.v (.int .i64 z)))))
def ZStep (P:Program) (ops:Array Oper) (o:Oper) (u:Nat) (small:St) (i:Nat) (ζ:Zs) (outs:Zs→List Out) (p:Zs→Prop):Prop:=
 ((∀ y,(outs ζ)[i]?=some y→Loc P ops o small y)∧p ζ)∨
 ∃ d,∃ q:Int→Prop,o.dst=some d∧(∀ ζ',(outs ζ')[i]?=some (d,iS (ζ' i),[]))∧(∀ z,q z→p (updZ ζ i z))∧∀ σ',Sup small σ'→nvB u σ'.slots σ'.res=true→OpE P ops o σ' fun σ''=>∃ z,q z∧σ''=σ'.put o.dst (iS z)
theorem AW.drawZ {w0:Base} {Q:Exit→St→Prop} {n:Nat} {sl:List (Nat×(Bool×S))} {rs:List (Nat×R)} {id:Nat} {l:List Oper} (N u:Nat) (B:Nat→List Nat) (outs:Zs→List Out) (pz:Nat→Zs→Prop) (ds:List Nat) (hm:P.follows .mixedOrders=true) (hB:planC l.toArray N=true) (hO:ordB l B N=true)
 (hl:∀ ζ,(outs ζ).length=N) (hds:∀ ζ,(outs ζ).map (·.1)=ds) (hU:∀ ζ,outB B ⟨n,sl,rs⟩ (outs ζ)=true) (hnv:nvB u sl rs=true) (hnvO:∀ ζ,(outs ζ).all (Out.nv u)=true)
 (hloc:∀ i,i<N→∀ ζ ζ':Zs,(∀ r,r=i∨memN (B i) r=true→ζ r=ζ' r)→(outs ζ)[i]?=(outs ζ')[i]?∧(pz i ζ→pz i ζ'))
 (hsteps:∀ i o,i<N→l[i]?=some o→∀ ζ,(∀ r,memN (B i) r=true→pz r ζ)→ZStep P l.toArray o u (stL (memN (B i)) 0 (outs ζ) ⟨n,delS ds sl,rs⟩) i ζ outs (pz i))
 (hfin:∀ ζ,(∀ r,r<N→pz r ζ)→AWl P w0 l.toArray Q (l.drop N) (stL (fun _=>true) 0 (outs ζ) ⟨n,sl,rs⟩)):AW P w0 (.region id l.toArray true) Q ⟨n,sl,rs⟩:=by
 intro a w hr;refine wp_region_any hm ?_
 have H:=wpAny_inv (P:=P) (Q:=lift w0 Q) (J:=fun listed a w=>∃ ζ,(∀ r,r<N→listed.getD r false=true→pz r ζ)∧Rel w0 (stL (fun j=>listed.getD j false) 0 (outs ζ) ⟨n,sl,rs⟩) a w) hB (fun i o hi ho listed a w inv hd hu hJ=>?_) (fun listed a w hall hJ=>?_)
  (unl N (Array.replicate l.toArray.size false)) (Array.replicate l.toArray.size false) a { w with drawn:=w.drawn+1 } rfl
  ⟨by simp,fun j oj _ hl=>(by rw [getD_replicate_false] at hl;cases hl),fun t _ ht=>getD_in (by simpa using ht) (getD_replicate_false _ _)⟩ ?_
 · have hu:unl N (Array.replicate l.toArray.size false)=N:=by
    unfold unl
    rw [List.countP_eq_length.2 (fun j _=>by rw [getD_replicate_false];rfl),List.length_range]
   have hlN:N≤l.length:=by
    simp only [planC,Bool.and_eq_true,decide_eq_true_eq] at hB
    simpa using hB.1.1.1
   rw [hu,show N+(l.toArray.size-N)=l.toArray.size by simp;omega] at H
   exact H
 · obtain⟨ζ,hp,hJ⟩:=hJ
   have ho':l[i]?=some o:=by simpa using ho
   have hget:∀ j,(listed.setIfInBounds i true).getD j false=if j=i then true else listed.getD j false:=by
    intro j
    by_cases e:j=i
    · subst e
      have:j<listed.size:=by
       rw [inv.size]
       have:=(List.getElem?_eq_some_iff.1 ho').1
       simpa using this
      simp [this]
    rw [if_neg e];exact getD_set_ne false (fun h=>e h.symm)
   obtain⟨y,hy⟩:∃ y,(outs ζ)[i]?=some y:=⟨(outs ζ)[i]'(by rw [hl];exact hi),List.getElem?_eq_getElem _⟩
   obtain⟨s1,s2,s3,s4⟩:=draw_step hB hO (hl ζ) (hU ζ) inv hi ho' hd hu hy
   rw [hds] at s1
   have hBp:∀ r,memN (B i) r=true→pz r ζ:=fun r hr=>by
    have h1:=s3 r (memN_iff.1 hr)
    have h2:r<N:=by
     rcases Nat.lt_or_ge r N with h|h
     · exact h
     exfalso
     have hOi:=List.all_eq_true.1 hO i (List.mem_range.2 hi)
     rw [ho'] at hOi
     have:=List.all_eq_true.1 hOi r (memN_iff.1 hr)
     simp only [Bool.or_eq_true,List.contains_iff_mem,List.any_eq_true,Bool.and_eq_true,decide_eq_true_eq] at this
     have hBN:∀ j∈deps o,j<N:=fun j hj=>by
      have hB':=hB
      simp only [planC,Bool.and_eq_true,decide_eq_true_eq] at hB'
      have:=List.all_eq_true.1 hB'.1.1.2 i (List.mem_range.2 hi)
      rw [ho] at this
      have:=List.all_eq_true.1 this j hj
      simp only [decide_eq_true_eq] at this
      omega
     rcases this with h'|⟨m,_,⟨h',h''⟩,_⟩
     · have:=hBN r h';omega
     omega
    exact hp r h2 h1
   intro K Q' hK
   rcases hsteps i o hi ho' ζ hBp with ⟨h1,h2⟩|⟨d,q,h1,h2,h3,h4⟩
   · refine h1 y hy _ s1 s2 w0 a w hJ K Q' fun a' w' hr'=>hK a' w' ⟨ζ,fun r hr hL=>?_,s4 w0 a' w' hr'⟩
     rw [hget] at hL
     by_cases e:r=i
     · subst e;exact h2
     rw [if_neg e] at hL;exact hp r hr hL
   refine h4 _ s1 (nv_stL _ _ _ hnv (hnvO ζ)) w0 a w hJ K Q' fun σ'' a' w' ⟨z,hz,e⟩ hr'=>hK a' w' ⟨updZ ζ i z,fun r hr hL=>?_,?_⟩
   · rw [hget] at hL
     by_cases e:r=i
     · subst e;exact h3 z hz
     rw [if_neg e] at hL
     refine (hloc r hr ζ (updZ ζ i z) fun m hm=>?_).2 (hp r hr hL)
     unfold updZ
     split
     · rename_i e2;subst e2
       exfalso
       rcases hm with hm|hm
       · exact e hm.symm
       have hjo:l[r]?=some (l[r]'(by have hB':=hB;simp only [planC,Bool.and_eq_true,decide_eq_true_eq] at hB';have:=hB'.1.1.1;simp at this;omega)):=List.getElem?_eq_getElem _
       obtain⟨y2,hy2⟩:∃ y,(outs ζ)[r]?=some y:=⟨(outs ζ)[r]'(by rw [hl];exact hr),List.getElem?_eq_getElem _⟩
       have:=ordB_in hB hO inv hr hjo (fun k hk=>by
        obtain⟨e',he',hb,rfl⟩:=mem_deps.1 hk
        exact inv.closed r _ (by simp) hL e' he' hb) m (memN_iff.1 hm)
       rw [hu] at this;cases this
     rfl
   have hy2:=h2 (updZ ζ i z)
   have hsame:stL (fun j=>listed.getD j false) 0 (outs ζ) ⟨n,sl,rs⟩=stL (fun j=>listed.getD j false) 0 (outs (updZ ζ i z)) ⟨n,sl,rs⟩:=by
    refine stL_outs _ _ 0 _ (by rw [hl,hl]) fun j hL=>?_
    rw [Nat.zero_add] at hL
    rcases Nat.lt_or_ge j N with hj|hj
    · refine (hloc j hj ζ (updZ ζ i z) fun m hm=>?_).1
      unfold updZ
      split
      · rename_i e2;subst e2
        exfalso
        rcases hm with hm|hm
        · subst hm;rw [hu] at hL;cases hL
        have hjo:l[j]?=some (l[j]'(by have hB':=hB;simp only [planC,Bool.and_eq_true,decide_eq_true_eq] at hB';have:=hB'.1.1.1;simp at this;omega)):=List.getElem?_eq_getElem _
        have:=ordB_in hB hO inv hj hjo (fun k hk=>by
         obtain⟨e',he',hb,rfl⟩:=mem_deps.1 hk
         exact inv.closed j _ (by simp) hL e' he' hb) m (memN_iff.1 hm)
        rw [hu] at this;cases this
      rfl
    rw [List.getElem?_eq_none (by rw [hl];omega),List.getElem?_eq_none (by rw [hl];omega)]
   obtain⟨_,_,_,t4⟩:=draw_step hB hO (hl (updZ ζ i z)) (hU (updZ ζ i z)) inv hi ho' hd hu hy2
   refine t4 w0 a' w' ?_
   rw [e,h1] at hr'
   rw [←hsame]
   have:updZ ζ i z i=z:=by unfold updZ;rw [if_pos rfl]
   rw [this]
   exact hr'
 · obtain⟨ζ,hp,hJ⟩:=hJ
   have e:stL (fun j=>listed.getD j false) 0 (outs ζ) ⟨n,sl,rs⟩=stL (fun _=>true) 0 (outs ζ) ⟨n,sl,rs⟩:=stL_congr _ 0 _ fun j hj=>by rw [Nat.zero_add];exact hall j (by rw [hl] at hj;exact hj)
   rw [e] at hJ
   exact hfin ζ (fun r hr=>hp r hr (hall r hr)) a w hJ
 refine⟨fun _=>0,fun r _ hL=>(by rw [getD_replicate_false] at hL;cases hL),?_⟩
 rw [stL_false _ _ _ _ fun j _=>by rw [getD_replicate_false]]
 obtain⟨I,hI⟩:=hr
 exact⟨I,hI.later (Ext.refl w).drawn⟩
def PA (L:Nat→Bool):Nat→List (Zs→Prop)→Zs→Prop
 | k,p::r,ζ=>match L (k-1) with|true=>PA L (k-1) r ζ∧p ζ|false=>PA L (k-1) r ζ
 | _,[],_=>True
def getP (ps:List (Zs→Prop)) (i:Nat) (ζ:Zs):Prop:=match ps[i]? with|some p=>p ζ|none=>True
theorem PA_of {L:Nat→Bool} {ζ:Zs}:∀ (acc more:List (Zs→Prop)),(∀ r,r<acc.length→L r=true→getP (acc.reverse++more) r ζ)→PA L acc.length acc ζ
 | [],_,_=>trivial
 | p::r,more,h=>by
  have e:(p::r).reverse++more=r.reverse++(p::more):=by simp
  rw [e] at h
  have ih:=PA_of (L:=L) (ζ:=ζ) r (p::more) fun i hi hL=>h i (by simp;omega) hL
  rw [PA,List.length_cons,Nat.add_sub_cancel]
  split
  · rename_i hL
    refine⟨ih,?_⟩
    have:=h r.length (by simp) hL
    unfold getP at this
    rw [List.getElem?_append_right (by simp)] at this
    simpa using this
  exact ih
structure DrawZ (P:Program) (w0:Base) (Q:Exit→St→Prop) (N u:Nat) (B:Nat→List Nat) (l:List Oper) (n:Nat) (sl:List (Nat×(Bool×S))) (rs:List (Nat×R)) (acc:List (Zs→Out)) (accP:List (Zs→Prop)) (k:Nat) (rest:List Oper):Prop where
 pf:acc.length=k→accP.length=k→rest=l.drop k→∃ (more:List (Zs→Out)) (moreP:List (Zs→Prop)),(acc.reverse++more).length=N∧(accP.reverse++moreP).length=N∧(∀ ζ,dstsN rest (N-k)=more.map fun y=>(y ζ).1)∧
  (∀ i y p,more[i]?=some y→moreP[i]?=some p→∀ ζ ζ':Zs,(∀ r,r=k+i∨memN (B (k+i)) r=true→ζ r=ζ' r)→y ζ=y ζ'∧(p ζ→p ζ'))∧
  (∀ i o,k≤i→i<N→l[i]?=some o→∀ ζ,(∀ r,memN (B i) r=true→getP (accP.reverse++moreP) r ζ)→ZStep P l.toArray o u (stL (memN (B i)) 0 ((acc.reverse++more).map fun y=>y ζ) ⟨n,delS (dstsN l N) sl,rs⟩) i ζ (fun ζ=>(acc.reverse++more).map fun y=>y ζ) (getP (accP.reverse++moreP) i))∧
  (∀ ζ,outB B ⟨n,sl,rs⟩ ((acc.reverse++more).map fun y=>y ζ)=true)∧(∀ ζ,((acc.reverse++more).map fun y=>y ζ).all (Out.nv u)=true)∧
  ∀ ζ,(∀ r,r<N→getP (accP.reverse++moreP) r ζ)→AWl P w0 l.toArray Q (l.drop N) (stL (fun _=>true) 0 ((acc.reverse++more).map fun y=>y ζ) ⟨n,sl,rs⟩)
variable {w0:Base} {Q:Exit→St→Prop} {N u:Nat} {B:Nat→List Nat} {l:List Oper} {n:Nat} {sl:List (Nat×(Bool×S))} {rs:List (Nat×R)} {acc:List (Zs→Out)} {accP:List (Zs→Prop)} {k:Nat} {rest:List Oper}
theorem AW.drawnZ {id:Nat} (N u:Nat) (B:Nat→List Nat) (hm:P.follows .mixedOrders=true) (hB:planC l.toArray N=true) (hO:ordB l B N=true) (hnv:nvB u sl rs=true) (h:DrawZ P w0 Q N u B l n sl rs [] [] 0 l):AW P w0 (.region id l.toArray true) Q ⟨n,sl,rs⟩:=by
 obtain⟨more,moreP,h1,h2,h3,h4,h5,h6,h7,h8⟩:=h.pf rfl rfl rfl
 simp only [List.reverse_nil,List.nil_append,Nat.sub_zero,Nat.zero_add] at h1 h2 h3 h4 h5 h6 h7 h8
 refine AW.drawZ N u B (fun ζ=>more.map fun y=>y ζ) (getP moreP) (dstsN l N) hm hB hO (fun ζ=>by simp [h1]) (fun ζ=>by rw [h3 ζ,List.map_map];rfl) h6 hnv h7 (fun i hi ζ ζ' he=>?_) (fun i o hi ho ζ hp=>h5 i o (Nat.zero_le _) hi ho ζ hp) h8
 obtain⟨y,hy⟩:∃ y,more[i]?=some y:=⟨more[i]'(by omega),List.getElem?_eq_getElem _⟩
 obtain⟨p,hp⟩:∃ p,moreP[i]?=some p:=⟨moreP[i]'(by omega),List.getElem?_eq_getElem _⟩
 obtain⟨g1,g2⟩:=h4 i y p hy hp ζ ζ' he
 refine⟨by rw [List.getElem?_map,List.getElem?_map,hy];simp [g1],?_⟩
 unfold getP
 rw [hp];exact g2
theorem small_eq (hlt:((B k).all fun j=>Nat.blt j k)=true) (ha:acc.length=k) (more:List (Zs→Out)) (ζ:Zs) (σ:St):stL (memN (B k)) 0 ((acc.reverse++more).map fun y=>y ζ) σ=stR (memN (B k)) k (acc.map fun y=>y ζ) σ:=by
 rw [List.map_append,stL_append,List.map_reverse,←ha,show acc.length=(acc.map fun y=>y ζ).length by simp,stR_eq,stL_false]
 intro j hj
 rw [List.length_reverse,Nat.zero_add,List.length_map,ha] at hj
 rw [List.length_map,ha]
 cases hm:memN (B k) j with
 | false=>rfl
 | true=>
  have h1:=List.all_eq_true.1 hlt j (memN_iff.1 hm)
  have h2:j<k:=Nat.le_of_ble_eq_true h1
  omega
theorem DrawZ.step {y:Zs→Out} {p:Zs→Prop} {d:Nat} (hN:Nat.blt k N=true) (hlt:((B k).all fun j=>Nat.blt j k)=true) (ho:o.dst=some d) (hdy:∀ ζ,(y ζ).1=d) (hL:∀ ζ ζ':Zs,(∀ r,r=k∨memN (B k) r=true→ζ r=ζ' r)→y ζ=y ζ'∧(p ζ→p ζ'))
 (hl:∀ ζ,PA (memN (B k)) k accP ζ→∀ outs:Zs→List Out,(∀ ζ',(outs ζ')[k]?=some (y ζ'))→ZStep P l.toArray o u (stR (memN (B k)) k (acc.map fun y=>y ζ) ⟨n,delS (dstsN l N) sl,rs⟩) k ζ outs p)
 (h:DrawZ P w0 Q N u B l n sl rs (y::acc) (p::accP) (k+1) rest):DrawZ P w0 Q N u B l n sl rs acc accP k (o::rest):=⟨fun ha hap hr=>by
 have hd:rest=l.drop (k+1):=by
  have:=congrArg (List.drop 1) hr
  simpa using this
 have hok:l[k]?=some o:=by
  have:=congrArg (fun x:List Oper=>x[0]?) hr
  simp at this
  exact this.symm
 obtain⟨more,moreP,h1,h2,h3,h4,h5,h6,h7,h8⟩:=h.pf (by simp [ha]) (by simp [hap]) hd
 have e:(y::acc).reverse++more=acc.reverse++(y::more):=by simp
 have e2:(p::accP).reverse++moreP=accP.reverse++(p::moreP):=by simp
 rw [e] at h1 h5 h6 h7 h8
 rw [e2] at h2 h5 h8
 have hN':k<N:=Nat.le_of_ble_eq_true hN
 refine⟨y::more,p::moreP,h1,h2,fun ζ=>?_,fun i y' p' hy hp ζ ζ' he=>?_,fun i o' hk hi ho' ζ hp=>?_,h6,h7,h8⟩
 · rw [show N-k=(N-(k+1))+1 by omega]
   have:=h3 ζ
   simp only [dstsN,List.take_succ_cons,List.filterMap_cons,ho,List.map_cons,hdy] at this ⊢
   rw [this]
 · cases i with
   | zero=>simp at hy hp;subst hy;subst hp;exact hL ζ ζ' he
   | succ i=>exact h4 i y' p' (by simpa using hy) (by simpa using hp) ζ ζ' (by rw [show k+1+i=k+(i+1) by omega];exact he)
 rcases Nat.lt_or_ge k i with hlt'|hge
 · exact h5 i o' (by omega) hi ho' ζ hp
 have:i=k:=by omega
 subst this
 rw [hok] at ho';cases ho'
 rw [small_eq hlt ha]
 have hgp:getP (accP.reverse++(p::moreP)) i=p:=by
  funext ζ
  unfold getP
  rw [List.getElem?_append_right (by simp [hap])]
  simp [hap]
 rw [hgp]
 refine hl ζ ?_ _ fun ζ'=>?_
 · rw [←hap]
   exact PA_of accP (p::moreP) fun r _ hL=>hp r (by rw [hap] at hL;exact hL)
 rw [List.getElem?_map,List.getElem?_append_right (by simp [ha])]
 simp [ha]⟩
theorem DrawZ.pure {y:Zs→Out} {d:Nat} (hN:Nat.blt k N=true) (hlt:((B k).all fun j=>Nat.blt j k)=true) (ho:o.dst=some d)
 (hl:∀ ζ,PA (memN (B k)) k accP ζ→Loc P l.toArray o (stR (memN (B k)) k (acc.map fun y=>y ζ) ⟨n,delS (dstsN l N) sl,rs⟩) (y ζ)) (hdy:∀ ζ,(y ζ).1=d) (hL:∀ ζ ζ':Zs,(∀ r,memN (B k) r=true→ζ r=ζ' r)→y ζ=y ζ')
 (h:DrawZ P w0 Q N u B l n sl rs (y::acc) ((fun _=>True)::accP) (k+1) rest):DrawZ P w0 Q N u B l n sl rs acc accP k (o::rest):=
 DrawZ.step hN hlt ho hdy (fun ζ ζ' he=>⟨hL ζ ζ' fun r hr=>he r (.inr hr),fun _=>trivial⟩) (fun ζ hp outs hout=>.inl ⟨fun y' hy'=>by rw [hout ζ] at hy';cases hy';exact hl ζ hp,trivial⟩) h
theorem DrawZ.draw {q:Zs→Int→Prop} {d:Nat} (hN:Nat.blt k N=true) (hlt:((B k).all fun j=>Nat.blt j k)=true) (ho:o.dst=some d)
 (hl:∀ ζ,PA (memN (B k)) k accP ζ→∀ σ',Sup (stR (memN (B k)) k (acc.map fun y=>y ζ) ⟨n,delS (dstsN l N) sl,rs⟩) σ'→nvB u σ'.slots σ'.res=true→OpE P l.toArray o σ' fun σ''=>∃ z,q ζ z∧σ''=σ'.put o.dst (true,.a (.one (.t (.v (.int .i64 z))))))
 (hL:∀ ζ ζ':Zs,(∀ r,memN (B k) r=true→ζ r=ζ' r)→∀ z,q ζ z→q ζ' z)
 (h:DrawZ P w0 Q N u B l n sl rs ((fun ζ=>(d,(true,.a (.one (.t (.v (.int .i64 (ζ k)))))),[]))::acc) ((fun ζ=>q ζ (ζ k))::accP) (k+1) rest):DrawZ P w0 Q N u B l n sl rs acc accP k (o::rest):=
 DrawZ.step hN hlt ho (fun _=>rfl) (fun ζ ζ' he=>⟨by rw [he k (.inl rfl)],fun hq=>by rw [←he k (.inl rfl)];exact hL ζ ζ' (fun r hr=>he r (.inr hr)) _ hq⟩)
  (fun ζ hp outs hout=>.inr ⟨d,q ζ,ho,hout,fun z hz=>by
   have e:updZ ζ k z k=z:=by unfold updZ;rw [if_pos rfl]
   show q (updZ ζ k z) (updZ ζ k z k)
   rw [e]
   refine hL ζ _ (fun r hr=>?_) z hz
   unfold updZ
   rw [if_neg]
   have h1:=List.all_eq_true.1 hlt r (memN_iff.1 hr)
   have h2:r<k:=Nat.le_of_ble_eq_true h1
   omega,hl ζ hp⟩) h
theorem DrawZ.fin (hk:Nat.beq k N=true) (hU:∀ ζ,outB B ⟨n,sl,rs⟩ (acc.reverse.map fun y=>y ζ)=true) (hV:∀ ζ,(acc.reverse.map fun y=>y ζ).all (Out.nv u)=true) (h:∀ ζ,PA (fun _=>true) k accP ζ→AWl P w0 l.toArray Q rest ⟨n,finSl (acc.map fun y=>y ζ) sl,finRs (acc.map fun y=>y ζ) rs⟩):DrawZ P w0 Q N u B l n sl rs acc accP k rest:=⟨fun ha hap hr=>by
 have hk':=Nat.eq_of_beq_eq_true hk
 subst hk'
 refine⟨[],[],by simp [ha],by simp [hap],fun ζ=>by simp [dstsN],fun i y p hy=>by simp at hy,fun i o h1 h2=>by omega,by simpa using hU,by simpa using hV,fun ζ hp=>?_⟩
 rw [List.append_nil,List.map_reverse,show stL (fun _=>true) 0 (acc.map fun y=>y ζ).reverse ⟨n,sl,rs⟩=stR (fun _=>true) (acc.map fun y=>y ζ).length (acc.map fun y=>y ζ) ⟨n,sl,rs⟩ from (stR_eq _ _ _).symm,fin_eq,←hr]
 refine h ζ ?_
 rw [←hap]
 exact PA_of accP [] fun r hr _=>hp r (by rw [hap] at hr;exact hr)⟩
end
end Go.Q
namespace Go.Q
open Go.RowKit
section
variable {P:Program} {l:List Oper}
inductive Ahead (D:Nat→Prop):Act→Act→Prop where
 | refl (a:Act):Ahead D a a
 | put {a a':Act} (d:Nat) (v:Value) (hd:D d) (h:Ahead D a a'):Ahead D a (a'.put (some d) v)
theorem put_comm (a:Act) {d e:Nat} (h:d≠e) (u v:Value):(a.put (some d) u).put (some e) v=(a.put (some e) v).put (some d) u:=by
 simp only [Act.put]
 rw [Array.setIfInBounds_comm _ _ h]
theorem put_put (a:Act) (d:Nat) (u v:Value):(a.put (some d) u).put (some d) v=a.put (some d) v:=by
 simp only [Act.put]
 rw [Array.setIfInBounds_setIfInBounds]
theorem Ahead.mono {D D':Nat→Prop} {a a':Act} (h:Ahead D a a') (hD:∀ d,D d→D' d):Ahead D' a a':=by
 induction h with
 | refl=>exact .refl _
 | put d v hd _ ih=>exact .put d v (hD d hd) ih
theorem Ahead.trans {D:Nat→Prop} {a b c:Act} (h1:Ahead D a b) (h2:Ahead D b c):Ahead D a c:=by
 induction h2 with
 | refl=>exact h1
 | put d v hd _ ih=>exact .put d v hd ih
theorem Ahead.none {D:Nat→Prop} {a a':Act} (h:Ahead D a a') (hD:∀ d,¬ D d):a'=a:=by
 induction h with
 | refl=>rfl
 | put d v hd _ ih=>exact (hD d hd).elim
theorem Ahead.other {D:Nat→Prop} {a a':Act} (h:Ahead D a a') (e:Option Nat) (v:Value) (he:∀ d,e=some d→¬ D d):Ahead D (a.put e v) (a'.put e v):=by
 cases e with
 | none=>exact h
 | some e=>
  induction h with
  | refl=>exact .refl _
  | put d u hd _ ih=>rw [put_comm _ (fun (x:d=e)=>he e rfl (x▸hd))];exact .put d u hd ih
theorem Ahead.self {D:Nat→Prop} {a a':Act} (h:Ahead D a a') (e:Nat) (v:Value):Ahead (fun d=>D d∧d≠e) (a.put (some e) v) (a'.put (some e) v):=by
 induction h with
 | refl=>exact .refl _
 | put d u hd _ ih=>
  by_cases x:d=e
  · subst x;rw [put_put];exact ih
  rw [put_comm _ x];exact .put d u ⟨hd,x⟩ ih
theorem Ahead.exec {D:Nat→Prop} {ops:Array Oper} {o:Oper} {a a':Act} (h:Ahead D a a') (hs:∀ cs b,o.op≠.select cs b) (hD:∀ d,D d→d∉o.looksAt ops):execOp a'.eval o=execOp a.eval o∧Region.wanted o (yielded ops a'.tmps)=Region.wanted o (yielded ops a.tmps):=by
 induction h with
 | refl=>exact⟨rfl,rfl⟩
 | put d v hd _ ih=>
  exact⟨(execOp_put (ops:=ops) o hs _ (some d) v (fun e he=>by cases he;exact hD d hd)).trans ih.1,(wanted_put o _ (some d) v (fun e he=>by cases he;exact hD d hd)).trans ih.2⟩
theorem wp_ahead {o:Oper} {a a':Act} {w:World} {K K':Act→World→Prop} {Q:Exit→Act→World→Prop} (hex:execOp a'.eval o=execOp a.eval o) (h:o.wp P a' w K' (fun e _ w1=>Q e a w1)) (hK:∀ v w1,K' (a'.put o.dst v) w1→K (a.put o.dst v) w1)
 (hD:∀ d v w1,¬ K' (({ a' with defers:=d::a'.defers }:Act).put o.dst v) w1):o.wp P a w K Q:=by
 have hL:LetsOut (fun e (_:Act) w1=>Q e a w1)→LetsOut Q:=fun ⟨_,w1,h⟩=>⟨a,w1,h⟩
 unfold Oper.wp at *
 rw [hex] at h
 generalize (execOp a.eval o).run P w=r at *
 cases r with
 | ok n w'=>
  cases n<;>simp only [Oper.upon] at h ⊢<;>
   first
    | exact hK _ _ h
    | exact (hD _ _ _ h).elim
    | exact Calls.mono h (fun e w'' he=>by cases e<;>first|exact hK _ _ he|exact he|exact hL he)
    | exact Rows.mono h (fun _ _ he=>hK _ _ he)
    | exact h
 | halt x w'=>cases x<;>simp only [Oper.upon] at h ⊢<;>exact h
def noSel (o:Oper):Bool:=match o.op with|.select _ _=>false|_=>true
def looksB (l:List Oper) (N:Nat) (Hs:List Nat):Bool:=(List.range N).all fun i=>match l[i]? with
 | some o=>noSel o&&Hs.all fun h=>Nat.blt h N&&(match l[h]? with
  | some oh=>(match oh.dst with
   | some d=>(!((o.looksAt l.toArray).contains d)||(deps o).contains h)&&(Nat.beq h i||!(match o.dst with|some e=>Nat.beq e d|none=>false))
   | none=>false)
  | none=>false)
 | none=>false
def dagH (l:List Oper) (N:Nat) (Hs:List Nat) (ms:List (List Nat)) (es:List (Nat×Nat×Nat)) (k:Nat):Bool:=
 (List.range ms.length).all (fun a=>match ms[a]? with
  | none=>false
  | some m=>((List.range N).all (fun i=>memN Hs i||memN m i||(match l[i]? with
   | none=>false
   | some o=>!((deps o).all fun j=>memN Hs j||memN m j)||es.any (fun e=>Nat.beq e.1 a&&Nat.beq e.2.1 i&&(match ms[e.2.2]? with
    | none=>false
    | some m'=>(List.range N).all fun j=>memN Hs j||memN m' j == (Nat.beq j i||memN m j))))))&&
   (Nat.beq a k||(List.range N).any (fun i=>!(memN Hs i)&&!(memN m i))))&&
 (match ms with|[]::_=>true|_=>false)
def DH (l:List Oper) (Hs:List Nat) (d:Nat):Prop:=∃ h∈Hs,∃ o,l[h]?=some o∧o.dst=some d
def PreOk (D:Nat→Prop) (σ σ1:St):Prop:=∀ w0 a w,Rel w0 σ a w→∃ a',Ahead D a a'∧Rel w0 σ1 a' w
def LocsH (P:Program) (l:List Oper) (SM:St):List Nat→Prop
 | []=>True
 | h::r=>(∃ o d x,l[h]?=some o∧o.dst=some d∧look SM.slots d=some x∧∀ σ',Sup SM σ'→Op1 P l.toArray o σ' (σ'.put o.dst x))∧LocsH P l SM r
theorem LocsH.at {SM:St}:∀ {Hs:List Nat},LocsH P l SM Hs→∀ h∈Hs,∃ o d x,l[h]?=some o∧o.dst=some d∧look SM.slots d=some x∧∀ σ',Sup SM σ'→Op1 P l.toArray o σ' (σ'.put o.dst x)
 | h::r,hh,i,hi=>by
  rcases List.mem_cons.1 hi with rfl|hi
  · exact hh.1
  exact hh.2.at i hi
theorem AW.drawH {w0:Base} {Q:Exit→St→Prop} {σ σ1 SM:St} {id:Nat} (N k:Nat) (Hs:List Nat) (ms:List (List Nat)) (es:List (Nat×Nat×Nat)) (st:Nat→St→Prop) (hm:P.follows .mixedOrders=true) (hB:planC l.toArray N=true) (hP:dagH l N Hs ms es k=true) (hL:looksB l N Hs=true) (hHN:∀ h∈Hs,h<N)
 (hpre:PreOk (DH l Hs) σ σ1) (hH:LocsH P l SM Hs) (hst:∀ b σ',st b σ'→Sup SM σ') (hes:∀ e∈es,∀ o,l[e.2.1]?=some o→∀ σ,st e.1 σ→Stp P l o (st e.2.2) σ) (hσ:st 0 σ1) (hfin:∀ σ',st k σ'→AWl P w0 l.toArray Q (l.drop N) σ'):AW P w0 (.region id l.toArray true) Q σ:=by
 intro a w hr;refine wp_region_any hm ?_
 simp only [dagH,Bool.and_eq_true] at hP
 obtain⟨hP,hms⟩:=hP
 have hms0:ms[0]?=some []:=by
  match ms,hms with
  | []::_,_=>rfl
 have hlN:N≤l.length:=by
  have hB':=hB
  simp only [planC,Bool.and_eq_true,decide_eq_true_eq] at hB'
  simpa using hB'.1.1.1
 have hdep:∀ i o,i<N→l[i]?=some o→∀ j∈deps o,j<N:=fun i o hi ho j hj=>by
  have hB':=hB
  simp only [planC,Bool.and_eq_true,decide_eq_true_eq] at hB'
  have:=List.all_eq_true.1 hB'.1.1.2 i (List.mem_range.2 hi)
  have ho':l.toArray[i]?=some o:=by simpa using ho
  rw [ho'] at this
  have:=List.all_eq_true.1 this j hj
  simp only [decide_eq_true_eq] at this
  omega
 have hlook:∀ i o,i<N→l[i]?=some o→noSel o=true∧∀ h∈Hs,h<N∧∀ oh d,l[h]?=some oh→oh.dst=some d→(d∈o.looksAt l.toArray→h∈deps o)∧(h≠i→o.dst≠some d):=fun i o hi ho=>by
  have:=List.all_eq_true.1 hL i (List.mem_range.2 hi)
  rw [ho] at this
  simp only [Bool.and_eq_true] at this
  refine⟨this.1,fun h hh=>?_⟩
  have:=List.all_eq_true.1 this.2 h hh
  rw [Bool.and_eq_true] at this
  refine⟨Nat.le_of_ble_eq_true this.1,fun oh d hoh hd=>?_⟩
  have:=this.2
  rw [hoh] at this
  simp only [hd,Bool.and_eq_true,Bool.or_eq_true,Bool.not_eq_true'] at this
  refine⟨fun hm=>?_,fun hne e=>?_⟩
  · rcases this.1 with h1|h1
    · rw [List.contains_iff_mem.2 hm] at h1;cases h1
    exact List.contains_iff_mem.1 h1
  rcases this.2 with h1|h1
  · exact hne (Nat.eq_of_beq_eq_true h1)
  rw [e] at h1;simp [Nat.beq_refl] at h1
 have hat:∀ (b:Nat) (m:List Nat),ms[b]?=some m→((∀ i,i<N→memN Hs i=false→memN m i=false→∀ o,l[i]?=some o→(∀ j∈deps o,memN Hs j=false→memN m j=true)→∃ e∈es,e.1=b∧e.2.1=i∧∃ m',ms[e.2.2]?=some m'∧∀ j,j<N→memN Hs j=false→memN m' j=(Nat.beq j i||memN m j))∧((∀ i,i<N→memN Hs i=false→memN m i=true)→b=k)):=by
  intro b m hb
  have:=List.all_eq_true.1 hP b (List.mem_range.2 (List.getElem?_eq_some_iff.1 hb).1)
  rw [hb] at this
  simp only [Bool.and_eq_true] at this
  refine⟨fun i hi hH hu o ho hd=>?_,fun hall=>?_⟩
  · have:=List.all_eq_true.1 this.1 i (List.mem_range.2 hi)
    rw [hH,hu,Bool.false_or,Bool.false_or,ho] at this
    simp only [Bool.or_eq_true,Bool.not_eq_true'] at this
    rcases this with h|h
    · rw [List.all_eq_true.2 fun j hj=>?_] at h
      · cases h
      cases hj':memN Hs j with
      | true=>rfl
      | false=>rw [hd j hj hj'];rfl
    obtain⟨e,he,h⟩:=List.any_eq_true.1 h
    simp only [Bool.and_eq_true] at h
    obtain⟨⟨h1,h2⟩,h3⟩:=h
    refine⟨e,he,Nat.eq_of_beq_eq_true h1,Nat.eq_of_beq_eq_true h2,?_⟩
    split at h3
    · cases h3
    rename_i m' hm'
    refine⟨m',hm',fun j hj hjH=>?_⟩
    have:=List.all_eq_true.1 h3 j (List.mem_range.2 hj)
    rw [hjH,Bool.false_or] at this
    simpa using this
  have h2:=this.2
  simp only [Bool.or_eq_true] at h2
  rcases h2 with h|h
  · exact Nat.eq_of_beq_eq_true h
  obtain⟨i,hi,h⟩:=List.any_eq_true.1 h
  simp only [Bool.and_eq_true,Bool.not_eq_true'] at h
  rw [hall i (List.mem_range.1 hi) h.1] at h;cases h.2
 have H:=wpAny_inv (P:=P) (Q:=lift w0 Q) (J:=fun listed a w=>∃ b m σ a',ms[b]?=some m∧(∀ j,j<N→memN Hs j=false→memN m j=listed.getD j false)∧st b σ∧Ahead (fun d=>∃ h∈Hs,listed.getD h false=false∧∃ o,l[h]?=some o∧o.dst=some d) a a'∧Rel w0 σ a' w) hB (fun i o hi ho listed a w inv hd hu hJ=>?_) (fun listed a w hall hJ=>?_)
  (unl N (Array.replicate l.toArray.size false)) (Array.replicate l.toArray.size false) a { w with drawn:=w.drawn+1 } rfl
  ⟨by simp,fun j oj _ hl=>(by rw [getD_replicate_false] at hl;cases hl),fun t _ ht=>getD_in (by simpa using ht) (getD_replicate_false _ _)⟩ ?_
 · have hu:unl N (Array.replicate l.toArray.size false)=N:=by
    unfold unl
    rw [List.countP_eq_length.2 (fun j _=>by rw [getD_replicate_false];rfl),List.length_range]
   rw [hu,show N+(l.toArray.size-N)=l.toArray.size by simp;omega] at H
   exact H
 · obtain⟨b,m,σ,a',hb,hmj,hσ,hA,hr⟩:=hJ
   have ho0:l[i]?=some o:=by simpa using ho
   obtain⟨hsel,hlk⟩:=hlook i o hi ho0
   have hget:∀ j,(listed.setIfInBounds i true).getD j false=if j=i then true else listed.getD j false:=by
    intro j
    by_cases e:j=i
    · subst e
      have:j<listed.size:=by
       rw [inv.size]
       have:=(List.getElem?_eq_some_iff.1 ho0).1
       simpa using this
      simp [this]
    rw [if_neg e];exact getD_set_ne false (fun h=>e h.symm)
   obtain⟨hex,hwt⟩:=hA.exec (ops:=l.toArray) (o:=o) (fun cs b e=>by unfold noSel at hsel;rw [e] at hsel;cases hsel) (fun d ⟨h,hh,hu',oh,hoh,hod⟩ hm=>by
    have:=hd h (((hlk h hh).2 oh d hoh hod).1 hm)
    rw [hu'] at this;cases this)
   have hdef:∀ (σ':St) (d:Deferred) (v:Value) (w1:World),¬ Rel w0 σ' (({ a' with defers:=d::a'.defers }:Act).put o.dst v) w1:=fun σ' d v w1 ⟨I,h⟩=>by
    have:=h.defers
    cases ho:o.dst<;>rw [ho] at this<;>simp [Act.put] at this
   intro K Q' hK
   cases hiH:memN Hs i with
   | true=>
    obtain⟨o',d,x,h1,h2,h3,h4⟩:=hH.at i (memN_iff.1 hiH)
    rw [ho0] at h1;cases h1
    have hsup:=hst b σ hσ
    have back:∀ v w1,Rel w0 (σ.put o.dst x) (a'.put o.dst v) w1→K (a.put o.dst v) w1:=fun v w1 hr1=>by
     refine hK _ _ ⟨b,m,σ,a'.put o.dst v,hb,fun j hj hjH=>?_,hσ,?_,?_⟩
     · rw [hget,if_neg (fun e=>by subst e;rw [hiH] at hjH;cases hjH)];exact hmj j hj hjH
     · rw [h2]
       refine (hA.self d v).mono ?_
       rintro e ⟨⟨h,hh,hu',oh,hoh,hod⟩,hne⟩
       refine⟨h,hh,?_,oh,hoh,hod⟩
       rw [hget,if_neg (fun e'=>by subst e';rw [ho0] at hoh;cases hoh;rw [h2] at hod;cases hod;exact hne rfl)]
       exact hu'
     refine Rel.of_look hr1 (by rw [h2];rfl) (fun t y ht=>?_) (fun t y ht=>by rw [h2];exact ht)
     rw [h2]
     show look ((d,x)::σ.slots) t=some y
     rw [look_cons]
     split
     · rename_i e
       subst e
       rw [hsup.slots _ _ h3] at ht
       exact ht
     exact ht
    have step:=h4 σ hsup w0 a' w hr (fun a1 w1=>Rel w0 (σ.put o.dst x) a1 w1) (fun e _ w1=>Q' e a w1) fun _ _ h=>h
    rw [hwt] at step
    split
    · rename_i hw
      rw [if_pos hw] at step
      exact wp_ahead hex step back fun d v w1=>hdef _ d v w1
    rename_i hw
    rw [if_neg hw] at step
    exact back _ _ step
   | false=>
    obtain⟨e,he,rfl,rfl,m',hm',hj'⟩:=(hat b m hb).1 i hi hiH (by rw [hmj i hi hiH];exact hu) o ho0 fun j hj hjH=>by rw [hmj j (hdep i o hi ho0 j hj) hjH];exact hd j hj
    have back:∀ v w1,(∃ σ',st e.2.2 σ'∧Rel w0 σ' (a'.put o.dst v) w1)→K (a.put o.dst v) w1:=fun v w1 ⟨σ',hσ',hr1⟩=>by
     refine hK _ _ ⟨e.2.2,m',σ',a'.put o.dst v,hm',fun j hj hjH=>?_,hσ',?_,hr1⟩
     · rw [hj' j hj hjH,hget]
       by_cases ej:j=e.2.1
       · subst ej;rw [if_pos rfl,Nat.beq_refl];rfl
       rw [if_neg ej,beq_false ej,Bool.false_or,hmj j hj hjH]
     refine (hA.other o.dst v ?_).mono ?_
     · rintro d hod ⟨h,hh,_,oh,hoh,hod'⟩
       exact ((hlk h hh).2 oh d hoh hod').2 (fun e'=>by subst e';rw [memN_iff.2 hh] at hiH;cases hiH) hod
     rintro d ⟨h,hh,hu',oh,hoh,hod⟩
     refine⟨h,hh,?_,oh,hoh,hod⟩
     rw [hget,if_neg (fun e'=>by subst e';rw [memN_iff.2 hh] at hiH;cases hiH)];exact hu'
    have step:=hes e he o ho0 σ hσ w0 a' w hr (fun a1 w1=>∃ σ',st e.2.2 σ'∧Rel w0 σ' a1 w1) (fun e' _ w1=>Q' e' a w1) fun _ _ σ' h1 h2=>⟨σ',h1,h2⟩
    rw [hwt] at step
    split
    · rename_i hw
      rw [if_pos hw] at step
      exact wp_ahead hex step back fun d v w1 ⟨σ',_,h⟩=>hdef _ d v w1 h
    rename_i hw
    rw [if_neg hw] at step
    exact back _ _ step
 · obtain⟨b,m,σ,a',hb,hmj,hσ,hA,hr⟩:=hJ
   have:=(hat b m hb).2 fun i hi hiH=>by rw [hmj i hi hiH];exact hall i hi
   subst this
   have e:=hA.none fun d ⟨h,hh,hu',oh,hoh,hod⟩=>by
    rw [hall h (hHN h hh)] at hu';cases hu'
   subst e;exact hfin σ hσ _ w hr
 obtain⟨a',hA,hr'⟩:=hpre w0 a { w with drawn:=w.drawn+1 } (by obtain⟨I,hI⟩:=hr;exact⟨I,hI.later (Ext.refl w).drawn⟩)
 refine⟨0,[],σ1,a',hms0,fun j _ _=>by rw [getD_replicate_false];rfl,hσ,hA.mono ?_,hr'⟩
 rintro d ⟨h,hh,oh,hoh,hod⟩
 exact⟨h,hh,by rw [getD_replicate_false],oh,hoh,hod⟩
def HasV (σ:St) (x:S):Prop:=∀ I w0 a w,RelI I w0 σ a w→∃ v,VS I w (true,x) v
theorem HasV.slot {σ:St} {x:S} {t:Nat} (h:look σ.slots t=some (true,x)):HasV σ x:=fun I w0 a w hr=>⟨_,hr.slots t _ h⟩
theorem HasV.pp {σ:St} {id off:Nat}:HasV σ (.a (.one (.pp id off))):=fun I w0 a w hr=>⟨.pointer (some ⟨I.B id,off,none⟩),rfl⟩
theorem HasV.val {σ:St} {c:Value} (h:c.oneCell'=true):HasV σ (.a (.one (.t (.v c)))):=fun I w0 a w hr=>⟨c,[],by unfold C;exact⟨rfl,rfl,h⟩,fun b hb=>by cases hb⟩
theorem HasV.load {σ:St} {x:Operand} {id p n:Nat} {cs:List E} {ag:Bool} {t:TypeId} (hx:Get σ true x (.one (.pp id p))) (hs:look σ.res id=some (.box cs)) (ht:tyB P t ag n=true) (hn:Nat.ble (p+n) cs.length=true) (h1:(ag||Nat.beq n 1)=true):HasV σ (.a (mkA ag ((cs.drop p).take n))):=fun I w0 a w hr=>by
 obtain⟨hF,vs,ty,g1,g2⟩:=hr.res id _ hs
 have g3:=VEs_take n (VEs_drop p g2)
 have hn':=Nat.le_of_ble_eq_true hn
 exact⟨_,VA_mk g3 fun e=>by rw [e] at h1;have:=Nat.eq_of_beq_eq_true (by simpa using h1);simp;omega⟩
theorem HasV.ad {σ:St} {x:Operand} {cs:List T} {off:Nat} (hx:Get σ true x (.one (.t (.ad cs)))):HasV σ (.a (.one (.t (.ad (cs.drop off))))):=fun I w0 a w hr=>by
 obtain⟨F,hC,hF⟩:VA I w (.one (.t (.ad cs))) (a.eval x):=hx.va hr rfl
 simp only [C] at hC
 obtain⟨b,p,G,h1,rfl,h2,h3⟩:=hC
 obtain⟨G',h4,h5⟩:=h3.drop off
 refine⟨_,b::G',C_ad h4 h2,fun c hc=>hF c ?_⟩
 rcases List.mem_cons.1 hc with rfl|hc
 · simp
 simp [h5 c hc]
theorem HasV.ld {σ:St} {x:Operand} {cs:List T} {ag:Bool} {n:Nat} (hx:Get σ true x (.one (.t (.ad cs)))) (hn:Nat.ble n cs.length=true) (h1:(ag||Nat.beq n 1)=true):HasV σ (.a (mkA ag ((cs.take n).map .t))):=fun I w0 a w hr=>by
 obtain⟨F,hC,hF⟩:VA I w (.one (.t (.ad cs))) (a.eval x):=hx.va hr rfl
 simp only [C] at hC
 obtain⟨b,p,G,h2,rfl,h3,h4⟩:=hC
 obtain⟨G',h5,h6⟩:=h4.take n
 obtain⟨vs,h7,h8,h9⟩:=h5.cells
 have hn':=Nat.le_of_ble_eq_true hn
 have h1':ag=false→n=1:=fun e=>by rw [e] at h1;exact Nat.eq_of_beq_eq_true (by simpa using h1)
 exact⟨_,VA_mk (Cs_t h7 fun b hb=>hF b (by simp [h6 b hb])) fun e=>by rw [List.length_map,List.length_take];have:=h1' e;omega⟩
theorem HasV.ix {σ:St} {t e:TypeId} {x:Operand} {n:Int} {k:Nat} {ag:Bool} {rows:List (List T)} {row:List T} (hx:Get σ true x (.one (.t (.sl k rows)))) {y:Operand} (hy:Get σ true y (.one (.t (.v (.int .i64 n))))) (hu:P.underlying t=some (.slice e)) (hk:tyB P e ag k=true) (hi:true=true→0≤n∧rows[n.toNat]?=some row):HasV σ (.a (.one (.t (.ad row)))):=fun I w0 a w hr=>by
 obtain⟨F,hC,hF⟩:VA I w (.one (.t (.sl k rows))) (a.eval x):=hx.va hr rfl
 obtain⟨b,off,len,cap,h1,h2,h3,h4,-,-,G,h5,h6,h7⟩:=run_indexAt hu hk hC (hi rfl).1 (hi rfl).2
 refine⟨_,b::G,C_ad h5 h3,fun c hc=>?_⟩
 rcases List.mem_cons.1 hc with rfl|hc
 · exact hF _ h4
 exact hF _ (h7 c hc)
theorem PreOk.nil {D:Nat→Prop} {σ:St}:PreOk D σ σ:=fun w0 a w hr=>⟨a,.refl a,hr⟩
theorem As {Hs:List Nat} {σ σ1:St} {o:Oper} {x:S} {d:Nat} (h:Nat) (ho:l[h]?=some o) (hop:Op1 P l.toArray o σ (σ.put o.dst (true,x))) (hv:HasV σ x) (hd:o.dst=some d) (hm:memN Hs h=true) (hn:Nat.blt d σ.n=true) (hr:PreOk (DH l Hs) (σ.put (some d) (true,x)) σ1):PreOk (DH l Hs) σ σ1:=fun w0 a w ⟨I,hI⟩=>by
 obtain⟨v,hv⟩:=hv I w0 a w hI
 obtain⟨a',h1,h2⟩:=hr w0 (a.put (some d) v) w ⟨I,hI.put hn hv⟩
 exact⟨a',Ahead.trans (.put d v ⟨h,memN_iff.1 hm,o,ho,hd⟩ (.refl a)) h1,h2⟩
theorem LocsH.mv {P:Program} {l:List Oper} {SM:St} {o:Oper} {h d i:Nat} {r:List Nat} {x:A}  (hr:LocsH P l SM r) (ho:l[h]?=some o:=by exact rfl) (hp:o.op=.move (.tmp i):=by exact rfl) (hx:look SM.slots i=some (true,.a x):=by exact rfl) (hg:o.guard=none:=by exact rfl) (hd:o.dst=some d:=by exact rfl) (hk:look SM.slots d=some (true,.a (x)):=by exact rfl) (hn:o.dst.all (fun d=>Nat.blt d SM.n)=true:=by exact rfl):LocsH P l SM (h::r):=⟨⟨o,d,_,ho,hd,hk,fun σ' hs=>Bh hp (.no hg) (Ag hs hn) (.tm (hs.slots _ _ hx))⟩,hr⟩
theorem LocsH.fq {P:Program} {l:List Oper} {SM:St} {o:Oper} {h d i:Nat} {r:List Nat} {id p q:Nat} {t:TypeId} {j off:Nat} (hf:fldB P t j off=true) (hr:LocsH P l SM r) (ho:l[h]?=some o:=by exact rfl) (hp:o.op=.fieldAddr t (.tmp i) j:=by exact rfl) (hx:look SM.slots i=some (true,.a (.one (.pp id p))):=by exact rfl) (hq:p+off=q:=by exact rfl) (hg:o.guard=none:=by exact rfl) (hd:o.dst=some d:=by exact rfl) (hk:look SM.slots d=some (true,.a (.one (.pp id q))):=by exact rfl) (hn:o.dst.all (fun d=>Nat.blt d SM.n)=true:=by exact rfl):LocsH P l SM (h::r):=⟨⟨o,d,_,ho,hd,hk,fun σ' hs=>hq▸Bk hp (.no hg) (Ag hs hn) (.tm (hs.slots _ _ hx)) hf⟩,hr⟩
theorem LocsH.lq {P:Program} {l:List Oper} {SM:St} {o:Oper} {h d i:Nat} {r:List Nat} {id p:Nat} {t:TypeId} {cs:List E} {ag:Bool} {m:Nat} {x:A} (ht:tyB P t ag m=true) (hr:LocsH P l SM r) (ho:l[h]?=some o:=by exact rfl) (hp:o.op=.load t (.tmp i):=by exact rfl) (hx:look SM.slots i=some (true,.a (.one (.pp id p))):=by exact rfl) (hs0:look SM.res id=some (.box cs):=by exact rfl) (hq:mkA ag ((cs.drop p).take m)=x:=by exact rfl) (hl:Nat.ble (p+m) cs.length=true:=by exact rfl) (h1:(ag||Nat.beq m 1)=true:=by exact rfl) (hg:o.guard=none:=by exact rfl) (hd:o.dst=some d:=by exact rfl) (hk:look SM.slots d=some (true,.a (x)):=by exact rfl) (hn:o.dst.all (fun d=>Nat.blt d SM.n)=true:=by exact rfl):LocsH P l SM (h::r):=⟨⟨o,d,_,ho,hd,hk,fun σ' hs=>hq▸Bm hp (.no hg) (Ag hs hn) (.tm (hs.slots _ _ hx)) (hs.res _ _ hs0) ht hl h1⟩,hr⟩
structure Dh (P:Program) (l:List Oper) (SM:St) (acc:List (Nat×(St→Prop))) (es:List (Nat×Nat×Nat)) (Fin:(Nat→St→Prop)→Prop):Prop where
 pf:∃ st:Nat→St→Prop,(∀ k Φ,look acc k=some Φ→st k=Φ)∧(∀ e∈es,∀ o,l[e.2.1]?=some o→∀ σ,st e.1 σ→Stp P l o (st e.2.2) σ)∧(∀ b,look acc b=none→∀ σ,st b σ→Sup SM σ)∧Fin st
variable {SM:St} {acc:List (Nat×(St→Prop))} {es:List (Nat×Nat×Nat)} {Fin:(Nat→St→Prop)→Prop}
theorem Dh.new {a i b:Nat} {Φ Φ':St→Prop} {o:Oper} (ha:look acc a=some Φ) (ho:l[i]?=some o) (hb:look acc b=none) (hE:∀ σ,Φ σ→Stp P l o Φ' σ) (hS:∀ σ,Φ' σ→Sup SM σ) (h:Dh P l SM ((b,Φ')::acc) es Fin):Dh P l SM acc ((a,i,b)::es) Fin:=by
 obtain⟨st,h1,h2,h4,h3⟩:=h.pf
 have hne:b≠a:=fun e=>by subst e;rw [hb] at ha;cases ha
 have h1':∀ k σ,look acc k=some σ→st k=σ:=fun k σ hk=>h1 k σ (by
  rw [look_cons,if_neg (fun e=>?_)]
  · exact hk
  subst e;rw [hb] at hk;cases hk)
 refine⟨st,h1',fun e he o' ho' σ hσ=>?_,fun c hc σ hσ=>?_,h3⟩
 · rcases List.mem_cons.1 he with rfl|he
   · simp only at ho' hσ ⊢
     rw [ho] at ho';cases ho'
     rw [h1' a Φ ha] at hσ
     rw [h1 b Φ' (by rw [look_cons,if_pos rfl])]
     exact hE σ hσ
   exact h2 e he o' ho' σ hσ
 by_cases e:b=c
 · subst e
   rw [h1 b Φ' (by rw [look_cons,if_pos rfl])] at hσ
   exact hS σ hσ
 exact h4 c (by rw [look_cons,if_neg e];exact hc) σ hσ
theorem Dh.old {a i b:Nat} {Φ Φ':St→Prop} {o:Oper} (ha:look acc a=some Φ) (ho:l[i]?=some o) (hb:look acc b=some Φ') (hE:∀ σ,Φ σ→Stp P l o Φ' σ) (h:Dh P l SM acc es Fin):Dh P l SM acc ((a,i,b)::es) Fin:=by
 obtain⟨st,h1,h2,h3⟩:=h.pf
 refine⟨st,h1,fun e he o' ho' σ hσ=>?_,h3⟩
 rcases List.mem_cons.1 he with rfl|he
 · simp only at ho' hσ ⊢
   rw [ho] at ho';cases ho'
   rw [h1 a Φ ha] at hσ
   rw [h1 b Φ' hb]
   exact hE σ hσ
 exact h2 e he o' ho' σ hσ
theorem Dh.fin {w0:Base} {Q:Exit→St→Prop} {N k:Nat} {Φ:St→Prop} (hk:look acc k=some Φ) (h:∀ σ',Φ σ'→AWl P w0 l.toArray Q (l.drop N) σ'):Dh P l SM acc [] (fun st=>∀ σ',st k σ'→AWl P w0 l.toArray Q (l.drop N) σ'):=
 ⟨fun i=>(look acc i).getD fun _=>False,fun i σ' hi=>by simp [hi],fun e he=>(by cases he),fun b hb σ hσ=>by simp [hb] at hσ,by simpa [hk] using h⟩
theorem C3 {w0:Base} {Q:Exit→St→Prop} {σ:St} {id:Nat} (N k:Nat) (Hs:List Nat) (ms:List (List Nat)) (es:List (Nat×Nat×Nat)) (σ1 SM:St) (hm:P.follows .mixedOrders=true) (hB:planC l.toArray N=true) (hP:dagH l N Hs ms es k=true) (hL:looksB l N Hs=true) (hN:(Hs.all fun h=>Nat.blt h N)=true)
 (hpre:PreOk (DH l Hs) σ σ1) (hS:Sup SM σ1) (hH:LocsH P l SM Hs) (h:Dh P l SM [(0,Nd0 True σ1)] es (fun st=>∀ σ',st k σ'→AWl P w0 l.toArray Q (l.drop N) σ')):AW P w0 (.region id l.toArray true) Q σ:=by
 obtain⟨st,h1,h2,h4,h3⟩:=h.pf
 refine AW.drawH N k Hs ms es st hm hB hP hL (fun h hh=>Nat.le_of_ble_eq_true (List.all_eq_true.1 hN h hh)) hpre hH (fun b σ' hb=>?_) h2 (by rw [h1 0 _ U];exact⟨trivial,U⟩) h3
 by_cases e:b=0
 · subst e
   rw [h1 0 _ rfl] at hb
   obtain⟨_,rfl⟩:=hb
   exact hS
 exact h4 b (by rw [look_cons,if_neg (fun e'=>e e'.symm)];rfl) σ' hb
theorem Dh.new0 {a i b:Nat}  {p:Prop} {s s':St} {o:Oper} (ha:look acc a=some (Nd0 p s)) (ho:l[i]?=some o) (hb:look acc b=none) (hE:∀ w0,p→AWl P w0 l.toArray (EndQ (s')) [o] (s)) (hS:p→Sup SM (s')) (h:Dh P l SM ((b,Nd0 p s')::acc) es Fin):Dh P l SM acc ((a,i,b)::es) Fin:=
 Dh.new ha ho hb (fun σ h=>by obtain⟨hp,rfl⟩:=h;exact Stp.run (fun w0=>hE w0  hp) ⟨hp,rfl⟩) (fun σ h=>by obtain⟨hp,rfl⟩:=h;exact hS  hp) h
theorem Dh.old0 {a i b:Nat}  {p:Prop} {s s':St} {o:Oper} (ha:look acc a=some (Nd0 p s)) (ho:l[i]?=some o) (hb:look acc b=some (Nd0 p s')) (hE:∀ w0,p→AWl P w0 l.toArray (EndQ (s')) [o] (s)) (h:Dh P l SM acc es Fin):Dh P l SM acc ((a,i,b)::es) Fin:=
 Dh.old ha ho hb (fun σ h=>by obtain⟨hp,rfl⟩:=h;exact Stp.run (fun w0=>hE w0  hp) ⟨hp,rfl⟩) h
theorem Dh.fin0 {w0:Base} {Q:Exit→St→Prop} {N k:Nat}  {p:Prop} {s:St} (hk:look acc k=some (Nd0 p s)) (h:p→AWl P w0 l.toArray Q (l.drop N) (s)):Dh P l SM acc [] (fun st=>∀ σ',st k σ'→AWl P w0 l.toArray Q (l.drop N) σ'):=
 Dh.fin hk fun σ h'=>by obtain⟨hp,rfl⟩:=h';exact h  hp
theorem Dh.drw0 {a i b:Nat}  {β:Type} {p:Prop} {s:St} {q:β→Prop} {f s':β→St} {o:Oper} (ha:look acc a=some (Nd0 p s)) (ho:l[i]?=some o) (hE:p→OpE P l.toArray o (s) (fun σ'=>∃ y,q y∧σ'=f y)) (hb:look acc b=none) (hL:∀ y,p→q y→EndQ (s' y) .normal (f y)) (hS:∀ y,p→q y→Sup SM (s' y)) (h:Dh P l SM ((b,Nd1 (fun y=>p∧q y) s')::acc) es Fin):Dh P l SM acc ((a,i,b)::es) Fin:=
 Dh.new ha ho hb (fun σ h=>by
  obtain⟨hp,rfl⟩:=h
  refine Dp (hE  hp) ?_
  rintro _ ⟨y,hy,rfl⟩
  exact⟨_,⟨y,⟨hp,hy⟩,rfl⟩,hL y hp hy⟩) (fun σ h=>by obtain⟨y,⟨hp,hy⟩,rfl⟩:=h;exact hS y hp hy) h
theorem Dh.odr0 {a i b:Nat}  {β:Type} {p:Prop} {s:St} {q:β→Prop} {f s':β→St} {o:Oper} (ha:look acc a=some (Nd0 p s)) (ho:l[i]?=some o) (hE:p→OpE P l.toArray o (s) (fun σ'=>∃ y,q y∧σ'=f y)) (hb:look acc b=some (Nd1 (fun y=>p∧q y) s')) (hL:∀ y,p→q y→EndQ (s' y) .normal (f y)) (h:Dh P l SM acc es Fin):Dh P l SM acc ((a,i,b)::es) Fin:=
 Dh.old ha ho hb (fun σ h=>by
  obtain⟨hp,rfl⟩:=h
  refine Dp (hE  hp) ?_
  rintro _ ⟨y,hy,rfl⟩
  exact⟨_,⟨y,⟨hp,hy⟩,rfl⟩,hL y hp hy⟩) h
theorem Dh.new1 {a i b:Nat} {α1:Type} {p:α1→Prop} {s s':α1→St} {o:Oper} (ha:look acc a=some (Nd1 p s)) (ho:l[i]?=some o) (hb:look acc b=none) (hE:∀ w0,∀ z1,p z1→AWl P w0 l.toArray (EndQ (s' z1)) [o] (s z1)) (hS:∀ z1,p z1→Sup SM (s' z1)) (h:Dh P l SM ((b,Nd1 p s')::acc) es Fin):Dh P l SM acc ((a,i,b)::es) Fin:=
 Dh.new ha ho hb (fun σ h=>by obtain⟨z1,hp,rfl⟩:=h;exact Stp.run (fun w0=>hE w0 z1 hp) ⟨z1,hp,rfl⟩) (fun σ h=>by obtain⟨z1,hp,rfl⟩:=h;exact hS z1 hp) h
theorem Dh.old1 {a i b:Nat} {α1:Type} {p:α1→Prop} {s s':α1→St} {o:Oper} (ha:look acc a=some (Nd1 p s)) (ho:l[i]?=some o) (hb:look acc b=some (Nd1 p s')) (hE:∀ w0,∀ z1,p z1→AWl P w0 l.toArray (EndQ (s' z1)) [o] (s z1)) (h:Dh P l SM acc es Fin):Dh P l SM acc ((a,i,b)::es) Fin:=
 Dh.old ha ho hb (fun σ h=>by obtain⟨z1,hp,rfl⟩:=h;exact Stp.run (fun w0=>hE w0 z1 hp) ⟨z1,hp,rfl⟩) h
theorem Dh.fin1 {w0:Base} {Q:Exit→St→Prop} {N k:Nat} {α1:Type} {p:α1→Prop} {s:α1→St} (hk:look acc k=some (Nd1 p s)) (h:∀ z1,p z1→AWl P w0 l.toArray Q (l.drop N) (s z1)):Dh P l SM acc [] (fun st=>∀ σ',st k σ'→AWl P w0 l.toArray Q (l.drop N) σ'):=
 Dh.fin hk fun σ h'=>by obtain⟨z1,hp,rfl⟩:=h';exact h z1 hp
theorem Dh.drw1 {a i b:Nat} {α1:Type} {β:Type} {p:α1→Prop} {s:α1→St} {q:α1→β→Prop} {f s':α1→β→St} {o:Oper} (ha:look acc a=some (Nd1 p s)) (ho:l[i]?=some o) (hE:∀ z1,p z1→OpE P l.toArray o (s z1) (fun σ'=>∃ y,q z1 y∧σ'=f z1 y)) (hb:look acc b=none) (hL:∀ z1 y,p z1→q z1 y→EndQ (s' z1 y) .normal (f z1 y)) (hS:∀ z1 y,p z1→q z1 y→Sup SM (s' z1 y)) (h:Dh P l SM ((b,Nd2 (fun z1 y=>p z1∧q z1 y) s')::acc) es Fin):Dh P l SM acc ((a,i,b)::es) Fin:=
 Dh.new ha ho hb (fun σ h=>by
  obtain⟨z1,hp,rfl⟩:=h
  refine Dp (hE z1 hp) ?_
  rintro _ ⟨y,hy,rfl⟩
  exact⟨_,⟨z1,y,⟨hp,hy⟩,rfl⟩,hL z1 y hp hy⟩) (fun σ h=>by obtain⟨z1,y,⟨hp,hy⟩,rfl⟩:=h;exact hS z1 y hp hy) h
theorem Dh.odr1 {a i b:Nat} {α1:Type} {β:Type} {p:α1→Prop} {s:α1→St} {q:α1→β→Prop} {f s':α1→β→St} {o:Oper} (ha:look acc a=some (Nd1 p s)) (ho:l[i]?=some o) (hE:∀ z1,p z1→OpE P l.toArray o (s z1) (fun σ'=>∃ y,q z1 y∧σ'=f z1 y)) (hb:look acc b=some (Nd2 (fun z1 y=>p z1∧q z1 y) s')) (hL:∀ z1 y,p z1→q z1 y→EndQ (s' z1 y) .normal (f z1 y)) (h:Dh P l SM acc es Fin):Dh P l SM acc ((a,i,b)::es) Fin:=
 Dh.old ha ho hb (fun σ h=>by
  obtain⟨z1,hp,rfl⟩:=h
  refine Dp (hE z1 hp) ?_
  rintro _ ⟨y,hy,rfl⟩
  exact⟨_,⟨z1,y,⟨hp,hy⟩,rfl⟩,hL z1 y hp hy⟩) h
theorem Dh.new2 {a i b:Nat} {α1:Type} {α2:Type} {p:α1→α2→Prop} {s s':α1→α2→St} {o:Oper} (ha:look acc a=some (Nd2 p s)) (ho:l[i]?=some o) (hb:look acc b=none) (hE:∀ w0,∀ z1 z2,p z1 z2→AWl P w0 l.toArray (EndQ (s' z1 z2)) [o] (s z1 z2)) (hS:∀ z1 z2,p z1 z2→Sup SM (s' z1 z2)) (h:Dh P l SM ((b,Nd2 p s')::acc) es Fin):Dh P l SM acc ((a,i,b)::es) Fin:=
 Dh.new ha ho hb (fun σ h=>by obtain⟨z1,z2,hp,rfl⟩:=h;exact Stp.run (fun w0=>hE w0 z1 z2 hp) ⟨z1,z2,hp,rfl⟩) (fun σ h=>by obtain⟨z1,z2,hp,rfl⟩:=h;exact hS z1 z2 hp) h
theorem Dh.old2 {a i b:Nat} {α1:Type} {α2:Type} {p:α1→α2→Prop} {s s':α1→α2→St} {o:Oper} (ha:look acc a=some (Nd2 p s)) (ho:l[i]?=some o) (hb:look acc b=some (Nd2 p s')) (hE:∀ w0,∀ z1 z2,p z1 z2→AWl P w0 l.toArray (EndQ (s' z1 z2)) [o] (s z1 z2)) (h:Dh P l SM acc es Fin):Dh P l SM acc ((a,i,b)::es) Fin:=
 Dh.old ha ho hb (fun σ h=>by obtain⟨z1,z2,hp,rfl⟩:=h;exact Stp.run (fun w0=>hE w0 z1 z2 hp) ⟨z1,z2,hp,rfl⟩) h
theorem Dh.fin2 {w0:Base} {Q:Exit→St→Prop} {N k:Nat} {α1:Type} {α2:Type} {p:α1→α2→Prop} {s:α1→α2→St} (hk:look acc k=some (Nd2 p s)) (h:∀ z1 z2,p z1 z2→AWl P w0 l.toArray Q (l.drop N) (s z1 z2)):Dh P l SM acc [] (fun st=>∀ σ',st k σ'→AWl P w0 l.toArray Q (l.drop N) σ'):=
 Dh.fin hk fun σ h'=>by obtain⟨z1,z2,hp,rfl⟩:=h';exact h z1 z2 hp
theorem Dh.drw2 {a i b:Nat} {α1:Type} {α2:Type} {β:Type} {p:α1→α2→Prop} {s:α1→α2→St} {q:α1→α2→β→Prop} {f s':α1→α2→β→St} {o:Oper} (ha:look acc a=some (Nd2 p s)) (ho:l[i]?=some o) (hE:∀ z1 z2,p z1 z2→OpE P l.toArray o (s z1 z2) (fun σ'=>∃ y,q z1 z2 y∧σ'=f z1 z2 y)) (hb:look acc b=none) (hL:∀ z1 z2 y,p z1 z2→q z1 z2 y→EndQ (s' z1 z2 y) .normal (f z1 z2 y)) (hS:∀ z1 z2 y,p z1 z2→q z1 z2 y→Sup SM (s' z1 z2 y)) (h:Dh P l SM ((b,Nd3 (fun z1 z2 y=>p z1 z2∧q z1 z2 y) s')::acc) es Fin):Dh P l SM acc ((a,i,b)::es) Fin:=
 Dh.new ha ho hb (fun σ h=>by
  obtain⟨z1,z2,hp,rfl⟩:=h
  refine Dp (hE z1 z2 hp) ?_
  rintro _ ⟨y,hy,rfl⟩
  exact⟨_,⟨z1,z2,y,⟨hp,hy⟩,rfl⟩,hL z1 z2 y hp hy⟩) (fun σ h=>by obtain⟨z1,z2,y,⟨hp,hy⟩,rfl⟩:=h;exact hS z1 z2 y hp hy) h
theorem Dh.new3 {a i b:Nat} {α1:Type} {α2:Type} {α3:Type} {p:α1→α2→α3→Prop} {s s':α1→α2→α3→St} {o:Oper} (ha:look acc a=some (Nd3 p s)) (ho:l[i]?=some o) (hb:look acc b=none) (hE:∀ w0,∀ z1 z2 z3,p z1 z2 z3→AWl P w0 l.toArray (EndQ (s' z1 z2 z3)) [o] (s z1 z2 z3)) (hS:∀ z1 z2 z3,p z1 z2 z3→Sup SM (s' z1 z2 z3)) (h:Dh P l SM ((b,Nd3 p s')::acc) es Fin):Dh P l SM acc ((a,i,b)::es) Fin:=
 Dh.new ha ho hb (fun σ h=>by obtain⟨z1,z2,z3,hp,rfl⟩:=h;exact Stp.run (fun w0=>hE w0 z1 z2 z3 hp) ⟨z1,z2,z3,hp,rfl⟩) (fun σ h=>by obtain⟨z1,z2,z3,hp,rfl⟩:=h;exact hS z1 z2 z3 hp) h
theorem Dh.fin3 {w0:Base} {Q:Exit→St→Prop} {N k:Nat} {α1:Type} {α2:Type} {α3:Type} {p:α1→α2→α3→Prop} {s:α1→α2→α3→St} (hk:look acc k=some (Nd3 p s)) (h:∀ z1 z2 z3,p z1 z2 z3→AWl P w0 l.toArray Q (l.drop N) (s z1 z2 z3)):Dh P l SM acc [] (fun st=>∀ σ',st k σ'→AWl P w0 l.toArray Q (l.drop N) σ'):=
 Dh.fin hk fun σ h'=>by obtain⟨z1,z2,z3,hp,rfl⟩:=h';exact h z1 z2 z3 hp
theorem Dh.drw3 {a i b:Nat} {α1:Type} {α2:Type} {α3:Type} {β:Type} {p:α1→α2→α3→Prop} {s:α1→α2→α3→St} {q:α1→α2→α3→β→Prop} {f s':α1→α2→α3→β→St} {o:Oper} (ha:look acc a=some (Nd3 p s)) (ho:l[i]?=some o) (hE:∀ z1 z2 z3,p z1 z2 z3→OpE P l.toArray o (s z1 z2 z3) (fun σ'=>∃ y,q z1 z2 z3 y∧σ'=f z1 z2 z3 y)) (hb:look acc b=none) (hL:∀ z1 z2 z3 y,p z1 z2 z3→q z1 z2 z3 y→EndQ (s' z1 z2 z3 y) .normal (f z1 z2 z3 y)) (hS:∀ z1 z2 z3 y,p z1 z2 z3→q z1 z2 z3 y→Sup SM (s' z1 z2 z3 y)) (h:Dh P l SM ((b,Nd4 (fun z1 z2 z3 y=>p z1 z2 z3∧q z1 z2 z3 y) s')::acc) es Fin):Dh P l SM acc ((a,i,b)::es) Fin:=
 Dh.new ha ho hb (fun σ h=>by
  obtain⟨z1,z2,z3,hp,rfl⟩:=h
  refine Dp (hE z1 z2 z3 hp) ?_
  rintro _ ⟨y,hy,rfl⟩
  exact⟨_,⟨z1,z2,z3,y,⟨hp,hy⟩,rfl⟩,hL z1 z2 z3 y hp hy⟩) (fun σ h=>by obtain⟨z1,z2,z3,y,⟨hp,hy⟩,rfl⟩:=h;exact hS z1 z2 z3 y hp hy) h
theorem Dh.new4 {a i b:Nat} {α1:Type} {α2:Type} {α3:Type} {α4:Type} {p:α1→α2→α3→α4→Prop} {s s':α1→α2→α3→α4→St} {o:Oper} (ha:look acc a=some (Nd4 p s)) (ho:l[i]?=some o) (hb:look acc b=none) (hE:∀ w0,∀ z1 z2 z3 z4,p z1 z2 z3 z4→AWl P w0 l.toArray (EndQ (s' z1 z2 z3 z4)) [o] (s z1 z2 z3 z4)) (hS:∀ z1 z2 z3 z4,p z1 z2 z3 z4→Sup SM (s' z1 z2 z3 z4)) (h:Dh P l SM ((b,Nd4 p s')::acc) es Fin):Dh P l SM acc ((a,i,b)::es) Fin:=
 Dh.new ha ho hb (fun σ h=>by obtain⟨z1,z2,z3,z4,hp,rfl⟩:=h;exact Stp.run (fun w0=>hE w0 z1 z2 z3 z4 hp) ⟨z1,z2,z3,z4,hp,rfl⟩) (fun σ h=>by obtain⟨z1,z2,z3,z4,hp,rfl⟩:=h;exact hS z1 z2 z3 z4 hp) h
theorem Dh.fin4 {w0:Base} {Q:Exit→St→Prop} {N k:Nat} {α1:Type} {α2:Type} {α3:Type} {α4:Type} {p:α1→α2→α3→α4→Prop} {s:α1→α2→α3→α4→St} (hk:look acc k=some (Nd4 p s)) (h:∀ z1 z2 z3 z4,p z1 z2 z3 z4→AWl P w0 l.toArray Q (l.drop N) (s z1 z2 z3 z4)):Dh P l SM acc [] (fun st=>∀ σ',st k σ'→AWl P w0 l.toArray Q (l.drop N) σ'):=
 Dh.fin hk fun σ h'=>by obtain⟨z1,z2,z3,z4,hp,rfl⟩:=h';exact h z1 z2 z3 z4 hp
end
end Go.Q
