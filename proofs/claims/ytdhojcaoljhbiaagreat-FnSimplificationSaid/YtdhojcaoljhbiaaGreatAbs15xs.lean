import Derived.Test.YtdhojcaoljhbiaaGreatAbsDxs
set_option linter.unusedVariables false
set_option linter.unusedSimpArgs false
namespace Go.Q
open Go.RowKit
section
variable {P:Program} {ops:Array Oper} {o:Oper} {σ σ':St} {q:Bool}
theorem adds_addsR (l:List (Nat×R)) (σ:St):St.adds σ l=⟨σ.n,σ.slots,addsR l σ.res⟩:=adds_eq l σ.n σ.slots σ.res
theorem Loc.ofs {d:Nat} {rl:List (Nat×R)} {x:Bool×S} (hd:o.dst=some d) (h:∀ σ',Sup σ σ'→(∀ z∈rl,σ'.has z.1=false)→Op1 P ops o σ' ((σ'.adds rl).put o.dst x)):Loc P ops o σ (d,x,rl):=fun σ' hs hf=>by
 have:=h σ' hs hf
 rw [hd,adds_addsR] at this
 exact this
def nthB:List (List Nat)→Nat→List Nat
 | [],_=>[]
 | x::l,i=>bif Nat.beq i 0 then x else nthB l (i-1)
def stR (L:Nat→Bool):Nat→List Out→St→St
 | k,y::r,σ=>let σ':=stR L (k-1) r σ;bif L (k-1) then ⟨σ'.n,(y.1,y.2.1)::σ'.slots,addsR y.2.2 σ'.res⟩ else σ'
 | _,[],σ=>σ
theorem stL_append (L:Nat→Bool):∀ (l1 l2:List Out) (i:Nat) (σ:St),stL L i (l1++l2) σ=stL L (i+l1.length) l2 (stL L i l1 σ)
 | [],l2,i,σ=>by simp [stL]
 | y::r,l2,i,σ=>by
  rw [List.cons_append,stL,stL_append L r l2,stL]
  congr 1
  simp;omega
theorem stR_eq (L:Nat→Bool):∀ (r:List Out) (σ:St),stR L r.length r σ=stL L 0 r.reverse σ
 | [],σ=>rfl
 | y::r,σ=>by
  rw [stR,List.reverse_cons,stL_append,show (y::r).length-1=r.length by simp,stR_eq L r σ]
  simp only [List.length_reverse,Nat.zero_add,stL]
theorem stL_false (L:Nat→Bool):∀ (l:List Out) (i:Nat) (σ:St),(∀ j,i≤j→L j=false)→stL L i l σ=σ
 | [],_,_,_=>rfl
 | y::r,i,σ,h=>by
  rw [stL,h i (Nat.le_refl _)]
  exact stL_false L r (i+1) σ fun j hj=>h j (by omega)
def dstsN (l:List Oper) (N:Nat):List Nat:=(l.take N).filterMap (·.dst)
structure DrawC (P:Program) (w0:Base) (Q:Exit→St→Prop) (N:Nat) (B:Nat→List Nat) (l:List Oper) (n:Nat) (sl:List (Nat×(Bool×S))) (rs:List (Nat×R)) (acc:List Out) (k:Nat) (rest:List Oper):Prop where
 pf:acc.length=k→rest=l.drop k→∃ more:List Out,(acc.reverse++more).length=N∧dstsN rest (N-k)=more.map (·.1)∧
  Steps P l.toArray B (acc.reverse++more) ⟨n,delS (dstsN l N) sl,rs⟩ k rest more∧outB B ⟨n,sl,rs⟩ (acc.reverse++more)=true∧AWl P w0 l.toArray Q (l.drop N) (stL (fun _=>true) 0 (acc.reverse++more) ⟨n,sl,rs⟩)
variable {w0:Base} {Q:Exit→St→Prop} {N:Nat} {B:Nat→List Nat} {l:List Oper} {n:Nat} {sl:List (Nat×(Bool×S))} {rs:List (Nat×R)} {acc:List Out} {k:Nat} {rest:List Oper}
theorem Cc {id:Nat} (N:Nat) (B:Nat→List Nat) (hm:P.follows .mixedOrders=true) (hB:planC l.toArray N=true) (hO:ordB l B N=true) (h:DrawC P w0 Q N B l n sl rs [] 0 l):AW P w0 (.region id l.toArray true) Q ⟨n,sl,rs⟩:=by
 obtain⟨more,h1,h2,h3,h4,h5⟩:=h.pf rfl rfl
 simp only [List.reverse_nil,List.nil_append,Nat.sub_zero] at h1 h2 h3 h4 h5
 rw [h2] at h3
 exact AW.draw N B more hm hB hO h1 h3 h4 h5
theorem Cp {y:Out} (hN:Nat.blt k N=true) (hlt:((B k).all fun j=>Nat.blt j k)=true) (ho:o.dst=some y.1) (hl:Loc P l.toArray o (stR (memN (B k)) k acc ⟨n,delS (dstsN l N) sl,rs⟩) y) (h:DrawC P w0 Q N B l n sl rs (y::acc) (k+1) rest):DrawC P w0 Q N B l n sl rs acc k (o::rest):=⟨fun ha hr=>by
 have hd:rest=l.drop (k+1):=by
  have:=congrArg (List.drop 1) hr
  simpa using this
 obtain⟨more,h1,h2,h3,h4,h5⟩:=h.pf (by simp [ha]) hd
 have e:(y::acc).reverse++more=acc.reverse++(y::more):=by simp
 rw [e] at h1 h3 h4 h5
 have hN':k<N:=Nat.le_of_ble_eq_true hN
 refine⟨y::more,h1,?_,⟨?_,h3⟩,h4,h5⟩
 · rw [show N-k=(N-(k+1))+1 by omega]
   simp only [dstsN,List.take_succ_cons,List.filterMap_cons,ho,List.map_cons] at h2 ⊢
   rw [h2]
 have:stL (memN (B k)) 0 (acc.reverse++(y::more)) ⟨n,delS (dstsN l N) sl,rs⟩=stR (memN (B k)) k acc ⟨n,delS (dstsN l N) sl,rs⟩:=by
  rw [stL_append,←ha,stR_eq,stL_false]
  intro j hj
  rw [List.length_reverse,Nat.zero_add,ha] at hj
  cases hm:memN (B acc.length) j with
  | false=>rfl
  | true=>
   have h1:=List.all_eq_true.1 hlt j (by rw [←ha];exact memN_iff.1 hm)
   have h2:j<k:=Nat.le_of_ble_eq_true h1
   omega
 rw [this]
 exact hl⟩
theorem DrawC.s {d:Nat} {x:Bool×S} (hl:∀ σ',Sup (stR (memN (B k)) k acc ⟨n,delS (dstsN l N) sl,rs⟩) σ'→Op1 P l.toArray o σ' (σ'.put o.dst x)) (h:DrawC P w0 Q N B l n sl rs ((d,x,[])::acc) (k+1) rest) (hN:Nat.blt k N=true:=by exact rfl) (hlt:((B k).all fun j=>Nat.blt j k)=true:=by exact rfl) (hd:o.dst=some d:=by exact rfl):DrawC P w0 Q N B l n sl rs acc k (o::rest):=Cp hN hlt hd (Loc.of hd hl) h
def finSl:List Out→List (Nat×(Bool×S))→List (Nat×(Bool×S))
 | [],sl=>sl
 | y::r,sl=>(y.1,y.2.1)::finSl r sl
def finRs:List Out→List (Nat×R)→List (Nat×R)
 | [],rs=>rs
 | y::r,rs=>addsR y.2.2 (finRs r rs)
theorem Av {d i:Nat} {x:A}  (h:DrawC P w0 Q N B l n sl rs ((d,(true,.a (x)),[])::acc) (k+1) rest) (ho:o.op=.move (.tmp i):=by exact rfl) (hx:look (stR (memN (B k)) k acc ⟨n,delS (dstsN l N) sl,rs⟩).slots i=some (true,.a x):=by exact rfl) (hg:o.guard=none:=by exact rfl) (hN:Nat.blt k N=true:=by exact rfl) (hlt:((B k).all fun j=>Nat.blt j k)=true:=by exact rfl) (hd:o.dst=some d:=by exact rfl) (hdn:o.dst.all (fun d=>Nat.blt d (stR (memN (B k)) k acc ⟨n,delS (dstsN l N) sl,rs⟩).n)=true:=by exact rfl):DrawC P w0 Q N B l n sl rs acc k (o::rest):=Cp hN hlt hd (Loc.of hd fun σ' hs=>Bf ho (.no hg) (Aj hs hdn) (.tm (hs.slots _ _ hx))) h
theorem Bp {d i:Nat} {t:TypeId} {cs:List T} {ag:Bool} {m:Nat} (ht:tyB P t ag m=true) (h:DrawC P w0 Q N B l n sl rs ((d,(true,.a (mkA ag ((cs.take m).map .t))),[])::acc) (k+1) rest) (ho:o.op=.load t (.tmp i):=by exact rfl) (hx:look (stR (memN (B k)) k acc ⟨n,delS (dstsN l N) sl,rs⟩).slots i=some (true,.a (.one (.t (.ad cs)))):=by exact rfl) (hn:Nat.ble m cs.length=true:=by exact rfl) (h1:(ag||Nat.beq m 1)=true:=by exact rfl) (hg:o.guard=none:=by exact rfl) (hN:Nat.blt k N=true:=by exact rfl) (hlt:((B k).all fun j=>Nat.blt j k)=true:=by exact rfl) (hd:o.dst=some d:=by exact rfl) (hdn:o.dst.all (fun d=>Nat.blt d (stR (memN (B k)) k acc ⟨n,delS (dstsN l N) sl,rs⟩).n)=true:=by exact rfl):DrawC P w0 Q N B l n sl rs acc k (o::rest):=Cp hN hlt hd (Loc.of hd fun σ' hs=>Ca ho (.no hg) (Aj hs hdn) (.tm (hs.slots _ _ hx)) ht hn h1) h
theorem Ck {d i:Nat} {t:TypeId} {j off:Nat} {cs:List T} (hf:fldB P t j off=true) (h:DrawC P w0 Q N B l n sl rs ((d,(true,.a (.one (.t (.ad (cs.drop off))))),[])::acc) (k+1) rest) (ho:o.op=.fieldAddr t (.tmp i) j:=by exact rfl) (hx:look (stR (memN (B k)) k acc ⟨n,delS (dstsN l N) sl,rs⟩).slots i=some (true,.a (.one (.t (.ad cs)))):=by exact rfl) (hg:o.guard=none:=by exact rfl) (hN:Nat.blt k N=true:=by exact rfl) (hlt:((B k).all fun j=>Nat.blt j k)=true:=by exact rfl) (hd:o.dst=some d:=by exact rfl) (hdn:o.dst.all (fun d=>Nat.blt d (stR (memN (B k)) k acc ⟨n,delS (dstsN l N) sl,rs⟩).n)=true:=by exact rfl):DrawC P w0 Q N B l n sl rs acc k (o::rest):=Cp hN hlt hd (Loc.of hd fun σ' hs=>B9 ho (.no hg) (Aj hs hdn) (.tm (hs.slots _ _ hx)) hf) h
theorem fin_eq:∀ (acc:List Out) (k:Nat),stR (fun _=>true) k acc ⟨n,sl,rs⟩=⟨n,finSl acc sl,finRs acc rs⟩
 | [],k=>by cases k<;>rfl
 | y::r,k=>by rw [stR,fin_eq r];rfl
theorem DrawC.fin (hk:Nat.beq k N=true) (hU:outB B ⟨n,sl,rs⟩ acc.reverse=true) (h:AWl P w0 l.toArray Q rest ⟨n,finSl acc sl,finRs acc rs⟩):DrawC P w0 Q N B l n sl rs acc k rest:=⟨fun ha hr=>by
 have hk':=Nat.eq_of_beq_eq_true hk
 subst hk'
 refine⟨[],by simp [ha],by simp [dstsN],by unfold Steps;split<;>first|trivial|(rename_i h;cases h),by rw [List.append_nil];exact hU,?_⟩
 rw [List.append_nil,←stR_eq,fin_eq,←hr]
 exact h⟩
end
end Go.Q
namespace Go.Q
open Go.RowKit
section
variable {P:Program} {ops:Array Oper} {o:Oper} {σ:St} {q:Bool}
theorem guard_bool {op:BinOp} {t:TypeId} {x y:Operand} {n m:Bool} (w:World):(eqGuard op t x y (.bool n) (.bool m)).run P w=.ok () w:=by
 unfold eqGuard;split<;>rfl
theorem R_eqb {t t':TypeId} {x y:Operand} {n m:Bool} (ho:o.op=.binOp .eql t x y t') (hg:Grd ops o σ q) (hd:o.dst.all (fun d=>Nat.blt d σ.n)=true) (hx:Get σ q x (.one (.t (.v (.bool n))))) (hy:Get σ q y (.one (.t (.v (.bool m))))) (hu:P.underlying t=some .bool) :
 Op1 P ops o σ (σ.put o.dst (q,.a (.one (.t (.v (.bool (n == m))))))):=Dm ho hg hd hx hy guard_bool (h:=fun _ w=>by simp [binOp,run_equal_bool w t n m hu])
theorem R_neb {t t':TypeId} {x y:Operand} {n m:Bool} (ho:o.op=.binOp .neq t x y t') (hg:Grd ops o σ q) (hd:o.dst.all (fun d=>Nat.blt d σ.n)=true) (hx:Get σ q x (.one (.t (.v (.bool n))))) (hy:Get σ q y (.one (.t (.v (.bool m))))) (hu:P.underlying t=some .bool) :
 Op1 P ops o σ (σ.put o.dst (q,.a (.one (.t (.v (.bool (!(n == m)))))))):=Dm ho hg hd hx hy guard_bool (h:=fun _ w=>by simp [binOp,run_equal_bool w t n m hu])
def plain:List E→Option (List Value)
 | []=>some []
 | e::r=>match e with
  | .t (.v x)=>(match plain r with|some l=>some (x::l)|none=>none)
  | _=>none
theorem plain_ok {I:Ip} {w:World}:∀ {l:List E} {us cs:List Value},plain l=some us→VEs I w l cs→cs=us
 | [],us,cs,h,hv=>by
  have h':cs=[]:=hv
  simp only [plain,Option.some.injEq] at h
  rw [h',h]
 | e::r,us,cs,h,hv=>by
  obtain⟨c,cr,rfl,h1,h2⟩:=hv
  match e,h,h1 with
  | .t (.v x),h,h1=>
   simp only [plain] at h
   split at h
   · rename_i l hl
     cases h
     obtain⟨G,g1,_⟩:=h1
     simp only [C] at g1
     rw [g1.1,plain_ok hl h2]
   cases h
theorem R_eqs {op:BinOp} {t t':TypeId} {x y:Operand} {l1 l2:List E} {us vs:List Value} {b:Bool} (ho:o.op=.binOp op t x y t') (hg:Grd ops o σ q) (hd:o.dst.all (fun d=>Nat.blt d σ.n)=true) (hx:Get σ q x (.agg l1)) (hy:Get σ q y (.agg l2))
 (h1:plain l1=some us) (h2:plain l2=some vs) (hG:P.eqGuardType P.depth t=false) (hb:∀ w,(binOp op t (.agg us.toArray) (.agg vs.toArray)).run P w=.ok (.bool b) w):Op1 P ops o σ (σ.put o.dst (q,.a (.one (.t (.v (.bool b)))))):=
 .val hg hd fun I w0 a w hr hq=>by
  obtain⟨c1,e1,g1⟩:=hx.va hr hq
  obtain⟨c2,e2,g2⟩:=hy.va hr hq
  obtain rfl:=plain_ok h1 g1
  obtain rfl:=plain_ok h2 g2
  exact⟨.bool b,by simp [execOp,ho,e1,e2,run_eqGuard_agg w op t x y _ _ hG,hb],VS_v _⟩
theorem B6 {x:Operand} {cs:List T} (ho:o.op=.nilCheck x) (hg:Grd ops o σ q) (hd:o.dst.all (fun d=>Nat.blt d σ.n)=true) (hx:Get σ q x (.one (.t (.ad cs)))):Op1 P ops o σ (σ.put o.dst (q,.a (.one (.t (.ad cs))))):=
 .val hg hd fun I w0 a w hr hq=>by
  have hv:=hx.va hr hq
  obtain⟨F,h1,h2⟩:=hv
  have h1':=h1
  simp only [C] at h1'
  obtain⟨b,off,G,e,_⟩:=h1'
  exact⟨_,by simp [execOp,ho,e],F,e▸h1,h2⟩
theorem Cq {x:Operand} {id p:Nat} (ho:o.op=.nilCheck x) (hg:Grd ops o σ q) (hd:o.dst.all (fun d=>Nat.blt d σ.n)=true) (hx:Get σ q x (.one (.pp id p))):Op1 P ops o σ (σ.put o.dst (q,.a (.one (.pp id p)))):=
 .val hg hd fun I w0 a w hr hq=>by
  have hv:a.eval x=.pointer (some ⟨I.B id,p,none⟩):=hx.va hr hq
  exact⟨_,by simp [execOp,ho,hv],rfl⟩
theorem R_max {x y:Operand} {tys:Array TypeId} {n m:Int} (ho:o.op=.call { callee:=.builtin .max,args:=#[x,y],argTypes:=tys }) (hg:Grd ops o σ q) (hd:o.dst.all (fun d=>Nat.blt d σ.n)=true)
 (hx:Get σ q x (.one (.t (.v (.int .i64 n))))) (hy:Get σ q y (.one (.t (.v (.int .i64 m))))):Op1 P ops o σ (σ.put o.dst (q,.a (.one (.t (.v (.int .i64 (max n m))))))):=
 .val hg hd fun I w0 a w hr hq=>⟨.int .i64 (max n m),by
  have e:(if m>n then m else n)=max n m:=by split<;>omega
  simp [execOp,ho,resolve,invoke,builtin,hx.int hr hq,hy.int hr hq,Builtin.max_,Builtin.max2,e],VS_v _⟩
theorem R_min {x y:Operand} {tys:Array TypeId} {n m:Int} (ho:o.op=.call { callee:=.builtin .min,args:=#[x,y],argTypes:=tys }) (hg:Grd ops o σ q) (hd:o.dst.all (fun d=>Nat.blt d σ.n)=true)
 (hx:Get σ q x (.one (.t (.v (.int .i64 n))))) (hy:Get σ q y (.one (.t (.v (.int .i64 m))))):Op1 P ops o σ (σ.put o.dst (q,.a (.one (.t (.v (.int .i64 (min n m))))))):=
 .val hg hd fun I w0 a w hr hq=>⟨.int .i64 (min n m),by
  have e:(if m<n then m else n)=min n m:=by split<;>omega
  simp [execOp,ho,resolve,invoke,builtin,hx.int hr hq,hy.int hr hq,Builtin.min_,Builtin.min2,e],VS_v _⟩
def GetsT (σ:St) (q:Bool):List Operand→List T→Prop
 | [],ts=>ts=[]
 | x::r,ts=>∃ t tr,ts=t::tr∧Get σ q x (.one (.t t))∧GetsT σ q r tr
theorem GetsT.ok {I:Ip} {w0:Base} {w:World} {a:Act} (hr:RelI I w0 σ a w):∀ {l:List Operand} {ts:List T},GetsT σ true l ts→∃ G,Cs false w ts (l.map a.eval) G∧∀ b∈G,I.Z b
 | [],ts,h=>by cases h;exact⟨[],by simp [Cs],by simp⟩
 | x::r,ts,⟨t,tr,e,h1,h2⟩=>by
  subst e
  obtain⟨G1,g1,g2⟩:=h1.va hr rfl
  obtain⟨G2,g3,g4⟩:=GetsT.ok hr h2
  refine⟨G1++G2,by simp only [List.map_cons,Cs];exact⟨_,_,G1,G2,rfl,g1,g3,rfl⟩,fun b hb=>?_⟩
  rcases List.mem_append.1 hb with hb|hb
  · exact g2 b hb
  exact g4 b hb
theorem GetsT.nil:GetsT σ q [] []:=rfl
theorem GetsT.cons {x:Operand} {r:List Operand} {t:T} {tr:List T} (h:Get σ q x (.one (.t t))) (hr:GetsT σ q r tr):GetsT σ q (x::r) (t::tr):=⟨t,tr,rfl,h,hr⟩
theorem Rws.drop {oo:Bool} {w:World} {b k:Nat}:∀ {rs:List (List T)} {off:Nat} {F:List Nat},Rws oo w b k off rs F→∀ j,j≤rs.length→∃ G,Rws oo w b k (off+j*k) (rs.drop j) G∧∀ x∈G,x∈F
 | rs,off,F,h,0,_=>⟨F,by simpa using h,fun x hx=>hx⟩
 | [],off,F,h,j+1,hj=>by simp at hj
 | r::rs,off,F,h,j+1,hj=>by
  simp only [Rws] at h
  obtain⟨G1,G2,h1,h2,h3,rfl⟩:=h
  obtain⟨G,g1,g2⟩:=Rws.drop h3 j (by simpa using hj)
  refine⟨G,?_,fun x hx=>by simp [g2 x hx]⟩
  rw [show off+(j+1)*k=off+k+j*k by rw [Nat.succ_mul];omega]
  exact g1
theorem Rws.take {oo:Bool} {w:World} {b k:Nat}:∀ {rs:List (List T)} {off:Nat} {F:List Nat},Rws oo w b k off rs F→∀ j,∃ G,Rws oo w b k off (rs.take j) G∧∀ x∈G,x∈F
 | rs,off,F,h,0=>⟨[],by simp [Rws],by simp⟩
 | [],off,F,h,j+1=>⟨F,by simpa using h,fun x hx=>hx⟩
 | r::rs,off,F,h,j+1=>by
  simp only [Rws] at h
  obtain⟨G1,G2,h1,h2,h3,rfl⟩:=h
  obtain⟨G,g1,g2⟩:=Rws.take h3 j
  refine⟨G1++G,?_,fun x hx=>?_⟩
  · rw [List.take_succ_cons]
    simp only [Rws]
    exact⟨G1,G,h1,h2,g1,rfl⟩
  rcases List.mem_append.1 hx with hx|hx
  · simp [hx]
  simp [g2 x hx]
inductive Bnd (σ:St) (q:Bool):Option Operand→Nat→Nat→Prop where
 | no {d:Nat}:Bnd σ q none d d
 | yes {x:Operand} {d m:Nat} {n:Int} (h:Get σ q x (.one (.t (.v (.int .i64 n))))) (hn:q=true→n=(m:Int)):Bnd σ q (some x) d m
theorem slice_C {w:World} {t e:TypeId} {k:Nat} {ag:Bool} {rows:List (List T)} {v:Value} {F:List Nat} {lo hi:Option Value} {n m:Nat} (hu:P.underlying t=some (.slice e)) (hk:tyB P e ag k=true) (hC:C false w (.sl k rows) v F)
 (hlo:lo=none∧n=0∨lo=some (.int .i64 (n:Int))) (hhi:hi=none∧m=rows.length∨hi=some (.int .i64 (m:Int))) (hm:m≤rows.length) (hn:n≤m) :
 ∃ v' F',(Instr.sliceAt t v lo hi none).run P w=.ok v' w∧C false w (.sl k ((rows.take m).drop n)) v' F'∧∀ x∈F',x∈F:=by
 simp only [C] at hC
 obtain⟨a,len,cap,rfl,h2,h3,h4,h5⟩:=hC
 have hrun:(Instr.sliceAt t (.slice a len cap) lo hi none).run P w=.ok (.slice (if cap=n then a else a.map (·.add (n*k))) (m-n) (cap-n)) w:=by
  have b1:m≤cap:=by omega
  have b2:n≤len:=by omega
  have b4:rows.length≤cap:=by omega
  rcases hlo with ⟨rfl,rfl⟩|rfl<;>rcases hhi with ⟨rfl,rfl⟩|rfl<;>simp [Instr.sliceAt,Instr.slice,run_underlying hu,Instr.sliceBounds,Instr.sliceBound,asIntOf,tyB_size hk,b1,b2,b4,hn,h2]
 rcases h5 with ⟨h6,rfl,_⟩|⟨b,off,G,rfl,rfl,h7,_,h8⟩
 · refine⟨_,[],hrun,?_,by simp⟩
   unfold C
   refine⟨_,_,_,rfl,by simp;omega,by omega,by omega,.inl ⟨by omega,rfl,by simp⟩⟩
 by_cases hmn:m=n
 · refine⟨_,[],hrun,?_,by simp⟩
   unfold C
   refine⟨_,_,_,rfl,by simp;omega,by omega,by omega,.inl ⟨by omega,rfl,by simp⟩⟩
 obtain⟨G1,g1,g2⟩:=h8.take m
 obtain⟨G2,g3,g4⟩:=g1.drop n (by simp;omega)
 refine⟨_,b::G2,hrun,?_,fun x hx=>?_⟩
 · unfold C
   refine⟨_,_,_,rfl,by simp;omega,by omega,by omega,.inr ⟨b,off+n*k,G2,?_,rfl,h7,by simp,g3⟩⟩
   rw [if_neg (by omega)]
   simp [Addr.add_lit]
 rcases List.mem_cons.1 hx with rfl|hx
 · simp
 simp [g2 x (g4 x hx)]
theorem Bnd.val {x:Option Operand} {d n:Nat} (h:Bnd σ q x d n) {I:Ip} {w0:Base} {w:World} {a:Act} (hr:RelI I w0 σ a w) (hq:q=true):x.map a.eval=none∧n=d∨x.map a.eval=some (.int .i64 (n:Int)):=by
 cases h with
 | no=>exact .inl ⟨rfl,rfl⟩
 | yes h hn=>exact .inr (by simp [h.int hr hq,hn hq])
theorem Bw {t e:TypeId} {x:Operand} {lo hi:Option Operand} {k n m:Nat} {ag:Bool} {rows:List (List T)} (ho:o.op=.slice t x lo hi none) (hg:Grd ops o σ q) (hd:o.dst.all (fun d=>Nat.blt d σ.n)=true) (hx:Get σ q x (.one (.t (.sl k rows))))
 (hl:Bnd σ q lo 0 n) (hh:Bnd σ q hi rows.length m) (hu:P.underlying t=some (.slice e)) (hk:tyB P e ag k=true) (hb:q=true→n≤m∧m≤rows.length):Op1 P ops o σ (σ.put o.dst (q,.a (.one (.t (.sl k ((rows.take m).drop n)))))):=
 .val hg hd fun I w0 a w hr hq=>by
  obtain⟨F,h1,h2⟩:=hx.va hr hq
  obtain⟨v',F',g1,g2,g3⟩:=slice_C hu hk h1 (hl.val hr hq) (hh.val hr hq) (hb hq).2 (hb hq).1
  exact⟨v',by simp [execOp,ho,g1],F',g2,fun b hb=>h2 b (g3 b hb)⟩
end
end Go.Q
namespace Go.Q
open Go.RowKit
section
variable {P:Program} {ops:Array Oper} {o:Oper} {σ:St} {q:Bool}
def numbered:Nat→List Operand→List (Nat×Operand)
 | _,[]=>[]
 | i,x::r=>(i,x)::numbered (i+1) r
inductive Elems (σ:St) (k:Nat):List Operand→List (List E)→Prop where
 | nil:Elems σ k [] []
 | cons {x:Operand} {A0:A} {r:List Operand} {r':List (List E)} (hx:Get σ true x A0) (he:(cellsA A0).all E.cell1=true) (hn:Nat.beq (cellsA A0).length k=true) (h:Elems σ k r r'):Elems σ k (x::r) (cellsA A0::r')
theorem Elems.ok {k:Nat} {I:Ip} {w0:Base} {w:World} {a:Act} (hr:RelI I w0 σ a w):∀ {xs:List Operand} {es:List (List E)} (i:Nat) (pre rest:List Value),Elems σ k xs es→pre.length=i*k→rest.length=xs.length*k→
 ∃ cs,Instr.fill (fun i=>some (i*k,k)) (pre++rest).toArray ((numbered i xs).map fun y=>(y.1,a.eval y.2))=some (pre++cs).toArray∧VEs I w es.flatten cs∧(∀ c∈cs,c.oneCell'=true)∧cs.length=xs.length*k∧es.length=xs.length∧∀ e∈es,e.length=k
 | [],es,i,pre,rest,h,hp,hl=>by
  cases h
  have:rest=[]:=List.eq_nil_of_length_eq_zero (by simpa using hl)
  subst this
  exact⟨[],by simp [numbered,Instr.fill],rfl,by simp,by simp,rfl,by simp⟩
 | x::xs,es,i,pre,rest,h,hp,hl=>by
  cases h with
  | cons hx he hn h=>
   rename_i A0 r'
   obtain⟨ds,h1,h2,h3⟩:=(hx.va hr rfl).cells he
   have hn':=Nat.eq_of_beq_eq_true hn
   have e1:=VEs_len h2
   have hl':rest.length=xs.length*k+k:=by rw [hl,List.length_cons,Nat.succ_mul]
   obtain⟨cs,g1,g2,g3,g4,g5,g6⟩:=Elems.ok hr (i+1) (pre++ds) (rest.drop k) h (by rw [List.length_append,hp,Nat.succ_mul];omega) (by rw [List.length_drop];omega)
   refine⟨ds++cs,?_,?_,fun c hc=>?_,?_,by simp [g5],fun e hm=>?_⟩
   · simp only [numbered,List.map_cons,Instr.fill,h1]
     have hdk:ds.length=k:=e1.trans hn'
     rw [if_neg (by simp;omega)]
     have hfo:=foldl_set (i*k) ds (pre++rest) (by simp;omega)
     have e2:(pre++rest).take (i*k)++ds++(pre++rest).drop (i*k+ds.length)=pre++ds++rest.drop k:=by
      rw [←hp,List.take_left' rfl,←List.drop_drop,List.drop_left' rfl,hdk]
     rw [e2] at hfo
     rw [←List.append_assoc,←g1,←hfo]
     congr 1
     simp
   · rw [List.flatten_cons];exact VEs_append h2 g2
   · rcases List.mem_append.1 hc with hc|hc
     · exact h3 c hc
     exact g3 c hc
   · rw [List.length_append,g4,List.length_cons,Nat.succ_mul];omega
   rcases List.mem_cons.1 hm with rfl|hm
   · exact hn'
   exact g6 e hm
theorem run_buildSlice {t e:TypeId} {k bytes:Nat} {z:Value} {xs:List Operand} {es:List (List E)} {I:Ip} {w0:Base} {w:World} {a:Act} (hr:RelI I w0 σ a w) (ho:o.op=.buildSlice t xs.length (numbered 0 xs).toArray) (hel:Elems σ k xs es)
 (hu:P.underlying t=some (.slice e)) (hi:(P.info? e).map (fun i=>(i.zero,i.size,i.bytes))=some (some z,k,bytes)) (hb:Nat.ble (xs.length*k) 16777216=true) :
 ∃ cs,(execOp a.eval o).run P w=.ok (.value (.slice (some ⟨w.heap.size,0,none⟩) xs.length xs.length)) (w.alloc (.cells cs.toArray e))∧VEs I w es.flatten cs∧(∀ c∈cs,c.oneCell'=true)∧cs.length=xs.length*k∧es.length=xs.length∧∀ e∈es,e.length=k:=by
 obtain⟨i,hi1,hi2,hi3,hi4⟩:=info_parts hi
 have hb':=Nat.le_of_ble_eq_true hb
 obtain⟨cs,g1,g2⟩:=Elems.ok hr 0 [] ((Array.range (xs.length*k)).map ((if xs.length*k=0 then #[] else z.cells)[·%(if xs.length*k=0 then #[] else z.cells).size]!)).toList hel (by simp) (by simp)
 refine⟨cs,?_,g2⟩
 simp only [List.nil_append] at g1
 have hmap:((numbered 0 xs).toArray.map fun (p:Nat×Operand)=>(p.1,a.eval p.2))=((numbered 0 xs).map fun y=>(y.1,a.eval y.2)).toArray:=by simp
 have hz:∀ w:World,((if xs.length*i.size=0 then pure #[] else do pure (←zeroValue e).cells:Sem (Array Value))).run P w=.ok (if xs.length*k=0 then #[] else z.cells) w:=by
  intro w
  rw [hi3]
  by_cases h0:xs.length*k=0
  · rw [if_pos h0,if_pos h0];rfl
  rw [if_neg h0,if_neg h0];simp [zeroValue,typeInfo,hi1,hi2]
 have hne:¬ 16777216<xs.length*i.size:=by rw [hi3];omega
 subst hi3
 by_cases h0:xs.length*i.size=0
 · simp only [h0,if_true] at g1
   have e0:(Array.map (fun x=>((#[]:Array Value))[x%(#[]:Array Value).size]!) (Array.range 0)).toList.toArray=#[]:=by simp
   rw [e0] at g1
   have e1:Array.map (fun _=>(default:Value)) (Array.range 0)=#[]:=by simp [Array.range]
   simp [execOp,ho,Instr.buildSlice,run_underlying hu,sizeOf,typeInfo,hi1,h0,e1,g1,newRow]
 simp only [h0,if_false,Array.toArray_toList] at g1
 simp [execOp,ho,Instr.buildSlice,run_underlying hu,sizeOf,typeInfo,hi1,h0,hne,zeroValue,hi2,g1,newRow]
def chunk (k:Nat):Nat→List T→List (List T)
 | 0,_=>[]
 | n+1,ts=>ts.take k::chunk k n (ts.drop k)
theorem chunk_ok (k:Nat):∀ (n:Nat) (ts:List T),ts.length=n*k→(chunk k n ts).flatten=ts∧(chunk k n ts).length=n∧∀ row∈chunk k n ts,row.length=k
 | 0,ts,h=>by
  have:ts=[]:=List.eq_nil_of_length_eq_zero (by simpa using h)
  subst this
  exact⟨rfl,rfl,by simp [chunk]⟩
 | n+1,ts,h=>by
  rw [Nat.succ_mul] at h
  obtain⟨h1,h2,h3⟩:=chunk_ok k n (ts.drop k) (by simp;omega)
  refine⟨by rw [chunk,List.flatten_cons,h1,List.take_append_drop],by simp [chunk,h2],fun row hm=>?_⟩
  rw [chunk] at hm
  rcases List.mem_cons.1 hm with rfl|hm
  · simp;omega
  exact h3 row hm
theorem Cn {t e:TypeId} {k bytes:Nat} {z:Value} {xs:List Operand} {es:List (List E)} {σ':St} {ts:List T} (id:Nat) (ho:o.op=.buildSlice t xs.length (numbered 0 xs).toArray) (hg:o.guard=none) (hd:o.dst.all (fun d=>Nat.blt d σ.n)=true) (hel:Elems σ k xs es)
 (hu:P.underlying t=some (.slice e)) (hi:(P.info? e).map (fun i=>(i.zero,i.size,i.bytes))=some (some z,k,bytes)) (hb:Nat.ble (xs.length*k) 16777216=true) (hm:Nat.ble xs.length maxLen=true) (ha:absorb σ es.flatten=some (σ',ts)) (hf:σ'.has id=false) :
 Op1 P ops o σ ((σ'.add id (.row k (chunk k xs.length ts))).put o.dst (true,.a (.one (.rf id)))):=
 .eff hg fun w0 a w ⟨I,hr⟩=>by
  obtain⟨cs,hrun,g1,g2,g3,g4,g5⟩:=run_buildSlice hr ho hel hu hi hb
  obtain⟨I',G,h1,h2,h3,h4,_⟩:=RelI.absorb ha hr g1
  have hx:Ext w (w.alloc (.cells cs.toArray e)):=(Ext.refl w).alloc _
  have hgn:=heap_alloc_new w (.cells cs.toArray e)
  have hr':=h1.later hx
  have hlt:∀ b∈G,b≠w.heap.size:=fun b hb=>by have:=(h4 b hb).2.1;omega
  have htl:ts.length=xs.length*k:=by rw [←Cs.len h2];exact g3
  obtain⟨c1,c2,c3⟩:=chunk_ok k xs.length ts htl
  have hn':σ'.n=σ.n:=absorb_n ha
  have hr2:=hr'.addF (id:=id) (G:=w.heap.size::G) (u:=.slice (some ⟨w.heap.size,0,none⟩) xs.length xs.length) (b:=0) (r:=.row k (chunk k xs.length ts)) hf
   (List.nodup_cons.2 ⟨fun hm=>hlt _ hm rfl,h3⟩) (fun b hb=>by
    rcases List.mem_cons.1 hb with rfl|hb
    · exact⟨.inl hr.ext.size,by simp,⟨.inl _,e,hgn⟩,fun hz=>by have:=h1.old _ hz;omega,fun i hi=>by have:=(h1.lt i _ hi).1;omega⟩
    · exact (h4 b hb).mono hx) (by
    show C true _ _ _ _
    simp only [Ip.set,if_true]
    unfold C
    refine⟨_,_,_,rfl,c2,Nat.le_refl _,?_,.inr ⟨w.heap.size,0,G,rfl,rfl,by simp,fun _=>⟨rfl,_,e,hgn,by simpa using g3⟩,Rws.of (xs:=cs) c3 (by rw [c1];exact h2.mono hx) fun j u hj=>?_⟩⟩
    · exact Nat.le_of_ble_eq_true hm
    simp only [World.cell?,hgn];simpa using hj)
  exact⟨_,_,hrun,_,hr2.put (by rw [show (σ'.add id (.row k (chunk k xs.length ts))).n=σ'.n from rfl,hn'];exact hd) ⟨by simp [Ip.set],_,_,_,rfl⟩⟩
theorem Ch {t e:TypeId} {k bytes:Nat} {z:Value} {xs:List Operand} {es:List (List E)} {rows:List (List T)} (ho:o.op=.buildSlice t xs.length (numbered 0 xs).toArray) (hg:o.guard=none) (hd:o.dst.all (fun d=>Nat.blt d σ.n)=true) (hel:Elems σ k xs es)
 (hu:P.underlying t=some (.slice e)) (hi:(P.info? e).map (fun i=>(i.zero,i.size,i.bytes))=some (some z,k,bytes)) (hb:Nat.ble (xs.length*k) 16777216=true) (hm:Nat.ble xs.length maxLen=true) (hrows:es=rows.map fun r=>r.map .t) :
 Op1 P ops o σ (σ.put o.dst (true,.a (.one (.t (.sl k rows))))):=
 .eff hg fun w0 a w ⟨I,hr⟩=>by
  obtain⟨cs,hrun,g1,g2,g3,g4,g5⟩:=run_buildSlice hr ho hel hu hi hb
  have hx:Ext w (w.alloc (.cells cs.toArray e)):=(Ext.refl w).alloc _
  have hgn:=heap_alloc_new w (.cells cs.toArray e)
  have hr':=(hr.later hx).also (G:=[w.heap.size]) fun b hb=>by
   simp only [List.mem_singleton] at hb
   subst hb
   exact⟨by simp,fun i hi=>by have:=(hr.lt i _ hi).1;omega⟩
  have key:∀ (ts:List T) (cs:List Value),VEs I w (ts.map .t) cs→∃ G,Cs false w ts cs G∧∀ b∈G,I.Z b:=by
   intro ts
   induction ts with
   | nil=>intro cs h;exact⟨[],by unfold Cs;exact⟨h,rfl⟩,by simp⟩
   | cons t ts ih=>
    rintro cs ⟨c,cr,rfl,⟨G1,k1,k2⟩,k3⟩
    obtain⟨G2,k4,k5⟩:=ih cr k3
    refine⟨G1++G2,by unfold Cs;exact⟨c,cr,G1,G2,rfl,k1,k4,rfl⟩,fun b hb=>?_⟩
    rcases List.mem_append.1 hb with hb|hb
    · exact k2 b hb
    exact k5 b hb
  have efl:es.flatten=rows.flatten.map .t:=by rw [hrows,List.map_flatten]
  rw [efl] at g1
  obtain⟨G,q1,q2⟩:=key _ _ g1
  have hlen:rows.length=xs.length:=by rw [←g4,hrows,List.length_map]
  refine⟨_,_,hrun,_,hr'.put hd ⟨w.heap.size::G,?_,fun b hb=>?_⟩⟩
  · unfold C
    refine⟨_,_,_,rfl,hlen,Nat.le_refl _,Nat.le_of_ble_eq_true hm,.inr ⟨w.heap.size,0,G,rfl,rfl,by simp,(by simp),Rws.of (xs:=cs) (fun row hr=>?_) (q1.mono hx) fun j u hj=>?_⟩⟩
    · have:=g5 (row.map .t) (by rw [hrows];exact List.mem_map_of_mem hr)
      simpa using this
    simp only [World.cell?,hgn];simpa using hj
  rcases List.mem_cons.1 hb with rfl|hb
  · exact .inr (by simp)
  exact .inl (q2 b hb)
theorem beq_ff {i j:Nat} (h:i≠j):Nat.beq i j=false:=by
 cases hb:Nat.beq i j with
 | false=>rfl
 | true=>exact absurd (Nat.eq_of_beq_eq_true hb) h
theorem look_kill {id id2 k:Nat} {rows:List (List T)} (hne:id≠id2) (hs:look σ.res id=some (.row k rows)):look (σ.kill id2).res id=some (.row k rows):=by
 have key:∀ (l:List (Nat×R)),look l id=some (.row k rows)→look (delR (l.map fun x=>(x.1,x.2.pur id2)) id2) id=some (.row k rows):=by
  intro l
  induction l with
  | nil=>intro h;cases h
  | cons y l ih=>
   obtain⟨j,y⟩:=y
   intro h'
   rw [look_cons] at h'
   rw [List.map_cons,delR]
   by_cases e:j=id2
   · rw [if_neg (fun e'=>hne (e'.symm.trans e))] at h'
     rw [show Nat.beq (j,y).1 id2=true by show Nat.beq j id2=true;rw [e];exact Nat.beq_refl _]
     exact ih h'
   rw [show Nat.beq (j,y).1 id2=false from beq_ff e]
   show look ((j,R.pur id2 y)::_) id=_
   rw [look_cons]
   split at h'
   · rename_i e2;cases h';rw [if_pos e2];rfl
   rename_i e2;rw [if_neg e2];exact ih h'
 exact key _ hs
theorem C9 {t e:TypeId} {x y:Operand} {id id2 k:Nat} {rows rows2:List (List T)} {z:Value} {bytes:Nat} (ho:o.op=.call { callee:=.builtin .append,args:=#[x,y],argTypes:=#[t,t] }) (hg:o.guard=none) (hd:o.dst.all (fun d=>Nat.blt d σ.n)=true)
 (hx:Get σ true x (.one (.rf id))) (hs:look σ.res id=some (.row k rows)) (hy:Get σ true y (.one (.rf id2))) (hs2:look σ.res id2=some (.row k rows2)) (hne:Nat.beq id id2=false) (ht:P.underlying t=some (.slice e)) (hi:(P.info? e).map (fun i=>(i.zero,i.size,i.bytes))=some (some z,k,bytes)) (hzs:z.cells.size=k)
 (hb:(rows.length+rows2.length)*bytes≤140737488355328) (hm:rows.length+rows2.length≤maxLen) :
 Op1 P ops o σ (((σ.kill id2).chg id (.row k (rows++rows2))).put o.dst (true,.a (.one (.rf id)))):=
 .eff hg fun w0 a w ⟨I,hr⟩=>by
  have hne':id≠id2:=fun e=>by rw [e,Nat.beq_refl] at hne;cases hne
  have hv1:VE I w (.rf id) (a.eval x):=hx.va hr rfl
  have hv2:VE I w (.rf id2) (a.eval y):=hy.va hr rfl
  have hC:C true w (.sl k rows) (I.hd id) (I.F id):=hr.res id _ hs
  have hC2:C true w (.sl k rows2) (I.hd id2) (I.F id2):=hr.res id2 _ hs2
  obtain⟨v',w',hrun,h⟩:=run_append_T (ty:=o.type) w ht hi hzs hC hC2 hb hm
  obtain⟨k1,k2,k3⟩:=hr.kill hs2
  have hF:(I.set id2 [] (I.hd id2) (I.B id2)).F id=I.F id:=by simp [Ip.set,hne']
  have hhd:(I.set id2 [] (I.hd id2) (I.B id2)).hd id=I.hd id:=by simp [Ip.set,hne']
  have hs':=look_kill hne' hs
  refine⟨v',w',by simp [execOp,ho,resolve,invoke,builtin,hv1.1,hv2.1,hrun],?_⟩
  rcases h with ⟨rfl,rfl,rfl⟩|⟨g,cap,cur,e',G,rfl,h1,h2,h3,h4,h5,h6,h7,xs,news,h8,h9,h10,h11,h12⟩
  · have:=k1.chg hs' (Chg.refl _ _) (G:=I.F id) (u:=I.hd id) (r:=.row k (rows++[])) ⟨(hr.own id _ hs).1,fun b hb=>⟨((hr.own id _ hs).2 b hb).1,(hr.lt id b hb).1,((hr.own id _ hs).2 b hb).2,.inl (by rw [hF];exact hb)⟩⟩ (by show C true _ _ _ _;simpa [Ip.set] using hC)
    exact⟨_,this.put hd ⟨by simp [Ip.set],hv1.1▸hv1.2⟩⟩
  have h13:∀ b∈(I.F id2).drop 1,b∈I.F id2:=fun b hb=>List.mem_of_mem_drop hb
  have:=k1.append hs' h1 h2 h3 h4 h5 (by rw [hF];exact h6) (by rw [hF];exact h7) h8 h9 h10 h11 h12 (fun b hb=>k2 b (h13 b hb)) ((hr.own id2 _ hs2).1.sublist (List.drop_sublist _ _))
  exact⟨_,this.put hd ⟨by simp [Ip.set],_,_,_,rfl⟩⟩
end
end Go.Q
namespace Go.Q
open Go.RowKit
section
variable {P:Program} {ops:Array Oper} {o:Oper} {σ:St} {q:Bool}
def E.puv (id:Nat):E→E
 | .vw i x=>bif Nat.beq i id then .no else .vw i x
 | .sb i k p q=>bif Nat.beq i id then .no else .sb i k p q
 | e=>e
def A.puv (id:Nat):A→A
 | .one e=>.one (e.puv id)
 | .agg l=>.agg (l.map (E.puv id))
def S.puv (id:Nat):S→S
 | .a x=>.a (x.puv id)
 | .tup l=>.tup (l.map (A.puv id))
def R.puv (id:Nat):R→R
 | .row k rows=>.row k rows
 | .box cs=>.box (cs.map (E.puv id))
 | .hdr j x=>.hdr j x
 | .blk j b=>.blk j b
 | .kept K=>.kept K
 | .opq=>.opq
 | .cur g=>.cur g
 | .mp b f=>.mp b f
def St.upd (σ:St) (id:Nat) (r:R):St:={ σ with slots:=σ.slots.map (fun x=>(x.1,(x.2.1,x.2.2.puv id))),res:=setR (σ.res.map fun x=>(x.1,x.2.puv id)) id r }
theorem VE.puv {I:Ip} {w w':World} {id:Nat} {G:List Nat} (hc:Chg w w' (I.F id)) (hZ:∀ b,I.Z b→b∉I.F id) (hv:∀ i,i≠id→∀ b∈I.F i,b∉I.F id) {e:E} {c:Value} (h:VE I w e c) :
 VE (I.set id G (I.hd id) (I.B id)) w' (e.puv id) c:=by
 have hhd:∀ i,(I.set id G (I.hd id) (I.B id)).hd i=I.hd i:=fun i=>by simp only [Ip.set];split;(rename_i e;rw [e]);rfl
 have hB:∀ i,(I.set id G (I.hd id) (I.B id)).B i=I.B i:=fun i=>by simp only [Ip.set];split;(rename_i e;rw [e]);rfl
 cases e with
 | t x=>obtain⟨G,h1,h2⟩:=h;exact⟨G,h1.congr fun b hb=>hc.block b (h1.lt b hb) (hZ b (h2 b hb)),h2⟩
 | no=>trivial
 | rf i=>simp only [E.puv,VE,hhd] at h ⊢;exact h
 | tl i k j=>simp only [E.puv,VE,hhd] at h ⊢;exact h
 | pf i k j=>simp only [E.puv,VE,hhd] at h ⊢;exact h
 | vw i x=>
  simp only [E.puv]
  cases e:Nat.beq i id with
  | true=>trivial
  | false=>
   obtain⟨G',h1,h2⟩:=h
   simp only [cond_false,VE,Ip.set,if_neg (beq_ne e)]
   exact⟨G',h1.congr fun b hb=>hc.block b (h1.lt b hb) (hv i (beq_ne e) b (h2 b hb)),h2⟩
 | pr i k p q=>simp only [E.puv,VE,hhd] at h ⊢;exact h
 | sb i k p q=>
  simp only [E.puv]
  cases e:Nat.beq i id with
  | true=>trivial
  | false=>
   obtain⟨g,n,m,h1,h2,h3,h4⟩:=h
   have hb':=hc.block g h3 (hv i (beq_ne e) g h2)
   simp only [cond_false,VE,Ip.set,if_neg (beq_ne e)]
   exact⟨g,n,m,h1,h2,heap_lt hb' h3,(World.cell?_of_block (a:=⟨g,_,none⟩) hb').trans h4⟩
 | pp i o=>simp only [E.puv,VE,hB] at h ⊢;exact h
theorem VEs.puv {I:Ip} {w w':World} {id:Nat} {G:List Nat} (hc:Chg w w' (I.F id)) (hZ:∀ b,I.Z b→b∉I.F id) (hv:∀ i,i≠id→∀ b∈I.F i,b∉I.F id):∀ {l:List E} {cs:List Value},VEs I w l cs→
 VEs (I.set id G (I.hd id) (I.B id)) w' (l.map (E.puv id)) cs
 | [],_,h=>h
 | _::_,_,⟨c,cr,h1,h2,h3⟩=>⟨c,cr,h1,h2.puv hc hZ hv,h3.puv hc hZ hv⟩
theorem VA.puv {I:Ip} {w w':World} {id:Nat} {G:List Nat} (hc:Chg w w' (I.F id)) (hZ:∀ b,I.Z b→b∉I.F id) (hv:∀ i,i≠id→∀ b∈I.F i,b∉I.F id) {x:A} {v:Value} (h:VA I w x v) :
 VA (I.set id G (I.hd id) (I.B id)) w' (x.puv id) v:=by
 cases x with
 | one e=>exact VE.puv hc hZ hv h
 | agg l=>obtain⟨cs,h1,h2⟩:=h;exact⟨cs,h1,h2.puv hc hZ hv⟩
theorem VAs.puv {I:Ip} {w w':World} {id:Nat} {G:List Nat} (hc:Chg w w' (I.F id)) (hZ:∀ b,I.Z b→b∉I.F id) (hv:∀ i,i≠id→∀ b∈I.F i,b∉I.F id):∀ {l:List A} {cs:List Value},VAs I w l cs→
 VAs (I.set id G (I.hd id) (I.B id)) w' (l.map (A.puv id)) cs
 | [],_,h=>h
 | _::_,_,⟨c,cr,h1,h2,h3⟩=>⟨c,cr,h1,h2.puv hc hZ hv,h3.puv hc hZ hv⟩
theorem VS.puv {I:Ip} {w w':World} {id:Nat} {G:List Nat} (hc:Chg w w' (I.F id)) (hZ:∀ b,I.Z b→b∉I.F id) (hv:∀ i,i≠id→∀ b∈I.F i,b∉I.F id) {x:Bool×S} {v:Value} (h:VS I w x v) :
 VS (I.set id G (I.hd id) (I.B id)) w' (x.1,x.2.puv id) v:=by
 obtain⟨p,x⟩:=x
 cases p
 · exact h
 cases x with
 | a x=>exact VA.puv hc hZ hv h
 | tup l=>obtain⟨vs,h1,h2⟩:=h;exact⟨vs,h1,h2.puv hc hZ hv⟩
theorem RelI.upd {I:Ip} {w0:Base} {w w':World} {σ:St} {a:Act} (h:RelI I w0 σ a w) {id:Nat} {r0:R} (h0:look σ.res id=some r0) (hc:Chg w w' (I.F id)) {G:List Nat} {r:R}
 (hG:G.Nodup∧∀ b∈G,w0.own b∧b<w'.heap.size∧Thaw w' b∧(b∈I.F id∨w.heap.size≤b∨Free I w0 w b)) (hr:RR (I.set id G (I.hd id) (I.B id)) w' id r):RelI (I.set id G (I.hd id) (I.B id)) w0 (σ.upd id r) a w':=by
 have base:=h.chg h0 hc hG hr
 have hZ:∀ b,I.Z b→b∉I.F id:=fun b hz hb=>(h.lt id b hb).2 hz
 have hv:∀ i,i≠id→∀ b∈I.F i,b∉I.F id:=fun i hi=>h.apart i id hi
 have key:∀ i r',look (σ.upd id r).res i=some r'→(i=id∧r'=r)∨(i≠id∧∃ y,look σ.res i=some y∧r'=y.puv id):=by
  intro i r' hi
  rcases look_setR _ _ _ _ _ hi with ⟨h1,h2,_⟩|⟨h1,h2⟩
  · exact .inl ⟨h1,h2⟩
  refine .inr ⟨h1,?_⟩
  rw [look_map] at h2
  obtain⟨y,hy,e⟩:=Option.map_eq_some_iff.1 h2
  exact⟨y,hy,e.symm⟩
 have Foth:∀ i,i≠id→(I.set id G (I.hd id) (I.B id)).F i=I.F i:=fun i hi=>by simp [Ip.set,hi]
 have Fid:(I.set id G (I.hd id) (I.B id)).F id=G:=by simp [Ip.set]
 refine⟨base.ext,base.defers,h.size,fun i x hi=>?_,fun i r' hi=>?_,base.old,base.lt,fun i r' hi=>?_,base.apart⟩
 · have hi':look (σ.slots.map fun x=>(x.1,(x.2.1,x.2.2.puv id))) i=some x:=hi
   rw [look_map (fun x:Bool×S=>(x.1,x.2.puv id))] at hi'
   obtain⟨y,hy,rfl⟩:=Option.map_eq_some_iff.1 hi'
   exact (h.slots i y hy).puv hc hZ hv
 · rcases key i r' hi with ⟨rfl,rfl⟩|⟨e,y,hy,rfl⟩
   · exact hr
   have:=h.res i y hy
   cases y with
   | row k rows=>
    have this:C true w (.sl k rows) (I.hd i) (I.F i):=this
    show C true w' (.sl k rows) _ _
    simp only [Ip.set,if_neg e]
    exact this.congr fun b hb=>hc.block b (this.lt b hb) (hv i e b hb)
   | box cs=>
    obtain⟨h1,vs,t,h2,h3⟩:=this
    refine⟨by simpa only [Ip.set,if_neg e] using h1,vs,t,?_,h3.puv hc hZ hv⟩
    simp only [Ip.set,if_neg e]
    exact (hc.block _ (Array.getElem?_eq_some_iff.1 h2).1 (hv i e _ (by rw [h1];simp))).trans h2
   | opq=>trivial
   | cur g=>
    have this:I.F i=[g.1]∧I.B i=g.1∧CuB I.Z w g:=this
    refine⟨by simpa only [Ip.set,if_neg e] using this.1,by simpa only [Ip.set,if_neg e] using this.2.1,?_⟩
    exact this.2.2.congr (hc.block _ this.2.2.lt (hv i e _ (by rw [this.1];simp))) fun b hb hz=>⟨hz,hc.block b hb (hZ b hz)⟩
   | mp b f=>
    have this:I.F i=[b]∧MapB w b f:=this
    exact⟨by simpa only [Ip.set,if_neg e] using this.1,this.2.congr (hc.block _ this.2.lt (hv i e _ (by rw [this.1];simp)))⟩
   | kept K=>exact⟨by simp only [Ip.set,if_neg e];exact this.1,fun x hx=>⟨(hc.block x.1 (h.old _ (this.2 x hx).2) (hZ _ (this.2 x hx).2)).trans (this.2 x hx).1,(this.2 x hx).2⟩⟩
   | hdr j x=>
    refine⟨by simp only [Ip.set,if_neg e];exact this.1,fun k hk=>?_⟩
    have:=this.2 k hk
    simp only [Ip.set]
    split
    · rename_i e';rw [←e'];exact this
    exact this
   | blk j b=>
    refine⟨by simp only [Ip.set,if_neg e];exact this.1,fun k hk=>?_⟩
    have:=this.2 k hk
    simp only [Ip.set]
    split
    · rename_i e';rw [←e'];exact this
    exact this
 rcases key i r' hi with ⟨rfl,rfl⟩|⟨e,y,hy,rfl⟩
 · rw [Fid];exact⟨hG.1,fun b hb=>⟨(hG.2 b hb).1,(hG.2 b hb).2.2.1⟩⟩
 rw [Foth i e]
 exact⟨(h.own i y hy).1,fun b hb=>⟨((h.own i y hy).2 b hb).1,((h.own i y hy).2 b hb).2.chg hc (hv i e b hb)⟩⟩
theorem set_split {α:Type} {l:List α} {i:Nat} {x:α} (y:α) (h:l[i]?=some x):l=l.take i++x::l.drop (i+1)∧l.set i y=l.take i++y::l.drop (i+1):=by
 obtain⟨hi,rfl⟩:=List.getElem?_eq_some_iff.1 h
 refine⟨?_,List.set_eq_take_append_cons_drop .. |>.trans (if_pos hi)⟩
 rw [←List.drop_eq_getElem_cons hi,List.take_append_drop]
theorem R_store_pr {id k i p:Nat} {t:TypeId} {x y:Operand} {rows:List (List T)} {row:List T} {A0:A} {σ':St} {ts:List T} {ag:Bool} {n:Nat} (ho:o.op=.store t x y) (hg:o.guard=none) (hdn:o.dst=none) (hy:Get σ true y A0) (ha:absorb σ (cellsA A0)=some (σ',ts))
 (hx:Get σ' true x (.one (.pr id k i p))) (hs:look σ'.res id=some (.row k rows)) (hi:rows[i]?=some row) (ht:tyB P t ag n=true) (he:(cellsA A0).all E.cell1=true) (hl:Nat.beq (cellsA A0).length n=true) (hn:Nat.ble (p+n) row.length=true) (hold:((row.drop p).take n).all T.isV=true) :
 Op1 P ops o σ (σ'.upd id (.row k (rows.set i (row.take p++ts++row.drop (p+n))))):=
 .skip hg fun w0 a w ⟨I,hr⟩=>by
  obtain⟨ds,hd1,hd2,hd3⟩:=(hy.va hr rfl).cells he
  have hdl:=VEs_len hd2
  obtain⟨I',G,r1,r2,r3,r4,_⟩:=RelI.absorb ha hr hd2
  obtain⟨g,n',m',hg1,hv⟩:VE I' w (.pr id k i p) (a.eval x):=hx.va r1 rfl
  have hC:C true w (.sl k rows) _ _:=r1.res id _ hs
  have own:=r1.own id _ hs
  have hlt:=r1.lt id
  simp only [C] at hC
  obtain⟨a0,len,cap,g1,g2,g3,g4,g5⟩:=hC
  have hlti:i<rows.length:=(List.getElem?_eq_some_iff.1 hi).1
  have hn':=Nat.le_of_ble_eq_true hn
  have hl':=Nat.eq_of_beq_eq_true hl
  rcases g5 with ⟨g5,_⟩|⟨b,off,Gr,rfl,hF,g6,g7,g8⟩
  · omega
  obtain⟨rfl,cur,e,hcur,hcs⟩:=g7 trivial
  rw [hg1] at g1
  cases g1
  rw [hF] at own hlt
  obtain⟨u1,xs,u2,u3,u4⟩:=g8.flat
  simp only [Nat.zero_add] at u4
  obtain⟨s1,s2⟩:=set_split (row.take p++ts++row.drop (p+n)) hi
  have hrow:row=row.take p++((row.drop p).take n++row.drop (p+n)):=by
   rw [←List.drop_drop,List.take_append_drop,List.take_append_drop]
  have hrk:row.length=k:=u1 row (List.mem_of_getElem? hi)
  have e1:rows.flatten=((rows.take i).flatten++row.take p)++((row.drop p).take n++(row.drop (p+n)++(rows.drop (i+1)).flatten)):=by
   conv=>lhs;rw [s1,hrow]
   simp
  rw [e1] at u2
  obtain⟨x1,x23,F1,F23,rfl,rfl,v1,v2,v3⟩:=u2.split
  obtain⟨x2,x3,F2,F3,rfl,rfl,v4,v5,v6⟩:=v2.split
  obtain⟨_,rfl⟩:=Cs_flat (o':=true) (w':=w) hold v4
  have hfl:((rows.take i).flatten).length=i*k:=by
   have key:∀ (l:List (List T)),(∀ r∈l,r.length=k)→l.flatten.length=l.length*k:=by
    intro l
    induction l with
    | nil=>intro _;simp
    | cons r l ih=>intro h;rw [List.flatten_cons,List.length_append,ih fun r hr=>h r (by simp [hr]),h r (by simp),List.length_cons,Nat.succ_mul];omega
   rw [key _ fun r hr=>u1 r (List.mem_of_mem_take hr),List.length_take,Nat.min_eq_left (Nat.le_of_lt hlti)]
  have lx1:x1.length=i*k+p:=by rw [v3,List.length_append,hfl,List.length_take];omega
  have lx2:x2.length=n:=by rw [v6,List.length_take,List.length_drop];omega
  have hdn':ds.length=n:=hdl.trans hl'
  have htot:(i*k+p)+n+x3.length=rows.length*k:=by
   have:=u3
   simp only [List.length_append] at this
   omega
  have hcurl:cur.toList=x1++(x2++x3)++cur.toList.drop (x1++(x2++x3)).length:=by
   apply List.ext_getElem?;intro j
   by_cases hj:j<(x1++(x2++x3)).length
   · have:=u4 j _ (List.getElem?_eq_getElem hj)
     simp only [World.cell?,hcur] at this
     rw [List.getElem?_append_left hj,List.getElem?_eq_getElem hj]
     simpa using this
   rw [List.getElem?_append_right (by omega),List.getElem?_drop]
   congr 1
   omega
  have hst:=run_storeCells_at P g (i*k+p) e ds 0 cur w hcur (by rw [hcs];have:=Nat.mul_le_mul_right k g3;rw [←g2] at this;simp;omega) hd3
  simp only [Nat.add_zero] at hst
  have hnew:cur.toList.take (i*k+p)++ds++cur.toList.drop (i*k+p+ds.length)=x1++(ds++x3)++cur.toList.drop (x1++(x2++x3)).length:=by
   rw [hcurl]
   generalize cur.toList.drop (x1++(x2++x3)).length=tl
   have t1:(x1++(x2++x3)++tl).take (i*k+p)=x1:=by rw [List.append_assoc,←lx1,List.take_left' rfl]
   have t2:(x1++(x2++x3)++tl).drop (i*k+p+ds.length)=x3++tl:=by
    rw [←List.drop_drop,List.append_assoc,←lx1,List.drop_left' rfl,List.append_assoc,hdn',←lx2,List.drop_left' rfl]
   rw [t1,t2]
   have t3:(x1++(x2++x3)++tl).drop (x1++(x2++x3)).length=tl:=List.drop_left' rfl
   simp
  rw [hnew] at hst
  generalize htl:cur.toList.drop (x1++(x2++x3)).length=tl at hst
  have hb:g∈I'.F id:=by rw [hF];simp
  have hgG:∀ c∈G,c≠g:=fun c hc e=>(r4 c hc).2.2.2.2 id (e▸hb)
  have hgF:∀ c∈F1++([]++F3),c≠g:=fun c hc e=>(List.nodup_cons.1 own.1).1 (e▸hc)
  have hch:Chg w (w.setRow g (x1++(ds++x3)++tl).toArray) (I'.F id):=
   ⟨rfl,rfl,rfl,by simp [World.setRow],fun c _ hk=>setRow_other w g c _ (fun e=>hk (by rw [hF,e];simp))⟩
  have hset:=setRow_heap w g cur (x1++(ds++x3)++tl).toArray e (0,0) hcur
  have hoth:∀ c,c≠g→(w.setRow g (x1++(ds++x3)++tl).toArray).heap[c]?=w.heap[c]?:=fun c hc=>setRow_other w g c _ hc
  have hsz:(w.setRow g (x1++(ds++x3)++tl).toArray).heap.size=w.heap.size:=by simp [World.setRow]
  refine⟨w.setRow g (x1++(ds++x3)++tl).toArray,?_,I'.set id (g::(F1++(G++F3))) (I'.hd id) (I'.B id),?_⟩
  · have hsz':(a.eval y).cells.size=n:=by rw [hd1];simpa using hdn'
    simp [execOp,ho,hv,Instr.storeAt,Instr.sureAddr,storeVar,tyB_size ht,hd1,hst]
    omega
  rw [hdn]
  refine r1.upd hs hch ⟨List.nodup_cons.2 ⟨fun hm=>?_,?_⟩,fun c hc=>?_⟩ ?_
  · rcases List.mem_append.1 hm with hm|hm
    · exact hgF g (by simp [hm]) rfl
    rcases List.mem_append.1 hm with hm|hm
    · exact hgG g hm rfl
    exact hgF g (by simp [hm]) rfl
  · have hnd:=(List.nodup_cons.1 own.1).2
    rw [List.nil_append] at hnd
    obtain⟨d1,d2,d3⟩:=List.nodup_append.1 hnd
    have hGF:∀ c∈G,c∉F1∧c∉F3:=fun c hc=>⟨fun h=>(r4 c hc).2.2.2.2 id (by rw [hF];simp [h]),fun h=>(r4 c hc).2.2.2.2 id (by rw [hF];simp [h])⟩
    refine List.nodup_append.2 ⟨d1,List.nodup_append.2 ⟨r3,d2,fun c hc d hd e=>(hGF c hc).2 (e▸hd)⟩,fun c hc d hd e=>?_⟩
    rcases List.mem_append.1 hd with hd|hd
    · exact (hGF d hd).1 (e▸hc)
    exact d3 c hc d hd e
  · by_cases hcg:c=g
    · subst hcg
      exact⟨(own.2 c (by simp)).1,by rw [hsz];exact g6,⟨.inl _,e,hset⟩,.inl hb⟩
    have hold':c∈F1++([]++F3)→w0.own c∧c<(w.setRow g (x1++(ds++x3)++tl).toArray).heap.size∧Thaw (w.setRow g (x1++(ds++x3)++tl).toArray) c∧(c∈I'.F id∨w.heap.size≤c∨Free I' w0 w c):=fun hm=>by
     obtain⟨o1,cc,ee,o2⟩:=own.2 c (List.mem_cons_of_mem _ hm)
     exact⟨o1,by rw [hsz];exact (hlt c (List.mem_cons_of_mem _ hm)).1,⟨cc,ee,(hoth c hcg).trans o2⟩,.inl (by rw [hF];exact List.mem_cons_of_mem _ hm)⟩
    rcases List.mem_cons.1 hc with hc|hc
    · exact absurd hc hcg
    rcases List.mem_append.1 hc with hc|hc
    · exact hold' (by simp [hc])
    rcases List.mem_append.1 hc with hc|hc
    · obtain⟨f1,f2,⟨cc,ee,f3⟩,f4⟩:=r4 c hc
      exact⟨f1,by rw [hsz];exact f2,⟨cc,ee,(hoth c hcg).trans f3⟩,.inr (.inr ⟨f1,f2,⟨cc,ee,f3⟩,f4⟩)⟩
    exact hold' (by simp [hc])
  show C true _ _ _ _
  simp only [Ip.set,if_true]
  unfold C
  refine⟨_,_,_,hg1,by simpa using g2,g3,g4,.inr ⟨g,0,F1++(G++F3),rfl,rfl,by rw [hsz];exact g6,fun _=>⟨rfl,_,e,hset,?_⟩,Rws.of (xs:=x1++(ds++x3)) (fun r hm=>?_) ?_ fun j u hj=>?_⟩⟩
  · rw [←hcs]
    have:=congrArg List.length hcurl
    rw [htl] at this
    simp only [List.length_append,Array.length_toList] at this
    simp only [List.size_toArray,List.length_append]
    omega
  · rcases List.mem_or_eq_of_mem_set hm with hm|rfl
    · exact u1 r hm
    have:=Cs.len r2
    simp only [List.length_append,List.length_take,List.length_drop]
    omega
  · rw [s2]
    have ef:(rows.take i++(row.take p++ts++row.drop (p+n))::rows.drop (i+1)).flatten=((rows.take i).flatten++row.take p)++(ts++(row.drop (p+n)++(rows.drop (i+1)).flatten)):=by simp
    rw [ef]
    exact (v1.congr fun c hc=>hoth c (hgF c (by simp [hc]))).append ((r2.congr fun c hc=>hoth c (hgG c hc)).append (v5.congr fun c hc=>hoth c (hgF c (by simp [hc]))))
  simp only [World.cell?,hset,Nat.zero_add]
  simp only [Option.isSome_none,Bool.false_eq_true,if_false,List.getElem?_toArray]
  rw [List.getElem?_append_left (List.getElem?_eq_some_iff.1 hj).1]
  exact hj
theorem R_shl1 {t t':TypeId} {x y:Operand} {n:Int} {m:Int} (ho:o.op=.binOp .shl t x y t') (hg:Grd ops o σ q) (hd:o.dst.all (fun d=>Nat.blt d σ.n)=true) (hx:Get σ q x (.one (.t (.v (.int .i64 n))))) (hy:Get σ q y (.one (.t (.v (.int .i64 m)))))
 (hb:q=true→0≤m∧m≤63∧0≤n∧n*2^m.toNat≤9223372036854775807):Op1 P ops o σ (σ.put o.dst (q,.a (.one (.t (.v (.int .i64 (n*2^m.toNat))))))):=
 Dm ho hg hd hx hy guard_int (h:=fun hq w=>by
  obtain⟨h1,h2,h3,h4⟩:=hb hq
  have e1:min m.toNat IntKind.i64.bits=m.toNat:=by simp [IntKind.bits];omega
  have h5:0≤n*2^m.toNat:=Int.mul_nonneg h3 (Int.pow_nonneg (by omega))
  simp only [binOp,Op.shift,e1]
  rw [if_neg (by omega),wrap_in ⟨by omega,h4⟩]
  rfl)
theorem R_or_int {t t':TypeId} {x y:Operand} {n m:Int} (ho:o.op=.binOp .or t x y t') (hg:Grd ops o σ q) (hd:o.dst.all (fun d=>Nat.blt d σ.n)=true) (hx:Get σ q x (.one (.t (.v (.int .i64 n))))) (hy:Get σ q y (.one (.t (.v (.int .i64 m)))))
 (hb:q=true→0≤n∧n≤9223372036854775807∧0≤m∧m≤9223372036854775807):Op1 P ops o σ (σ.put o.dst (q,.a (.one (.t (.v (.int .i64 ((n.toNat|||m.toNat:Nat):Int))))))):=
 Dm ho hg hd hx hy guard_int (h:=fun hq w=>by
  obtain⟨h1,h2,h3,h4⟩:=hb hq
  have b1:n.toNat<2^63:=by omega
  have b2:m.toNat<2^63:=by omega
  have b3:=Nat.or_lt_two_pow b1 b2
  have e1:(BitVec.ofInt 64 n|||BitVec.ofInt 64 m).toNat=(n.toNat|||m.toNat):=by
   rw [BitVec.toNat_or,BitVec.toNat_ofInt,BitVec.toNat_ofInt]
   congr 1
   · omega
   omega
  simp only [binOp,Op.intBits]
  simp only [ne_eq,not_true_eq_false,if_false]
  show (pure (Value.int .i64 (IntKind.i64.wrap ((BitVec.ofInt 64 n|||BitVec.ofInt 64 m).toNat:Int))):Sem Value).run P w=_
  rw [e1,wrap_in ⟨by omega,by omega⟩]
  rfl)
end
end Go.Q
namespace Go.Q
section
variable {P:Program} {ops:Array Oper} {o:Oper} {σ':St} {w0:Base} {Q:Exit→St→Prop} {n:Nat} {sl:List (Nat×(Bool×S))} {rs:List (Nat×R)} {l:List Oper}
theorem all_fresh {σ:St} {rl:List (Nat×R)} (h:∀ z∈rl,σ.has z.1=false):(rl.all fun x=>!σ.has x.1)=true:=by
 rw [List.all_eq_true]
 intro x hx
 rw [h x hx]
 rfl
theorem Dd {σ:St} {q p:Bool} {t:Nat} {x:List A} (ho:o.op=.move (.tmp t)) (hg:Grd ops o σ q) (hd:o.dst.all (fun d=>Nat.blt d σ.n)=true) (hx:look σ.slots t=some (p,.tup x)) (hp:q=true→p=true):Op1 P ops o σ (σ.put o.dst (q,.tup x)):=
 .val hg hd fun I w0 a w hr hq=>by
  have:=hr.slots _ _ hx
  rw [hp hq] at this
  exact⟨a.eval (.tmp t),by simp [execOp,ho],this⟩
theorem Bs {d id:Nat} {r:R} {x:Bool×S} (ho:Op1 P ops o ⟨n,sl,rs⟩ ((σ'.add id r).put o.dst x)) (hd:o.dst=some d) (h:AWl P w0 ops Q l ⟨σ'.n,(d,x)::σ'.slots,(id,r)::σ'.res⟩):AWl P w0 ops Q (o::l) ⟨n,sl,rs⟩:=
 AWl.op ho (by rw [hd];exact h)
def puvS (id:Nat) (sl:List (Nat×(Bool×S))):List (Nat×(Bool×S)):=sl.map fun x=>(x.1,(x.2.1,x.2.2.puv id))
def updR (id:Nat) (r:R) (rs:List (Nat×R)):List (Nat×R):=setR (rs.map fun x=>(x.1,x.2.puv id)) id r
theorem AWl.absupd {id:Nat} {r:R} (ho:Op1 P ops o ⟨n,sl,rs⟩ (σ'.upd id r)) (h:AWl P w0 ops Q l ⟨σ'.n,puvS id σ'.slots,updR id r σ'.res⟩):AWl P w0 ops Q (o::l) ⟨n,sl,rs⟩:=AWl.op ho h
theorem C1 {d id:Nat} {r:R} {x:Bool×S} (ho:Op1 P ops o ⟨n,sl,rs⟩ ((σ'.chg id r).put o.dst x)) (hd:o.dst=some d) (h:AWl P w0 ops Q l ⟨σ'.n,(d,x)::purS id σ'.slots,chgR id r σ'.res⟩):AWl P w0 ops Q (o::l) ⟨n,sl,rs⟩:=
 AWl.op ho (by rw [hd];exact h)
end
end Go.Q
namespace Go.Q
open Go.RowKit
def E.nv (id:Nat):E→Bool
 | .vw i _=>!(Nat.beq i id)
 | .sb i _ _ _=>!(Nat.beq i id)
 | _=>true
def A.nv (id:Nat):A→Bool
 | .one e=>e.nv id
 | .agg l=>l.all (E.nv id)
def S.nv (id:Nat):S→Bool
 | .a x=>x.nv id
 | .tup l=>l.all (A.nv id)
def R.nv (id:Nat):R→Bool
 | .row _ _=>true
 | .box cs=>cs.all (E.nv id)
 | .hdr _ _=>true
 | .blk _ _=>true
 | .kept _=>true
 | .opq=>true
 | .cur _=>true
 | .mp _ _=>true
def nvB (id:Nat) (sl:List (Nat×(Bool×S))) (rs:List (Nat×R)):Bool:=sl.all (fun x=>x.2.2.nv id)&&rs.all (fun x=>x.2.nv id)
theorem E.puv_nv {id:Nat} {e:E} (h:e.nv id=true):e.puv id=e:=by
 cases e with
 | vw i x=>simp only [E.nv,Bool.not_eq_true'] at h;simp only [E.puv,h,cond_false]
 | sb i k p q=>simp only [E.nv,Bool.not_eq_true'] at h;simp only [E.puv,h,cond_false]
 | _=>rfl
theorem map_same {α:Type} {f:α→α}:∀ {l:List α},(∀ x∈l,f x=x)→l.map f=l
 | [],_=>rfl
 | x::l,h=>by rw [List.map_cons,h x (by simp),map_same fun y hy=>h y (by simp [hy])]
theorem A.puv_nv {id:Nat} {x:A} (h:x.nv id=true):x.puv id=x:=by
 cases x with
 | one e=>simp only [A.puv,E.puv_nv h]
 | agg l=>simp only [A.puv];rw [map_same fun e he=>E.puv_nv (List.all_eq_true.1 h e he)]
theorem S.puv_nv {id:Nat} {x:S} (h:x.nv id=true):x.puv id=x:=by
 cases x with
 | a x=>simp only [S.puv,A.puv_nv h]
 | tup l=>simp only [S.puv];rw [map_same fun e he=>A.puv_nv (List.all_eq_true.1 h e he)]
theorem R.puv_nv {id:Nat} {x:R} (h:x.nv id=true):x.puv id=x:=by
 cases x with
 | row k rows=>rfl
 | box cs=>simp only [R.puv];rw [map_same fun e he=>E.puv_nv (List.all_eq_true.1 h e he)]
 | hdr j x=>rfl
 | blk j b=>rfl
 | kept K=>rfl
 | opq=>rfl
 | cur g=>rfl
 | mp b f=>rfl
def overL:List E→List E→List E
 | [],cs=>cs
 | e::l,cs=>e::overL l (cs.drop 1)
def setC:List E→Nat→List E→List E
 | cs,0,l=>overL l cs
 | [],_+1,l=>l
 | c::cs,p+1,l=>c::setC cs p l
theorem overL_eq:∀ (l cs:List E),overL l cs=l++cs.drop l.length
 | [],cs=>rfl
 | e::l,cs=>by rw [overL,overL_eq l];simp
theorem setC_eq:∀ (cs:List E) (p:Nat) (l:List E),p≤cs.length→setC cs p l=setL cs p l
 | cs,0,l,_=>by unfold setC;rw [overL_eq];simp [setL]
 | [],p+1,l,h=>by simp at h
 | c::cs,p+1,l,h=>by rw [setC,setC_eq cs p l (by simpa using h)];simp [setL,Nat.succ_add]
section
variable {P:Program} {ops:Array Oper} {o:Oper} {σ:St} {q:Bool}
theorem upd_nv {id:Nat} {r:R} (h:nvB id σ.slots σ.res=true):σ.upd id r=⟨σ.n,σ.slots,setR σ.res id r⟩:=by
 simp only [nvB,Bool.and_eq_true,List.all_eq_true] at h
 unfold St.upd
 rw [map_same fun x hx=>?_,map_same fun x hx=>?_]
 · rw [R.puv_nv (h.2 x hx)]
 rw [S.puv_nv (h.1 x hx)]
theorem R_store_pb {id p:Nat} {t:TypeId} {x y:Operand} {cs:List E} {A0:A} {ag:Bool} {n:Nat} (ho:o.op=.store t x y) (hg:o.guard=none) (hdn:o.dst=none) (hx:Get σ true x (.one (.pp id p))) (hy:Get σ true y A0) (hs:look σ.res id=some (.box cs)) (ht:tyB P t ag n=true)
 (he:(cellsA A0).all E.cell1=true) (hl:Nat.beq (cellsA A0).length n=true) (hn:Nat.ble (p+n) cs.length=true) (hv1:nvB id σ.slots σ.res=true) (hv2:(cellsA A0).all (E.nv id)=true):Op1 P ops o σ ⟨σ.n,σ.slots,setR σ.res id (.box (setC cs p (cellsA A0)))⟩:=
 .skip hg fun w0 a w ⟨I,hr⟩=>by
  have hv:a.eval x=.pointer (some ⟨I.B id,p,none⟩):=hx.va hr rfl
  obtain⟨ds,h1,h2,h3⟩:=(hy.va hr rfl).cells he
  obtain⟨hF,vs,ty,g1,g2⟩:=hr.res id _ hs
  have hn':=Nat.le_of_ble_eq_true hn
  have hl':=Nat.eq_of_beq_eq_true hl
  have e1:=VEs_len h2
  have e2:=VEs_len g2
  have hst:=run_storeCells_at P (I.B id) p ty ds 0 vs.toArray w g1 (by simp;omega) h3
  simp only [Nat.add_zero] at hst
  have hsz:(a.eval y).cells.size=n:=by rw [h1];simp;omega
  have hc:Chg w (w.setRow (I.B id) (vs.take p++ds++vs.drop (p+ds.length)).toArray) (I.F id):=
   ⟨rfl,rfl,rfl,by simp [World.setRow],fun k _ hk=>setRow_other w (I.B id) k _ (fun e=>hk (by rw [hF,e];simp))⟩
  refine⟨w.setRow (I.B id) (vs.take p++ds++vs.drop (p+ds.length)).toArray,?_,I.set id [I.B id] (I.hd id) (I.B id),?_⟩
  · simp [execOp,ho,hv,Instr.storeAt,Instr.sureAddr,storeVar,tyB_size ht,h1,hst]
    omega
  rw [hdn]
  have hcs:cs.all (E.nv id)=true:=by
   have key:∀ (l:List (Nat×R)),(l.all fun x=>x.2.nv id)=true→look l id=some (.box cs)→cs.all (E.nv id)=true:=by
    intro l
    induction l with
    | nil=>intro _ h;cases h
    | cons y l ih=>
     obtain⟨j,y⟩:=y
     intro ha hk
     simp only [List.all_cons,Bool.and_eq_true] at ha
     rw [look_cons] at hk
     split at hk
     · cases hk;exact ha.1
     exact ih ha.2 hk
   simp only [nvB,Bool.and_eq_true] at hv1
   exact key _ hv1.2 hs
  have hall:∀ e∈setL cs p (cellsA A0),e.puv id=e:=by
   intro e hm
   simp only [setL,List.mem_append] at hm
   rcases hm with (hm|hm)|hm
   · exact E.puv_nv (List.all_eq_true.1 hcs e (List.mem_of_mem_take hm))
   · exact E.puv_nv (List.all_eq_true.1 hv2 e hm)
   exact E.puv_nv (List.all_eq_true.1 hcs e (List.mem_of_mem_drop hm))
  rw [←upd_nv hv1,setC_eq cs p _ (by omega)]
  refine hr.upd hs hc ⟨by simp,fun b hb=>?_⟩ ⟨by simp [Ip.set],_,ty,by simp only [Ip.set,if_true];exact setRow_heap w (I.B id) vs.toArray _ ty (0,0) g1,?_⟩
  · simp only [List.mem_singleton] at hb
    subst hb
    exact⟨((hr.own id _ hs).2 _ (by rw [hF];simp)).1,by simp [World.setRow];exact (Array.getElem?_eq_some_iff.1 g1).1,⟨.inl _,ty,setRow_heap w (I.B id) vs.toArray _ ty (0,0) g1⟩,.inl (by rw [hF];simp)⟩
  have hlist:VEs I w (setL cs p (cellsA A0)) (vs.take p++ds++vs.drop (p+ds.length)):=by
   rw [setL,←e1]
   exact VEs_append (VEs_append (VEs_take p g2) h2) (VEs_drop _ g2)
  have:=hlist.puv (G:=[I.B id]) hc (fun b hz hb=>(hr.lt id b hb).2 hz) (fun i hi=>hr.apart i id hi)
  rwa [map_same hall] at this
variable {w0:Base} {Q:Exit→St→Prop} {n:Nat} {sl:List (Nat×(Bool×S))} {rs:List (Nat×R)} {l:List Oper}
theorem AWl.chgb {rs':List (Nat×R)} (ho:Op1 P ops o ⟨n,sl,rs⟩ ⟨n,sl,rs'⟩) (h:AWl P w0 ops Q l ⟨n,sl,rs'⟩):AWl P w0 ops Q (o::l) ⟨n,sl,rs⟩:=AWl.op ho h
end
end Go.Q
namespace Go.Q
open Go.RowKit
section
variable {P:Program} {ops:Array Oper} {o:Oper} {σ:St} {q:Bool}
def MkPost (w:World) (x':V0) (u v:Value) (F:List Nat) (e:Ending) (w':World):Prop:=
 e=.returned u∧∃ F',V0r true w' x' v F'∧F'.Nodup∧(∀ b∈F',(w.heap.size≤b∨b∈F)∧Thaw w' b)∧Chg w w' F
def FnM (P:Program) (f:FuncId) (x:V0) (k:Value) (x':V0) (u:Value):Prop:=
 Callee P f∧u.oneCell'=true∧∀ w v F,Good w F→V0r true w x v F→F.Nodup→(∀ b∈F,Thaw w b)→Calls P f (List.toArray [v,k]) w (MkPost w x' u v F)
def E.puvL (ids:List Nat):E→E
 | .vw i x=>bif memN ids i then .no else .vw i x
 | .sb i k p q=>bif memN ids i then .no else .sb i k p q
 | e=>e
def A.puvL (ids:List Nat):A→A
 | .one e=>.one (e.puvL ids)
 | .agg l=>.agg (l.map (E.puvL ids))
def S.puvL (ids:List Nat):S→S
 | .a x=>.a (x.puvL ids)
 | .tup l=>.tup (l.map (A.puvL ids))
def R.puvL (ids:List Nat):R→R
 | .row k rows=>.row k rows
 | .box cs=>.box (cs.map (E.puvL ids))
 | .hdr j x=>.hdr j x
 | .blk j b=>.blk j b
 | .kept K=>.kept K
 | .opq=>.opq
 | .cur g=>.cur g
 | .mp b f=>.mp b f
def Ip.newF (I:Ip) (ids:List Nat) (NF:Nat→List Nat):Ip:=⟨I.Z,fun i=>bif memN ids i then NF i else I.F i,I.hd,I.B⟩
section
variable {I:Ip} {w w':World} {ids:List Nat} {NF:Nat→List Nat} {FF:List Nat}
theorem VE.puvL (hc:Chg w w' FF) (hZ:∀ b,I.Z b→b∉FF) (hv:∀ i,memN ids i=false→∀ b∈I.F i,b∉FF) {e:E} {c:Value} (h:VE I w e c):VE (I.newF ids NF) w' (e.puvL ids) c:=by
 cases e with
 | t x=>obtain⟨G,h1,h2⟩:=h;exact⟨G,h1.congr fun b hb=>hc.block b (h1.lt b hb) (hZ b (h2 b hb)),h2⟩
 | no=>trivial
 | rf i=>exact h
 | tl i k j=>exact h
 | pf i k j=>exact h
 | vw i x=>
  simp only [E.puvL]
  cases e:memN ids i with
  | true=>trivial
  | false=>
   obtain⟨G',h1,h2⟩:=h
   refine⟨G',h1.congr fun b hb=>hc.block b (h1.lt b hb) (hv i e b (h2 b hb)),fun b hb=>?_⟩
   show b∈(bif memN ids i then NF i else I.F i)
   rw [e];exact h2 b hb
 | pr i k p q=>exact h
 | sb i k p q=>
  simp only [E.puvL]
  cases e:memN ids i with
  | true=>trivial
  | false=>
   obtain⟨g,n,m,h1,h2,h3,h4⟩:=h
   have hb':=hc.block g h3 (hv i e g h2)
   refine⟨g,n,m,h1,?_,heap_lt hb' h3,(World.cell?_of_block (a:=⟨g,_,none⟩) hb').trans h4⟩
   show g∈(bif memN ids i then NF i else I.F i)
   rw [e];exact h2
 | pp i o=>exact h
theorem VEs.puvL (hc:Chg w w' FF) (hZ:∀ b,I.Z b→b∉FF) (hv:∀ i,memN ids i=false→∀ b∈I.F i,b∉FF):∀ {l:List E} {cs:List Value},VEs I w l cs→VEs (I.newF ids NF) w' (l.map (E.puvL ids)) cs
 | [],_,h=>h
 | _::_,_,⟨c,cr,h1,h2,h3⟩=>⟨c,cr,h1,h2.puvL hc hZ hv,h3.puvL hc hZ hv⟩
theorem VA.puvL (hc:Chg w w' FF) (hZ:∀ b,I.Z b→b∉FF) (hv:∀ i,memN ids i=false→∀ b∈I.F i,b∉FF) {x:A} {v:Value} (h:VA I w x v):VA (I.newF ids NF) w' (x.puvL ids) v:=by
 cases x with
 | one e=>exact VE.puvL hc hZ hv h
 | agg l=>obtain⟨cs,h1,h2⟩:=h;exact⟨cs,h1,h2.puvL hc hZ hv⟩
theorem VAs.puvL (hc:Chg w w' FF) (hZ:∀ b,I.Z b→b∉FF) (hv:∀ i,memN ids i=false→∀ b∈I.F i,b∉FF):∀ {l:List A} {cs:List Value},VAs I w l cs→VAs (I.newF ids NF) w' (l.map (A.puvL ids)) cs
 | [],_,h=>h
 | _::_,_,⟨c,cr,h1,h2,h3⟩=>⟨c,cr,h1,h2.puvL hc hZ hv,h3.puvL hc hZ hv⟩
theorem VS.puvL (hc:Chg w w' FF) (hZ:∀ b,I.Z b→b∉FF) (hv:∀ i,memN ids i=false→∀ b∈I.F i,b∉FF) {x:Bool×S} {v:Value} (h:VS I w x v):VS (I.newF ids NF) w' (x.1,x.2.puvL ids) v:=by
 obtain⟨p,x⟩:=x
 cases p
 · exact h
 cases x with
 | a x=>exact VA.puvL hc hZ hv h
 | tup l=>obtain⟨vs,h1,h2⟩:=h;exact⟨vs,h1,h2.puvL hc hZ hv⟩
end
theorem memN_false {ids:List Nat} {i:Nat}:memN ids i=false↔i∉ids:=by
 rw [←memN_iff];cases memN ids i<;>simp
theorem look_none_not {L:List (Nat×R)} {i:Nat} (h:look L i=none):i∉L.map (·.1):=by
 induction L with
 | nil=>simp
 | cons x L ih=>
  obtain⟨j,y⟩:=x
  rw [look_cons] at h
  by_cases e:j=i
  · rw [if_pos e] at h;cases h
  rw [if_neg e] at h
  have:=ih h
  simp only [List.map_cons,List.mem_cons,not_or]
  exact⟨fun h=>e h.symm,this⟩
inductive MkL (σ:St):List E→List T→List T→List (Nat×R)→Prop where
 | nil:MkL σ [] [] [] []
 | v {x:Value} {es:List E} {ts ts':List T} {L:List (Nat×R)} (h:MkL σ es ts ts' L):MkL σ (.t (.v x)::es) (.v x::ts) (.v x::ts') L
 | rf {id k:Nat} {rows rows':List (List T)} {es:List E} {ts ts':List T} {L:List (Nat×R)} (hs:look σ.res id=some (.row k rows)) (hn:look L id=none) (h:MkL σ es ts ts' L):MkL σ (.rf id::es) (.sl k rows::ts) (.sl k rows'::ts') ((id,.row k rows')::L)
theorem MkL.own {I:Ip} {w0:Base} {w:World} {a:Act} (hr:RelI I w0 σ a w) {es:List E} {ts ts':List T} {L:List (Nat×R)} (h:MkL σ es ts ts' L):∀ {cs:List Value},VEs I w es cs→
 ∃ F,Cs true w ts cs F∧F.Nodup∧(∀ b∈F,Thaw w b)∧(∀ b,b∈F↔∃ i∈L.map (·.1),b∈I.F i)∧(∀ i∈L.map (·.1),∃ r0,look σ.res i=some r0):=by
 induction h with
 | nil=>intro cs hv;exact⟨[],by unfold Cs;exact⟨hv,rfl⟩,List.nodup_nil,by simp,by simp,by simp⟩
 | v h ih=>
  rintro cs ⟨c,cr,rfl,h1,h2⟩
  obtain⟨F,g1,g2,g3,g4,g5⟩:=ih h2
  obtain⟨G,k1,_⟩:=h1
  simp only [C] at k1
  obtain⟨k1,rfl,k2⟩:=k1
  exact⟨F,by unfold Cs;exact⟨c,cr,[],F,rfl,by unfold C;exact⟨k1,rfl,k2⟩,g1,rfl⟩,g2,g3,g4,g5⟩
 | @rf id k rows rows' es ts ts' L hs hn h ih=>
  rintro cs ⟨c,cr,rfl,h1,h2⟩
  obtain⟨F,g1,g2,g3,g4,g5⟩:=ih h2
  have hC:C true w (.sl k rows) (I.hd id) (I.F id):=hr.res id _ hs
  have hc:c=I.hd id:=h1.1
  have own:=hr.own id _ hs
  have hni:=look_none_not hn
  refine⟨I.F id++F,by unfold Cs;exact⟨c,cr,_,_,rfl,hc▸hC,g1,rfl⟩,List.nodup_append.2 ⟨own.1,g2,fun x hx y hy e=>?_⟩,fun b hb=>?_,fun b=>?_,fun i hi=>?_⟩
  · subst e
    obtain⟨j,hj,hb⟩:=(g4 x).1 hy
    exact hr.apart id j (fun e=>hni (e▸hj)) x hx hb
  · rcases List.mem_append.1 hb with hb|hb
    · exact (own.2 b hb).2
    exact g3 b hb
  · simp only [List.mem_append,g4,List.map_cons,List.mem_cons]
    constructor
    · rintro (hb|⟨j,hj,hb⟩)
      · exact⟨id,.inl rfl,hb⟩
      exact⟨j,.inr hj,hb⟩
    rintro⟨j,rfl|hj,hb⟩
    · exact .inl hb
    exact .inr ⟨j,hj,hb⟩
  rcases List.mem_cons.1 hi with rfl|hi
  · exact⟨_,hs⟩
  exact g5 i hi
theorem MkL.back {I:Ip} {w0:Base} {w w':World} {a:Act} (hr:RelI I w0 σ a w) {es:List E} {ts ts':List T} {L:List (Nat×R)} (h:MkL σ es ts ts' L):∀ {cs:List Value} {F':List Nat},VEs I w es cs→Cs true w' ts' cs F'→F'.Nodup→
 ∃ NF:Nat→List Nat,(∀ i∈L.map (·.1),(NF i).Nodup∧∀ b∈NF i,b∈F')∧(∀ i∈L.map (·.1),∀ j∈L.map (·.1),i≠j→∀ b∈NF i,b∉NF j)∧∀ i r,look L i=some r→∃ k rows,r=.row k rows∧C true w' (.sl k rows) (I.hd i) (NF i):=by
 induction h with
 | nil=>intro cs F' _ _ _;exact⟨fun _=>[],by simp,by simp,fun i r h=>by cases h⟩
 | v h ih=>
  rintro cs F' ⟨c,cr,rfl,h1,h2⟩ hC hN
  simp only [Cs] at hC
  obtain⟨c',cr',G1,G2,e,k1,k2,rfl⟩:=hC
  cases e
  simp only [C] at k1
  obtain⟨_,rfl,_⟩:=k1
  exact ih h2 k2 hN
 | @rf id k rows rows' es ts ts' L hs hn h ih=>
  rintro cs F' ⟨c,cr,rfl,h1,h2⟩ hC hN
  rw [Cs] at hC
  obtain⟨c',cr',G1,G2,e,k1,k2,rfl⟩:=hC
  cases e
  obtain⟨n1,n2,n3⟩:=List.nodup_append.1 hN
  obtain⟨NF,g1,g2,g3⟩:=ih h2 k2 n2
  have hc:c=I.hd id:=h1.1
  have hni:=look_none_not hn
  have hself:∀ i∈L.map (·.1),i≠id:=fun i hi e=>hni (e▸hi)
  refine⟨fun i=>if i=id then G1 else NF i,fun i hi=>?_,fun i hi j hj hne b hb hb'=>?_,fun i r hl=>?_⟩
  · rcases List.mem_cons.1 hi with hi1|hi1
    · have hi1:i=id:=hi1
      simp only [if_pos hi1];exact⟨n1,fun b hb=>by simp [hb]⟩
    simp only [if_neg (hself i hi1)]
    exact⟨(g1 i hi1).1,fun b hb=>by simp [(g1 i hi1).2 b hb]⟩
  · rcases List.mem_cons.1 hi with hi1|hi1
    · have hi1:i=id:=hi1
      rcases List.mem_cons.1 hj with hj1|hj1
      · have hj1:j=id:=hj1
        exact hne (hi1.trans hj1.symm)
      simp only [if_pos hi1] at hb
      simp only [if_neg (hself j hj1)] at hb'
      exact n3 b hb b ((g1 j hj1).2 b hb') rfl
    simp only [if_neg (hself i hi1)] at hb
    rcases List.mem_cons.1 hj with hj1|hj1
    · have hj1:j=id:=hj1
      simp only [if_pos hj1] at hb'
      exact n3 b hb' b ((g1 i hi1).2 b hb) rfl
    simp only [if_neg (hself j hj1)] at hb'
    exact g2 i hi1 j hj1 hne b hb hb'
  rw [look_cons] at hl
  by_cases e:id=i
  · subst e
    rw [if_pos rfl] at hl
    cases hl
    exact⟨k,rows',rfl,by simp only [if_true];rw [←hc];exact k1⟩
  rw [if_neg e] at hl
  obtain⟨k',rows1,rfl,h4⟩:=g3 i r hl
  exact⟨k',rows1,rfl,by simp only [if_neg (fun h=>e h.symm:¬ i=id)];exact h4⟩
def V0of:A→List T→V0
 | .one _,ts=>.one (ts.headD (.v undef))
 | .agg _,ts=>.agg ts
theorem V0of_r {I:Ip} {w:World} {A0:A} {v:Value} (hv:VA I w A0 v):∃ cs,VEs I w (cellsA A0) cs∧∀ {oo:Bool} {w':World} {ts:List T} {F:List Nat},ts.length=(cellsA A0).length→(V0r oo w' (V0of A0 ts) v F↔Cs oo w' ts cs F):=by
 cases A0 with
 | one e=>
  refine⟨[v],⟨v,[],rfl,hv,rfl⟩,fun {oo w' ts F} hl=>?_⟩
  match ts,hl with
  | [t],_=>
   show C oo w' t v F↔_
   constructor
   · intro h;unfold Cs;exact⟨v,[],F,[],rfl,h,by unfold Cs;exact⟨rfl,rfl⟩,by simp⟩
   intro h
   rw [Cs] at h
   obtain⟨c,cr,G1,G2,e,h1,h2,rfl⟩:=h
   cases e
   rw [Cs] at h2
   obtain⟨_,rfl⟩:=h2
   simpa using h1
 | agg l=>
  obtain⟨cs,rfl,h2⟩:=hv
  refine⟨cs,h2,fun {oo w' ts F} hl=>?_⟩
  show (∃ cs',(Value.agg (List.toArray cs))=.agg (List.toArray cs')∧Cs oo w' ts cs' F)↔_
  constructor
  · rintro⟨cs',e,h⟩
    have:cs=cs':=by simpa using e
    subst this;exact h
  intro h;exact⟨cs,rfl,h⟩
theorem MkL.len {es:List E} {ts ts':List T} {L:List (Nat×R)} (h:MkL σ es ts ts' L):ts.length=es.length∧ts'.length=es.length:=by
 induction h with
 | nil=>simp
 | v _ ih=>simp [ih.1,ih.2]
 | rf _ _ _ ih=>simp [ih.1,ih.2]
def hdsOf (hd:Nat→Value) (rs:List (Nat×R)):List (Nat×R):=rs.map fun x=>(x.1-500,.hdr (some x.1) (hd x.1))
theorem look_append {α:Type}:∀ (l m:List (Nat×α)) (i:Nat),look (l++m) i=match look l i with|some x=>some x|none=>look m i
 | [],_,_=>rfl
 | (j,y)::l,m,i=>by
  rw [List.cons_append,look_cons,look_cons]
  by_cases e:j=i
  · rw [if_pos e,if_pos e]
  rw [if_neg e,if_neg e];exact look_append l m i
theorem RelI.heads {I:Ip} {w0:Base} {w:World} {a:Act} (h:RelI I w0 σ a w) {hds:List (Nat×R)} (hh:∀ i r,look hds i=some r→I.F i=[]∧∃ j x,r=.hdr j x∧∀ m,j=some m→I.hd m=x):RelI I w0 ⟨σ.n,σ.slots,σ.res++hds⟩ a w:=by
 have key:∀ i r,look (σ.res++hds) i=some r→look σ.res i=some r∨look hds i=some r:=fun i r hi=>by
  rw [look_append] at hi
  split at hi
  · rename_i x hx;rw [hx];exact .inl hi
  exact .inr hi
 refine⟨h.ext,h.defers,h.size,h.slots,fun i r hi=>?_,h.old,h.lt,fun i r hi=>?_,h.apart⟩
 · rcases key i r hi with hi|hi
   · exact h.res i r hi
   obtain⟨g1,j,x,rfl,g2⟩:=hh i r hi;exact⟨g1,g2⟩
 rcases key i r hi with hi|hi
 · exact h.own i r hi
 rw [(hh i r hi).1];simp
inductive Back (hd:Nat→Value) (σ:St):List Nat→List E→List T→Prop where
 | nil:Back hd σ [] [] []
 | v {x:Value} {ids:List Nat} {es:List E} {ts:List T} (h:Back hd σ ids es ts):Back hd σ ids (.t (.v x)::es) (.v x::ts)
 | rf {id k:Nat} {rows:List (List T)} {ids:List Nat} {es:List E} {ts:List T} (hs:look σ.res id=some (.row k rows)) (hh:look σ.res (id-500)=some (.hdr (some id) (hd id))) (hn:memN ids id=false) (h:Back hd σ ids es ts):Back hd σ (id::ids) (.rf id::es) (.sl k rows::ts)
theorem Back.ok {hd:Nat→Value} {I:Ip} {w0:Base} {w:World} {a:Act} (hr:RelI I w0 σ a w) {ids:List Nat} {es:List E} {ts:List T} (h:Back hd σ ids es ts):∀ {I0:Ip} {w1:World} {cs:List Value},I0.hd=hd→VEs I0 w1 es cs→
 ∃ F,Cs true w ts cs F∧F.Nodup∧∀ b∈F,∃ i∈ids,∃ r,look σ.res i=some r∧b∈I.F i:=by
 induction h with
 | nil=>intro I0 w1 cs _ hv;exact⟨[],by unfold Cs;exact⟨hv,rfl⟩,List.nodup_nil,by simp⟩
 | v h ih=>
  rintro I0 w1 cs e ⟨c,cr,rfl,h1,h2⟩
  obtain⟨F,g1,g2,g3⟩:=ih e h2
  obtain⟨G,k1,_⟩:=h1
  simp only [C] at k1
  obtain⟨k1,rfl,k2⟩:=k1
  exact⟨F,by unfold Cs;exact⟨c,cr,[],F,rfl,by unfold C;exact⟨k1,rfl,k2⟩,g1,rfl⟩,g2,g3⟩
 | @rf id k rows ids es ts hs hh hn h ih=>
  rintro I0 w1 cs e ⟨c,cr,rfl,h1,h2⟩
  obtain⟨F,g1,g2,g3⟩:=ih e h2
  have hC:C true w (.sl k rows) (I.hd id) (I.F id):=hr.res id _ hs
  have hhd:I.hd id=hd id:=(hr.res _ _ hh).2 id rfl
  have hc:c=I.hd id:=by rw [hhd,←e];exact h1.1
  refine⟨I.F id++F,by unfold Cs;exact⟨c,cr,_,_,rfl,hc▸hC,g1,rfl⟩,List.nodup_append.2 ⟨(hr.own id _ hs).1,g2,fun x hx y hy e=>?_⟩,fun b hb=>?_⟩
  · subst e
    obtain⟨j,hj,_,_,hb⟩:=g3 x hy
    exact hr.apart id j (fun e=>memN_false.1 hn (e▸hj)) x hx hb
  rcases List.mem_append.1 hb with hb|hb
  · exact⟨id,by simp,_,hs,hb⟩
  obtain⟨j,hj,r,h3,h4⟩:=g3 b hb;exact⟨j,by simp [hj],r,h3,h4⟩
def RetM (P:Program) (fn:Func) (hd:Nat→Value) (y:A) (ts:List T) (u:Value):Exit→St→Prop
 | .normal,σ=>Res P fn false (.a (.one (.v u))) σ∧∃ ids,Back hd σ ids (cellsA y) ts
 | .ret,σ=>Res P fn false (.a (.one (.v u))) σ∧∃ ids,Back hd σ ids (cellsA y) ts
 | _,_=>False
theorem FnM.walk {n:Nat} {f:FuncId} {fn:Func} {c:Code} {x x':V0} {k u:Value} {y:A} {ts:List T} {rs:List (Nat×R)} {R0:(Nat→Value)→List (Nat×R)} (hf:P.funcs[f]?=some fn) (hb:fn.body=some c) (hname:(fn.name == "runtime.NumGoroutine")=false) (hnt:fn.ntmps=n) (hn:Nat.ble 2 n=true)
 (hk:k.oneCell'=true) (hu:u.oneCell'=true) (hy:outV0 1000 x=some (y,rs)) (hR:(fun hd=>addsR rs []++hdsOf hd rs)=R0) (hx':V0of y ts=x') (hl:ts.length=(cellsA y).length) (hids:rs.all (fun x=>Nat.ble 1000 x.1&&Nat.ble x.1 1400)=true)
 (h:LenV [x]→∀ w0 hd,AW P w0 c (RetM P fn hd y ts u) ⟨n,[(0,(true,.a y)),(1,(true,.a (.one (.t (.v k)))))],R0 hd⟩):FnM P f x k x' u:=by
 subst hnt hR hx'
 refine⟨⟨fn,hf,hname,by rw [hb];rfl⟩,hu,fun w v F hG hv hnd hth=>?_⟩
 have hlen:LenV [x]:=V0s.lenV (w:=w) (vs:=[v]) (F:=F) ⟨v,[],F,[],rfl,hv.read,⟨rfl,rfl⟩,by simp⟩
 have hn':2≤fn.ntmps:=Nat.le_of_ble_eq_true hn
 have hlt:∀ b∈F,b<w.heap.size:=V0r.lt hv
 let a0:Act:=⟨(List.toArray [v,k])++Array.replicate (fn.ntmps-(List.toArray [v,k]).size) undef,[]⟩
 have hsz:a0.tmps.size=fn.ntmps:=by simp [a0];omega
 have h1v:a0.tmps.getD 1 undef=k:=by simp [a0,Array.getD_eq_getD_getElem?,Array.getElem?_append]
 have h0v:a0.tmps.getD 0 undef=v:=by simp [a0,Array.getD_eq_getD_getElem?,Array.getElem?_append]
 let I0:Ip:=⟨fun b=>b<w.heap.size∧b∉F,fun _=>[],fun _=>undef,fun _=>0⟩
 have hr0:RelI I0 ⟨w,F,hG⟩ ⟨fn.ntmps,[(1,(true,.a (.one (.t (.v k)))))],[]⟩ a0 w:=by
  refine⟨Chg.refl w F,rfl,hsz,fun i z hi=>?_,fun id r hi=>(by cases hi),fun b hb=>hb.1,fun id b hb=>(by cases hb),fun id r hi=>(by cases hi),fun i j _ b hb=>(by cases hb)⟩
  rw [look_cons] at hi
  by_cases e:1=i
  · subst e
    rw [if_pos rfl] at hi
    cases hi
    rw [h1v]
    exact⟨[],by unfold C;exact⟨rfl,rfl,hk⟩,by simp⟩
  rw [if_neg e] at hi;cases hi
 have hfree:∀ b∈F,Free I0 ⟨w,F,hG⟩ w b:=fun b hb=>⟨.inr hb,hlt b hb,hth b hb,fun hz=>hz.2 hb,fun i hi=>by cases hi⟩
 obtain⟨I1,r1,r2,r3,_⟩:=outV0_ok hy (by
  rw [List.all_eq_true] at hids ⊢
  intro z hz
  have h1:=hids z hz
  rfl) hr0 hv hnd hfree
 rw [adds_eq] at r1
 have r1':=r1.heads (hds:=hdsOf I1.hd rs) fun i r hi=>by
  have hm:=look_mem hi
  obtain⟨z,hz,e⟩:=List.mem_map.1 hm
  obtain⟨rfl,rfl⟩:=Prod.mk.inj e
  have h1:=List.all_eq_true.1 hids z hz
  simp only [Bool.and_eq_true] at h1
  have h2:=Nat.le_of_ble_eq_true h1.1
  have h3:=Nat.le_of_ble_eq_true h1.2
  exact⟨(r3.2 _ (by omega)).1,_,_,rfl,fun m hm=>by cases hm;rfl⟩
 have r2':RelI I1 ⟨w,F,hG⟩ ⟨fn.ntmps,[(0,(true,.a y)),(1,(true,.a (.one (.t (.v k)))))],addsR rs []++hdsOf I1.hd rs⟩ a0 w:=by
  refine⟨r1'.ext,r1'.defers,r1'.size,fun i z hi=>?_,r1'.res,r1'.old,r1'.lt,r1'.own,r1'.apart⟩
  rw [look_cons] at hi
  by_cases e:0=i
  · subst e
    rw [if_pos rfl] at hi
    cases hi
    rw [h0v];exact r2
  rw [if_neg e] at hi;exact r1'.slots i z hi
 refine calls_of_wp hf hb (Code.wp_mono ?_ (h hlen ⟨w,F,hG⟩ I1.hd _ _ ⟨_,r2'⟩))
 rintro e a' w' ⟨σ,h1,I,hI⟩
 have key:(Res P fn false (.a (.one (.v u))) σ∧∃ ids,Back I1.hd σ ids (cellsA y) ts)→a'.defers=[]∧∃ v',(results fn a'.tmps).run P w'=.ok v' w'∧MkPost w (V0of y ts) u v F (.returned v') w':=fun ⟨h1,ids,h2⟩=>by
  obtain⟨v',F',g1,g2,_⟩:=h1 I ⟨w,F,hG⟩ a' w' hI
  have hv':v'=u:=by unfold Vr V0r C at g2;exact g2.1
  subst hv'
  obtain⟨cs,hes,hcs⟩:=V0of_r r2
  obtain⟨F2,k1,k2,k3⟩:=h2.ok hI rfl hes
  refine⟨hI.defers,_,g1,rfl,F2,(hcs hl).2 k1,k2,fun b hb=>?_,hI.ext⟩
  obtain⟨i,_,r,h3,h4⟩:=k3 b hb
  exact (hI.own i r h3).2 b h4
 cases e with
 | normal=>exact key h1
 | ret=>exact key h1
 | exit id=>exact h1.elim
 | goto l=>exact h1.elim
 | panic c=>exact h1.elim
 | outgrown=>exact h1.elim
variable {w0:Base} {Q:Exit→St→Prop} {n:Nat} {sl:List (Nat×(Bool×S))} {rs:List (Nat×R)} {l:List Oper}
theorem RetM.mk {fn:Func} {hd:Nat→Value} {y:A} {ts:List T} {u:Value} {ids:List Nat} (h1:Res P fn false (.a (.one (.v u))) σ) (h2:Back hd σ ids (cellsA y) ts):Res P fn false (.a (.one (.v u))) σ∧∃ ids,Back hd σ ids (cellsA y) ts:=⟨h1,ids,h2⟩
end
theorem take_at {α:Type} {l:List α} {i:Nat} {x:α} (h:l[i]?=some x):l.take (i+1)=l.take i++[x]:=by
 obtain⟨hi,rfl⟩:=List.getElem?_eq_some_iff.1 h
 exact List.take_succ_eq_append_getElem hi
theorem drop_at {α:Type} {l:List α} {i:Nat} {x:α} (h:l[i]?=some x):l.drop i=x::l.drop (i+1):=by
 obtain⟨hi,rfl⟩:=List.getElem?_eq_some_iff.1 h
 exact List.drop_eq_getElem_cons hi
end Go.Q
