import Derived.Test.YtdhojcaoljhbiaaGreatDoorTrxk
import Derived.Test.YtdhojcaoljhbiaaGreatDoorAbsJxk
import Derived.Test.YtdhojcaoljhbiaaGreatDoorB08xk
import Derived.Test.YtdhojcaoljhbiaaGreatDoorB106xk
import Derived.Test.YtdhojcaoljhbiaaGreatDoorB107xk
set_option linter.unusedVariables false
set_option linter.unusedSimpArgs false
set_option maxHeartbeats 1000000
set_option maxRecDepth 100000
namespace Go.Q
open Go.RowKit Go.D
theorem arity_nk {t:TToken} (h:tokOk t=true):arity t=nk t.Kind:=by
 unfold tokOk at h
 unfold arity at h ⊢
 unfold nk
 have h:=of_decide_eq_true h
 repeat' split
 all_goals first|rfl|omega|skip
 all_goals simp_all
theorem nk_cases (k:Int):nk k=0∨nk k=1∨nk k=2:=by
 unfold nk
 split
 · exact .inr (.inr rfl)
 split
 · exact .inr (.inl rfl)
 exact .inl rfl
theorem stepTr_some {ts:List Tr} {t:TToken} (h:tokOk t=true) (hn:nk t.Kind≤ts.length):∃ ts',stepTr ts t=some ts'∧ts'.length=ts.length-nk t.Kind+1:=by
 unfold stepTr
 rw [if_neg (by simp [h];omega)]
 have hl:(ts.drop (ts.length-nk t.Kind)).length=nk t.Kind:=by rw [List.length_drop];omega
 generalize ts.drop (ts.length-nk t.Kind)=r at hl
 have h3:=nk_cases t.Kind
 generalize nk t.Kind=n at *
 match n,r,hl with
 | 0,_,_=>exact⟨_,rfl,by simp⟩
 | 1,[x],_=>exact⟨_,rfl,by simp⟩
 | 2,[x,y],_=>exact⟨_,rfl,by simp⟩
 | n+3,_,_=>omega
theorem depth_run (l:List TToken):∀ ts:List Tr,depthGo ts.length l=match runTr ts l with|some [_]=>true|_=>false:=by
 induction l with
 | nil=>
  intro ts
  match ts with
  | []=>rfl
  | [_]=>rfl
  | _::_::_=>simp [depthGo,runTr];omega
 | cons t r ih=>
  intro ts
  rw [depthGo,runTr]
  by_cases h:tokOk t=true
  · have ha:=arity_nk h
    by_cases hn:nk t.Kind≤ts.length
    · obtain⟨ts',h1,h2⟩:=stepTr_some h hn
      rw [if_neg (by omega),h1]
      have e:(ts.length:Int)-arity t+1=ts'.length:=by omega
      rw [e]
      exact ih ts'
    have:stepTr ts t=none:=by unfold stepTr;rw [if_pos (.inr (by omega))]
    rw [if_pos (.inr (by omega)),this]
  have:stepTr ts t=none:=by unfold stepTr;rw [if_pos (.inl (by simpa using h))]
  have ha:arity t<0:=by simpa [tokOk] using h
  rw [if_pos (.inl ha),this]
theorem isExpr_tree (l:List TToken):isExpr l=(treeM l).isSome:=by
 have h:=depth_run l []
 unfold isExpr treeM
 have e:depthGo 0 l=depthGo ([]:List Tr).length l:=rfl
 rw [e,h]
 cases runTr [] l with
 | none=>rfl
 | some v=>match v with
  | []=>rfl
  | [_]=>rfl
  | _::_::_=>rfl
def isValidExpr (x:TExpr):Bool:=decide (x.Tokens.length≤24)&&isExpr x.Tokens
def toks:Tr→List TToken
 | .leaf t=>[t]
 | .un t x=>toks x++[t]
 | .bin t x y=>toks x++toks y++[t]
def toksL (ts:List Tr):List TToken:=ts.flatMap toks
theorem toksL_append (a b:List Tr):toksL (a++b)=toksL a++toksL b:=by unfold toksL;simp
theorem toksL_one (x:Tr):toksL [x]=toks x:=by simp [toksL]
theorem toks_eq (x:Tr):toks x=toksL x.kids++[x.tok]:=by cases x<;>simp [toks,toksL,Tr.kids,Tr.tok]
theorem toks_pos (x:Tr):0<(toks x).length:=by rw [toks_eq];simp
def good:Tr→Prop
 | .leaf t=>arity t=0
 | .un t x=>arity t=1∧good x
 | .bin t x y=>arity t=2∧good x∧good y
theorem good_arity {x:Tr} (h:good x):arity x.tok=x.kids.length:=by
 cases x with
 | leaf t=>exact h
 | un t x=>exact h.1
 | bin t x y=>exact h.1
theorem good_kids {x:Tr} (h:good x):∀ y∈x.kids,good y:=by
 cases x with
 | leaf t=>intro y hy;cases hy
 | un t x=>intro y hy;simp [Tr.kids] at hy;subst hy;exact h.2
 | bin t x z=>intro y hy;simp [Tr.kids] at hy;rcases hy with rfl|rfl;exact h.2.1;exact h.2.2
theorem stepTr_toks {ts ts':List Tr} {t:TToken} (h:stepTr ts t=some ts') (hg:∀ x∈ts,good x):toksL ts++[t]=toksL ts'∧∀ x∈ts',good x:=by
 unfold stepTr at h
 split at h
 · cases h
 rename_i h0
 have hok:tokOk t=true:=by
  cases hq:tokOk t with
  | true=>rfl
  | false=>exact absurd (.inl hq) h0
 have ha:=arity_nk hok
 have hlen:nk t.Kind≤ts.length:=Nat.le_of_not_lt fun h=>h0 (.inr h)
 have hsp:ts=ts.take (ts.length-nk t.Kind)++ts.drop (ts.length-nk t.Kind):=(List.take_append_drop _ _).symm
 have hgd:∀ x∈ts.drop (ts.length-nk t.Kind),good x:=fun x hx=>hg x (List.mem_of_mem_drop hx)
 have hgt:∀ m,∀ x∈ts.take m,good x:=fun m x hx=>hg x (List.mem_of_mem_take hx)
 generalize hr:ts.drop (ts.length-nk t.Kind)=r at h hsp hgd
 generalize hn:nk t.Kind=n at h hsp ha
 split at h
 · cases h
   refine⟨by rw [toksL_append,toksL_one];rfl,fun x hx=>?_⟩
   rcases List.mem_append.1 hx with hx|hx
   · exact hg x hx
   simp at hx;subst hx;exact ha
 · rename_i x
   cases h
   refine⟨?_,fun y hy=>?_⟩
   · conv=>lhs;rw [hsp]
     rw [toksL_append,toksL_append,toksL_one,toksL_one,List.append_assoc];rfl
   rcases List.mem_append.1 hy with hy|hy
   · exact hgt _ y hy
   simp at hy;subst hy;exact⟨ha,hgd x (by simp)⟩
 · rename_i x z
   cases h
   refine⟨?_,fun y hy=>?_⟩
   · conv=>lhs;rw [hsp]
     rw [toksL_append,toksL_append,toksL_one]
     simp [toksL,toks]
   rcases List.mem_append.1 hy with hy|hy
   · exact hgt _ y hy
   simp at hy;subst hy;exact⟨ha,hgd x (by simp),hgd z (by simp)⟩
 cases h
theorem runTr_toks:∀ {l:List TToken} {ts ts':List Tr},runTr ts l=some ts'→(∀ x∈ts,good x)→toksL ts++l=toksL ts'∧∀ x∈ts',good x
 | [],ts,ts',h,hg=>by simp only [runTr,Option.some.injEq] at h;subst h;simpa using hg
 | t::l,ts,ts',h,hg=>by
  rw [runTr] at h
  split at h
  · rename_i ts1 h1
    obtain⟨g1,g2⟩:=stepTr_toks h1 hg
    obtain⟨k1,k2⟩:=runTr_toks h g2
    exact⟨by rw [←k1,←g1];simp,k2⟩
  cases h
theorem treeM_toks {l:List TToken} {x:Tr} (h:treeM l=some x):toks x=l∧good x:=by
 unfold treeM at h
 split at h
 · rename_i y hy
   cases h
   obtain⟨g1,g2⟩:=runTr_toks hy (by simp)
   rw [toksL_one] at g1
   exact⟨by rw [←g1];simp [toksL],g2 x (by simp)⟩
 cases h
theorem valid_tree {e:TExpr} (h:isValidExpr e=true):∃ x,treeM e.Tokens=some x∧toks x=e.Tokens∧good x∧e.Tokens.length≤24:=by
 unfold isValidExpr at h
 simp only [Bool.and_eq_true,decide_eq_true_eq,isExpr_tree] at h
 obtain⟨x,hx⟩:=Option.isSome_iff_exists.1 h.2
 exact⟨x,hx,(treeM_toks hx).1,(treeM_toks hx).2,h.1⟩
inductive NilB:T→Bool→Prop where
 | ad {cs:List T}:NilB (.ad cs) false
 | nil:NilB (.v (.pointer none)) true
theorem NilB.tree (l:List TToken):NilB (treeV l) (!isExpr l):=by
 rw [isExpr_tree]
 unfold treeV
 cases treeM l with
 | none=>exact .nil
 | some x=>exact .ad
section
variable {P:Program} {ops:Array Oper} {o:Oper} {σ:St} {q:Bool}
theorem NilB.val {I:Ip} {w:World} {x:T} {b:Bool} (h:NilB x b) {v:Value} (hv:VE I w (.t x) v):∃ p,v=.pointer p∧p.isNone=b:=by
 obtain⟨G,h1,_⟩:=hv
 cases h with
 | ad=>simp only [C] at h1;obtain⟨b,off,G',rfl,_⟩:=h1;exact⟨_,rfl,rfl⟩
 | nil=>simp only [C] at h1;exact⟨_,h1.1,rfl⟩
theorem guard_ptr {op:BinOp} {t:TypeId} {x y:Operand} {p r:Option Addr} (w:World):(eqGuard op t x y (.pointer p) (.pointer r)).run P w=.ok () w:=by
 unfold eqGuard;split<;>rfl
theorem R_nenil {t t':TypeId} {x y:Operand} {T0:T} {b:Bool} (ho:o.op=.binOp .neq t x y t') (hg:Grd ops o σ q) (hd:o.dst.all (fun d=>Nat.blt d σ.n)=true) (hx:Get σ q x (.one (.t T0))) (hy:Get σ q y (.one (.t (.v (.pointer none))))) (hb:NilB T0 b) (hu:P.underlying t=some (.pointer (P.pointee t))) :
 Op1 P ops o σ (σ.put o.dst (q,.a (.one (.t (.v (.bool !b)))))):=
 .val hg hd fun I w0 a w hr hq=>by
  obtain⟨p,h1,h2⟩:=hb.val (hx.va hr hq)
  refine⟨.bool !b,?_,VS_v _⟩
  have h3:=hy.int hr hq
  simp [execOp,ho,h1,h3,guard_ptr,run_neq_pointer_nil w t p hu,h2]
end
theorem treeV_some {l:List TToken} {x:Tr} (h:treeM l=some x):treeV l=.ad (treeCells x):=by unfold treeV;rw [h]
theorem take_get {l p:List TToken} {n:Nat} {t:TToken} (h:l.take (n+1)=p++[t]) (hp:p.length=n):l[n]?=some t∧l.take n=p:=by
 have h1:(l.take (n+1))[n]?=some t:=by rw [h,←hp];simp
 rw [List.getElem?_take] at h1
 have h2:l.take n=(l.take (n+1)).take n:=by rw [List.take_take];congr 1;omega
 refine⟨by simpa using h1,?_⟩
 rw [h2,h,←hp];simp
theorem toksL_snoc (ys:List Tr) (y:Tr):toksL (ys++[y])=toksL ys++toksL y.kids++[y.tok]:=by rw [toksL_append,toksL_one,toks_eq,List.append_assoc]
theorem Tr.ind {P:Tr→Prop} (h:∀ x,(∀ y∈x.kids,P y)→P x):∀ x,P x:=by
 intro x
 induction x with
 | leaf t=>exact h _ fun y hy=>by cases hy
 | un t x ih=>exact h _ fun y hy=>by simp [Tr.kids] at hy;subst hy;exact ih
 | bin t x z ih1 ih2=>exact h _ fun y hy=>by simp [Tr.kids] at hy;rcases hy with rfl|rfl;exact ih1;exact ih2
theorem tok_last (x:Tr):(toks x)[(((toks x).length:Int)-1).toNat]?=some x.tok:=by
 have e:(((toks x).length:Int)-1).toNat=(toksL x.kids).length:=by rw [toks_eq];simp
 rw [e,toks_eq];simp
theorem kids_one {x:Tr} (hg:good x) (h:arity x.tok=1):∃ y,x.kids=[y]∧toks x=toks y++[x.tok]∧good y:=by
 rw [good_arity hg] at h
 cases x with
 | leaf t=>simp [Tr.kids] at h
 | un t y=>exact⟨y,rfl,rfl,hg.2⟩
 | bin t y z=>simp [Tr.kids] at h
theorem kids_two {x:Tr} (hg:good x) (h:arity x.tok=2):∃ y z,x.kids=[y,z]∧toks x=toks y++toks z++[x.tok]∧good y∧good z:=by
 rw [good_arity hg] at h
 cases x with
 | leaf t=>simp [Tr.kids] at h
 | un t y=>simp [Tr.kids] at h
 | bin t y z=>exact⟨y,z,rfl,rfl,hg.2.1,hg.2.2⟩
theorem sl_pre {α β:Type} {f:α→β} {a b l:List α} (h:l=a++b):((l.map f).take a.length).drop 0=a.map f:=by subst h;simp
theorem sl_pre2 {α β:Type} {f:α→β} {a b c l:List α} (h:l=a++b++c):((l.map f).take (a.length+b.length)).drop 0=(a++b).map f:=by
 subst h;rw [List.map_append,←List.length_append,List.take_left' (by simp)];rfl
theorem sl_mid {α β:Type} {f:α→β} {a b c l:List α} (h:l=a++b++c):((l.map f).take (a.length+b.length)).drop a.length=b.map f:=by
 subst h;rw [List.map_append,←List.length_append,List.take_left' (by simp),List.map_append,List.drop_left' (by simp)]
theorem kids_le (x:Tr):x.kids.length≤2:=by cases x<;>simp [Tr.kids]
theorem kids_toks {x y:Tr} (h:y∈x.kids):(toks y).length<(toks x).length:=by
 cases x with
 | leaf t=>cases h
 | un t x=>simp [Tr.kids] at h;subst h;simp [toks]
 | bin t x z=>simp [Tr.kids] at h;rcases h with rfl|rfl<;>simp [toks]<;>omega
theorem toksL_ge:∀ ys:List Tr,ys.length≤(toksL ys).length
 | []=>by simp
 | y::ys=>by
  have h1:=toksL_ge ys
  have h2:=toks_pos y
  have e:toksL (y::ys)=toks y++toksL ys:=by simp [toksL]
  rw [e,List.length_append,List.length_cons];omega
theorem start_step {l pre:List TToken} {zs:List Tr} {x:Tr} {k:Int} (h:l.take k.toNat=pre++toksL (zs++[x])) (hk:k=(pre.length:Int)+(toksL (zs++[x])).length) :
 l[(k-1).toNat]?=some x.tok∧l.take (k-1).toNat=pre++toksL (zs++x.kids)∧k-1=(pre.length:Int)+(toksL (zs++x.kids)).length:=by
 have e:toksL (zs++[x])=toksL (zs++x.kids)++[x.tok]:=by rw [toksL_snoc,toksL_append]
 rw [e,List.length_append,List.length_singleton] at hk
 have hn:k.toNat=(k-1).toNat+1:=by omega
 rw [e,←List.append_assoc,hn] at h
 have:=take_get h (by rw [List.length_append];omega)
 exact⟨this.1,this.2,by omega⟩
end Go.Q
namespace Go.Proofs.YtdhojcaoljhbiaaGreatDoor
open Go.RowKit Go.Q Go.D
theorem implIsExpr (e:TExpr) (hz:e.Tokens.length≤1048576):FnT Tryz.prog 133 [.agg (cExpr e)] (.a (.one (.v (.bool (isExpr e.Tokens))))):=by
 refine Ay Tryz.func133 U (by kernel_rfl) Tryz.ntmps133 U fun hlen w0=>?_
 try simp [cToken,cExpr,cPathAtom,cConjunction] at hlen
 refine Ae (Ag (B9 U U U (.tm U) (ts:=_) (by rfl)) U ?_);refine Ak ?_;refine Aa (Ae (Aq Ci ?_));refine Ag (A3 (impltreeOf _ hz) U (.no U) U (.cons (.tm U) U .nil)) U ?_;refine Ag (R_nenil U (.no U) U (.tm U) (.const U) (NilB.tree _) Tryz.underlying175) U ?_;refine Ah ?_;refine Aa (Al (Bb U U ?_))
 simp
theorem specIsValidExpr (e:TExpr):FnT Tryz.prog 75 [.agg (cExpr e)] (.a (.one (.v (.bool (isValidExpr e))))):=by
 refine Ay Tryz.func75 U (by kernel_rfl) Tryz.ntmps75 U fun hlen w0=>?_
 try simp [cToken,cExpr,cPathAtom,cConjunction] at hlen
 refine Ae (Ag (B9 U U U (.tm U) (ts:=_) (by rfl)) U ?_);refine Ak ?_;refine Aa (Ae (A7 Cr ?_));refine Aq Dq ?_;refine Bc (.t) Tryz.underlying91 ?_;refine Ag (R_le U (.no U) U (.tm U) (.const U)) U ?_;refine Ab ?_;refine Ag (Bw U (by exact .yes1 U U U U) U (.tmp U (by exact fun _=>rfl)) Ci U U) U ?_;refine Ag (Dw U (by exact .yes1 U U U U) U (.cons (.tmp U (by exact id)) U .nil) fun hq=>FnT.fr (specIsExpr _ (by have h24:=of_decide_eq_true hq;omega))) U ?_;refine Cm ?_;refine Ah ?_;refine Aa (Al (Bb U U ?_))
 congr 1;unfold isValidExpr;congr 1;apply decide_eq_decide.2;omega
theorem implIsValidExpr (e:TExpr):FnT Tryz.prog 93 [.agg (cExpr e)] (.a (.one (.v (.bool (isValidExpr e))))):=by
 refine Ay Tryz.func93 U (by kernel_rfl) Tryz.ntmps93 U fun hlen w0=>?_
 try simp [cToken,cExpr,cPathAtom,cConjunction] at hlen
 refine Ae (Ag (B9 U U U (.tm U) (ts:=_) (by rfl)) U ?_);refine Ak ?_;refine Aa (Ae (A7 Cr ?_));refine Aq Dq ?_;refine Bc (.t) Tryz.underlying91 ?_;refine Ag (R_le U (.no U) U (.tm U) (.const U)) U ?_;refine Ab ?_;refine Ag (Bw U (by exact .yes1 U U U U) U (.tmp U (by exact fun _=>rfl)) Ci U U) U ?_;refine Ag (Dw U (by exact .yes1 U U U U) U (.cons (.tmp U (by exact id)) U .nil) fun hq=>FnT.fr (implIsExpr _ (by have h24:=of_decide_eq_true hq;omega))) U ?_;refine Cm ?_;refine Ah ?_;refine Aa (Al (Bb U U ?_))
 congr 1;unfold isValidExpr;congr 1;apply decide_eq_decide.2;omega
theorem specl8Start (pre:List TToken) (y:Tr) (hg:good y) (hz:(pre++toks y).length≤1048576):FnT Tryz.prog 100 [.one (.sl 4 ((pre++toks y).map cToken))] (.a (.one (.v (.int .i64 pre.length)))):=by
 refine Ay Tryz.func100 U (by kernel_rfl) Tryz.ntmps100 U fun hlen w0=>?_
 try simp [cToken,cExpr,cPathAtom,cConjunction] at hlen
 rw [List.length_append] at hz
 refine Ae (Ak ?_);refine Aa (Ae (Ak ?_));refine Aa (Ae (Ab ?_));refine Bc (.t) Tryz.underlying91 ?_;refine Ah ?_;refine Aa (Ac (AW.block (AW.loop3 (fun (ys:List Tr) (need:Int) (k:Int)=>(need=ys.length∧k=(pre.length:Int)+(toksL ys).length∧k≤1048576∧∀ x∈ys,good x)∧(pre++toks y).take k.toNat=pre++toksL ys) (fun (ys:List Tr) (need:Int) (k:Int)=>⟨_,[(3,(true,.a (.one (.t (.v (.int .i64 need)))))),(4,(true,.a (.one (.t (.v (.int .i64 k)))))),(0,_),(2,_)],[]⟩) (fun (ys:List Tr) (need:Int) (k:Int)=>k.toNat) ([y]) (1) (((pre++toks y).length:Nat)) ⟨⟨U,by simp [toksL_one],by simp;omega,by simpa using hg⟩,by rw [toksL_one,List.take_of_length_le (by simp;omega)]⟩ (Ar U ⟨U,U,U,U,Y⟩ trivial) ?_)))
 rintro ys need k ⟨hk,he⟩
 refine Ac (Ae (Ab ?_));refine AWl.gc ?_;refine Aa (Ai (.tm U) (fun hlt=>?_) (fun hlt=>?_))
 · try simp at hlt
   obtain⟨zs,T0,rfl⟩:∃ zs T0,ys=zs++[T0]:=by rcases List.eq_nil_or_concat ys with h|⟨zs,T0,h⟩;subst h;simp at hk;omega;exact⟨zs,T0,by simpa using h⟩
   have hT:=hk.2.2.2 T0 (by simp)
   have hta:=good_arity hT
   obtain⟨hst1,hst2,hst3⟩:=start_step he hk.2.1
   have hge1:=toksL_ge (zs++[T0])
   have hge2:=toksL_ge (zs++T0.kids)
   rw [List.length_append] at hge2
   refine Aj (AW.block (Ae (Ab ?_)));refine C6 ?_;refine Ah ?_;refine Aa (Ad (Ab ?_));refine C6 ?_;refine Ab ?_;refine Ab ?_;refine Ag (An U (.no U) U (.tm U) (.tm U) Tryz.underlying91 Cg (fun _=>⟨by omega,Ao hst1⟩)) U ?_;refine Aq Cg ?_;refine Bl (specl8Arity _) ?_;refine Ag (R_add U (.no U) U (.tm U) (.tm U) (fun _=>by omega)) U ?_;refine Ah ?_;refine Aa ?_
   repeat (with_reducible refine Au ?_)
   refine Round3.next (zs++T0.kids) (need-1+arity T0.tok) (k-1) ⟨by exact⟨by rw [hk.1,hta];simp<;>omega,hst3,by omega,fun x hx=>by rcases List.mem_append.1 hx with h|h;exact hk.2.2.2 x (by simp [h]);exact good_kids hT x h⟩,hst2⟩ (by omega) (Ar rfl ⟨rfl,rfl,rfl,rfl,Y⟩ trivial)
 try simp at hlt
 refine Ba (Ae (Ab ?_));refine Ah ?_;refine Aa (Al (Bb U U ?_))
 have:ys=[]:=List.eq_nil_of_length_eq_zero (by omega);subst this;rw [hk.2.1];simp [toksL]
theorem l8Start_at {y:Tr} (hg:good y) {pre:List TToken} (hz:(pre++toks y).length≤1048576):∀ L,L=(pre++toks y).map cToken→FnT Tryz.prog 100 [.one (.sl 4 L)] (.a (.one (.v (.int .i64 pre.length)))):=fun L hL=>by subst hL;exact specl8Start pre y hg hz
end Go.Proofs.YtdhojcaoljhbiaaGreatDoor
set_option maxHeartbeats 1000000
set_option maxRecDepth 100000
namespace Go.Q
open Go.D
theorem good_cases {x:Tr} (hg:good x):0≤x.tok.Low∧x.tok.Low≤3∧((x.kids=[]∧(x.tok.Kind=1∨x.tok.Kind=2∨x.tok.Kind=3))∨(∃ y,x.kids=[y]∧(x.tok.Kind=6∨x.tok.Kind=7))∨(∃ y z,x.kids=[y,z]∧(x.tok.Kind=4∨x.tok.Kind=5))):=by
 have ha:=good_arity hg
 have hk:=kids_le x
 have hl:x.kids.length=0∨x.kids.length=1∨x.kids.length=2:=by omega
 have harr:arity x.tok≥0:=by omega
 have key:0≤x.tok.Low∧x.tok.Low≤3∧(arity x.tok=0→x.tok.Kind=1∨x.tok.Kind=2∨x.tok.Kind=3)∧(arity x.tok=1→x.tok.Kind=6∨x.tok.Kind=7)∧(arity x.tok=2→x.tok.Kind=4∨x.tok.Kind=5):=by
  revert harr
  unfold arity zerT inB
  intro harr
  repeat' split at harr
  all_goals first|omega|(simp_all<;>omega)
 refine⟨key.1,key.2.1,?_⟩
 rcases hl with h|h|h
 · exact .inl ⟨List.eq_nil_of_length_eq_zero h,key.2.2.1 (by omega)⟩
 · obtain⟨y,hy,_⟩:=kids_one hg (by omega)
   exact .inr (.inl ⟨y,hy,key.2.2.2.1 (by omega)⟩)
 obtain⟨y,z,hy,_⟩:=kids_two hg (by omega)
 exact .inr (.inr ⟨y,z,hy,key.2.2.2.2 (by omega)⟩)
theorem kind_two' {x:Tr} (hg:good x) (h:x.tok.Kind=4∨x.tok.Kind=5):∃ y z,x.kids=[y,z]∧toks x=toks y++toks z++[x.tok]∧good y∧good z:=by
 rcases (good_cases hg).2.2 with ⟨_,h1⟩|⟨y,_,h1⟩|⟨y,z,h1,_⟩
 · omega
 · omega
 exact kids_two hg (by rw [good_arity hg,h1];rfl)
theorem kind_one' {x:Tr} (hg:good x) (h:x.tok.Kind=6∨x.tok.Kind=7):∃ y,x.kids=[y]∧toks x=toks y++[x.tok]∧good y:=by
 rcases (good_cases hg).2.2 with ⟨_,h1⟩|⟨y,h1,_⟩|⟨y,z,_,h1⟩
 · omega
 · exact kids_one hg (by rw [good_arity hg,h1];rfl)
 omega
theorem kind_no' {x:Tr} (hg:good x) (h:x.tok.Kind≠4∧x.tok.Kind≠5∧x.tok.Kind≠6∧x.tok.Kind≠7):x.kids=[]:=by
 rcases (good_cases hg).2.2 with ⟨h1,_⟩|⟨y,_,h1⟩|⟨y,z,_,h1⟩
 · exact h1
 · omega
 omega
end Go.Q
namespace Go.Proofs.YtdhojcaoljhbiaaGreatDoor
open Go.RowKit Go.Q Go.D
end Go.Proofs.YtdhojcaoljhbiaaGreatDoor
set_option maxHeartbeats 1000000
set_option maxRecDepth 100000
namespace Go.Q
open Go.D
def tok0 (k:Int):TToken:=⟨k,0,0,0⟩
end Go.Q
namespace Go.Proofs.YtdhojcaoljhbiaaGreatDoor
open Go.RowKit Go.Q Go.D
theorem specl8Leaf (k:Int):FnT Tryz.prog 228 [.one (.v (.int .i64 k))] (.a (.agg (cExpr ⟨[tok0 k]⟩))):=by
 refine Ay Tryz.func228 U (by kernel_rfl) Tryz.ntmps228 U fun hlen w0=>?_
 try simp [cToken,cExpr,cPathAtom,cConjunction] at hlen
 refine Ae (A6 (Bo 2 U U U in93 U U U) U ?_);refine Aa (Ae (Ab ?_));refine Ag (Bd (ps:=[(0,.tmp 3)]) U U U Ck U U De (.cons (.tm U) U U Cn .nil) U) U ?_;refine Bh (Ch (xs:=[.tmp 4]) 5 U U U (.cons (.tm U) U U .nil) Tryz.underlying91 Ck U U U U) U ?_;refine Ag (Bd (ps:=[(0,.tmp 5)]) U U U in93 U U st93 (.cons (.tm U) U U fp93_0 .nil) U) U ?_;refine A4 Ci ?_;refine Aa (Al (Res.one U (.cell U U Ci U U .nil) U ?_))
 rfl
theorem specl8Copy (l:List TToken) (hz:l.length≤4194304):FnT Tryz.prog 251 [.one (.sl 4 (l.map cToken))] (.a (.agg (cExpr ⟨l⟩))):=by
 refine Ay Tryz.func251 U (by kernel_rfl) Tryz.ntmps251 U fun hlen w0=>?_
 try simp [cToken,cExpr,cPathAtom,cConjunction] at hlen
 refine Ae (A6 (Bo 2 U U U in93 U U U) U ?_);refine Aa (Ae (A6 (Ce 3 U U U Tryz.underlying91 Cg U) U ?_));refine Ab ?_;refine Bu (B7 U U U (.tm U) U (.tm U) (by exact .t) (by exact isV_map (fun _=>rfl) _) Tryz.underlying91 Ck U (by (simp [chunk];omega)) (by (unfold maxLen;simp [chunk];omega))) U ?_;refine Bt (As [0,2,5] [2,3]) ?_;refine Ag (Bd (ps:=[(0,.tmp 5)]) U U U in93 U U st93 (.cons (.tm U) U U fp93_0 .nil) U) U ?_;refine A4 Ci ?_;refine Aa (Al (Res.one U (.cell U U Ci U U .nil) U ?_))
 rfl
theorem specl8Join (a b:TExpr) (t:TToken) (hz:a.Tokens.length+b.Tokens.length≤4194304):FnT Tryz.prog 230 [.agg (cExpr a),.agg (cExpr b),.agg (cToken t)] (.a (.agg (cExpr ⟨a.Tokens++b.Tokens++[t]⟩))):=by
 refine Ay Tryz.func230 U (by kernel_rfl) Tryz.ntmps230 U fun hlen w0=>?_
 try simp [cToken,cExpr,cPathAtom,cConjunction] at hlen
 refine Ae (Ag (B9 U U U (.tm U) (ts:=_) (by rfl)) U ?_);refine Ag (B9 U U U (.tm U) (ts:=_) (by rfl)) U ?_;refine Ag (B9 U U U (.tm U) (ts:=_) (by rfl)) U ?_;refine A6 (Bo 6 U U U in93 U U U) U ?_;refine Aa (Ae (A7 Cr ?_));refine Aq Dq ?_;refine B8 (Cd 1000 (specl8Copy _ (by omega)) U U U (.cons (.tm U) U .nil) U U) U ?_;refine A6 (Bo 7 U U U in93 U U U) U ?_;refine A4 Ci ?_;refine Aa (Ae (B6 Cr ?_));refine Bp Dq ?_;refine A7 Cr ?_;refine Aq Dq ?_;refine Bu (B7 U U U (.tm U) U (.tm U) (by exact .t) (by exact isV_map (fun _=>rfl) _) Tryz.underlying91 Ck U (by (simp [chunk];omega)) (by (unfold maxLen;simp [chunk];omega))) U ?_;refine Bt (As [0,1,2,3,4,5,6,7,15] [6,1000,7]) ?_;refine B6 Cr ?_;refine A4 Dq ?_;refine Aa (Ae (B6 Cr ?_));refine Bp Dq ?_;refine Aq Cg ?_;refine Bh (Ch (xs:=[.tmp 19]) 20 U U U (.cons (.tm U) U U .nil) Tryz.underlying91 Ck U U U U) U ?_
 refine Ct (Cx U U U (.tm U) U (.tm U) U U Tryz.underlying91 Ck U (by (simp [chunk];omega)) (by (unfold maxLen;simp [chunk];omega))) U ?_;refine Bt (As [0,1,2,3,4,5,6,7,21] [6,1000,7]) ?_;refine B6 Cr ?_;refine A4 Dq ?_;refine Aa (Ae (Bp Ci ?_));refine A4 Ci ?_;refine Aa (Al (Res.one U (.cell U U Ci U U .nil) U ?_))
 simp [cExpr,unflT,cToken,chunk];rfl
end Go.Proofs.YtdhojcaoljhbiaaGreatDoor
set_option maxHeartbeats 1000000
set_option maxRecDepth 100000
namespace Go.Q
open Go.D
theorem strict_same {l r:List TPair} (hl:StrictS pless l) (hr:StrictS pless r) (hs:∀ x∈l,x∈r) (h:r.length≤l.length):l=r:=by
 refine strict_ext pless_so hl hr fun x=>⟨hs x,fun hx=>?_⟩
 by_cases hm:x∈l
 · exact hm
 have:=nodup_le (l:=x::l) (r:=r) (List.nodup_cons.2 ⟨hm,strict_nodup pless_so hl⟩) fun y hy=>by
  rcases List.mem_cons.1 hy with rfl|hy
  · exact hx
  exact hs y hy
 simp only [List.length_cons] at this;omega
theorem setG_add (l:List TPair) (x:TPair):setG pless (l++[x])=putG pless (setG pless l) x:=by unfold setG;rw [List.foldl_append];rfl
theorem setG_ext {l r:List TPair} (h:∀ x,x∈l↔x∈r):setG pless l=setG pless r:=strict_ext pless_so (setG_strict pless_so _) (setG_strict pless_so _) fun x=>by rw [mem_setG,mem_setG];exact h x
def idL (n:Nat):List TPair:=(List.range n).map fun (i:Nat)=>⟨(i:Int),(i:Int)⟩
theorem idL_succ (n:Nat):idL (n+1)=idL n++[⟨(n:Int),(n:Int)⟩]:=by unfold idL;rw [List.range_succ];simp
theorem mem_idL {n:Nat} {p:TPair}:p∈idL n↔(0≤p.From∧p.From<n)∧p.To=p.From:=by
 unfold idL
 simp only [List.mem_map,List.mem_range]
 constructor
 · rintro⟨i,hi,rfl⟩;exact⟨⟨by simp,by simpa using hi⟩,rfl⟩
 rintro⟨h1,h2⟩;exact⟨p.From.toNat,by omega,by cases p;simp at h1 h2 ⊢;omega⟩
theorem idL_strict (n:Nat):StrictS pless (idL n):=by
 unfold idL StrictS
 rw [List.pairwise_map]
 refine List.Pairwise.imp ?_ List.pairwise_lt_range;intro i j h
 unfold pless
 simp;omega
def pairsC (a b:List TPair):List TPair:=a.flatMap fun p=>(b.filter fun q=>decide (p.To=q.From)).map fun q=>⟨p.From,q.To⟩
def compL (a b:List TPair):List TPair:=setG pless (pairsC a b)
theorem mem_pairsC {a b:List TPair} {p:TPair}:p∈pairsC a b↔∃ x∈a,∃ y∈b,x.To=y.From∧p.From=x.From∧p.To=y.To:=by
 unfold pairsC
 simp only [List.mem_flatMap,List.mem_map,List.mem_filter,decide_eq_true_eq]
 constructor
 · rintro⟨x,hx,y,⟨hy,h⟩,rfl⟩;exact⟨x,hx,y,hy,h,rfl,rfl⟩
 rintro⟨x,hx,y,hy,h,h1,h2⟩;exact⟨x,hx,y,⟨hy,h⟩,by cases p;simp at h1 h2 ⊢;exact⟨h1.symm,h2.symm⟩⟩
theorem mem_compL {a b:List TPair} {p:TPair}:p∈compL a b↔∃ x∈a,∃ y∈b,x.To=y.From∧p.From=x.From∧p.To=y.To:=by unfold compL;rw [mem_setG,mem_pairsC]
theorem mem_pmerge {a b:List TPair} {p:TPair}:p∈pmerge a b↔p∈a∨p∈b:=by unfold pmerge;rw [mem_setG,List.mem_append]
theorem compL_set (a b:List TPair):compL (setG pless a) b=compL a b:=by
 unfold compL
 refine setG_ext fun p=>?_
 rw [mem_pairsC,mem_pairsC]
 simp only [mem_setG]
theorem pairsC_len (a b:List TPair):(pairsC a b).length≤a.length*b.length:=by
 unfold pairsC
 induction a with
 | nil=>simp
 | cons p a ih=>
  rw [List.flatMap_cons,List.length_append,List.length_map,List.length_cons,Nat.succ_mul]
  have:=List.length_filter_le (fun q=>decide (p.To=q.From)) b
  omega
def relIn (n:Nat) (l:List TPair):Prop:=∀ p∈l,(0≤p.From∧p.From<n)∧0≤p.To∧p.To<n
theorem relIn_id (n:Nat):relIn n (idL n):=fun p hp=>by have:=mem_idL.1 hp;omega
theorem relIn_comp {n:Nat} {a b:List TPair} (ha:relIn n a) (hb:relIn n b):relIn n (compL a b):=fun p hp=>by
 obtain⟨x,hx,y,hy,_,h1,h2⟩:=mem_compL.1 hp
 have:=ha x hx
 have:=hb y hy
 omega
theorem relIn_merge {n:Nat} {a b:List TPair} (ha:relIn n a) (hb:relIn n b):relIn n (pmerge a b):=fun p hp=>by
 rcases mem_pmerge.1 hp with h|h
 · exact ha p h
 exact hb p h
theorem relIn_len {n:Nat} {l:List TPair} (hl:StrictS pless l) (h:relIn n l):l.length≤n*n:=by
 have:=nodup_le (l:=l) (r:=(List.range n).flatMap fun (i:Nat)=>(List.range n).map fun (k:Nat)=>(⟨(i:Int),(k:Int)⟩:TPair)) (strict_nodup pless_so hl) fun p hp=>by
  have:=h p hp
  simp only [List.mem_flatMap,List.mem_map,List.mem_range]
  exact⟨p.From.toNat,by omega,p.To.toNat,by omega,by cases p;simp at this ⊢;omega⟩
 refine Nat.le_trans this ?_
 have hf:∀ m,((List.range m).flatMap fun (i:Nat)=>(List.range n).map fun (k:Nat)=>(⟨(i:Int),(k:Int)⟩:TPair)).length=m*n:=by
  intro m
  induction m with
  | zero=>simp
  | succ m ih=>rw [List.range_succ,List.flatMap_append,List.length_append,ih,Nat.succ_mul];simp
 rw [hf];exact Nat.le_refl _
theorem relIn_len5 {n:Nat} (hn:n≤5) {l:List TPair} (hl:StrictS pless l) (h:relIn n l):l.length≤25:=Nat.le_trans (relIn_len hl h) (Nat.mul_le_mul hn hn)
def itC (n:Nat) (l:List TPair):Nat→List TPair
 | 0=>idL n
 | k+1=>pmerge (itC n l k) (compL (itC n l k) l)
theorem itC_strict (n:Nat) (l:List TPair):∀ k,StrictS pless (itC n l k)
 | 0=>idL_strict n
 | k+1=>setG_strict pless_so _
theorem itC_in {n:Nat} {l:List TPair} (hl:relIn n l):∀ k,relIn n (itC n l k)
 | 0=>relIn_id n
 | k+1=>relIn_merge (itC_in hl k) (relIn_comp (itC_in hl k) hl)
theorem itC_more {n:Nat} {l:List TPair} {k:Nat} {p:TPair} (h:p∈itC n l k):p∈itC n l (k+1):=mem_pmerge.2 (.inl h)
theorem itC_stay {n:Nat} {l:List TPair} {k:Nat} (h:itC n l (k+1)=itC n l k):∀ m,k≤m→itC n l m=itC n l k:=by
 intro m hm
 induction hm with
 | refl=>rfl
 | step _ ih=>rw [itC,ih];exact h
theorem countP_lt {α:Type} {p q:α→Bool} {a:α}:∀ {l:List α},(∀ x∈l,p x=true→q x=true)→a∈l→p a=false→q a=true→l.countP p<l.countP q
 | [],_,h,_,_=>by cases h
 | x::l,hpq,h,hp,hq=>by
  rw [List.countP_cons,List.countP_cons]
  have hm:l.countP p≤l.countP q:=List.countP_mono_left fun y hy=>hpq y (by simp [hy])
  rcases List.mem_cons.1 h with rfl|h
  · rw [hp,hq];simp;omega
  have:=countP_lt (l:=l) (fun y hy=>hpq y (by simp [hy])) h hp hq
  have hx:=hpq x (by simp)
  cases hpx:p x with
  | false=>simp;omega
  | true=>rw [hx hpx];simp;omega
def cntC (n:Nat) (l:List TPair) (x:Int) (k:Nat):Nat:=(List.range n).countP fun (y:Nat)=>decide ((⟨x,(y:Int)⟩:TPair)∈itC n l k)
theorem itC_grow {n:Nat} {l:List TPair} (hl:relIn n l) {x:Int} (hx:0≤x∧x<n):∀ k,(∀ y,(⟨x,y⟩:TPair)∈itC n l (k+1)→(⟨x,y⟩:TPair)∈itC n l k)∨k+1<cntC n l x (k+1)
 | k=>by
  have hpos:k+1≤cntC n l x k∨(∀ y,(⟨x,y⟩:TPair)∈itC n l (k+1)→(⟨x,y⟩:TPair)∈itC n l k):=by
   cases k with
   | zero=>
    left
    have hm:x.toNat∈List.range n:=List.mem_range.2 (by omega)
    have:=countP_lt (p:=fun _=>false) (q:=fun (y:Nat)=>decide ((⟨x,(y:Int)⟩:TPair)∈itC n l 0)) (a:=x.toNat) (l:=List.range n) (fun _ _ h=>by cases h) hm rfl (by simp only [decide_eq_true_eq];exact mem_idL.2 ⟨hx,by simp;omega⟩)
    unfold cntC;omega
   | succ k=>
    rcases itC_grow hl hx k with h|h
    · right
      intro y hy
      rw [itC] at hy
      rcases mem_pmerge.1 hy with hy|hy
      · exact hy
      obtain⟨p,hp,q,hq,h1,h2,h3⟩:=mem_compL.1 hy
      have hp':p=⟨x,p.To⟩:=by cases p;simp at h2 ⊢;exact h2.symm
      rw [hp'] at hp
      rw [itC]
      exact mem_pmerge.2 (.inr (mem_compL.2 ⟨_,h _ hp,q,hq,h1,rfl,h3⟩))
    left;omega
  rcases hpos with h|h
  · by_cases hs:∀ y,(⟨x,y⟩:TPair)∈itC n l (k+1)→(⟨x,y⟩:TPair)∈itC n l k
    · exact .inl hs
    right
    obtain⟨y,hy⟩:=Classical.not_forall.1 hs
    obtain⟨hy1,hy2⟩:=Classical.not_imp.1 hy
    have hb:=(itC_in hl (k+1) _ hy1).2
    have hyn:((y.toNat:Nat):Int)=y:=Int.toNat_of_nonneg hb.1
    have:=countP_lt (p:=fun (y:Nat)=>decide ((⟨x,(y:Int)⟩:TPair)∈itC n l k)) (q:=fun (y:Nat)=>decide ((⟨x,(y:Int)⟩:TPair)∈itC n l (k+1))) (a:=y.toNat) (l:=List.range n) (fun z _ hz=>by simp only [decide_eq_true_eq] at hz ⊢;exact itC_more hz) (List.mem_range.2 (by have:=hb.2;simp at this;omega)) (by simp only [decide_eq_false_iff_not,hyn];exact hy2) (by simp only [decide_eq_true_eq,hyn];exact hy1)
    have this':cntC n l x k<cntC n l x (k+1):=this
    exact Nat.lt_of_le_of_lt h this'
  exact .inl h
theorem itC_fix {n:Nat} {l:List TPair} (hl:relIn n l):itC n l (n+1)=itC n l n:=by
 refine strict_ext pless_so (itC_strict _ _ _) (itC_strict _ _ _) fun p=>⟨fun hp=>?_,itC_more⟩
 have hb:=itC_in hl _ p hp
 rcases itC_grow hl (x:=p.From) hb.1 n with h|h
 · exact h p.To hp
 have:cntC n l p.From (n+1)≤n:=by unfold cntC;exact Nat.le_trans List.countP_le_length (by simp)
 omega
def closeL (n:Nat) (l:List TPair):List TPair:=itC n l 5
theorem closeL_stay {n:Nat} (hn:n≤5) {l:List TPair} (hl:relIn n l) {k:Nat} (hk:5≤k):itC n l k=closeL n l:=by
 have h:=itC_stay (itC_fix hl)
 unfold closeL
 rw [h k (by omega),h 5 (by omega)]
theorem itC_done {n:Nat} (hn:n≤5) {l:List TPair} (hl:relIn n l) {k:Nat} (h:(itC n l (k+1)).length=(itC n l k).length):itC n l k=closeL n l:=by
 have e:=strict_same (itC_strict n l k) (itC_strict n l (k+1)) (fun x hx=>itC_more hx) (by omega)
 have h2:=itC_stay e.symm (max k 5) (by omega)
 rw [←h2]
 exact closeL_stay hn hl (by omega)
theorem itC_on {n:Nat} (hn:n≤5) {l:List TPair} (hl:relIn n l) {k:Nat} (h:(itC n l (k+1)).length≠(itC n l k).length):k<5:=by
 rcases Nat.lt_or_ge k 5 with h5|h5
 · exact h5
 exact absurd (by rw [closeL_stay hn hl (show 5≤k+1 by omega),closeL_stay hn hl h5]) h
def pwL (n:Nat) (l:List TPair):Nat→List TPair
 | 0=>idL n
 | k+1=>compL (pwL n l k) l
def outP (n:Nat) (l:List TPair) (low:Int):Nat→List TPair
 | 0=>[]
 | k+1=>if low≤k then pmerge (outP n l low k) (pwL n l k) else outP n l low k
theorem pwL_in {n:Nat} {l:List TPair} (hl:relIn n l):∀ k,relIn n (pwL n l k)
 | 0=>relIn_id n
 | k+1=>relIn_comp (pwL_in hl k) hl
theorem pwL_strict (n:Nat) (l:List TPair):∀ k,StrictS pless (pwL n l k)
 | 0=>idL_strict n
 | k+1=>setG_strict pless_so _
theorem outP_in {n:Nat} {l:List TPair} {low:Int} (hl:relIn n l):∀ k,relIn n (outP n l low k)
 | 0=>fun p hp=>by cases hp
 | k+1=>by
  rw [outP]
  split
  · exact relIn_merge (outP_in hl k) (pwL_in hl k)
  exact outP_in hl k
theorem outP_strict (n:Nat) (l:List TPair) (low:Int):∀ k,StrictS pless (outP n l low k)
 | 0=>List.Pairwise.nil
 | k+1=>by
  rw [outP]
  split
  · exact setG_strict pless_so _
  exact outP_strict n l low k
def powL (n:Nat) (l:List TPair) (low high:Int):List TPair:=outP n l low (high.toNat+1)
def edgeP (k:Int) (e:TEdge):List TPair:=(if 2*e.Label=k then [⟨e.From,e.To⟩] else [])++if 2*e.Label+1=k then [⟨e.To,e.From⟩] else []
def selfP (g:TGraph) (k:Int) (x:Nat):List TPair:=if k=6+g.Values[x]?.getD 0 then [⟨(x:Int),(x:Int)⟩] else []
def letL (g:TGraph) (k:Int):List TPair:=setG pless ((List.range g.Values.length).flatMap (selfP g k)++g.Edges.flatMap (edgeP k))
def relOf (g:TGraph):Tr→List TPair
 | .leaf t=>if t.Kind=2 then idL g.Values.length else if t.Kind=3 then letL g t.Letter else []
 | .un t x=>if t.Kind=6 then closeL g.Values.length (relOf g x) else powL g.Values.length (relOf g x) t.Low t.High
 | .bin t x y=>if t.Kind=4 then compL (relOf g x) (relOf g y) else pmerge (relOf g x) (relOf g y)
theorem letL_in {g:TGraph} (hg:validG g=true) (k:Int):relIn g.Values.length (letL g k):=fun p hp=>by
 unfold letL at hp
 rw [mem_setG,List.mem_append] at hp
 rcases hp with hp|hp
 · obtain⟨x,hx,hp⟩:=List.mem_flatMap.1 hp
   have:=List.mem_range.1 hx
   unfold selfP at hp
   split at hp
   · rw [List.mem_singleton] at hp;subst hp;simp;omega
   cases hp
 obtain⟨e,he,hp⟩:=List.mem_flatMap.1 hp
 obtain⟨j,hj⟩:=List.getElem?_of_mem he
 have:=validG_edge hg hj
 unfold edgeP at hp
 rcases List.mem_append.1 hp with hp|hp
 · split at hp
   · rw [List.mem_singleton] at hp;subst hp;simp only;omega
   cases hp
 split at hp
 · rw [List.mem_singleton] at hp;subst hp;simp only;omega
 cases hp
theorem relOf_ok {g:TGraph} (hg:validG g=true):∀ x:Tr,relIn g.Values.length (relOf g x)∧StrictS pless (relOf g x)
 | .leaf t=>by
  rw [relOf]
  split
  · exact⟨relIn_id _,idL_strict _⟩
  split
  · exact⟨letL_in hg _,setG_strict pless_so _⟩
  exact⟨fun p hp=>(by cases hp),List.Pairwise.nil⟩
 | .un t x=>by
  have ih:=relOf_ok hg x
  rw [relOf]
  split
  · exact⟨itC_in ih.1 _,itC_strict _ _ _⟩
  exact⟨outP_in ih.1 _,outP_strict _ _ _ _⟩
 | .bin t x y=>by
  have ih:=relOf_ok hg x
  have ih2:=relOf_ok hg y
  rw [relOf]
  split
  · exact⟨relIn_comp ih.1 ih2.1,setG_strict pless_so _⟩
  exact⟨relIn_merge ih.1 ih2.1,setG_strict pless_so _⟩
theorem relOf_len {g:TGraph} (hg:validG g=true) (x:Tr):(relOf g x).length≤25:=relIn_len5 (validG_len hg).2.1 (relOf_ok hg x).2 (relOf_ok hg x).1
end Go.Q
set_option maxHeartbeats 1000000
set_option maxRecDepth 100000
namespace Go.Q
open Go.D
def atomOk (n:Int) (a:TPathAtom):Bool:=inB a.From 0 (n-1)&&inB a.To 0 (n-1)&&isValidExpr a.Expr
def seenV (l:List TPathAtom) (v:Nat):Bool:=l.any fun a=>decide (a.From=v)||decide (a.To=v)
def validConj (q:TConjunction):Bool:=(inB q.VariableCount 1 4&&inB q.Atoms.length 1 4)&&q.Atoms.all (atomOk q.VariableCount)&&(List.range q.VariableCount.toNat).all (seenV q.Atoms)
theorem atomOk_r {n:Int} {a:TPathAtom} (h:atomOk n a=true):(0≤a.From∧a.From<n)∧(0≤a.To∧a.To<n):=by
 unfold atomOk inB at h
 simp only [Bool.and_eq_true,decide_eq_true_eq] at h
 omega
theorem seenV_snoc (l:List TPathAtom) (a:TPathAtom) (v:Nat):seenV (l++[a]) v=(seenV l v||(decide (a.From=v)||decide (a.To=v))):=by
 unfold seenV;simp
theorem seenV_set {l:List TPathAtom} {a:TPathAtom} {n:Nat} (h1:0≤a.From∧a.From<n) (h2:0≤a.To∧a.To<n) :
 (((List.range n).map (seenV l)).set a.From.toNat true).set a.To.toNat true=(List.range n).map (seenV (l++[a])):=by
 apply List.ext_getElem?;intro i
 simp only [List.getElem?_set,List.getElem?_map,List.length_set,List.length_map,List.length_range]
 by_cases hi:i<n
 · rw [List.getElem?_range hi]
   simp only [Option.map_some,seenV_snoc]
   by_cases e2:a.To.toNat=i
   · rw [if_pos e2,if_pos (by omega)]
     have:a.To=i:=by omega
     simp [this]
   rw [if_neg e2]
   by_cases e1:a.From.toNat=i
   · rw [if_pos e1,if_pos (by omega)]
     have:a.From=i:=by omega
     simp [this]
   rw [if_neg e1]
   have h3:¬ a.From=i:=by omega
   have h4:¬ a.To=i:=by omega
   simp [h3,h4]
 have e:(List.range n)[i]?=none:=by rw [List.getElem?_eq_none];simpa using hi
 rw [e]
 rw [if_neg (by omega),if_neg (by omega)]
 rfl
theorem seenV_out {n:Int} {l:List TPathAtom} (h:l.all (atomOk n)=true) {v:Nat} (hv:n≤v):seenV l v=false:=by
 unfold seenV
 rw [List.any_eq_false]
 intro a ha
 have:=atomOk_r (List.all_eq_true.1 h a ha)
 simp;omega
theorem pow_small {m:Int} (h0:0≤m) (h:m≤4):(1:Int)*2^m.toNat≤16∧1≤(1:Int)*2^m.toNat∧((1:Int)*2^m.toNat).toNat=2^m.toNat:=by
 have hm:m=0∨m=1∨m=2∨m=3∨m=4:=by omega
 rcases hm with rfl|rfl|rfl|rfl|rfl<;>decide
theorem mask_all {n:Int} {M:Nat} {l:List TPathAtom} (hn:1≤n∧n≤4) (h:l.all (atomOk n)=true) (hM:∀ v,M.testBit v=seenV l v):decide ((M:Int)=(1:Int)*2^n.toNat-1)=(List.range n.toNat).all (seenV l):=by
 have hp:=pow_small (m:=n) (by omega) (by omega)
 have e:((M:Int)=(1:Int)*2^n.toNat-1)↔M=2^n.toNat-1:=by
  rw [←hp.2.2];omega
 rw [decide_eq_decide.2 e,Bool.eq_iff_iff,decide_eq_true_eq,List.all_eq_true]
 constructor
 · rintro rfl v hv
   rw [←hM,Nat.testBit_two_pow_sub_one]
   simpa using List.mem_range.1 hv
 intro ha
 apply Nat.eq_of_testBit_eq;intro v
 rw [hM,Nat.testBit_two_pow_sub_one]
 by_cases hv:v<n.toNat
 · rw [ha v (List.mem_range.2 hv)];simp [hv]
 rw [seenV_out h (by omega)];simp [hv]
theorem contains_all {n:Nat} {p:Nat→Bool}:(!decide (false∈(List.range n).map p))=(List.range n).all p:=by
 rw [Bool.eq_iff_iff,List.all_eq_true]
 simp only [Bool.not_eq_true',decide_eq_false_iff_not,List.mem_map,not_exists,not_and]
 constructor
 · intro h v hv
   have:=h v hv
   simpa using this
 intro h v hv e
 rw [h v hv] at e;cases e
end Go.Q
namespace Go.Proofs.YtdhojcaoljhbiaaGreatDoor
open Go.RowKit Go.Q Go.D
theorem specIsValidConjunction (q:TConjunction):FnT Tryz.prog 25 [.agg (cConjunction q)] (.a (.one (.v (.bool (validConj q))))):=by
 refine Ay Tryz.func25 U (by kernel_rfl) Tryz.ntmps25 U fun hlen w0=>?_
 try simp [cToken,cExpr,cPathAtom,cConjunction] at hlen
 refine Ae (Ag (B9 U U U (.tm U) (ts:=_) (by rfl)) U ?_);refine Ak ?_;refine Aa (Ac (Ae (A7 C7 ?_)));refine Aq ty3 ?_;refine Bl (specl1In _ _ _) ?_;refine C1 ?_;refine Ab ?_;refine C9 Cl ?_;refine C8 Dl ?_;refine Ag (C4 U (by exact .not1 U U U U) U (.tmp U (by exact id)) (by exact .t) Tryz.underlying38) U ?_;refine Ag (A3 (FnT.fr (specl1In _ _ _)) U (by exact .not1 U U U U) U (.cons (.tmp U (by exact id)) U (.cons (.const U) U (.cons (.const U) U .nil)))) U ?_;refine Ag (Cy U (by exact .not1 U U U U) U (.tmp U (by exact id))) U ?_;refine Cf ?_;refine Aa (Ai (.tm U) (fun h16=>?_) (fun h16=>?_))
 · try simp at h16
   have hw:validConj q=false:=by unfold validConj;grind
   refine Ac (Am (As [0,1,2] []) ?_);refine Ad (Ak ?_);refine Aa (Al (Bb U U ?_))
   rw [hw]
 try simp at h16
 have hw:(inB q.VariableCount 1 4&&inB q.Atoms.length 1 4)=true:=by grind
 have hn:1≤q.VariableCount∧q.VariableCount≤4:=by unfold inB at hw;simp at hw;omega
 refine Aj (Ac (Am (As [0,1,2] []) ?_));refine Ad (Ak ?_);refine Aa (Ac (Ae (Ak ?_)));refine Aa (AW.block (Dz (fun (k:Nat) (M:Nat)=>(k≤q.Atoms.length∧M<32∧∀ j y,j<k→q.Atoms[j]?=some y→atomOk q.VariableCount y=true)∧(∀ v,M.testBit v=seenV (q.Atoms.take k) v)) (fun (k:Nat) (M:Nat)=>⟨_,[(4,(true,.a (.one (.t (.v (.int .i64 (k:Nat))))))),(3,(true,.a (.one (.t (.v (.int .i64 (M:Nat))))))),(1,_)],[]⟩) (fun (k:Nat) (M:Nat)=>q.Atoms.length-k) (0) (0) ⟨⟨by simp,by simp,by simp⟩,by simp [seenV]⟩ (Ar U ⟨U,U,U,Y⟩ trivial) ?_))
 rintro k M ⟨hk,he⟩
 refine Ac (Ae (Ab ?_));refine A7 Cl ?_;refine Aq Dl ?_;refine Bc (.t) Tryz.underlying38 ?_;refine AWl.lt ?_;refine Aa (Ai (.tm U) (fun hlt=>?_) (fun hlt=>?_))
 · try simp at hlt
   obtain⟨x,hx⟩:∃ x,q.Atoms[k]?=some x:=⟨_,List.getElem?_eq_getElem (by omega)⟩
   refine Aj (Ac (AW.block (Ae (A7 Cl ?_))));refine Aq Dl ?_;refine Ab ?_;refine Ag ((An U (.no U) U (.tm U) (.tm U) Tryz.underlying38 ty95 (fun _=>⟨by omega,(by exact Ao (by assumption))⟩))) U ?_;refine Aq ty95 ?_;refine A6 (Bo 5 U U U in95 U U U) U ?_;refine A4 ty95 ?_;refine Aa (Ac (Ac (Am (As [1,3,4,5] [5]) ?_)));refine Ad (B6 fl95_0 ?_);refine Bp ty3 ?_;refine A7 C7 ?_;refine Aq ty3 ?_;refine C6 ?_;refine Bl (specl1In _ _ _) ?_;refine C1 ?_;refine Ab ?_;refine Ag (Av U (by exact .not1 U U U U) U (.tmp U (by exact fun _=>rfl)) fl95_1) U ?_;refine Ag (Ax U (by exact .not1 U U U U) U (.tmp U (by exact id)) U ty3 U U) U ?_;refine C9 C7 ?_;refine C8 ty3 ?_;refine Ag (Dy U (by exact .not1 U U U U) U (.tmp U (by exact id)) (.const U) (fun hq=>by first|omega|(simp at hq;omega))) U ?_
   refine Ag (A3 (FnT.fr (specl1In _ _ _)) U (by exact .not1 U U U U) U (.cons (.tmp U (by exact id)) U (.cons (.const U) U (.cons (.tmp U (by exact id)) U .nil)))) U ?_;refine Ag (Cy U (by exact .not1 U U U U) U (.tmp U (by exact id))) U ?_;refine Cf ?_;refine Ab ?_;refine Ag (Av U (by exact .not1 U U U U) U (.tmp U (by exact fun _=>rfl)) fl95_2) U ?_;refine Ag (Ax U (by exact .not1 U U U U) U (.tmp U (by exact id)) U Ci U U) U ?_;refine Ag (A3 (FnT.fr (specIsValidExpr _)) U (by exact .not1 U U U U) U (.cons (.tmp U (by exact id)) U .nil)) U ?_;refine Ag (Cy U (by exact .not1 U U U U) U (.tmp U (by exact id))) U ?_;refine Cf ?_;refine Aa (Ai (.tm U) (fun h50=>?_) (fun h50=>?_))
   · try simp at h50
     have hno:atomOk q.VariableCount x=false:=by unfold atomOk;grind
     refine Ac (Am (As [1,3,4,5] [5]) ?_);refine Ad (Ak ?_);refine Aa (Al (Bb U U ?_))
     unfold validConj;rw [not_all hx hno];simp
   try simp at h50
   have hok:atomOk q.VariableCount x=true:=by unfold atomOk;grind
   have hr:=atomOk_r hok
   have hp1:=pow_small (m:=x.From) (by omega) (by omega)
   have hp2:=pow_small (m:=x.To) (by omega) (by omega)
   have hb1:(M:Int).toNat|||((1:Int)*2^x.From.toNat).toNat<2^5:=Nat.or_lt_two_pow (by omega) (by omega)
   have hb2:(((M:Int).toNat|||((1:Int)*2^x.From.toNat).toNat:Nat):Int).toNat|||((1:Int)*2^x.To.toNat).toNat<2^5:=Nat.or_lt_two_pow (by omega) (by omega)
   refine Aj (Am (As [1,3,4,5] [5]) ?_);refine Bq 9 (nthB [[],[],[1],[1,2],[0,1,2,3],[],[5],[5,6],[0,1,2,3,4,5,6,7]]) (by kernel_rfl) (by kernel_rfl) (by kernel_rfl) ?_;refine Ap ?_;refine DrawC.s (fun _ hs=>(by exact Av U (.no U) (Af hs U) (hs.tm U) fl95_0)) ?_;refine DrawC.s (fun _ hs=>(by exact Ax U (.no U) (Af hs U) (hs.tm U) (hs.res _ _ U) ty3 U U)) ?_;refine DrawC.s (fun _ hs=>R_shl1 U (.no U) (Af hs U) (.const U) (hs.tm U) (fun _=>⟨by omega,by omega,by omega,by omega⟩)) ?_;refine DrawC.s (fun _ hs=>R_or_int U (.no U) (Af hs U) (hs.tm U) (hs.tm U) (fun _=>⟨by omega,by omega,by omega,by omega⟩)) ?_;refine DrawC.s (fun _ hs=>(by exact Av U (.no U) (Af hs U) (hs.tm U) fl95_1)) ?_;refine DrawC.s (fun _ hs=>(by exact Ax U (.no U) (Af hs U) (hs.tm U) (hs.res _ _ U) ty3 U U)) ?_
   refine DrawC.s (fun _ hs=>R_shl1 U (.no U) (Af hs U) (.const U) (hs.tm U) (fun _=>⟨by omega,by omega,by omega,by omega⟩)) ?_;refine DrawC.s (fun _ hs=>R_or_int U (.no U) (Af hs U) (hs.tm U) (hs.tm U) (fun _=>⟨by omega,by omega,by omega,by omega⟩)) ?_;refine Bi U U ?_;refine Ah ?_;refine Aa (Am (As [1,3,4,5] [5]) ?_);refine Ad (Ab ?_);refine A8 ?_;refine Ah ?_;refine Aa ?_
   repeat (with_reducible refine Au ?_)
   refine Round2.next (k+1) ((((M:Int).toNat|||((1:Int)*2^x.From.toNat).toNat:Nat):Int).toNat|||((1:Int)*2^x.To.toNat).toNat) ⟨by exact⟨by omega,by omega,each_succ hk.2.2 hx hok⟩,fun v=>by rw [take_at hx,seenV_snoc,←he v,hp2.2.2,Nat.testBit_or,Nat.testBit_two_pow];simp only [Int.toNat_natCast];rw [hp1.2.2,Nat.testBit_or,Nat.testBit_two_pow,Bool.or_assoc];congr 2;apply decide_eq_decide.2;omega;apply decide_eq_decide.2;omega⟩ (by omega) (Ar rfl ⟨rfl,rfl,rfl,Y⟩ trivial)
 try simp at hlt
 have hp:=pow_small (m:=q.VariableCount) (by omega) (by omega)
 refine Ba (Ae (Ab ?_));refine A7 C7 ?_;refine Aq ty3 ?_;refine Ag (R_shl1 U (.no U) U (.const U) (.tm U) (fun _=>⟨by omega,by omega,by omega,by omega⟩)) U ?_;refine C6 ?_;refine AWl.eq ?_;refine Ah ?_;refine Aa (Al (Bb U U ?_))
 unfold validConj;have ha:=each_all hk.2.2 (show q.Atoms.length≤k by omega);rw [List.take_of_length_le (by omega)] at he;rw [mask_all hn ha he,hw,ha];rfl
theorem implIsValidConjunction (q:TConjunction):FnT Tryz.prog 50 [.agg (cConjunction q)] (.a (.one (.v (.bool (validConj q))))):=by
 refine Ay Tryz.func50 U (by kernel_rfl) Tryz.ntmps50 U fun hlen w0=>?_
 try simp [cToken,cExpr,cPathAtom,cConjunction] at hlen
 refine Ae (Ag (B9 U U U (.tm U) (ts:=_) (by rfl)) U ?_);refine Ak ?_;refine Aa (Ac (Ae (A7 C7 ?_)));refine Aq ty3 ?_;refine Bl (implwithin _ _ _) ?_;refine C1 ?_;refine Ab ?_;refine C9 Cl ?_;refine C8 Dl ?_;refine Ag (C4 U (by exact .not1 U U U U) U (.tmp U (by exact id)) (by exact .t) Tryz.underlying38) U ?_;refine Ag (A3 (FnT.fr (implwithin _ _ _)) U (by exact .not1 U U U U) U (.cons (.tmp U (by exact id)) U (.cons (.const U) U (.cons (.const U) U .nil)))) U ?_;refine Ag (Cy U (by exact .not1 U U U U) U (.tmp U (by exact id))) U ?_;refine Cf ?_;refine Aa (Ai (.tm U) (fun h16=>?_) (fun h16=>?_))
 · try simp at h16
   have hw:validConj q=false:=by unfold validConj;grind
   refine Ac (Am (As [0,1,2] []) ?_);refine Ad (Ak ?_);refine Aa (Al (Bb U U ?_))
   rw [hw]
 try simp at h16
 have hw:(inB q.VariableCount 1 4&&inB q.Atoms.length 1 4)=true:=by grind
 have hn:1≤q.VariableCount∧q.VariableCount≤4:=by unfold inB at hw;simp at hw;omega
 refine Aj (Ac (Am (As [0,1,2] []) ?_));refine Ad (A7 C7 ?_);refine Aq ty3 ?_;refine A6 (R_makeSlice 19 U U U (.tm U) Tryz.underlying131 in4 U U U U (by omega)) U ?_;refine Ah ?_;refine Aa (Ac (Ae (A7 Cl ?_)));refine Aq Dl ?_;refine Bc (.t) Tryz.underlying38 ?_;refine Ag (Az U (.no U) U (.const U)) U ?_;refine Aa (AW.block (Bj (fun (k:Nat)=>(k≤q.Atoms.length)∧(∀ j y,j<k→q.Atoms[j]?=some y→atomOk q.VariableCount y=true)) (fun (k:Nat)=>⟨_,[(23,(true,.a (.one (.t (.v (.int .i64 (k:Nat))))))),(3,(true,.a (.one (.rf 19)))),(1,_),(21,_),(22,_)],[(19,.row 1 (((List.range q.VariableCount.toNat).map (seenV (q.Atoms.take k))).map cBool))]⟩) (fun (k:Nat)=>q.Atoms.length-k) (0) ⟨by simp,by simp⟩ (Ar U ⟨U,U,U,U,U,Y⟩ ⟨congrArg (fun r=>some (R.row 1 r)) (List.ext_getElem (by simp) (by intro i h1 h2;simp [seenV,cBool])),Y⟩) ?_))
 rintro k ⟨hk,he⟩
 refine Ae (AWl.lt ?_);refine Aa (Ac (Ai (.tm U) (fun hlt=>?_) (fun hlt=>?_)))
 · try simp at hlt
   obtain⟨x,hx⟩:∃ x,q.Atoms[k]?=some x:=⟨_,List.getElem?_eq_getElem (by omega)⟩
   refine Aj (Ac (AW.block (Ae (Ag ((An U (.no U) U (.tm U) (.tm U) Tryz.underlying38 ty95 (fun _=>⟨by omega,(by exact Ao (by assumption))⟩))) U ?_))));refine Aq ty95 ?_;refine A6 (Bo 5 U U U in95 U U U) U ?_;refine A4 ty95 ?_;refine Aa (Ac (Ae (B6 fl95_0 ?_)));refine Bp ty3 ?_;refine A7 C7 ?_;refine Aq ty3 ?_;refine C6 ?_;refine Bl (implwithin _ _ _) ?_;refine C1 ?_;refine Ab ?_;refine Ag (Av U (by exact .not1 U U U U) U (.tmp U (by exact fun _=>rfl)) fl95_1) U ?_;refine Ag (Ax U (by exact .not1 U U U U) U (.tmp U (by exact id)) U ty3 U U) U ?_;refine C9 C7 ?_;refine C8 ty3 ?_;refine Ag (Dy U (by exact .not1 U U U U) U (.tmp U (by exact id)) (.const U) (fun hq=>by first|omega|(simp at hq;omega))) U ?_;refine Ag (A3 (FnT.fr (implwithin _ _ _)) U (by exact .not1 U U U U) U (.cons (.tmp U (by exact id)) U (.cons (.const U) U (.cons (.tmp U (by exact id)) U .nil)))) U ?_
   refine Ag (Cy U (by exact .not1 U U U U) U (.tmp U (by exact id))) U ?_;refine Cf ?_;refine Ab ?_;refine Ag (Av U (by exact .not1 U U U U) U (.tmp U (by exact fun _=>rfl)) fl95_2) U ?_;refine Ag (Ax U (by exact .not1 U U U U) U (.tmp U (by exact id)) U Ci U U) U ?_;refine Ag (A3 (FnT.fr (implIsValidExpr _)) U (by exact .not1 U U U U) U (.cons (.tmp U (by exact id)) U .nil)) U ?_;refine Ag (Cy U (by exact .not1 U U U U) U (.tmp U (by exact id))) U ?_;refine Cf ?_;refine Aa (Ai (.tm U) (fun h48=>?_) (fun h48=>?_))
   · try simp at h48
     have hno:atomOk q.VariableCount x=false:=by unfold atomOk;grind
     refine Ac (Am (As [1,3,5,21,22,23] [19,5]) ?_);refine Ad (Ak ?_);refine Aa (Al (Bb U U ?_))
     unfold validConj;rw [not_all hx hno];simp
   try simp at h48
   have hok:atomOk q.VariableCount x=true:=by unfold atomOk;grind
   have hr:=atomOk_r hok
   have hr1:=Ao (f:=cBool) (getD_at (d:=false) (l:=(List.range q.VariableCount.toNat).map (seenV (q.Atoms.take k))) (k:=x.From.toNat) (by simp;omega))
   have hr2:=Ao (f:=cBool) (getD_at (d:=false) (l:=((List.range q.VariableCount.toNat).map (seenV (q.Atoms.take k))).set x.From.toNat true) (k:=x.To.toNat) (by simp;omega))
   rw [List.map_set] at hr2
   refine Aj (Am (As [1,3,5,21,22,23] [19,5]) ?_)
   refine AW.drawnF (fid:=19) 7 (nthB [[],[],[1],[],[],[4],[0,1,2],[0,1,2,6]]) [(49,(true,.a (.one (.rf 19))),[]),(50,(true,.a (.one (.pp 5 0))),[]),(51,(true,.a (.one (.t (.v (.int .i64 x.From))))),[]),(52,(true,.a (.one (.rf 19))),[]),(53,(true,.a (.one (.pp 5 1))),[]),(54,(true,.a (.one (.t (.v (.int .i64 x.To))))),[]),(55,(true,.a (.one (.pr 19 1 x.From.toNat 0))),[])] (memN [3,4,5]) _ ⟨_,[(1,_),(3,_),(5,_),(21,_),(22,_),(23,_)],[(5,_)]⟩ (by kernel_rfl) (by kernel_rfl) (by kernel_rfl) U Bk U ⟨Loc.ofE U (fun σ' hs=>Az U (.no U) (Af hs U) (hs.tm U)) (by exact U),Loc.ofE U (fun σ' hs=>(Av U (.no U) (Af hs U) (hs.tm U) fl95_0)) (by exact U),Loc.ofE U (fun σ' hs=>(by exact Ax U (.no U) (Af hs U) (hs.tm U) (hs.res _ _ U) ty3 U U)) (by exact U),Loc.ofE U (fun σ' hs=>Az U (.no U) (Af hs U) (hs.tm U)) (by exact U),Loc.ofE U (fun σ' hs=>(by exact Av U (.no U) (Af hs U) (hs.tm U) fl95_1)) (by exact U),Loc.ofE U (fun σ' hs=>(by exact Ax U (.no U) (Af hs U) (hs.tm U) (hs.res _ _ U) ty3 U U)) (by exact U),Loc.ofE U (fun σ' hs=>(by exact Be U (.no U) (Af hs U) (hs.tm U) (hs.res _ _ U) (hs.tm U) Tryz.underlying131 ty4 (fun _=>⟨by omega,(by assumption)⟩))) (by exact U),Y⟩ (fun σ' hs=>Dc U U U (.const U) U (hs.tm U) (hs.res _ _ U) (by assumption) ty4 U U U U) Bk U U U U U ?_
   refine Bt (As [1,3,5,21,22,23,52,54] [19,5]) ?_;refine Ag (by exact Be U (.no U) U (.tm U) U (.tm U) Tryz.underlying131 ty4 (fun _=>⟨by omega,(by assumption)⟩)) U ?_;refine C3 (Dc U U U (.const U) U (.tm U) U (by assumption) ty4 U U U U) ?_;refine Aa (Ad (A8 ?_));refine Ab ?_;refine Aa ?_
   repeat (with_reducible refine Au ?_)
   refine Round1.next (k+1) ⟨by omega,each_succ he hx hok⟩ (by omega) (Ar rfl ⟨rfl,rfl,rfl,rfl,rfl,Y⟩ ⟨congrArg (fun r=>some (R.row 1 r)) (by rw [take_at hx,←seenV_set (n:=q.VariableCount.toNat) (by omega) (by omega)];simp [cBool,List.map_set]),Y⟩)
 try simp at hlt
 refine Ba (Ae (Ab ?_));refine Bl (slicesContainsBool _ _) ?_;refine C1 ?_;refine Ah ?_;refine Aa (Al (Bb U U ?_))
 unfold validConj;have ha:=each_all he (show q.Atoms.length≤k by omega);rw [List.take_of_length_le (by omega)];rw [hw,ha,contains_all];rfl
end Go.Proofs.YtdhojcaoljhbiaaGreatDoor
