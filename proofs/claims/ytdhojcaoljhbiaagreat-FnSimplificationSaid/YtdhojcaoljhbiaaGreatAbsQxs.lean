import Derived.Test.YtdhojcaoljhbiaaGreatTrxs
import Derived.Test.YtdhojcaoljhbiaaGreatAbsIxs
import Derived.Test.YtdhojcaoljhbiaaGreatAbs15xs
import Derived.Test.YtdhojcaoljhbiaaGreatBExs
import Derived.Laws.Cover3
import Derived.Lib.Join
import Derived.Lib.ItoaNum
set_option linter.unusedVariables false
set_option linter.unusedSimpArgs false
set_option maxHeartbeats 1000000
set_option maxRecDepth 100000
namespace Go.Q
open Go.RowKit Go.D
theorem arity_nk {t:TToken} (h:tokOk t=true):arity t=nk t.Kind:=by
 unfold tokOk at h
 unfold arity at h ⊢
 unfold nk
 have h:=of_decide_eq_true h
 repeat' split
 all_goals first|rfl|omega|skip
 all_goals simp_all
theorem nk_cases (k:Int):nk k=0∨nk k=1∨nk k=2:=by
 unfold nk
 split
 · exact .inr (.inr rfl)
 split
 · exact .inr (.inl rfl)
 exact .inl rfl
theorem stepTr_some {ts:List Tr} {t:TToken} (h:tokOk t=true) (hn:nk t.Kind≤ts.length):∃ ts',stepTr ts t=some ts'∧ts'.length=ts.length-nk t.Kind+1:=by
 unfold stepTr
 rw [if_neg (by simp [h];omega)]
 have hl:(ts.drop (ts.length-nk t.Kind)).length=nk t.Kind:=by rw [List.length_drop];omega
 generalize ts.drop (ts.length-nk t.Kind)=r at hl
 have h3:=nk_cases t.Kind
 generalize nk t.Kind=n at *
 match n,r,hl with
 | 0,_,_=>exact⟨_,rfl,by simp⟩
 | 1,[x],_=>exact⟨_,rfl,by simp⟩
 | 2,[x,y],_=>exact⟨_,rfl,by simp⟩
 | n+3,_,_=>omega
theorem depth_run (l:List TToken):∀ ts:List Tr,depthGo ts.length l=match runTr ts l with|some [_]=>true|_=>false:=by
 induction l with
 | nil=>
  intro ts
  match ts with
  | []=>rfl
  | [_]=>rfl
  | _::_::_=>simp [depthGo,runTr];omega
 | cons t r ih=>
  intro ts
  rw [depthGo,runTr]
  by_cases h:tokOk t=true
  · have ha:=arity_nk h
    by_cases hn:nk t.Kind≤ts.length
    · obtain⟨ts',h1,h2⟩:=stepTr_some h hn
      rw [if_neg (by omega),h1]
      have e:(ts.length:Int)-arity t+1=ts'.length:=by omega
      rw [e]
      exact ih ts'
    have:stepTr ts t=none:=by unfold stepTr;rw [if_pos (.inr (by omega))]
    rw [if_pos (.inr (by omega)),this]
  have:stepTr ts t=none:=by unfold stepTr;rw [if_pos (.inl (by simpa using h))]
  have ha:arity t<0:=by simpa [tokOk] using h
  rw [if_pos (.inl ha),this]
theorem isExpr_tree (l:List TToken):isExpr l=(treeM l).isSome:=by
 have h:=depth_run l []
 unfold isExpr treeM
 have e:depthGo 0 l=depthGo ([]:List Tr).length l:=rfl
 rw [e,h]
 cases runTr [] l with
 | none=>rfl
 | some v=>match v with
  | []=>rfl
  | [_]=>rfl
  | _::_::_=>rfl
def isValidExpr (x:TExpr):Bool:=decide (x.Tokens.length≤24)&&isExpr x.Tokens
def toks:Tr→List TToken
 | .leaf t=>[t]
 | .un t x=>toks x++[t]
 | .bin t x y=>toks x++toks y++[t]
def toksL (ts:List Tr):List TToken:=ts.flatMap toks
theorem toksL_append (a b:List Tr):toksL (a++b)=toksL a++toksL b:=by unfold toksL;simp
theorem toksL_one (x:Tr):toksL [x]=toks x:=by simp [toksL]
theorem toks_eq (x:Tr):toks x=toksL x.kids++[x.tok]:=by cases x<;>simp [toks,toksL,Tr.kids,Tr.tok]
theorem toks_pos (x:Tr):0<(toks x).length:=by rw [toks_eq];simp
def good:Tr→Prop
 | .leaf t=>arity t=0
 | .un t x=>arity t=1∧good x
 | .bin t x y=>arity t=2∧good x∧good y
theorem good_arity {x:Tr} (h:good x):arity x.tok=x.kids.length:=by
 cases x with
 | leaf t=>exact h
 | un t x=>exact h.1
 | bin t x y=>exact h.1
theorem good_kids {x:Tr} (h:good x):∀ y∈x.kids,good y:=by
 cases x with
 | leaf t=>intro y hy;cases hy
 | un t x=>intro y hy;simp [Tr.kids] at hy;subst hy;exact h.2
 | bin t x z=>intro y hy;simp [Tr.kids] at hy;rcases hy with rfl|rfl;exact h.2.1;exact h.2.2
theorem stepTr_toks {ts ts':List Tr} {t:TToken} (h:stepTr ts t=some ts') (hg:∀ x∈ts,good x):toksL ts++[t]=toksL ts'∧∀ x∈ts',good x:=by
 unfold stepTr at h
 split at h
 · cases h
 rename_i h0
 have hok:tokOk t=true:=by
  cases hq:tokOk t with
  | true=>rfl
  | false=>exact absurd (.inl hq) h0
 have ha:=arity_nk hok
 have hlen:nk t.Kind≤ts.length:=Nat.le_of_not_lt fun h=>h0 (.inr h)
 have hsp:ts=ts.take (ts.length-nk t.Kind)++ts.drop (ts.length-nk t.Kind):=(List.take_append_drop _ _).symm
 have hgd:∀ x∈ts.drop (ts.length-nk t.Kind),good x:=fun x hx=>hg x (List.mem_of_mem_drop hx)
 have hgt:∀ m,∀ x∈ts.take m,good x:=fun m x hx=>hg x (List.mem_of_mem_take hx)
 generalize hr:ts.drop (ts.length-nk t.Kind)=r at h hsp hgd
 generalize hn:nk t.Kind=n at h hsp ha
 split at h
 · cases h
   refine⟨by rw [toksL_append,toksL_one];rfl,fun x hx=>?_⟩
   rcases List.mem_append.1 hx with hx|hx
   · exact hg x hx
   simp at hx;subst hx;exact ha
 · rename_i x
   cases h
   refine⟨?_,fun y hy=>?_⟩
   · conv=>lhs;rw [hsp]
     rw [toksL_append,toksL_append,toksL_one,toksL_one,List.append_assoc];rfl
   rcases List.mem_append.1 hy with hy|hy
   · exact hgt _ y hy
   simp at hy;subst hy;exact⟨ha,hgd x (by simp)⟩
 · rename_i x z
   cases h
   refine⟨?_,fun y hy=>?_⟩
   · conv=>lhs;rw [hsp]
     rw [toksL_append,toksL_append,toksL_one]
     simp [toksL,toks]
   rcases List.mem_append.1 hy with hy|hy
   · exact hgt _ y hy
   simp at hy;subst hy;exact⟨ha,hgd x (by simp),hgd z (by simp)⟩
 cases h
theorem runTr_toks:∀ {l:List TToken} {ts ts':List Tr},runTr ts l=some ts'→(∀ x∈ts,good x)→toksL ts++l=toksL ts'∧∀ x∈ts',good x
 | [],ts,ts',h,hg=>by simp only [runTr,Option.some.injEq] at h;subst h;simpa using hg
 | t::l,ts,ts',h,hg=>by
  rw [runTr] at h
  split at h
  · rename_i ts1 h1
    obtain⟨g1,g2⟩:=stepTr_toks h1 hg
    obtain⟨k1,k2⟩:=runTr_toks h g2
    exact⟨by rw [←k1,←g1];simp,k2⟩
  cases h
theorem treeM_toks {l:List TToken} {x:Tr} (h:treeM l=some x):toks x=l∧good x:=by
 unfold treeM at h
 split at h
 · rename_i y hy
   cases h
   obtain⟨g1,g2⟩:=runTr_toks hy (by simp)
   rw [toksL_one] at g1
   exact⟨by rw [←g1];simp [toksL],g2 x (by simp)⟩
 cases h
theorem valid_tree {e:TExpr} (h:isValidExpr e=true):∃ x,treeM e.Tokens=some x∧toks x=e.Tokens∧good x∧e.Tokens.length≤24:=by
 unfold isValidExpr at h
 simp only [Bool.and_eq_true,decide_eq_true_eq,isExpr_tree] at h
 obtain⟨x,hx⟩:=Option.isSome_iff_exists.1 h.2
 exact⟨x,hx,(treeM_toks hx).1,(treeM_toks hx).2,h.1⟩
inductive NilB:T→Bool→Prop where
 | ad {cs:List T}:NilB (.ad cs) false
 | nil:NilB (.v (.pointer none)) true
theorem NilB.tree (l:List TToken):NilB (treeV l) (!isExpr l):=by
 rw [isExpr_tree]
 unfold treeV
 cases treeM l with
 | none=>exact .nil
 | some x=>exact .ad
section
variable {P:Program} {ops:Array Oper} {o:Oper} {σ:St} {q:Bool}
theorem NilB.val {I:Ip} {w:World} {x:T} {b:Bool} (h:NilB x b) {v:Value} (hv:VE I w (.t x) v):∃ p,v=.pointer p∧p.isNone=b:=by
 obtain⟨G,h1,_⟩:=hv
 cases h with
 | ad=>simp only [C] at h1;obtain⟨b,off,G',rfl,_⟩:=h1;exact⟨_,rfl,rfl⟩
 | nil=>simp only [C] at h1;exact⟨_,h1.1,rfl⟩
theorem guard_ptr {op:BinOp} {t:TypeId} {x y:Operand} {p r:Option Addr} (w:World):(eqGuard op t x y (.pointer p) (.pointer r)).run P w=.ok () w:=by
 unfold eqGuard;split<;>rfl
theorem R_nenil {t t':TypeId} {x y:Operand} {T0:T} {b:Bool} (ho:o.op=.binOp .neq t x y t') (hg:Grd ops o σ q) (hd:o.dst.all (fun d=>Nat.blt d σ.n)=true) (hx:Get σ q x (.one (.t T0))) (hy:Get σ q y (.one (.t (.v (.pointer none))))) (hb:NilB T0 b) (hu:P.underlying t=some (.pointer (P.pointee t))) :
 Op1 P ops o σ (σ.put o.dst (q,.a (.one (.t (.v (.bool !b)))))):=
 .val hg hd fun I w0 a w hr hq=>by
  obtain⟨p,h1,h2⟩:=hb.val (hx.va hr hq)
  refine⟨.bool !b,?_,VS_v _⟩
  have h3:=hy.int hr hq
  simp [execOp,ho,h1,h3,guard_ptr,run_neq_pointer_nil w t p hu,h2]
end
theorem treeV_some {l:List TToken} {x:Tr} (h:treeM l=some x):treeV l=.ad (treeCells x):=by unfold treeV;rw [h]
theorem take_get {l p:List TToken} {n:Nat} {t:TToken} (h:l.take (n+1)=p++[t]) (hp:p.length=n):l[n]?=some t∧l.take n=p:=by
 have h1:(l.take (n+1))[n]?=some t:=by rw [h,←hp];simp
 rw [List.getElem?_take] at h1
 have h2:l.take n=(l.take (n+1)).take n:=by rw [List.take_take];congr 1;omega
 refine⟨by simpa using h1,?_⟩
 rw [h2,h,←hp];simp
theorem toksL_snoc (ys:List Tr) (y:Tr):toksL (ys++[y])=toksL ys++toksL y.kids++[y.tok]:=by rw [toksL_append,toksL_one,toks_eq,List.append_assoc]
def height:Tr→Int
 | .leaf _=>0
 | .un t x=>if t.Kind=6 then height x+1 else height x
 | .bin _ x y=>max (height x) (height y)
theorem height_le (x:Tr):0≤height x∧height x<(toks x).length:=by
 induction x with
 | leaf t=>simp [height,toks]
 | un t x ih=>simp only [height,toks,List.length_append,List.length_singleton];split<;>omega
 | bin t x y ih1 ih2=>simp only [height,toks,List.length_append,List.length_singleton];omega
def heightL:List Tr→Int→Int
 | [],h=>h
 | y::r,h=>heightL r (max h (height y))
theorem heightL_at {l:List Tr} {k:Nat} {y:Tr} (hy:l[k]?=some y) (h:Int):heightL (l.drop k) h=heightL (l.drop (k+1)) (max h (height y)):=by rw [drop_at hy,heightL]
theorem height_eq {x:Tr} (hg:good x):height x=heightL x.kids 0+if x.tok.Kind=6 then 1 else 0:=by
 cases x with
 | leaf t=>
  have h:¬ t.Kind=6:=by
   intro e
   have:arity t=0:=hg
   unfold arity at this
   rw [if_neg (by omega),if_neg (by omega),if_neg (by omega),if_pos e] at this
   split at this<;>omega
  simp [height,heightL,Tr.kids,Tr.tok,h]
 | un t x=>
  have:=height_le x
  simp only [height,heightL,Tr.kids,Tr.tok]
  split<;>omega
 | bin t x y=>
  have h:¬ t.Kind=6:=by
   intro e
   have:arity t=2:=hg.1
   unfold arity at this
   rw [if_neg (by omega),if_neg (by omega),if_neg (by omega),if_pos e] at this
   split at this<;>omega
  have h1:=height_le x
  have h2:=height_le y
  simp only [height,heightL,Tr.kids,Tr.tok,if_neg h]
  omega
def starHeight (e:TExpr):Int:=if isValidExpr e then (match treeM e.Tokens with|some x=>height x|none=> -1) else -1
theorem Tr.ind {P:Tr→Prop} (h:∀ x,(∀ y∈x.kids,P y)→P x):∀ x,P x:=by
 intro x
 induction x with
 | leaf t=>exact h _ fun y hy=>by cases hy
 | un t x ih=>exact h _ fun y hy=>by simp [Tr.kids] at hy;subst hy;exact ih
 | bin t x z ih1 ih2=>exact h _ fun y hy=>by simp [Tr.kids] at hy;rcases hy with rfl|rfl;exact ih1;exact ih2
theorem tok_last (x:Tr):(toks x)[(((toks x).length:Int)-1).toNat]?=some x.tok:=by
 have e:(((toks x).length:Int)-1).toNat=(toksL x.kids).length:=by rw [toks_eq];simp
 rw [e,toks_eq];simp
theorem kids_one {x:Tr} (hg:good x) (h:arity x.tok=1):∃ y,x.kids=[y]∧toks x=toks y++[x.tok]∧good y:=by
 rw [good_arity hg] at h
 cases x with
 | leaf t=>simp [Tr.kids] at h
 | un t y=>exact⟨y,rfl,rfl,hg.2⟩
 | bin t y z=>simp [Tr.kids] at h
theorem kids_two {x:Tr} (hg:good x) (h:arity x.tok=2):∃ y z,x.kids=[y,z]∧toks x=toks y++toks z++[x.tok]∧good y∧good z:=by
 rw [good_arity hg] at h
 cases x with
 | leaf t=>simp [Tr.kids] at h
 | un t y=>simp [Tr.kids] at h
 | bin t y z=>exact⟨y,z,rfl,rfl,hg.2.1,hg.2.2⟩
theorem kids_none {x:Tr} (hg:good x) (h1:¬ arity x.tok=1) (h2:¬ arity x.tok=2):x.kids=[]:=by
 rw [good_arity hg] at h1 h2
 cases x with
 | leaf t=>rfl
 | un t y=>simp [Tr.kids] at h1
 | bin t y z=>simp [Tr.kids] at h2
theorem sl_pre {α β:Type} {f:α→β} {a b l:List α} (h:l=a++b):((l.map f).take a.length).drop 0=a.map f:=by subst h;simp
theorem sl_pre2 {α β:Type} {f:α→β} {a b c l:List α} (h:l=a++b++c):((l.map f).take (a.length+b.length)).drop 0=(a++b).map f:=by
 subst h;rw [List.map_append,←List.length_append,List.take_left' (by simp)];rfl
theorem sl_mid {α β:Type} {f:α→β} {a b c l:List α} (h:l=a++b++c):((l.map f).take (a.length+b.length)).drop a.length=b.map f:=by
 subst h;rw [List.map_append,←List.length_append,List.take_left' (by simp),List.map_append,List.drop_left' (by simp)]
theorem kids_le (x:Tr):x.kids.length≤2:=by cases x<;>simp [Tr.kids]
theorem kind_two {x:Tr} (hg:good x) (h:arity x.tok=2):¬ x.tok.Kind=6:=by
 intro e
 unfold arity at h
 rw [if_neg (by omega),if_neg (by omega),if_neg (by omega),if_pos e] at h
 split at h<;>omega
theorem kind_none {x:Tr} (hg:good x) (h:x.kids=[]):¬ x.tok.Kind=6:=by
 intro e
 have h2:=good_arity hg
 rw [h] at h2
 unfold arity at h2
 rw [if_neg (by omega),if_neg (by omega),if_neg (by omega),if_pos e] at h2
 split at h2<;>simp at h2
theorem kids_toks {x y:Tr} (h:y∈x.kids):(toks y).length<(toks x).length:=by
 cases x with
 | leaf t=>cases h
 | un t x=>simp [Tr.kids] at h;subst h;simp [toks]
 | bin t x z=>simp [Tr.kids] at h;rcases h with rfl|rfl<;>simp [toks]<;>omega
theorem toksL_ge:∀ ys:List Tr,ys.length≤(toksL ys).length
 | []=>by simp
 | y::ys=>by
  have h1:=toksL_ge ys
  have h2:=toks_pos y
  have e:toksL (y::ys)=toks y++toksL ys:=by simp [toksL]
  rw [e,List.length_append,List.length_cons];omega
theorem start_step {l pre:List TToken} {zs:List Tr} {x:Tr} {k:Int} (h:l.take k.toNat=pre++toksL (zs++[x])) (hk:k=(pre.length:Int)+(toksL (zs++[x])).length) :
 l[(k-1).toNat]?=some x.tok∧l.take (k-1).toNat=pre++toksL (zs++x.kids)∧k-1=(pre.length:Int)+(toksL (zs++x.kids)).length:=by
 have e:toksL (zs++[x])=toksL (zs++x.kids)++[x.tok]:=by rw [toksL_snoc,toksL_append]
 rw [e,List.length_append,List.length_singleton] at hk
 have hn:k.toNat=(k-1).toNat+1:=by omega
 rw [e,←List.append_assoc,hn] at h
 have:=take_get h (by rw [List.length_append];omega)
 exact⟨this.1,this.2,by omega⟩
end Go.Q
namespace Go.Proofs.YtdhojcaoljhbiaaGreat
open Go.RowKit Go.Q Go.D
theorem implIsExpr (e:TExpr) (hz:e.Tokens.length≤1048576):FnT Tryz.prog 76 [.agg (cExpr e)] (.a (.one (.v (.bool (isExpr e.Tokens))))):=by
 refine A6 Tryz.func76 U (by kernel_rfl) Tryz.ntmps76 U fun hlen w0=>?_
 try simp [cToken,cExpr] at hlen
 refine Af (Ac (Bo U U U (.tm U) (ts:=_) (by rfl)) U ?_);refine AWl.ac ?_;refine Aa (Af (Ak Ar ?_));refine Ac (Aw (impltreeOf _ hz) U (.no U) U (.cons (.tm U) U .nil)) U ?_;refine Ac (R_nenil U (.no U) U (.tm U) (.const U) (NilB.tree _) Tryz.underlying65) U ?_;refine Ag ?_;refine Aa (Ai (Bb U U ?_))
 simp
theorem specIsValidExpr (e:TExpr):FnT Tryz.prog 37 [.agg (cExpr e)] (.a (.one (.v (.bool (isValidExpr e))))):=by
 refine A6 Tryz.func37 U (by kernel_rfl) Tryz.ntmps37 U fun hlen w0=>?_
 try simp [cToken,cExpr] at hlen
 refine Af (Ac (Bo U U U (.tm U) (ts:=_) (by rfl)) U ?_);refine AWl.ac ?_;refine Aa (Af (A8 Be ?_));refine Ak Cd ?_;refine Br (.t) Tryz.underlying24 ?_;refine Ac (R_le U (.no U) U (.tm U) (.const U)) U ?_;refine Ab ?_;refine Ac (Ca U (by exact .yes1 U U U U) U (.tmp U (by exact fun _=>rfl)) Ar U U) U ?_;refine Ac (Dk U (by exact .yes1 U U U U) U (.cons (.tmp U (by exact id)) U .nil) fun hq=>FnT.fr (specIsExpr _ (by have h24:=of_decide_eq_true hq;omega))) U ?_;refine Cb ?_;refine Ag ?_;refine Aa (Ai (Bb U U ?_))
 congr 1;unfold isValidExpr;congr 1;apply decide_eq_decide.2;omega
theorem implIsValidExpr (e:TExpr):FnT Tryz.prog 34 [.agg (cExpr e)] (.a (.one (.v (.bool (isValidExpr e))))):=by
 refine A6 Tryz.func34 U (by kernel_rfl) Tryz.ntmps34 U fun hlen w0=>?_
 try simp [cToken,cExpr] at hlen
 refine Af (Ac (Bo U U U (.tm U) (ts:=_) (by rfl)) U ?_);refine AWl.ac ?_;refine Aa (Af (A8 Be ?_));refine Ak Cd ?_;refine Br (.t) Tryz.underlying24 ?_;refine Ac (R_le U (.no U) U (.tm U) (.const U)) U ?_;refine Ab ?_;refine Ac (Ca U (by exact .yes1 U U U U) U (.tmp U (by exact fun _=>rfl)) Ar U U) U ?_;refine Ac (Dk U (by exact .yes1 U U U U) U (.cons (.tmp U (by exact id)) U .nil) fun hq=>FnT.fr (implIsExpr _ (by have h24:=of_decide_eq_true hq;omega))) U ?_;refine Cb ?_;refine Ag ?_;refine Aa (Ai (Bb U U ?_))
 congr 1;unfold isValidExpr;congr 1;apply decide_eq_decide.2;omega
theorem specl8Start (pre:List TToken) (y:Tr) (hg:good y) (hz:(pre++toks y).length≤1048576):FnT Tryz.prog 86 [.one (.sl 4 ((pre++toks y).map cToken))] (.a (.one (.v (.int .i64 pre.length)))):=by
 refine A6 Tryz.func86 U (by kernel_rfl) Tryz.ntmps86 U fun hlen w0=>?_
 try simp [cToken,cExpr] at hlen
 rw [List.length_append] at hz
 refine Af (AWl.ac ?_);refine Aa (Af (AWl.ac ?_));refine Aa (Af (Ab ?_));refine Br (.t) Tryz.underlying24 ?_;refine Ag ?_;refine Aa (Ae (AW.block (AW.loop3 (fun (ys:List Tr) (need:Int) (k:Int)=>(need=ys.length∧k=(pre.length:Int)+(toksL ys).length∧k≤1048576∧∀ x∈ys,good x)∧(pre++toks y).take k.toNat=pre++toksL ys) (fun (ys:List Tr) (need:Int) (k:Int)=>⟨_,[(3,(true,.a (.one (.t (.v (.int .i64 need)))))),(4,(true,.a (.one (.t (.v (.int .i64 k)))))),(0,_),(2,_)],[]⟩) (fun (ys:List Tr) (need:Int) (k:Int)=>k.toNat) ([y]) (1) (((pre++toks y).length:Nat)) ⟨⟨U,by simp [toksL_one],by simp;omega,by simpa using hg⟩,by rw [toksL_one,List.take_of_length_le (by simp;omega)]⟩ (Az U ⟨U,U,U,U,Y⟩ trivial) ?_)))
 rintro ys need k ⟨hk,he⟩
 refine Ae (Af (Ab ?_));refine AWl.gc ?_;refine Aa (Ah (.tm U) (fun hlt=>?_) (fun hlt=>?_))
 · try simp at hlt
   obtain⟨zs,T0,rfl⟩:∃ zs T0,ys=zs++[T0]:=by rcases List.eq_nil_or_concat ys with h|⟨zs,T0,h⟩;subst h;simp at hk;omega;exact⟨zs,T0,by simpa using h⟩
   have hT:=hk.2.2.2 T0 (by simp)
   have hta:=good_arity hT
   obtain⟨hst1,hst2,hst3⟩:=start_step he hk.2.1
   have hge1:=toksL_ge (zs++[T0])
   have hge2:=toksL_ge (zs++T0.kids)
   rw [List.length_append] at hge2
   refine AW.skip (AW.block (Af (Ab ?_)));refine C4 ?_;refine Ag ?_;refine Aa (Ad (Ab ?_));refine C4 ?_;refine Ab ?_;refine Ab ?_;refine Ac (An U (.no U) U (.tm U) (.tm U) Tryz.underlying24 Bv (fun _=>⟨by omega,Am hst1⟩)) U ?_;refine Ak Bv ?_;refine Bu (specl8Arity _) ?_;refine Ac (R_add U (.no U) U (.tm U) (.tm U) (fun _=>by omega)) U ?_;refine Ag ?_;refine Aa ?_
   repeat (with_reducible refine A7 ?_)
   refine Round3.next (zs++T0.kids) (need-1+arity T0.tok) (k-1) ⟨by exact⟨by rw [hk.1,hta];simp<;>omega,hst3,by omega,fun x hx=>by rcases List.mem_append.1 hx with h|h;exact hk.2.2.2 x (by simp [h]);exact good_kids hT x h⟩,hst2⟩ (by omega) (Az rfl ⟨rfl,rfl,rfl,rfl,Y⟩ trivial)
 try simp at hlt
 refine Bz (Af (Ab ?_));refine Ag ?_;refine Aa (Ai (Bb U U ?_))
 have:ys=[]:=List.eq_nil_of_length_eq_zero (by omega);subst this;rw [hk.2.1];simp [toksL]
theorem l8Start_at {y:Tr} (hg:good y) {pre:List TToken} (hz:(pre++toks y).length≤1048576):∀ L,L=(pre++toks y).map cToken→FnT Tryz.prog 86 [.one (.sl 4 L)] (.a (.one (.v (.int .i64 pre.length)))):=fun L hL=>by subst hL;exact specl8Start pre y hg hz
theorem implheight1 (x:Tr) (hg:good x) (hz:(toks x).length≤1048576) (ih:∀ y∈x.kids,FnT Tryz.prog 41 [.one (.ad (treeCells y))] (.a (.one (.v (.int .i64 (height y)))))):FnT Tryz.prog 41 [.one (.ad (treeCells x))] (.a (.one (.v (.int .i64 (height x))))):=by
 refine A6 Tryz.func41 U (by kernel_rfl) Tryz.ntmps41 U fun hlen w0=>?_
 try simp [cToken,cExpr] at hlen
 clear hlen;rw [treeCells_eq,height_eq hg];have hkk:=kids_le x
 refine Af (AWl.ac ?_);refine Aa (Af (AWl.ac ?_));refine Aa (Ae (Af (Ab ?_)));refine Ac (B6 U (.no U) U (.tm U)) U ?_;refine A8 Dq ?_;refine Ak ty120 ?_;refine Br (.t) Tryz.underlying120 ?_;refine Ac (Bf U (.no U) U (.const U)) U ?_;refine Aa (AW.block (C6 (fun (k:Nat) (h:Int)=>(k≤x.kids.length∧0≤h∧h≤1048576)∧heightL x.kids 0=heightL (x.kids.drop k) h) (fun (k:Nat) (h:Int)=>⟨_,[(11,(true,.a (.one (.t (.v (.int .i64 (k:Nat))))))),(3,(true,.a (.one (.t (.v (.int .i64 h)))))),(0,_),(2,_),(9,_),(10,_)],[]⟩) (fun (k:Nat) (h:Int)=>x.kids.length-k) (0) (0) ⟨by simp,U⟩ (Az U ⟨U,U,U,U,U,U,Y⟩ trivial) ?_))
 rintro k h ⟨hk,he⟩
 refine Af (AWl.lt ?_);refine Aa (Ae (Ah (.tm U) (fun hlt=>?_) (fun hlt=>?_)))
 · try simp at hlt
   obtain⟨y,hy⟩:∃ y,x.kids[k]?=some y:=⟨_,List.getElem?_eq_getElem (by omega)⟩
   have hym:y∈x.kids:=List.mem_of_getElem? hy
   have hb:=height_le y
   have hbt:=kids_toks hym
   have hn:=heightL_at hy h
   refine AW.skip (Ae (AW.block (Af (Ac (An U (.no U) U (.tm U) (.tm U) Tryz.underlying120 ty65 (fun _=>⟨by omega,Am hy⟩)) U ?_))));refine Ak ty65 ?_;refine Ag ?_;refine Aa (Ad (Ab ?_));refine Ab ?_;refine Ac (Aw (FnT.fr (ih y hym)) U (.no U) U (.cons (.tm U) U .nil)) U ?_;refine Ac (R_max U (.no U) U (.tm U) (.tm U)) U ?_;refine Ag ?_;refine Aa (Al (Ap [0,2,3,5,9,10,11] []) ?_);refine Ad (Bk ?_);refine Ab ?_;refine Aa ?_
   repeat (with_reducible refine A7 ?_)
   refine Round2.next (k+1) (max h (height y)) ⟨by omega,by rw [he,hn]⟩ (by omega) (Az rfl ⟨rfl,rfl,rfl,rfl,rfl,rfl,Y⟩ trivial)
 try simp at hlt
 rw [List.drop_eq_nil_of_le (by omega),heightL] at he
 refine Bz (Ae (Af (Ab ?_)));refine Ac (B6 U (.no U) U (.tm U)) U ?_;refine A8 Di ?_;refine A8 Co ?_;refine Ak ty3 ?_;refine Ba ?_;refine Aa (Ah (.tm U) (fun h25=>?_) (fun h25=>?_))
 · try simp at h25
   refine Al (Ap [0,2,3,9,10,11] []) ?_;refine Ad (Ab ?_);refine Bk ?_;refine Ag ?_;refine Aa (Af (Ab ?_));refine Ag ?_;refine Aa (Ai (Bb U U ?_))
   rw [he,if_pos h25]
 try simp at h25
 refine AW.skip (Ae (Al (Ap [0,2,3,9,10,11] []) ?_));refine Ad (Ab ?_);refine Ag ?_;refine Aa (Ai (Bb U U ?_))
 rw [he,if_neg h25];simp
theorem implheight:∀ x:Tr,good x→(toks x).length≤1048576→FnT Tryz.prog 41 [.one (.ad (treeCells x))] (.a (.one (.v (.int .i64 (height x))))):=
 Tr.ind fun x ih hg hz=>implheight1 x hg hz fun y hy=>ih y hy (good_kids hg y hy) (by have:=kids_toks hy;omega)
theorem implStarHeight (e:TExpr):FnT Tryz.prog 14 [.agg (cExpr e)] (.a (.one (.v (.int .i64 (starHeight e))))):=by
 refine A6 Tryz.func14 U (by kernel_rfl) Tryz.ntmps14 U fun hlen w0=>?_
 try simp [cToken,cExpr] at hlen
 refine Af (Ac (Bo U U U (.tm U) (ts:=_) (by rfl)) U ?_);refine AWl.ac ?_;refine Aa (Ae (Af (Ak Ar ?_)));refine Bu (implIsValidExpr _) ?_;refine Cw ?_;refine Aa (Ah (.tm U) (fun h5=>?_) (fun h5=>?_))
 · try simp at h5
   refine Af (AWl.ac ?_);refine Aa (Ai (Bb U U ?_))
   unfold starHeight;rw [h5];rfl
 try simp at h5
 obtain⟨x,hx,htk,hgx,hl⟩:=valid_tree h5
 have htr:=impltreeOf e (by omega)
 rw [treeV_some hx] at htr
 refine AW.skip (Af (Ak Ar ?_));refine Ac (Aw (htr) U (.no U) U (.cons (.tm U) U .nil)) U ?_;refine Ac (Aw (FnT.fr (implheight x hgx (by rw [htk];omega))) U (.no U) U (.cons (.tm U) U .nil)) U ?_;refine Ag ?_;refine Aa (Ai (Bb U U ?_))
 unfold starHeight;rw [h5,hx];rfl
theorem specl30Height1 (x:Tr) (hg:good x) (hz:(toks x).length≤1048576) (ih:∀ y∈x.kids,∀ L,L=(toks y).map cToken→FnT Tryz.prog 42 [.one (.sl 4 L)] (.a (.one (.v (.int .i64 (height y)))))):FnT Tryz.prog 42 [.one (.sl 4 ((toks x).map cToken))] (.a (.one (.v (.int .i64 (height x))))):=by
 refine A6 Tryz.func42 U (by kernel_rfl) Tryz.ntmps42 U fun hlen w0=>?_
 try simp [cToken,cExpr] at hlen
 clear hlen;rw [height_eq hg];have hlast:=tok_last x;have hpos:=toks_pos x
 refine Af (AWl.ac ?_);refine Aa (Af (Ab ?_));refine Br (.t) Tryz.underlying24 ?_;refine C4 ?_;refine Ag ?_;refine Aa (Ae (Af (Ab ?_)));refine Ab ?_;refine Ac (An U (.no U) U (.tm U) (.tm U) Tryz.underlying24 Bv (fun _=>⟨by omega,Am hlast⟩)) U ?_;refine Ak Bv ?_;refine Bu (specl8Arity _) ?_;refine Aa (AW.block (Ae (Al (Ap [0,2,3,12] []) ?_)));refine Ad (Ba ?_);refine Ag ?_;refine Aa (Ah (.tm U) (fun h13=>?_) (fun h13=>?_))
 · try simp at h13
   obtain⟨y,hk1,hte,hgy⟩:=kids_one hg h13
   have hyb:=height_le y
   have hln:(toks x).length=(toks y).length+1:=by rw [hte];simp
   refine Ae (Af (Ab ?_));refine Ab ?_;refine Ac (An U (.no U) U (.tm U) (.tm U) Tryz.underlying24 Bv (fun _=>⟨by omega,Am hlast⟩)) U ?_;refine A8 Co ?_;refine Ak ty3 ?_;refine Ba ?_;refine Aa (Ah (.tm U) (fun h20=>?_) (fun h20=>?_))
   · try simp at h20
     refine Ae (Al (Ap [0,2,3,12] []) ?_);refine Ad (Ab ?_);refine Ab ?_;refine Ac (Bw (m:=(toks y).length) U (.no U) U (.tm U) .no (.yes (.tm U) (fun _=>by first|omega|(simp<;>omega))) Tryz.underlying24 Bv (fun _=>⟨by omega,by first|omega|(simp;omega)⟩)) U ?_;refine Ac (Aw (FnT.fr (ih y (by rw [hk1];simp) _ (sl_pre hte))) U (.no U) U (.cons (.tm U) U .nil)) U ?_;refine Ac (R_add U (.no U) U (.const U) (.tm U) (fun _=>by omega)) U ?_;refine Ag ?_;refine Aa (Ai (Bb U U ?_))
     rw [hk1,if_pos h20];simp [heightL];omega
   try simp at h20
   refine AW.skip (Ae (Al (Ap [0,2,3,12] []) ?_));refine Ad (Ab ?_);refine Ab ?_;refine Ac (Bw (m:=(toks y).length) U (.no U) U (.tm U) .no (.yes (.tm U) (fun _=>by first|omega|(simp<;>omega))) Tryz.underlying24 Bv (fun _=>⟨by omega,by first|omega|(simp;omega)⟩)) U ?_;refine Ac (Aw (FnT.fr (ih y (by rw [hk1];simp) _ (sl_pre hte))) U (.no U) U (.cons (.tm U) U .nil)) U ?_;refine Ag ?_;refine Aa (Ai (Bb U U ?_))
   rw [hk1,if_neg h20];simp [heightL];omega
 try simp at h13
 refine Af (Ba ?_);refine Ag ?_;refine Aa (Ah (.tm U) (fun h30=>?_) (fun h30=>?_))
 · try simp at h30
   obtain⟨y,z,hk1,hte,hgy,hgz⟩:=kids_two hg h30
   have hyb:=height_le y
   have hzb:=height_le z
   have hln:(toks x).length=(toks y).length+(toks z).length+1:=by rw [hte];simp;omega
   refine Af (Ab ?_);refine Ab ?_;refine Ac (Bw (m:=(toks y).length+(toks z).length) U (.no U) U (.tm U) .no (.yes (.tm U) (fun _=>by first|omega|(simp<;>omega))) Tryz.underlying24 Bv (fun _=>⟨by omega,by first|omega|(simp;omega)⟩)) U ?_;refine Ac (Aw (FnT.fr (l8Start_at hgz (pre:=toks y) (by simp;omega) _ (sl_pre2 hte))) U (.no U) U (.cons (.tm U) U .nil)) U ?_;refine Ag ?_;refine Aa (Ae (Al (Ap [0,2,3,4,12] []) ?_));refine Cc 11 (nthB [[],[],[0,1],[0,1,2],[],[],[],[4,5,6],[0,1,2,3,4,5,6,7],[0,1,2,3,4,5,6,7,8],[0,1,2,3,4,5,6,7,8,9]]) (by kernel_rfl) (by kernel_rfl) (by kernel_rfl) ?_;refine Av ?_;refine Av ?_;refine DrawC.s (fun _ hs=>Bw (m:=(toks y).length) U (.no U) (Aj hs U) (hs.tm U) .no (.yes (hs.tm U) (fun _=>by first|omega|(simp<;>omega))) Tryz.underlying24 Bv (fun _=>⟨by omega,by first|omega|(simp;omega)⟩)) ?_
   refine DrawC.s (fun _ hs=>Aw (FnT.fr (ih y (by rw [hk1];simp) _ (sl_pre (by rw [hte,List.append_assoc])))) U (.no U) (Aj hs U) (.cons (hs.tm U) (readA_sup hs U) .nil)) ?_;refine Av ?_;refine Av ?_;refine Av ?_;refine DrawC.s (fun _ hs=>Bw (n:=(toks y).length) (m:=(toks y).length+(toks z).length) U (.no U) (Aj hs U) (hs.tm U) (.yes (hs.tm U) (fun _=>by first|omega|(simp<;>omega))) (.yes (hs.tm U) (fun _=>by first|omega|(simp<;>omega))) Tryz.underlying24 Bv (fun _=>⟨by omega,by first|omega|(simp;omega)⟩)) ?_;refine DrawC.s (fun _ hs=>Aw (FnT.fr (ih z (by rw [hk1];simp) _ (sl_mid hte))) U (.no U) (Aj hs U) (.cons (hs.tm U) (readA_sup hs U) .nil)) ?_;refine DrawC.s (fun _ hs=>R_max U (.no U) (Aj hs U) (hs.tm U) (hs.tm U)) ?_;refine DrawC.s (fun _ hs=>C5 U (.no U) (Aj hs U) (hs.tm U)) ?_;refine DrawC.fin U U ?_;refine Aa (Ai (Bb U U ?_))
   rw [hk1,if_neg (kind_two hg h30)];simp [heightL];omega
 try simp at h30
 refine AW.skip (Af (AWl.ac ?_));refine Aa (Ai (Bb U U ?_))
 rw [kids_none hg h13 h30,if_neg (kind_none hg (kids_none hg h13 h30))];simp [heightL]
theorem specl30Height:∀ x:Tr,good x→(toks x).length≤1048576→FnT Tryz.prog 42 [.one (.sl 4 ((toks x).map cToken))] (.a (.one (.v (.int .i64 (height x))))):=
 Tr.ind fun x ih hg hz=>specl30Height1 x hg hz fun y hy L hL=>by subst hL;exact ih y hy (good_kids hg y hy) (by have:=kids_toks hy;omega)
theorem specStarHeight (e:TExpr):FnT Tryz.prog 15 [.agg (cExpr e)] (.a (.one (.v (.int .i64 (starHeight e))))):=by
 refine A6 Tryz.func15 U (by kernel_rfl) Tryz.ntmps15 U fun hlen w0=>?_
 try simp [cToken,cExpr] at hlen
 refine Af (Ac (Bo U U U (.tm U) (ts:=_) (by rfl)) U ?_);refine AWl.ac ?_;refine Aa (Ae (Af (Ak Ar ?_)));refine Bu (specIsValidExpr _) ?_;refine Cw ?_;refine Aa (Ah (.tm U) (fun h5=>?_) (fun h5=>?_))
 · try simp at h5
   refine Af (AWl.ac ?_);refine Aa (Ai (Bb U U ?_))
   unfold starHeight;rw [h5];rfl
 try simp at h5
 obtain⟨x,hx,htk,hgx,hl⟩:=valid_tree h5
 have hht:=specl30Height x hgx (by rw [htk];omega)
 rw [htk] at hht
 refine AW.skip (Af (A8 Be ?_));refine Ak Cd ?_;refine Bu (hht) ?_;refine Ag ?_;refine Aa (Ai (Bb U U ?_))
 unfold starHeight;rw [h5,hx];rfl
end Go.Proofs.YtdhojcaoljhbiaaGreat
namespace Go.Q
open Go.RowKit
section
variable {P:Program}
def disN:List Nat→Bool
 | []=>true
 | x::l=>l.all (fun y=>!(Nat.beq x y))&&disN l
theorem Sup.sub0 {σ σ':St} (hn:σ'.n=σ.n) (hs:SubS0 σ σ'.slots) (hr:SubR0 σ σ'.res):Sup σ' σ:=⟨hn.symm,fun i x h=>look_SubS0 hs i x h,fun i x h=>look_SubR0 hr i x h⟩
theorem A5 {σ σ':St} (hn:σ'.n=σ.n:=by exact rfl) (hs:SubS0 σ σ'.slots:=by (repeat refine⟨rfl,?_⟩);exact trivial) (hr:SubR0 σ σ'.res:=by (repeat refine⟨rfl,?_⟩);exact trivial):Sup σ' σ:=Sup.sub0 hn hs hr
def StepsF (P:Program) (ops:Array Oper) (B:Nat→List Nat) (outs:List Out) (X:Nat→Bool) (σ σ2:St):Nat→List Oper→List Out→Prop
 | i,o::l,y::r=>Loc P ops o (stL (memN (B i)) 0 outs (bif X i then σ2 else σ)) y∧StepsF P ops B outs X σ σ2 (i+1) l r
 | _,_,_=>True
theorem StepsF.at {ops:Array Oper} {B:Nat→List Nat} {outs:List Out} {X:Nat→Bool} {σ σ2:St}:∀ (l:List Oper) (r:List Out) (k:Nat),StepsF P ops B outs X σ σ2 k l r→∀ i o y,l[i]?=some o→r[i]?=some y→Loc P ops o (stL (memN (B (k+i))) 0 outs (bif X (k+i) then σ2 else σ)) y
 | [],r,k,h,i,o,y,hl,hr=>by simp at hl
 | o'::l,[],k,h,i,o,y,hl,hr=>by simp at hr
 | o'::l,y'::r,k,h,0,o,y,hl,hr=>by simp at hl hr;subst hl;subst hr;exact h.1
 | o'::l,y'::r,k,h,i+1,o,y,hl,hr=>by
  have:=StepsF.at l r (k+1) h.2 i o y (by simpa using hl) (by simpa using hr)
  rwa [show k+1+i=k+(i+1) by omega] at this
end
end Go.Q
set_option maxHeartbeats 1000000
set_option maxRecDepth 100000
namespace Go.Q
open Go.D
end Go.Q
namespace Go.Proofs.YtdhojcaoljhbiaaGreat
open Go.RowKit Go.Q Go.D
end Go.Proofs.YtdhojcaoljhbiaaGreat
namespace Go.Q
open Go.RowKit
section
variable {P:Program} {ops:Array Oper} {o:Oper} {σ:St} {q:Bool}
structure DrawG (P:Program) (N:Nat) (B:Nat→List Nat) (l:List Oper) (n:Nat) (sl:List (Nat×(Bool×S))) (rs:List (Nat×R)) (Fin:List Out→Prop) (acc:List Out) (k:Nat) (rest:List Oper):Prop where
 pf:acc.length=k→rest=l.drop k→∃ more:List Out,(acc.reverse++more).length=N∧
  Steps P l.toArray B (acc.reverse++more) ⟨n,sl,rs⟩ k rest more∧Fin (acc.reverse++more)
variable {N:Nat} {B:Nat→List Nat} {l:List Oper} {n:Nat} {sl:List (Nat×(Bool×S))} {rs:List (Nat×R)} {Fin:List Out→Prop} {acc:List Out} {k:Nat} {rest:List Oper}
theorem DrawG.step {y:Out} (hN:Nat.blt k N=true) (hlt:((B k).all fun j=>Nat.blt j k)=true) (hl:Loc P l.toArray o (stR (memN (B k)) k acc ⟨n,sl,rs⟩) y) (h:DrawG P N B l n sl rs Fin (y::acc) (k+1) rest):DrawG P N B l n sl rs Fin acc k (o::rest):=⟨fun ha hr=>by
 have hd:rest=l.drop (k+1):=by
  have:=congrArg (List.drop 1) hr
  simpa using this
 obtain⟨more,h1,h3,h4⟩:=h.pf (by simp [ha]) hd
 have e:(y::acc).reverse++more=acc.reverse++(y::more):=by simp
 rw [e] at h1 h3 h4
 refine⟨y::more,h1,⟨?_,h3⟩,h4⟩
 have:stL (memN (B k)) 0 (acc.reverse++(y::more)) ⟨n,sl,rs⟩=stR (memN (B k)) k acc ⟨n,sl,rs⟩:=by
  rw [stL_append,←ha,stR_eq,stL_false]
  intro j hj
  rw [List.length_reverse,Nat.zero_add,ha] at hj
  cases hm:memN (B acc.length) j with
  | false=>rfl
  | true=>
   have h1:=List.all_eq_true.1 hlt j (by rw [←ha];exact memN_iff.1 hm)
   have h2:j<k:=Nat.le_of_ble_eq_true h1
   omega
 rw [this]
 exact hl⟩
theorem DrawG.s {d:Nat} {x:Bool×S} (hl:∀ σ',Sup (stR (memN (B k)) k acc ⟨n,sl,rs⟩) σ'→Op1 P l.toArray o σ' (σ'.put o.dst x)) (h:DrawG P N B l n sl rs Fin ((d,x,[])::acc) (k+1) rest) (hN:Nat.blt k N=true:=by exact rfl) (hlt:((B k).all fun j=>Nat.blt j k)=true:=by exact rfl) (hd:o.dst=some d:=by exact rfl):DrawG P N B l n sl rs Fin acc k (o::rest):=DrawG.step hN hlt (Loc.of hd hl) h
theorem DrawG.mv {d i:Nat} {x:A} (h:DrawG P N B l n sl rs Fin ((d,(true,.a x),[])::acc) (k+1) rest) (ho:o.op=.move (.tmp i):=by exact rfl) (hg:o.guard=none:=by exact rfl) (hN:Nat.blt k N=true:=by exact rfl) (hlt:((B k).all fun j=>Nat.blt j k)=true:=by exact rfl) (hd:o.dst=some d:=by exact rfl) (hdn:o.dst.all (fun d=>Nat.blt d (stR (memN (B k)) k acc ⟨n,sl,rs⟩).n)=true:=by exact rfl) (hx:look (stR (memN (B k)) k acc ⟨n,sl,rs⟩).slots i=some (true,.a x):=by exact rfl):DrawG P N B l n sl rs Fin acc k (o::rest):=DrawG.step hN hlt (Loc.of hd fun σ' hs=>Bf ho (.no hg) (Aj hs hdn) (.tm (hs.slots _ _ hx))) h
theorem DrawG.fin (hk:Nat.beq k N=true) (h:Fin acc.reverse):DrawG P N B l n sl rs Fin acc k rest:=⟨fun ha hr=>by
 have hk':=Nat.eq_of_beq_eq_true hk
 refine⟨[],by simp [ha,hk'],by unfold Steps;split<;>first|trivial|(rename_i h;cases h),by rw [List.append_nil];exact h⟩⟩
def FinA (P:Program) (w0:Base) (Q:Exit→St→Prop) (N:Nat) (B:Nat→List Nat) (l:List Oper) (σ:St) (o:Oper) (nid d:Nat) (r:R) (x:Bool×S) (outs:List Out):Prop:=
 (outs.all (fun y=>y.2.2.isEmpty)=true∧outs.map (fun y=>y.2.1.2.pur nid)=outs.map (fun y=>y.2.1.2)∧outs.all (fun y=>(look σ.slots y.1).isNone&&!(Nat.beq y.1 d))=true∧disN (outs.map (·.1))=true)∧
 (∀ σ',Sup (stL (memN (B N)) 0 outs σ) σ'→Op1 P l.toArray o σ' ((σ'.chg nid r).put o.dst x))∧
 AWl P w0 l.toArray Q (l.drop (N+1)) (stL (fun _=>true) 0 outs ((σ.chg nid r).put (some d) x))
theorem stL_all:∀ (outs:List Out) (i:Nat) (σ:St),stL (fun _=>true) i outs σ=⟨σ.n,finSl outs.reverse σ.slots,finRs outs.reverse σ.res⟩:=fun outs i σ=>by
 have h:=fin_eq (n:=σ.n) (sl:=σ.slots) (rs:=σ.res) outs.reverse outs.reverse.length
 rw [stR_eq,List.reverse_reverse] at h
 have key:∀ (os:List Out) (i j:Nat) (σ:St),stL (fun _=>true) i os σ=stL (fun _=>true) j os σ:=by
  intro os
  induction os with
  | nil=>intro i j σ;rfl
  | cons y os ih=>intro i j σ;rw [stL,stL];exact ih _ _ _
 rw [key outs i 0 σ]
 exact h
theorem FinA.mk {w0:Base} {Q:Exit→St→Prop} {nid d:Nat} {r:R} {x:Bool×S} (h1:(acc.reverse.all (fun y=>y.2.2.isEmpty)&&(acc.reverse.all (fun y=>(look σ.slots y.1).isNone&&!(Nat.beq y.1 d))&&disN (acc.reverse.map (·.1))))=true) (h2:acc.reverse.map (fun y=>y.2.1.2.pur nid)=acc.reverse.map (fun y=>y.2.1.2))
 (h3:∀ σ',Sup (stR (memN (B N)) N acc σ) σ'→Op1 P l.toArray o σ' ((σ'.chg nid r).put o.dst x)) (hk:Nat.beq acc.length N=true)
 (h4:AWl P w0 l.toArray Q (l.drop (N+1)) ⟨σ.n,finSl acc ((d,x)::(σ.chg nid r).slots),finRs acc (σ.chg nid r).res⟩):FinA P w0 Q N B l σ o nid d r x acc.reverse:=by
 simp only [Bool.and_eq_true] at h1
 have hk':=Nat.eq_of_beq_eq_true hk
 refine⟨⟨h1.1,h2,by simpa only [Bool.and_eq_true] using h1.2.1,h1.2.2⟩,fun σ' hs=>h3 σ' ?_,?_⟩
 · rw [←hk',stR_eq,hk'];exact hs
 rw [stL_all,List.reverse_reverse];exact h4
end
end Go.Q
namespace Go.Q
open Go.RowKit
section
variable {P:Program} {ops:Array Oper} {o:Oper} {σ:St} {q:Bool}
structure Eff where
 d:Nat
 x:Bool×S
 o:Option (Nat×R)
 ch:Bool
 ad:List (Nat×R)
def Eff.run (y:Eff) (σ:St):St:=match y.o with
 | some (id,r)=>bif y.ch then ⟨σ.n,(y.d,y.x)::(σ.pur id).slots,(id,r)::(σ.pur id).res⟩ else ⟨σ.n,(y.d,y.x)::σ.slots,(id,r)::σ.res⟩
 | none=>⟨σ.n,(y.d,y.x)::σ.slots,addsR y.ad σ.res⟩
def Eff.has (y:Eff) (id:Nat):Bool:=y.x.2.has id||match y.o with|some (j,r)=>Nat.beq j id||r.has id|none=>y.ad.any fun z=>Nat.beq z.1 id||z.2.has id
def LocK (P:Program) (ops:Array Oper) (o:Oper) (σ:St) (y:Eff):Prop:=∀ σ',Sup σ σ'→(∀ id r,y.o=some (id,r)→y.ch=false→σ'.has id=false)→(y.o=none→∀ z∈y.ad,σ'.has z.1=false)→Op1 P ops o σ' (y.run σ')
theorem Op1.look {σ' σ2:St} (h:Op1 P ops o σ σ') (hn:σ2.n=σ'.n) (hs:∀ i x,look σ2.slots i=some x→look σ'.slots i=some x) (hr:∀ i x,look σ2.res i=some x→look σ'.res i=some x):Op1 P ops o σ σ2:=fun w0 a w hr0 K Q hK=>
 h w0 a w hr0 K Q fun a' w' h'=>hK a' w' (Rel.of_look h' hn hs hr)
theorem LocK.of {d:Nat} {x:Bool×S} (hd:o.dst=some d) (h:∀ σ',Sup σ σ'→Op1 P ops o σ' (σ'.put o.dst x)):LocK P ops o σ ⟨d,x,none,false,[]⟩:=fun σ' hs _ _=>by
 have:=h σ' hs
 rw [hd] at this
 exact this
theorem LocK.ofs {d:Nat} {rl:List (Nat×R)} {x:Bool×S} (hd:o.dst=some d) (h:∀ σ',Sup σ σ'→(∀ z∈rl,σ'.has z.1=false)→Op1 P ops o σ' ((σ'.adds rl).put o.dst x)):LocK P ops o σ ⟨d,x,none,false,rl⟩:=fun σ' hs _ hf=>by
 have:=h σ' hs (hf rfl)
 rw [hd,adds_eq] at this
 exact this
inductive Vd (B:Nat→List Nat) (N:Nat):List Nat→Prop where
 | nil:Vd B N []
 | cons {i:Nat} {π:List Nat} (h:Vd B N π) (hB:∀ j∈B i,j∈π) (hi:i∉π) (hN:i<N):Vd B N (i::π)
theorem Vd.closed {B:Nat→List Nat} {N:Nat} {π:List Nat} (h:Vd B N π):∀ b∈π,∀ j∈B b,j∈π:=by
 induction h with
 | nil=>intro b hb;cases hb
 | cons h hB hi hN ih=>
  intro b hb j hj
  rcases List.mem_cons.1 hb with rfl|hb
  · exact List.mem_cons_of_mem _ (hB j hj)
  exact List.mem_cons_of_mem _ (ih b hb j hj)
def chs:Nat→List Eff→List (Nat×Nat)
 | _,[]=>[]
 | k,y::r=>match y.o with
  | some (id,_)=>bif y.ch then (k,id)::chs (k+1) r else chs (k+1) r
  | none=>chs (k+1) r
section
variable {ys:List Eff} {B:Nat→List Nat} {N:Nat}
end
def chOk (B:Nat→List Nat) (C:List (Nat×Nat)) (b:Option Nat) (i:Nat) (h:Nat→Bool):Bool:=C.all fun c=>!(h c.2)||(Nat.beq c.1 i||memN (B c.1) i)||(match b with|some b=>Nat.beq c.1 b||memN (B b) c.1|none=>false)
def knw (B:Nat→List Nat) (C:List (Nat×Nat)) (M:Nat→Bool) (i:Nat):Nat→List Eff→St→St
 | k,y::r,σ=>let σ':=knw B C M i (k-1) r σ
  bif M (k-1) then ⟨σ'.n,bif chOk B C (some (k-1)) i (fun j=>y.x.2.has j) then (y.d,y.x)::σ'.slots else σ'.slots,match y.o with|some (id,r)=>bif chOk B C (some (k-1)) i (fun j=>Nat.beq id j||r.has j) then (id,r)::σ'.res else σ'.res|none=>addsR (y.ad.filter fun z=>chOk B C (some (k-1)) i fun j=>Nat.beq z.1 j||z.2.has j) σ'.res⟩ else σ'
 | _,[],σ=>⟨σ.n,σ.slots.filter fun x=>chOk B C none i fun j=>x.2.2.has j,σ.res.filter fun x=>chOk B C none i fun j=>Nat.beq x.1 j||x.2.has j⟩
section
variable {B:Nat→List Nat} {C:List (Nat×Nat)} {M:Nat→Bool} {N:Nat}
def effB (B:Nat→List Nat) (N:Nat) (σ:St) (ys:List Eff):Bool:=
 ys.all (fun y=>(look σ.slots y.d).isNone)&&disN (ys.map (·.d))&&disN (σ.slots.map (·.1))&&disN (σ.res.map (·.1))&&((List.range N).all fun j=>!(memN (B j) N))&&
 (List.range ys.length).all fun i=>match ys[i]? with
  | some ⟨_,_,some (id,_),false,_⟩=>!σ.has id&&(List.range ys.length).all fun b=>Nat.beq b i||(match ys[b]? with|some z=>!(z.has id)||memN (B b) i|none=>true)
  | some ⟨_,_,none,_,ad⟩=>disN (ad.map (·.1))&&ad.all fun v=>!σ.has v.1&&(List.range ys.length).all fun b=>Nat.beq b i||(match ys[b]? with|some z=>!(z.has v.1)||memN (B b) i|none=>true)
  | _=>true
end
def StepsK (P:Program) (ops:Array Oper) (B:Nat→List Nat) (C:List (Nat×Nat)) (ys:List Eff) (σ:St):Nat→List Oper→List Eff→Prop
 | i,o::l,y::r=>LocK P ops o (knw B C (memN (B i)) i i (ys.take i).reverse σ) y∧StepsK P ops B C ys σ (i+1) l r
 | _,_,_=>True
theorem StepsK.at {ops:Array Oper} {B:Nat→List Nat} {C:List (Nat×Nat)} {ys:List Eff} {σ:St}:∀ (l:List Oper) (r:List Eff) (k:Nat),StepsK P ops B C ys σ k l r→∀ i o y,l[i]?=some o→r[i]?=some y→LocK P ops o (knw B C (memN (B (k+i))) (k+i) (k+i) (ys.take (k+i)).reverse σ) y
 | [],r,k,h,i,o,y,hl,hr=>by simp at hl
 | o'::l,[],k,h,i,o,y,hl,hr=>by simp at hr
 | o'::l,y'::r,k,h,0,o,y,hl,hr=>by simp at hl hr;subst hl;subst hr;exact h.1
 | o'::l,y'::r,k,h,i+1,o,y,hl,hr=>by
  have:=StepsK.at l r (k+1) h.2 i o y (by simpa using hl) (by simpa using hr)
  rwa [show k+1+i=k+(i+1) by omega] at this
structure DrawK (P:Program) (w0:Base) (Q:Exit→St→Prop) (N:Nat) (B:Nat→List Nat) (C:List (Nat×Nat)) (l:List Oper) (n:Nat) (sl:List (Nat×(Bool×S))) (rs:List (Nat×R)) (acc:List Eff) (k:Nat) (rest:List Oper):Prop where
 pf:acc.length=k→rest=l.drop k→∃ more:List Eff,(acc.reverse++more).length=N∧
  StepsK P l.toArray B C (acc.reverse++more) ⟨n,sl,rs⟩ k rest more∧effB B N ⟨n,sl,rs⟩ (acc.reverse++more)=true∧chs 0 (acc.reverse++more)=C∧
  AWl P w0 l.toArray Q (l.drop N) (knw B C (fun _=>true) N N (acc.reverse++more).reverse ⟨n,sl,rs⟩)
variable {w0:Base} {Q:Exit→St→Prop} {N:Nat} {B:Nat→List Nat} {C:List (Nat×Nat)} {l:List Oper} {n:Nat} {sl:List (Nat×(Bool×S))} {rs:List (Nat×R)} {acc:List Eff} {k:Nat} {rest:List Oper}
theorem DrawK.step {y:Eff} (hl:LocK P l.toArray o (knw B C (memN (B k)) k k acc ⟨n,sl,rs⟩) y) (h:DrawK P w0 Q N B C l n sl rs (y::acc) (k+1) rest):DrawK P w0 Q N B C l n sl rs acc k (o::rest):=⟨fun ha hr=>by
 have hd:rest=l.drop (k+1):=by
  have:=congrArg (List.drop 1) hr
  simpa using this
 obtain⟨more,h1,h2,h3,h4,h5⟩:=h.pf (by simp [ha]) hd
 have e:(y::acc).reverse++more=acc.reverse++(y::more):=by simp
 rw [e] at h1 h2 h3 h4 h5
 refine⟨y::more,h1,⟨?_,h2⟩,h3,h4,h5⟩
 have:((acc.reverse++(y::more)).take k).reverse=acc:=by
  rw [List.take_append_of_le_length (by simp [ha]),List.take_of_length_le (by simp [ha]),List.reverse_reverse]
 rw [this]
 exact hl⟩
theorem DrawK.fin (hk:Nat.beq k N=true) (hU:effB B N ⟨n,sl,rs⟩ acc.reverse=true) (hC:chs 0 acc.reverse=C) (h:AWl P w0 l.toArray Q rest (knw B C (fun _=>true) N k acc ⟨n,sl,rs⟩)):DrawK P w0 Q N B C l n sl rs acc k rest:=⟨fun ha hr=>by
 have hk':=Nat.eq_of_beq_eq_true hk
 subst hk'
 refine⟨[],by simp [ha],by unfold StepsK;split<;>first|trivial|(rename_i h;cases h),by rw [List.append_nil];exact hU,by rw [List.append_nil];exact hC,?_⟩
 rw [List.append_nil,List.reverse_reverse,←hr]
 exact h⟩
end
end Go.Q
namespace Go.Q
open Go.RowKit
section
variable {P:Program}
theorem Op1.le {ops:Array Oper} {o:Oper} {σ σ' σ2:St} (h:Op1 P ops o σ σ2) (hs:Sup σ' σ2):Op1 P ops o σ σ':=fun w0 a w hr K Q' hK=>h w0 a w hr K Q' fun a' w' hr'=>hK a' w' (Rel.of_look hr' hs.n.symm (fun t x h=>hs.slots t x h) (fun t x h=>hs.res t x h))
def FinS (P:Program) (w0:Base) (Q:Exit→St→Prop) (M e:Nat) (B:Nat→List Nat) (l:List Oper) (n:Nat) (sl:List (Nat×(Bool×S))) (rs:List (Nat×R)) (outs:List Out):Prop:=
 delS (outs.map (·.1)) sl=sl∧outB B ⟨n,sl,rs⟩ outs=true∧∃ σA σ1 σF,(∀ o,l[M]?=some o→Op1 P l.toArray o (stL (fun _=>true) 0 outs ⟨n,sl,rs⟩) σA)∧(∀ o,l[M]?=some o→Op1 P l.toArray o (stL (fun j=>!(Nat.beq j e)) 0 outs ⟨n,sl,rs⟩) σ1)∧
 (∀ o,l[e]?=some o→Op1 P l.toArray o σ1 σF)∧Sup σF σA∧AWl P w0 l.toArray Q (l.drop (M+1)) σF
theorem FinS.mk {w0:Base} {Q:Exit→St→Prop} {M e:Nat} {B:Nat→List Nat} {l:List Oper} {n:Nat} {sl:List (Nat×(Bool×S))} {rs:List (Nat×R)} {outs:List Out} {oM oE:Oper} {σA σ1 σE:St} (σF:St) (hd:delS (outs.map (·.1)) sl=sl) (hU:outB B ⟨n,sl,rs⟩ outs=true) (hM:l[M]?=some oM) (hE:l[e]?=some oE)
 (hA:Op1 P l.toArray oM (stL (fun _=>true) 0 outs ⟨n,sl,rs⟩) σA) (h1:Op1 P l.toArray oM (stL (fun j=>!(Nat.beq j e)) 0 outs ⟨n,sl,rs⟩) σ1) (hEE:Op1 P l.toArray oE σ1 σE) (hF:Sup σF σA) (hF2:Sup σF σE) (hfin:AWl P w0 l.toArray Q (l.drop (M+1)) σF):FinS P w0 Q M e B l n sl rs outs:=
 ⟨hd,hU,σA,σ1,σF,fun o h=>by rw [hM] at h;cases h;exact hA,fun o h=>by rw [hM] at h;cases h;exact h1,fun o h=>by rw [hE] at h;cases h;exact hEE.le hF2,hF,hfin⟩
end
end Go.Q
namespace Go.Q
open Go.RowKit
section
variable {P:Program}
def EndQ (σt:St):Exit→St→Prop
 | .normal,σ=>Le σ σt
 | _,_=>False
theorem EndQ.run {ops:Array Oper} {o:Oper} {σ σt:St} (h:∀ w0,AWl P w0 ops (EndQ σt) [o] σ) {w0:Base} {a:Act} {w:World} (hr:Rel w0 σ a w) (K:Act→World→Prop) (Q:Exit→Act→World→Prop) (hK:∀ a' w',Rel w0 σt a' w'→K a' w') :
 if Region.wanted o (yielded ops a.tmps) then o.wp P a w K Q else K (a.put o.dst undef) w:=by
 have h1:=h w0 a w hr
 unfold wpList at h1
 have hN:∀ a' w',wpList P ops (lift w0 (EndQ σt)) [] a' w'→K a' w':=fun a' w' h=>by
  obtain⟨σ',h2,h3⟩:=h
  exact hK a' w' (h2 w0 a' w' h3)
 have hF:∀ e a' w',e≠Exit.normal→lift w0 (EndQ σt) e a' w'→False:=fun e a' w' he h=>by
  obtain⟨σ',h2,h3⟩:=h
  cases e<;>first|exact he rfl|exact h2
 have hL:LetsOut (lift w0 (EndQ σt))→False:=fun ⟨a',w',h⟩=>hF _ a' w' (by simp) h
 split
 · rename_i hw
   rw [if_pos hw] at h1
   rcases h1 with h1|⟨_,h1⟩
   · unfold Oper.wp at *
     generalize (execOp a.eval o).run P w=r at *
     cases r with
     | ok n w'=>
      cases n<;>simp only [Oper.upon] at h1 ⊢<;>
       first
        | exact hN _ _ h1
        | exact Calls.mono h1 (fun e w'' he=>by cases e<;>first|exact hN _ _ he|exact (hL he).elim|exact (hF _ _ _ (by simp) he).elim)
        | exact Rows.mono h1 (fun _ _ he=>hN _ _ he)
     | halt x w'=>cases x<;>simp only [Oper.upon] at h1 ⊢<;>first|exact h1.elim|exact (hF _ _ _ (by simp) h1).elim
   exact (hL h1).elim
 rename_i hw
 rw [if_neg hw] at h1
 exact hN _ _ h1
theorem Ax {P:Program} {w0:Base} {ops:Array Oper} {σ s:St} {sl:List (Nat×(Bool×S))} {rs:List (Nat×R)} (ks js:List Nat) (h:SelL σ.slots ks sl:=by (repeat (apply SelL.cons;exact rfl));exact .nil) (h':SelL σ.res js rs:=by (repeat (apply SelL.cons;exact rfl));exact .nil) (e:s=⟨σ.n,sl,rs⟩:=by exact rfl):AWl P w0 ops (EndQ s) [] σ:=Aa (by subst e;exact Ap ks js h h')
def dagB (l:List Oper) (N:Nat) (ms:List (List Nat)) (es:List (Nat×Nat×Nat)) (k:Nat):Bool:=
 (List.range ms.length).all (fun a=>match ms[a]? with
  | none=>false
  | some m=>((List.range N).all (fun i=>memN m i||(match l[i]? with
   | none=>false
   | some o=>!((deps o).all (memN m))||es.any (fun e=>Nat.beq e.1 a&&Nat.beq e.2.1 i&&(match ms[e.2.2]? with
    | none=>false
    | some m'=>(List.range N).all fun j=>memN m' j == (Nat.beq j i||memN m j))))))&&
   (Nat.beq a k||(List.range N).any (fun i=>!(memN m i))))&&
 (match ms with|[]::_=>true|_=>false)
structure Dag (P:Program) (l:List Oper) (acc:List (Nat×St)) (es:List (Nat×Nat×Nat)) (Fin:(Nat→St)→Prop):Prop where
 pf:∃ st:Nat→St,(∀ k σ,look acc k=some σ→st k=σ)∧(∀ e∈es,∀ o,l[e.2.1]?=some o→∀ w0,AWl P w0 l.toArray (EndQ (st e.2.2)) [o] (st e.1))∧Fin st
variable {l:List Oper} {acc:List (Nat×St)} {es:List (Nat×Nat×Nat)} {Fin:(Nat→St)→Prop}
theorem Dag.new {a i b:Nat} {σ σ':St} {o:Oper} (ha:look acc a=some σ) (ho:l[i]?=some o) (hb:look acc b=none) (hE:∀ w0,AWl P w0 l.toArray (EndQ σ') [o] σ) (h:Dag P l ((b,σ')::acc) es Fin):Dag P l acc ((a,i,b)::es) Fin:=by
 obtain⟨st,h1,h2,h3⟩:=h.pf
 have hne:b≠a:=fun e=>by subst e;rw [hb] at ha;cases ha
 have h1':∀ k σ,look acc k=some σ→st k=σ:=fun k σ hk=>h1 k σ (by
  rw [look_cons,if_neg (fun e=>?_)]
  · exact hk
  subst e;rw [hb] at hk;cases hk)
 refine⟨st,h1',fun e he o' ho' w0=>?_,h3⟩
 rcases List.mem_cons.1 he with rfl|he
 · simp only at ho' ⊢
   rw [ho] at ho';cases ho'
   rw [h1' a σ ha,h1 b σ' (by rw [look_cons,if_pos rfl])]
   exact hE w0
 exact h2 e he o' ho' w0
theorem Dag.old {a i b:Nat} {σ σ':St} {o:Oper} (ha:look acc a=some σ) (ho:l[i]?=some o) (hb:look acc b=some σ') (hE:∀ w0,AWl P w0 l.toArray (EndQ σ') [o] σ) (h:Dag P l acc es Fin):Dag P l acc ((a,i,b)::es) Fin:=by
 obtain⟨st,h1,h2,h3⟩:=h.pf
 refine⟨st,h1,fun e he o' ho' w0=>?_,h3⟩
 rcases List.mem_cons.1 he with rfl|he
 · simp only at ho' ⊢
   rw [ho] at ho';cases ho'
   rw [h1 a σ ha,h1 b σ' hb]
   exact hE w0
 exact h2 e he o' ho' w0
theorem Dag.fin {w0:Base} {Q:Exit→St→Prop} {N k:Nat} {σ:St} (hk:look acc k=some σ) (h:AWl P w0 l.toArray Q (l.drop N) σ):Dag P l acc [] (fun st=>AWl P w0 l.toArray Q (l.drop N) (st k)):=
 ⟨fun i=>(look acc i).getD ⟨0,[],[]⟩,fun i σ' hi=>by simp [hi],fun e he=>(by cases he),by simpa [hk] using h⟩
end
end Go.Q
namespace Go.Q
open Go.RowKit
section
variable {P:Program} {ops:Array Oper} {o:Oper} {σ:St}
end
end Go.Q
namespace Go.Q
open Go.RowKit
section
variable {P:Program} {ops:Array Oper} {o:Oper} {σ:St} {q:Bool}
theorem run_byteStr {w:World} {n:Int} {v:Value} {G:List Nat} (h:C false w (.sl 1 [[.v (.int .u8 n)]]) v G):(Conv.bytesToString v).run P w=.ok (.string ⟨#[UInt8.ofNat n.toNat]⟩) w:=by
 simp only [C] at h
 obtain⟨a,len,cap,rfl,e1,e2,e3,e4⟩:=h
 have e1:len=1:=by simpa using e1.symm
 subst e1
 rcases e4 with ⟨h0,_⟩|⟨b,off,G',rfl,_,hb,_,hR⟩
 · omega
 simp only [Rws,Ms,C] at hR
 obtain⟨_,_,_,⟨c,_,_,hc,⟨rfl,_⟩,_⟩,_⟩:=hR
 have hl:=run_loadCells_list (P:=P) w ⟨b,off,none⟩ [.int .u8 n] (fun j u hj=>by
  cases j with
  | zero=>cases hj;rw [Addr.add_lit];simpa using hc
  | succ j=>cases hj)
 simp only [List.length_singleton] at hl
 simp [Conv.bytesToString,hl]
 rfl
theorem R_byteStr {t t' e:TypeId} {x:Operand} {n:Int} (ho:o.op=.convert t t' x) (hg:Grd ops o σ q) (hd:o.dst.all (fun d=>Nat.blt d σ.n)=true) (hx:Get σ q x (.one (.t (.sl 1 [[.v (.int .u8 n)]]))))
 (hu:P.underlying t=some (.slice e)) (he:P.underlying e=some (.int .u8)) (hu':P.underlying t'=some .string):Op1 P ops o σ (σ.put o.dst (q,.a (.one (.t (.v (.string ⟨#[UInt8.ofNat n.toNat]⟩)))))):=
 .val hg hd fun I w0 a w hr hq=>by
  obtain⟨G,h1,_⟩:VE I w (.t (.sl 1 [[.v (.int .u8 n)]])) (a.eval x):=hx.va hr hq
  have hb:=run_byteStr (P:=P) h1
  have hs:=h1
  simp only [C] at hs
  obtain⟨ad,len,cap,e0,_⟩:=hs
  exact⟨_,by
   rw [e0] at hb
   simp [execOp,ho,e0,Go.convert,run_underlying hu,run_underlying hu',run_underlying he,hb],VS_v _⟩
end
end Go.Q
namespace Go.Q
open Go.RowKit
section
variable {P:Program} {ops:Array Oper} {o:Oper} {σ:St} {q:Bool}
theorem R_conv {t t':TypeId} {x:Operand} {k0 k:IntKind} {n m:Int} (ho:o.op=.convert t t' x) (hg:Grd ops o σ q) (hd:o.dst.all (fun d=>Nat.blt d σ.n)=true) (hx:Get σ q x (.one (.t (.v (.int k0 n))))) (hu0:(P.underlying t).isSome=true) (hu:P.underlying t'=some (.int k)) (hm:q=true→k.wrap n=m) :
 Op1 P ops o σ (σ.put o.dst (q,.a (.one (.t (.v (.int k m)))))):=
 .val hg hd fun I w0 a w hr hq=>by
  have hv:=hx.int hr hq
  obtain⟨u0,hu0⟩:=Option.isSome_iff_exists.1 hu0
  exact⟨_,by simp [execOp,ho,hv,Go.convert,run_underlying hu0,run_underlying hu,Conv.intToInt,hm hq],VS_v _⟩
end
end Go.Q
set_option maxHeartbeats 1000000
set_option maxRecDepth 100000
namespace Go.Q
open Go.D
def bs (l:List UInt8):ByteArray:=⟨l.toArray⟩
theorem bs_append (l m:List UInt8):bs l++bs m=bs (l++m):=by
 apply ByteArray.ext
 rw [ByteArray.data_append]
 simp [bs]
theorem bs_nil_append (O:ByteArray):bs []++O=O:=by
 apply ByteArray.ext
 rw [ByteArray.data_append]
 simp [bs]
theorem bs_size (l:List UInt8):(bs l).size=l.length:=by simp [bs,ByteArray.size]
theorem bs_list (l:List UInt8):(bs l).data.toList=l:=by simp [bs]
theorem bs_inj {l m:List UInt8} (h:bs l=bs m):l=m:=by rw [←bs_list l,←bs_list m,h]
def numS (n:Int):List UInt8:=Lib.decDigits n.toNat
theorem dig_small {n:Nat} (h:n<10):Lib.decDigits n=[UInt8.ofNat (48+n)]:=by rw [Lib.decDigits,dif_pos h]
theorem dig_more {n:Nat} (h:10≤n):Lib.decDigits n=Lib.decDigits (n / 10)++[UInt8.ofNat (48+n%10)]:=by rw [Lib.decDigits,dif_neg (by omega)]
theorem dig_len {n:Nat} (h:n<100):1≤(Lib.decDigits n).length∧(Lib.decDigits n).length≤2:=by
 by_cases h1:n<10
 · rw [dig_small h1];simp
 rw [dig_more (by omega),dig_small (by omega)];simp
theorem numS_len {n:Int} (h:n<100):1≤(numS n).length∧(numS n).length≤2:=dig_len (by omega)
def restD (n:Nat):List UInt8:=if n=0 then [] else Lib.decDigits n
theorem restD_step {n:Nat} (h:n≠0):restD n=restD (n / 10)++[UInt8.ofNat (48+n%10)]:=by
 unfold restD
 rw [if_neg h]
 by_cases h1:n<10
 · rw [dig_small h1,if_pos (by omega),Nat.mod_eq_of_lt h1];rfl
 rw [dig_more (by omega),if_neg (by omega)]
def cStr (s:List UInt8):List T:=[.v (.string (bs s))]
end Go.Q
set_option maxHeartbeats 1000000
set_option maxRecDepth 100000
namespace Go.Q
open Go.D
section
variable {α:Type} {lt:α→α→Bool}
end
section
variable {α:Type} [DecidableEq α] {lt:α→α→Bool}
end
instance:Inhabited TPair:=⟨⟨0,0⟩⟩
end Go.Q
namespace Go.Q
open Go.D
end Go.Q
namespace Go.Proofs.YtdhojcaoljhbiaaGreat
open Go.RowKit Go.Q Go.D
end Go.Proofs.YtdhojcaoljhbiaaGreat
set_option maxHeartbeats 1000000
set_option maxRecDepth 100000
namespace Go.Q
open Go.D
end Go.Q
namespace Go.Proofs.YtdhojcaoljhbiaaGreat
open Go.RowKit Go.Q Go.D
end Go.Proofs.YtdhojcaoljhbiaaGreat
namespace Go.D
open Go.Q
end Go.D
set_option maxHeartbeats 1000000
set_option maxRecDepth 100000
namespace Go.Q
open Go.D
end Go.Q
namespace Go.Proofs.YtdhojcaoljhbiaaGreat
open Go.RowKit Go.Q Go.D
end Go.Proofs.YtdhojcaoljhbiaaGreat
set_option maxHeartbeats 1000000
set_option maxRecDepth 100000
namespace Go.Q
open Go.D
end Go.Q
namespace Go.Proofs.YtdhojcaoljhbiaaGreat
open Go.RowKit Go.Q Go.D
end Go.Proofs.YtdhojcaoljhbiaaGreat
set_option maxHeartbeats 1000000
set_option maxRecDepth 100000
namespace Go.Q
open Go.D
def letNames:List (List UInt8):=[[97],[97,45],[98],[98,45],[99],[99,45],[48],[49],[50]]
def letS (k:Int):List UInt8:=letNames[k.toNat]?.getD []
theorem letS_get {k:Int} (h0:0≤k) (h8:k≤8):(letNames.map cStr)[k.toNat]?=some (cStr (letS k)):=by
 have hk:k.toNat<letNames.length:=by simp [letNames];omega
 rw [List.getElem?_map,List.getElem?_eq_getElem hk]
 unfold letS
 rw [List.getElem?_eq_getElem hk];rfl
end Go.Q
namespace Go.Q
open Go.RowKit
section
variable {P:Program}
theorem AW.condJ {w0:Base} {Q:Exit→St→Prop} {σ:St} {c:Operand} {x y:Code} {b:Bool} (σJ:St) (hc:Get σ true c (.one (.t (.v (.bool b))))) (ht:b=true→AW P w0 x (ThenQ (fun σ'=>Le σ' σJ) Q) σ) (hf:b=false→Le σ σJ) (h:AW P w0 y Q σJ):AW P w0 (.cond c x .skip) (ThenQ (fun σ'=>AW P w0 y Q σ') Q) σ:=by
 refine Ah hc (fun e=>?_) (fun e=>AW.skip (Al (hf e) h));intro a w hr;refine Code.wp_mono ?_ (ht e a w hr)
 rintro ex a' w' ⟨σ',h3,h4⟩
 cases ex with
 | normal=>exact⟨σJ,h,h3 w0 a' w' h4⟩
 | exit id=>exact⟨σ',h3,h4⟩
 | goto l=>exact⟨σ',h3,h4⟩
 | ret=>exact⟨σ',h3,h4⟩
 | panic c=>exact⟨σ',h3,h4⟩
 | outgrown=>exact⟨σ',h3,h4⟩
structure MixD (P:Program) (l:List Oper) (n:Nat) (sl:List (Nat×(Bool×S))) (rs:List (Nat×R)) (outs:List Out) (acc:List (Nat×St)) (todo:List (Nat×List Nat)) (es:List (Nat×Nat×Nat)) (Fin:(Nat→St)→Prop):Prop where
 pf:∃ st:Nat→St,(∀ k σ,look acc k=some σ→st k=σ)∧(∀ p∈todo,Le (stL (memN p.2) 0 outs ⟨n,sl,rs⟩) (st p.1))∧(∀ e∈es,∀ o,l[e.2.1]?=some o→∀ w0,AWl P w0 l.toArray (EndQ (st e.2.2)) [o] (st e.1))∧Fin st
variable {l:List Oper} {n:Nat} {sl:List (Nat×(Bool×S))} {rs:List (Nat×R)} {outs:List Out} {acc:List (Nat×St)} {todo:List (Nat×List Nat)} {es:List (Nat×Nat×Nat)} {Fin:(Nat→St)→Prop}
theorem MixD.add {b:Nat} {S:List Nat} (σ':St) (hb:look acc b=none) (hle:Le (stL (memN S) 0 outs ⟨n,sl,rs⟩) σ') (h:MixD P l n sl rs outs ((b,σ')::acc) todo es Fin):MixD P l n sl rs outs acc ((b,S)::todo) es Fin:=by
 obtain⟨st,h1,h2,h3⟩:=h.pf
 have h1':∀ k σ,look acc k=some σ→st k=σ:=fun k σ hk=>h1 k σ (by
  rw [look_cons,if_neg (fun e=>?_)]
  · exact hk
  subst e;rw [hb] at hk;cases hk)
 refine⟨st,h1',fun p hp=>?_,h3⟩
 rcases List.mem_cons.1 hp with rfl|hp
 · show Le _ (st b)
   rw [h1 b σ' (by rw [look_cons,if_pos rfl])]
   exact hle
 exact h2 p hp
theorem MixD.go (h:Dag P l acc es Fin):MixD P l n sl rs outs acc [] es Fin:=by
 obtain⟨st,h1,h2,h3⟩:=h.pf
 exact⟨st,h1,fun p hp=>(by cases hp),h2,h3⟩
def FinX (P:Program) (w0:Base) (Q:Exit→St→Prop) (N k:Nat) (B:Nat→List Nat) (es:List (Nat×Nat×Nat)) (todo:List (Nat×List Nat)) (l:List Oper) (n:Nat) (sl:List (Nat×(Bool×S))) (rs:List (Nat×R)) (outs:List Out):Prop:=
 delS (outs.map (·.1)) sl=sl∧outB B ⟨n,sl,rs⟩ outs=true∧MixD P l n sl rs outs [] todo es (fun st=>AWl P w0 l.toArray Q (l.drop N) (st k))
theorem FinX.mk {w0:Base} {Q:Exit→St→Prop} {N k:Nat} {B:Nat→List Nat} (hd:delS (outs.map (·.1)) sl=sl) (hU:outB B ⟨n,sl,rs⟩ outs=true) (h:MixD P l n sl rs outs [] todo es (fun st=>AWl P w0 l.toArray Q (l.drop N) (st k))):FinX P w0 Q N k B es todo l n sl rs outs:=⟨hd,hU,h⟩
end
end Go.Q
