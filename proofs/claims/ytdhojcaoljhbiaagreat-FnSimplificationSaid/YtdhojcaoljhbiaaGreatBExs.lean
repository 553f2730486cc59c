import Derived.Test.YtdhojcaoljhbiaaGreatAbs15xs
import Derived.Test.YtdhojcaoljhbiaaGreatProg
import Derived.Deep.Slices
import Derived.Test.YtdhojcaoljhbiaaGreatAbsIxs
set_option linter.unusedVariables false
set_option linter.unusedSimpArgs false
set_option maxRecDepth 100000
namespace Go.D
open Go.Q
def cInt (x:Int):List T:=[.v (.int .i64 x)]
def cBool (x:Bool):List T:=[.v (.bool x)]
def cIntS (x:List Int):List T:=[.sl 1 (x.map cInt)]
structure TPair where
 From:Int
 To:Int
 deriving DecidableEq
def cPair (x:TPair):List T:=[.v (.int .i64 x.From),.v (.int .i64 x.To)]
theorem TPair.ext_iff' {x y:TPair}:x=y↔x.From=y.From∧x.To=y.To:=by
 cases x;cases y;simp
structure TToken where
 Kind:Int
 Letter:Int
 Low:Int
 High:Int
 deriving DecidableEq
def cToken (x:TToken):List T:=[.v (.int .i64 x.Kind),.v (.int .i64 x.Letter),.v (.int .i64 x.Low),.v (.int .i64 x.High)]
theorem TToken.ext_iff' {x y:TToken}:x=y↔x.Kind=y.Kind∧x.Letter=y.Letter∧x.Low=y.Low∧x.High=y.High:=by
 cases x;cases y;simp
structure TExpr where
 Tokens:(List TToken)
 deriving DecidableEq
def cExpr (x:TExpr):List T:=[.sl 4 (x.Tokens.map cToken)]
theorem TExpr.ext_iff' {x y:TExpr}:x=y↔x.Tokens=y.Tokens:=by
 cases x;cases y;simp
structure TEdge where
 ID:Int
 From:Int
 To:Int
 Label:Int
 deriving DecidableEq
def cEdge (x:TEdge):List T:=[.v (.int .i64 x.ID),.v (.int .i64 x.From),.v (.int .i64 x.To),.v (.int .i64 x.Label)]
theorem TEdge.ext_iff' {x y:TEdge}:x=y↔x.ID=y.ID∧x.From=y.From∧x.To=y.To∧x.Label=y.Label:=by
 cases x;cases y;simp
structure TGraph where
 Values:(List Int)
 Edges:(List TEdge)
 deriving DecidableEq
def cGraph (x:TGraph):List T:=[.sl 1 (x.Values.map cInt),.sl 4 (x.Edges.map cEdge)]
theorem TGraph.ext_iff' {x y:TGraph}:x=y↔x.Values=y.Values∧x.Edges=y.Edges:=by
 cases x;cases y;simp
structure TStep where
 Edge:Int
 Inverse:Bool
 deriving DecidableEq
def cStep (x:TStep):List T:=[.v (.int .i64 x.Edge),.v (.bool x.Inverse)]
theorem TStep.ext_iff' {x y:TStep}:x=y↔x.Edge=y.Edge∧x.Inverse=y.Inverse:=by
 cases x;cases y;simp
structure TWalk where
 Start:Int
 Steps:(List TStep)
 deriving DecidableEq
def cWalk (x:TWalk):List T:=[.v (.int .i64 x.Start),.sl 2 (x.Steps.map cStep)]
theorem TWalk.ext_iff' {x y:TWalk}:x=y↔x.Start=y.Start∧x.Steps=y.Steps:=by
 cases x;cases y;simp
structure TChange where
 Insert:Bool
 Edge:TEdge
 deriving DecidableEq
def cChange (x:TChange):List T:=[.v (.bool x.Insert),.v (.int .i64 x.Edge.ID),.v (.int .i64 x.Edge.From),.v (.int .i64 x.Edge.To),.v (.int .i64 x.Edge.Label)]
theorem TChange.ext_iff' {x y:TChange}:x=y↔x.Insert=y.Insert∧x.Edge=y.Edge:=by
 cases x;cases y;simp
structure TBatch where
 Changes:(List TChange)
 deriving DecidableEq
def cBatch (x:TBatch):List T:=[.sl 5 (x.Changes.map cChange)]
theorem TBatch.ext_iff' {x y:TBatch}:x=y↔x.Changes=y.Changes:=by
 cases x;cases y;simp
structure THistory where
 First:Int
 Graphs:(List TGraph)
 deriving DecidableEq
def cHistory (x:THistory):List T:=[.v (.int .i64 x.First),.sl 2 (x.Graphs.map cGraph)]
theorem THistory.ext_iff' {x y:THistory}:x=y↔x.First=y.First∧x.Graphs=y.Graphs:=by
 cases x;cases y;simp
structure TPositions where
 Letters:(List Int)
 First:Int
 Last:Int
 Follow:(List Int)
 Nullable:Bool
 deriving DecidableEq
def cPositions (x:TPositions):List T:=[.sl 1 (x.Letters.map cInt),.v (.int .i64 x.First),.v (.int .i64 x.Last),.sl 1 (x.Follow.map cInt),.v (.bool x.Nullable)]
theorem TPositions.ext_iff' {x y:TPositions}:x=y↔x.Letters=y.Letters∧x.First=y.First∧x.Last=y.Last∧x.Follow=y.Follow∧x.Nullable=y.Nullable:=by
 cases x;cases y;simp
structure TAutomaton where
 Start:Int
 Accept:(List Bool)
 Next:(List (List Int))
 deriving DecidableEq
def cAutomaton (x:TAutomaton):List T:=[.v (.int .i64 x.Start),.sl 1 (x.Accept.map cBool),.sl 1 (x.Next.map cIntS)]
theorem TAutomaton.ext_iff' {x y:TAutomaton}:x=y↔x.Start=y.Start∧x.Accept=y.Accept∧x.Next=y.Next:=by
 cases x;cases y;simp
structure TProductStep where
 Step:TStep
 Node:Int
 State:Int
 deriving DecidableEq
def cProductStep (x:TProductStep):List T:=[.v (.int .i64 x.Step.Edge),.v (.bool x.Step.Inverse),.v (.int .i64 x.Node),.v (.int .i64 x.State)]
theorem TProductStep.ext_iff' {x y:TProductStep}:x=y↔x.Step=y.Step∧x.Node=y.Node∧x.State=y.State:=by
 cases x;cases y;simp
structure TPathAtom where
 From:Int
 To:Int
 Expr:TExpr
 deriving DecidableEq
def cPathAtom (x:TPathAtom):List T:=[.v (.int .i64 x.From),.v (.int .i64 x.To),.sl 4 (x.Expr.Tokens.map cToken)]
theorem TPathAtom.ext_iff' {x y:TPathAtom}:x=y↔x.From=y.From∧x.To=y.To∧x.Expr=y.Expr:=by
 cases x;cases y;simp
structure TConjunction where
 VariableCount:Int
 Atoms:(List TPathAtom)
 deriving DecidableEq
def cConjunction (x:TConjunction):List T:=[.v (.int .i64 x.VariableCount),.sl 3 (x.Atoms.map cPathAtom)]
theorem TConjunction.ext_iff' {x y:TConjunction}:x=y↔x.VariableCount=y.VariableCount∧x.Atoms=y.Atoms:=by
 cases x;cases y;simp
structure TView where
 Automaton:TAutomaton
 Source:Int
 Ranks:(List Int)
 Supports:(List Int)
 deriving DecidableEq
def cView (x:TView):List T:=[.v (.int .i64 x.Automaton.Start),.sl 1 (x.Automaton.Accept.map cBool),.sl 1 (x.Automaton.Next.map cIntS),.v (.int .i64 x.Source),.sl 1 (x.Ranks.map cInt),.sl 1 (x.Supports.map cInt)]
theorem TView.ext_iff' {x y:TView}:x=y↔x.Automaton=y.Automaton∧x.Source=y.Source∧x.Ranks=y.Ranks∧x.Supports=y.Supports:=by
 cases x;cases y;simp
structure TDelta where
 Added:(List TPair)
 Removed:(List TPair)
 deriving DecidableEq
def cDelta (x:TDelta):List T:=[.sl 2 (x.Added.map cPair),.sl 2 (x.Removed.map cPair)]
theorem TDelta.ext_iff' {x y:TDelta}:x=y↔x.Added=y.Added∧x.Removed=y.Removed:=by
 cases x;cases y;simp
structure TRegistered where
 ID:Int
 Expr:TExpr
 Shared:Int
 deriving DecidableEq
def cRegistered (x:TRegistered):List T:=[.v (.int .i64 x.ID),.sl 4 (x.Expr.Tokens.map cToken),.v (.int .i64 x.Shared)]
theorem TRegistered.ext_iff' {x y:TRegistered}:x=y↔x.ID=y.ID∧x.Expr=y.Expr∧x.Shared=y.Shared:=by
 cases x;cases y;simp
structure TRegistry where
 Automata:(List TAutomaton)
 Queries:(List TRegistered)
 deriving DecidableEq
def cRegistry (x:TRegistry):List T:=[.sl 3 (x.Automata.map cAutomaton),.sl 3 (x.Queries.map cRegistered)]
theorem TRegistry.ext_iff' {x y:TRegistry}:x=y↔x.Automata=y.Automata∧x.Queries=y.Queries:=by
 cases x;cases y;simp
end Go.D
namespace Go.Q
def inB (x a b:Int):Bool:=decide (a≤x)&&decide (x≤b)
theorem eq_of_getElem? {α:Type} {l r:List α} (hl:l.length=r.length) (h:∀ i:Nat,i<l.length→l[i]?=r[i]?):l=r:=List.ext_getElem? fun i=>by
 rcases Nat.lt_or_ge i l.length with hi|hi
 · exact h i hi
 rw [List.getElem?_eq_none hi,List.getElem?_eq_none (by omega)]
theorem each_succ {α:Type} {p:α→Bool} {l:List α} {k:Nat} {x:α} (h:∀ j y,j<k→l[j]?=some y→p y=true) (hx:l[k]?=some x) (hp:p x=true):∀ j y,j<k+1→l[j]?=some y→p y=true:=fun j y hj hy=>by
 rcases Nat.lt_or_eq_of_le (Nat.le_of_lt_succ hj) with h1|rfl
 · exact h j y h1 hy
 rw [hx] at hy;cases hy;exact hp
theorem each_all {α:Type} {p:α→Bool} {l:List α} {k:Nat} (h:∀ j y,j<k→l[j]?=some y→p y=true) (hk:l.length≤k):l.all p=true:=by
 rw [List.all_eq_true]
 intro x hx
 obtain⟨j,hj,rfl⟩:=List.getElem_of_mem hx
 exact h j _ (by omega) (List.getElem?_eq_getElem hj)
theorem not_all {α:Type} {p:α→Bool} {l:List α} {k:Nat} {x:α} (hx:l[k]?=some x) (hp:p x=false):l.all p=false:=by
 rw [List.all_eq_false]
 exact⟨x,List.mem_of_getElem? hx,by rw [hp];simp⟩
def findI {α:Type} (p:α→Bool):List α→Nat→Int
 | [],_=> -1
 | x::r,k=>if p x then (k:Int) else findI p r (k+1)
theorem findI_at {α:Type} {p:α→Bool}:∀ {l:List α} {m k:Nat} {x:α},(∀ j y,j<k→l[j]?=some y→(!p y)=true)→l[k]?=some x→p x=true→findI p l m=((m+k:Nat):Int)
 | [],_,_,_,_,h,_=>by simp at h
 | y::l,m,0,x,_,h,hp=>by simp at h;subst h;simp [findI,hp]
 | y::l,m,k+1,x,hn,h,hp=>by
  have h0:=hn 0 y (by omega) rfl
  have h0':p y=false:=by simpa using h0
  rw [findI,h0',if_neg (by simp),findI_at (k:=k) (fun j z hj hz=>hn (j+1) z (by omega) (by simpa using hz)) (by simpa using h) hp]
  omega
theorem findI_none {α:Type} {p:α→Bool}:∀ {l:List α} {m k:Nat},(∀ j y,j<k→l[j]?=some y→(!p y)=true)→l.length≤k→findI p l m=-1
 | [],_,_,_,_=>rfl
 | y::l,m,0,_,h=>by simp at h
 | y::l,m,k+1,hn,h=>by
  have h0:=hn 0 y (by omega) rfl
  have h0':p y=false:=by simpa using h0
  rw [findI,h0',if_neg (by simp)]
  exact findI_none (k:=k) (fun j z hj hz=>hn (j+1) z (by omega) (by simpa using hz)) (by simpa using h)
theorem getD_at {α:Type} {d:α} {l:List α} {k:Nat} (h:k<l.length):l[k]?=some (l[k]?.getD d):=by rw [List.getElem?_eq_getElem h];rfl
section
open Go.RowKit
variable {P:Program} {ops:Array Oper} {o:Oper} {σ:St} {q:Bool}
theorem R_lenm {α:Type} {f:α→List T} {l:List α} {x:Operand} {t:TypeId} {A0:A} {k:Nat} (ho:o.op=.call { callee:=.builtin .len,args:=#[x],argTypes:=#[t] }) (hg:Grd ops o σ q) (hd:o.dst.all (fun d=>Nat.blt d σ.n)=true)
 (hx:Get σ q x A0) (hs:Sq σ A0 k (l.map f)) {e:TypeId} (hu:P.underlying t=some (.slice e)):Op1 P ops o σ (σ.put o.dst (q,.a (.one (.t (.v (.int .i64 l.length)))))):=by
 have:=R_len ho hg hd hx hs hu
 rwa [List.length_map] at this
variable {w0:Base} {Q:Exit→St→Prop} {n:Nat} {sl:List (Nat×(Bool×S))} {rs:List (Nat×R)} {ls:List Oper}
theorem Ak {d i:Nat} {t:TypeId} {cs:List T} {ag:Bool} {m:Nat} (ht:tyB P t ag m=true) (h:AWl P w0 ops Q ls ⟨n,(d,(true,.a (mkA ag ((cs.take m).map .t))))::sl,rs⟩) (ho:o.op=.load t (.tmp i):=by exact rfl) (hx:look sl i=some (true,.a (.one (.t (.ad cs)))):=by exact rfl) (hn:Nat.ble m cs.length=true:=by exact rfl) (h1:(ag||Nat.beq m 1)=true:=by exact rfl) (hg:o.guard=none:=by exact rfl) (hd:o.dst.all (fun d=>Nat.blt d n)=true:=by exact rfl) (he:o.dst=some d:=by exact rfl):AWl P w0 ops Q (o::ls) ⟨n,sl,rs⟩:=Ac (Ca ho (.no hg) hd (.tm hx) ht hn h1) he h
theorem Bu {P:Program} {w0:Base} {Q:Exit→St→Prop} {ops:Array Oper} {o:Oper} {l:List Oper} {n:Nat} {sl:List (Nat×(Bool×S))} {rs:List (Nat×R)} {d:Nat} {f:FuncId} {xs:List Operand} {tys:Array TypeId} {ins:List V0} {out:V} (hf:FnT P f ins out) (h:AWl P w0 ops Q l ⟨n,(d,(true,inS out))::sl,rs⟩) (ho:o.op=.call { callee:=.value (.func f),args:=xs.toArray,argTypes:=tys }:=by exact rfl) (hg:o.guard=none:=by exact rfl) (hd:o.dst.all (fun d=>Nat.blt d n)=true:=by exact rfl) (ha:Args ⟨n,sl,rs⟩ true xs ins:=by repeat first|exact .nil|refine .cons (.tm rfl) rfl ?_|refine .cons (.const rfl) rfl ?_) (he:o.dst=some d:=by exact rfl):AWl P w0 ops Q (o::l) ⟨n,sl,rs⟩:=Ac (Aw hf.fr ho (.no hg) hd ha) he h
theorem Cl {P:Program} {w0:Base} {Q:Exit→St→Prop} {ops:Array Oper} {o:Oper} {l:List Oper} {n:Nat} {sl:List (Nat×(Bool×S))} {rs:List (Nat×R)} {d i:Nat} {j g:Nat} {b:Bool} {x:A}  (h:AWl P w0 ops Q l ⟨n,(d,(b,.a (x)))::sl,rs⟩) (ho:o.op=.move (.tmp i):=by exact rfl) (hg:o.guard=some (j,true):=by exact rfl) (hj:(ops[j]?).bind (·.dst)=some g:=by exact rfl) (hb:look sl g=some (true,.a (.one (.t (.v (.bool b))))):=by exact rfl) (hgn:Nat.blt g n=true:=by exact rfl) (hx:look sl i=some (true,.a x):=by exact rfl) (hd:o.dst.all (fun d=>Nat.blt d n)=true:=by exact rfl) (he:o.dst=some d:=by exact rfl):AWl P w0 ops Q (o::l) ⟨n,sl,rs⟩:=Ac (Bf ho (.yes1 hg hj hb hgn) hd (.tmp hx fun _=>rfl)) he h
theorem Cu {P:Program} {w0:Base} {Q:Exit→St→Prop} {ops:Array Oper} {o:Oper} {l:List Oper} {n:Nat} {sl:List (Nat×(Bool×S))} {rs:List (Nat×R)} {d i:Nat} {j g:Nat} {b:Bool} {t:TypeId} {cs:List T} {ag:Bool} {m:Nat} (ht:tyB P t ag m=true) (h:AWl P w0 ops Q l ⟨n,(d,(b,.a (mkA ag ((cs.take m).map .t))))::sl,rs⟩) (ho:o.op=.load t (.tmp i):=by exact rfl) (hg:o.guard=some (j,true):=by exact rfl) (hj:(ops[j]?).bind (·.dst)=some g:=by exact rfl) (hb:look sl g=some (true,.a (.one (.t (.v (.bool b))))):=by exact rfl) (hgn:Nat.blt g n=true:=by exact rfl) (hx:look sl i=some (b,.a (.one (.t (.ad cs)))):=by exact rfl) (hn:Nat.ble m cs.length=true:=by exact rfl) (h1:(ag||Nat.beq m 1)=true:=by exact rfl) (hd:o.dst.all (fun d=>Nat.blt d n)=true:=by exact rfl) (he:o.dst=some d:=by exact rfl):AWl P w0 ops Q (o::l) ⟨n,sl,rs⟩:=Ac (Ca ho (.yes1 hg hj hb hgn) hd (.tmp hx id) ht hn h1) he h
theorem AWl.fy {P:Program} {w0:Base} {Q:Exit→St→Prop} {ops:Array Oper} {o:Oper} {l:List Oper} {n:Nat} {sl:List (Nat×(Bool×S))} {rs:List (Nat×R)} {d i:Nat} {j g:Nat} {b:Bool} {t:TypeId} {k off:Nat} {cs:List T} (hf:fldB P t k off=true) (h:AWl P w0 ops Q l ⟨n,(d,(b,.a (.one (.t (.ad (cs.drop off))))))::sl,rs⟩) (ho:o.op=.fieldAddr t (.tmp i) k:=by exact rfl) (hg:o.guard=some (j,true):=by exact rfl) (hj:(ops[j]?).bind (·.dst)=some g:=by exact rfl) (hb:look sl g=some (true,.a (.one (.t (.v (.bool b))))):=by exact rfl) (hgn:Nat.blt g n=true:=by exact rfl) (hx:look sl i=some (true,.a (.one (.t (.ad cs)))):=by exact rfl) (hd:o.dst.all (fun d=>Nat.blt d n)=true:=by exact rfl) (he:o.dst=some d:=by exact rfl):AWl P w0 ops Q (o::l) ⟨n,sl,rs⟩:=Ac (B9 ho (.yes1 hg hj hb hgn) hd (.tmp hx fun _=>rfl) hf) he h
theorem AWl.mw {P:Program} {w0:Base} {Q:Exit→St→Prop} {ops:Array Oper} {o:Oper} {l:List Oper} {n:Nat} {sl:List (Nat×(Bool×S))} {rs:List (Nat×R)} {d i:Nat} {j g:Nat} {b:Bool} {x:A}  (h:AWl P w0 ops Q l ⟨n,(d,(!b,.a (x)))::sl,rs⟩) (ho:o.op=.move (.tmp i):=by exact rfl) (hg:o.guard=some (j,false):=by exact rfl) (hj:(ops[j]?).bind (·.dst)=some g:=by exact rfl) (hb:look sl g=some (true,.a (.one (.t (.v (.bool b))))):=by exact rfl) (hgn:Nat.blt g n=true:=by exact rfl) (hx:look sl i=some (true,.a x):=by exact rfl) (hd:o.dst.all (fun d=>Nat.blt d n)=true:=by exact rfl) (he:o.dst=some d:=by exact rfl):AWl P w0 ops Q (o::l) ⟨n,sl,rs⟩:=Ac (Bf ho (.not1 hg hj hb hgn) hd (.tmp hx fun _=>rfl)) he h
theorem Cx {P:Program} {w0:Base} {Q:Exit→St→Prop} {ops:Array Oper} {o:Oper} {l:List Oper} {n:Nat} {sl:List (Nat×(Bool×S))} {rs:List (Nat×R)} {d i:Nat} {j g:Nat} {b:Bool} {t:TypeId} {cs:List T} {ag:Bool} {m:Nat} (ht:tyB P t ag m=true) (h:AWl P w0 ops Q l ⟨n,(d,(!b,.a (mkA ag ((cs.take m).map .t))))::sl,rs⟩) (ho:o.op=.load t (.tmp i):=by exact rfl) (hg:o.guard=some (j,false):=by exact rfl) (hj:(ops[j]?).bind (·.dst)=some g:=by exact rfl) (hb:look sl g=some (true,.a (.one (.t (.v (.bool b))))):=by exact rfl) (hgn:Nat.blt g n=true:=by exact rfl) (hx:look sl i=some (!b,.a (.one (.t (.ad cs)))):=by exact rfl) (hn:Nat.ble m cs.length=true:=by exact rfl) (h1:(ag||Nat.beq m 1)=true:=by exact rfl) (hd:o.dst.all (fun d=>Nat.blt d n)=true:=by exact rfl) (he:o.dst=some d:=by exact rfl):AWl P w0 ops Q (o::l) ⟨n,sl,rs⟩:=Ac (Ca ho (.not1 hg hj hb hgn) hd (.tmp hx id) ht hn h1) he h
theorem Cy {P:Program} {w0:Base} {Q:Exit→St→Prop} {ops:Array Oper} {o:Oper} {l:List Oper} {n:Nat} {sl:List (Nat×(Bool×S))} {rs:List (Nat×R)} {d i:Nat} {j g:Nat} {b:Bool} {t:TypeId} {k off:Nat} {cs:List T} (hf:fldB P t k off=true) (h:AWl P w0 ops Q l ⟨n,(d,(!b,.a (.one (.t (.ad (cs.drop off))))))::sl,rs⟩) (ho:o.op=.fieldAddr t (.tmp i) k:=by exact rfl) (hg:o.guard=some (j,false):=by exact rfl) (hj:(ops[j]?).bind (·.dst)=some g:=by exact rfl) (hb:look sl g=some (true,.a (.one (.t (.v (.bool b))))):=by exact rfl) (hgn:Nat.blt g n=true:=by exact rfl) (hx:look sl i=some (true,.a (.one (.t (.ad cs)))):=by exact rfl) (hd:o.dst.all (fun d=>Nat.blt d n)=true:=by exact rfl) (he:o.dst=some d:=by exact rfl):AWl P w0 ops Q (o::l) ⟨n,sl,rs⟩:=Ac (B9 ho (.not1 hg hj hb hgn) hd (.tmp hx fun _=>rfl) hf) he h
theorem Cb {P:Program} {w0:Base} {Q:Exit→St→Prop} {ops:Array Oper} {o:Oper} {l:List Oper} {n:Nat} {sl:List (Nat×(Bool×S))} {rs:List (Nat×R)} {d i:Nat} {j:Nat} {b b':Bool}  (h:AWl P w0 ops Q l ⟨n,(d,(true,.a (.one (.t (.v (.bool (b&&b')))))))::sl,rs⟩) (ho:o.op=.pick (.tmp i) (.tmp j) (.const (.bool false)):=by exact rfl) (hg:o.guard=none:=by exact rfl) (hx:look sl i=some (true,.a (.one (.t (.v (.bool b))))):=by exact rfl) (hy:look sl j=some (b,.a (.one (.t (.v (.bool b'))))):=by exact rfl) (hd:o.dst.all (fun d=>Nat.blt d n)=true:=by exact rfl) (he:o.dst=some d:=by exact rfl):AWl P w0 ops Q (o::l) ⟨n,sl,rs⟩:=Ac (R_and ho (.no hg) hd (.tm hx) (.tmp hy id)) he h
theorem Cj {P:Program} {w0:Base} {Q:Exit→St→Prop} {ops:Array Oper} {o:Oper} {l:List Oper} {n:Nat} {sl:List (Nat×(Bool×S))} {rs:List (Nat×R)} {d i:Nat} {j:Nat} {b b':Bool}  (h:AWl P w0 ops Q l ⟨n,(d,(true,.a (.one (.t (.v (.bool (b||b')))))))::sl,rs⟩) (ho:o.op=.pick (.tmp i) (.const (.bool true)) (.tmp j):=by exact rfl) (hg:o.guard=none:=by exact rfl) (hx:look sl i=some (true,.a (.one (.t (.v (.bool b))))):=by exact rfl) (hy:look sl j=some (!b,.a (.one (.t (.v (.bool b'))))):=by exact rfl) (hd:o.dst.all (fun d=>Nat.blt d n)=true:=by exact rfl) (he:o.dst=some d:=by exact rfl):AWl P w0 ops Q (o::l) ⟨n,sl,rs⟩:=Ac (R_or ho (.no hg) hd (.tm hx) (.tmp hy id)) he h
theorem Cw {P:Program} {w0:Base} {Q:Exit→St→Prop} {ops:Array Oper} {o:Oper} {l:List Oper} {n:Nat} {sl:List (Nat×(Bool×S))} {rs:List (Nat×R)} {d i:Nat} {t:TypeId} {b:Bool}  (h:AWl P w0 ops Q l ⟨n,(d,(true,.a (.one (.t (.v (.bool !b))))))::sl,rs⟩) (ho:o.op=.unOp .not t (.tmp i):=by exact rfl) (hg:o.guard=none:=by exact rfl) (hx:look sl i=some (true,.a (.one (.t (.v (.bool b))))):=by exact rfl) (hd:o.dst.all (fun d=>Nat.blt d n)=true:=by exact rfl) (he:o.dst=some d:=by exact rfl):AWl P w0 ops Q (o::l) ⟨n,sl,rs⟩:=Ac (R_not ho (.no hg) hd (.tm hx)) he h
theorem Ba {P:Program} {w0:Base} {Q:Exit→St→Prop} {ops:Array Oper} {o:Oper} {l:List Oper} {n:Nat} {sl:List (Nat×(Bool×S))} {rs:List (Nat×R)} {d i:Nat} {t t':TypeId} {k:IntKind} {c m:Int}  (h:AWl P w0 ops Q l ⟨n,(d,(true,.a (.one (.t (.v (.bool (decide (c=m))))))))::sl,rs⟩) (ho:o.op=.binOp .eql t (.tmp i) (.const (.int k m)) t':=by exact rfl) (hg:o.guard=none:=by exact rfl) (hx:look sl i=some (true,.a (.one (.t (.v (.int k c))))):=by exact rfl) (hc:(Value.int k m).oneCell'=true:=by exact rfl) (hd:o.dst.all (fun d=>Nat.blt d n)=true:=by exact rfl) (he:o.dst=some d:=by exact rfl):AWl P w0 ops Q (o::l) ⟨n,sl,rs⟩:=Ac (R_eq ho (.no hg) hd (.tm hx) (.const hc)) he h
theorem AWl.nc {P:Program} {w0:Base} {Q:Exit→St→Prop} {ops:Array Oper} {o:Oper} {l:List Oper} {n:Nat} {sl:List (Nat×(Bool×S))} {rs:List (Nat×R)} {d i:Nat} {t t':TypeId} {k:IntKind} {c m:Int}  (h:AWl P w0 ops Q l ⟨n,(d,(true,.a (.one (.t (.v (.bool (!decide (c=m))))))))::sl,rs⟩) (ho:o.op=.binOp .neq t (.tmp i) (.const (.int k m)) t':=by exact rfl) (hg:o.guard=none:=by exact rfl) (hx:look sl i=some (true,.a (.one (.t (.v (.int k c))))):=by exact rfl) (hc:(Value.int k m).oneCell'=true:=by exact rfl) (hd:o.dst.all (fun d=>Nat.blt d n)=true:=by exact rfl) (he:o.dst=some d:=by exact rfl):AWl P w0 ops Q (o::l) ⟨n,sl,rs⟩:=Ac (R_ne ho (.no hg) hd (.tm hx) (.const hc)) he h
theorem Cv {P:Program} {w0:Base} {Q:Exit→St→Prop} {ops:Array Oper} {o:Oper} {l:List Oper} {n:Nat} {sl:List (Nat×(Bool×S))} {rs:List (Nat×R)} {d i:Nat} {t t':TypeId} {k:IntKind} {c m:Int}  (h:AWl P w0 ops Q l ⟨n,(d,(true,.a (.one (.t (.v (.bool (decide (c<m))))))))::sl,rs⟩) (ho:o.op=.binOp .lss t (.tmp i) (.const (.int k m)) t':=by exact rfl) (hg:o.guard=none:=by exact rfl) (hx:look sl i=some (true,.a (.one (.t (.v (.int k c))))):=by exact rfl) (hc:(Value.int k m).oneCell'=true:=by exact rfl) (hd:o.dst.all (fun d=>Nat.blt d n)=true:=by exact rfl) (he:o.dst=some d:=by exact rfl):AWl P w0 ops Q (o::l) ⟨n,sl,rs⟩:=Ac (R_lt ho (.no hg) hd (.tm hx) (.const hc)) he h
theorem AWl.gc {P:Program} {w0:Base} {Q:Exit→St→Prop} {ops:Array Oper} {o:Oper} {l:List Oper} {n:Nat} {sl:List (Nat×(Bool×S))} {rs:List (Nat×R)} {d i:Nat} {t t':TypeId} {k:IntKind} {c m:Int}  (h:AWl P w0 ops Q l ⟨n,(d,(true,.a (.one (.t (.v (.bool (decide (m<c))))))))::sl,rs⟩) (ho:o.op=.binOp .gtr t (.tmp i) (.const (.int k m)) t':=by exact rfl) (hg:o.guard=none:=by exact rfl) (hx:look sl i=some (true,.a (.one (.t (.v (.int k c))))):=by exact rfl) (hc:(Value.int k m).oneCell'=true:=by exact rfl) (hd:o.dst.all (fun d=>Nat.blt d n)=true:=by exact rfl) (he:o.dst=some d:=by exact rfl):AWl P w0 ops Q (o::l) ⟨n,sl,rs⟩:=Ac (R_gt ho (.no hg) hd (.tm hx) (.const hc)) he h
theorem AWl.gd {P:Program} {w0:Base} {Q:Exit→St→Prop} {ops:Array Oper} {o:Oper} {l:List Oper} {n:Nat} {sl:List (Nat×(Bool×S))} {rs:List (Nat×R)} {d i:Nat} {t t':TypeId} {k:IntKind} {c m:Int}  (h:AWl P w0 ops Q l ⟨n,(d,(true,.a (.one (.t (.v (.bool (decide (m≤c))))))))::sl,rs⟩) (ho:o.op=.binOp .geq t (.tmp i) (.const (.int k m)) t':=by exact rfl) (hg:o.guard=none:=by exact rfl) (hx:look sl i=some (true,.a (.one (.t (.v (.int k c))))):=by exact rfl) (hc:(Value.int k m).oneCell'=true:=by exact rfl) (hd:o.dst.all (fun d=>Nat.blt d n)=true:=by exact rfl) (he:o.dst=some d:=by exact rfl):AWl P w0 ops Q (o::l) ⟨n,sl,rs⟩:=Ac (R_ge ho (.no hg) hd (.tm hx) (.const hc)) he h
theorem C4 {P:Program} {w0:Base} {Q:Exit→St→Prop} {ops:Array Oper} {o:Oper} {l:List Oper} {n:Nat} {sl:List (Nat×(Bool×S))} {rs:List (Nat×R)} {d i:Nat} {t t':TypeId} {c m:Int}  (h:AWl P w0 ops Q l ⟨n,(d,(true,.a (.one (.t (.v (.int .i64 (c-m)))))))::sl,rs⟩) (ho:o.op=.binOp .sub t (.tmp i) (.const (.int .i64 m)) t':=by exact rfl) (hg:o.guard=none:=by exact rfl) (hx:look sl i=some (true,.a (.one (.t (.v (.int .i64 c))))):=by exact rfl) (hb:-9223372036854775808≤c-m∧c-m≤9223372036854775807:=by omega) (hd:o.dst.all (fun d=>Nat.blt d n)=true:=by exact rfl) (he:o.dst=some d:=by exact rfl):AWl P w0 ops Q (o::l) ⟨n,sl,rs⟩:=Ac (R_sub ho (.no hg) hd (.tm hx) (.const rfl) fun _=>hb) he h
theorem A3 {d i:Nat} {id p:Nat} {t:TypeId} {cs:List E} {ag:Bool} {m:Nat} (ht:tyB P t ag m=true) (h:AWl P w0 ops Q ls ⟨n,(d,(true,.a (mkA ag ((cs.drop p).take m))))::sl,rs⟩) (ho:o.op=.load t (.tmp i):=by exact rfl) (hx:look sl i=some (true,.a (.one (.pp id p))):=by exact rfl) (hs:look rs id=some (.box cs):=by exact rfl) (hn:Nat.ble (p+m) cs.length=true:=by exact rfl) (h1:(ag||Nat.beq m 1)=true:=by exact rfl) (hg:o.guard=none:=by exact rfl) (hd:o.dst.all (fun d=>Nat.blt d n)=true:=by exact rfl) (he:o.dst=some d:=by exact rfl):AWl P w0 ops Q (o::ls) ⟨n,sl,rs⟩:=Ac (Bn ho (.no hg) hd (.tm hx) hs ht hn h1) he h
theorem A8 {d i:Nat} {t:TypeId} {j off:Nat} {cs:List T} (hf:fldB P t j off=true) (h:AWl P w0 ops Q ls ⟨n,(d,(true,.a (.one (.t (.ad (cs.drop off))))))::sl,rs⟩) (ho:o.op=.fieldAddr t (.tmp i) j:=by exact rfl) (hx:look sl i=some (true,.a (.one (.t (.ad cs)))):=by exact rfl) (hg:o.guard=none:=by exact rfl) (hd:o.dst.all (fun d=>Nat.blt d n)=true:=by exact rfl) (he:o.dst=some d:=by exact rfl):AWl P w0 ops Q (o::ls) ⟨n,sl,rs⟩:=Ac (B9 ho (.no hg) hd (.tm hx) hf) he h
theorem Bd {d i:Nat} {id p:Nat} {t:TypeId} {j off:Nat} (hf:fldB P t j off=true) (h:AWl P w0 ops Q ls ⟨n,(d,(true,.a (.one (.pp id (p+off)))))::sl,rs⟩) (ho:o.op=.fieldAddr t (.tmp i) j:=by exact rfl) (hx:look sl i=some (true,.a (.one (.pp id p))):=by exact rfl) (hg:o.guard=none:=by exact rfl) (hd:o.dst.all (fun d=>Nat.blt d n)=true:=by exact rfl) (he:o.dst=some d:=by exact rfl):AWl P w0 ops Q (o::ls) ⟨n,sl,rs⟩:=Ac (Bj ho (.no hg) hd (.tm hx) hf) he h
theorem Bk {d i:Nat} {t t':TypeId} {c m:Int}  (h:AWl P w0 ops Q ls ⟨n,(d,(true,.a (.one (.t (.v (.int .i64 (c+m)))))))::sl,rs⟩) (ho:o.op=.binOp .add t (.tmp i) (.const (.int .i64 m)) t':=by exact rfl) (hx:look sl i=some (true,.a (.one (.t (.v (.int .i64 c))))):=by exact rfl) (hb:-9223372036854775808≤c+m∧c+m≤9223372036854775807:=by omega) (hg:o.guard=none:=by exact rfl) (hd:o.dst.all (fun d=>Nat.blt d n)=true:=by exact rfl) (he:o.dst=some d:=by exact rfl):AWl P w0 ops Q (o::ls) ⟨n,sl,rs⟩:=Ac (R_add ho (.no hg) hd (.tm hx) (.const rfl) fun _=>hb) he h
theorem AWl.lt {d i:Nat} {j:Nat} {t t':TypeId} {k:IntKind} {c m:Int}  (h:AWl P w0 ops Q ls ⟨n,(d,(true,.a (.one (.t (.v (.bool (decide (c<m))))))))::sl,rs⟩) (ho:o.op=.binOp .lss t (.tmp i) (.tmp j) t':=by exact rfl) (hx:look sl i=some (true,.a (.one (.t (.v (.int k c))))):=by exact rfl) (hy:look sl j=some (true,.a (.one (.t (.v (.int k m))))):=by exact rfl) (hg:o.guard=none:=by exact rfl) (hd:o.dst.all (fun d=>Nat.blt d n)=true:=by exact rfl) (he:o.dst=some d:=by exact rfl):AWl P w0 ops Q (o::ls) ⟨n,sl,rs⟩:=Ac (R_lt ho (.no hg) hd (.tm hx) (.tm hy)) he h
theorem AWl.eq {d i:Nat} {j:Nat} {t t':TypeId} {k:IntKind} {c m:Int}  (h:AWl P w0 ops Q ls ⟨n,(d,(true,.a (.one (.t (.v (.bool (decide (c=m))))))))::sl,rs⟩) (ho:o.op=.binOp .eql t (.tmp i) (.tmp j) t':=by exact rfl) (hx:look sl i=some (true,.a (.one (.t (.v (.int k c))))):=by exact rfl) (hy:look sl j=some (true,.a (.one (.t (.v (.int k m))))):=by exact rfl) (hg:o.guard=none:=by exact rfl) (hd:o.dst.all (fun d=>Nat.blt d n)=true:=by exact rfl) (he:o.dst=some d:=by exact rfl):AWl P w0 ops Q (o::ls) ⟨n,sl,rs⟩:=Ac (R_eq ho (.no hg) hd (.tm hx) (.tm hy)) he h
theorem Br {d i:Nat} {α:Type} {f:α→List T} {a:List α} {t:TypeId} {A0:A} {k:Nat} {e:TypeId} (hs:Sq ⟨n,sl,rs⟩ A0 k (a.map f)) (hu:P.underlying t=some (.slice e)) (h:AWl P w0 ops Q ls ⟨n,(d,(true,.a (.one (.t (.v (.int .i64 a.length))))))::sl,rs⟩) (ho:o.op=.call { callee:=.builtin .len,args:=#[.tmp i],argTypes:=#[t] }:=by exact rfl) (hx:look sl i=some (true,.a A0):=by exact rfl) (hg:o.guard=none:=by exact rfl) (hd:o.dst.all (fun d=>Nat.blt d n)=true:=by exact rfl) (he:o.dst=some d:=by exact rfl):AWl P w0 ops Q (o::ls) ⟨n,sl,rs⟩:=Ac (R_lenm ho (.no hg) hd (.tm hx) hs hu) he h
theorem Ao {id p i j:Nat} {t:TypeId} {cs:List E} {A0:A} {ag:Bool} {m:Nat} (ht:tyB P t ag m=true) (h:AWl P w0 ops Q ls ⟨n,sl,setR rs id (.box (setC cs p (cellsA A0)))⟩) (ho:o.op=.store t (.tmp i) (.tmp j):=by exact rfl) (hg:o.guard=none:=by exact rfl) (hdn:o.dst=none:=by exact rfl) (hx:look sl i=some (true,.a (.one (.pp id p))):=by exact rfl) (hy:look sl j=some (true,.a A0):=by exact rfl) (hs:look rs id=some (.box cs):=by exact rfl) (he:(cellsA A0).all E.cell1=true:=by exact rfl) (hl:Nat.beq (cellsA A0).length m=true:=by exact rfl) (hn:Nat.ble (p+m) cs.length=true:=by exact rfl) (hv1:nvB id sl rs=true:=by kernel_rfl) (hv2:(cellsA A0).all (E.nv id)=true:=by exact rfl):AWl P w0 ops Q (o::ls) ⟨n,sl,rs⟩:=AWl.chgb (R_store_pb (σ:=⟨n,sl,rs⟩) ho hg hdn (.tm hx) (.tm hy) hs ht he hl hn hv1 hv2) h
end
end Go.Q
set_option maxHeartbeats 1000000
set_option maxRecDepth 100000
namespace Go.Q
open Go.D
theorem nodup_leA {α:Type} [DecidableEq α]:∀ {l r:List α},l.Nodup→(∀ x∈l,x∈r)→l.length≤r.length
 | [],_,_,_=>Nat.zero_le _
 | a::l,r,h,hs=>by
  have h2:=List.nodup_cons.1 h
  have:=nodup_leA (l:=l) (r:=r.erase a) h2.2 fun x hx=>(List.mem_erase_of_ne (fun e=>h2.1 (by rw [←e];exact hx))).2 (hs x (by simp [hx]))
  have hm:=hs a (by simp)
  rw [List.length_erase_of_mem hm] at this
  have:=List.length_pos_of_mem hm
  rw [List.length_cons];omega
def nxA (a:TAutomaton) (s k:Nat):Int:=(a.Next[s]?.getD [])[k]?.getD (-1)
def acA (a:TAutomaton) (s:Nat):Bool:=a.Accept[s]?.getD false
def stA (a:TAutomaton) (s:Int) (k:Nat):Int:=if s<0 then -1 else nxA a s.toNat k
def LA (a:TAutomaton) (s:Int):List Nat→Bool
 | []=>decide (0≤s)&&acA a s.toNat
 | k::w=>LA a (stA a s k) w
def inW (w:List Nat):Prop:=∀ k∈w,k<9
theorem inW_nil:inW []:=fun _ h=>by cases h
theorem inW_cons {k:Nat} {w:List Nat}:inW (k::w)↔k<9∧inW w:=by unfold inW;simp
theorem LA_neg (a:TAutomaton):∀ (w:List Nat) {s:Int},s<0→LA a s w=false
 | [],s,h=>by unfold LA;simp;omega
 | k::w,s,h=>by rw [LA];exact LA_neg a w (by unfold stA;rw [if_pos h];omega)
theorem LA_cons (a:TAutomaton) (s k:Nat) (w:List Nat):LA a (s:Int) (k::w)=LA a (nxA a s k) w:=by
 rw [LA];unfold stA;rw [if_neg (by omega)];rfl
def numL (F:List Int):Nat:=F.foldl (fun c t=>if t=(c:Int) then c+1 else c) 1
theorem numL_snoc (F:List Int) (t:Int):numL (F++[t])=if t=(numL F:Int) then numL F+1 else numL F:=by
 unfold numL;rw [List.foldl_append];rfl
theorem numL_take (F:List Int) {p:Nat} {t:Int} (h:F[p]?=some t):numL (F.take (p+1))=if t=(numL (F.take p):Int) then numL (F.take p)+1 else numL (F.take p):=by
 rw [take_at h,numL_snoc]
theorem numL_mono (F:List Int):∀ {p q:Nat},p≤q→numL (F.take p)≤numL (F.take q):=by
 intro p q h
 obtain⟨d,rfl⟩:=Nat.le.dest h
 clear h
 induction d with
 | zero=>exact Nat.le_refl _
 | succ d ih=>
  refine Nat.le_trans ih ?_
  rcases Nat.lt_or_ge (p+d) F.length with hl|hl
  · show _≤numL (F.take (p+d+1))
    rw [numL_take F (List.getElem?_eq_getElem hl)]
    split<;>omega
  rw [List.take_of_length_le (by omega),List.take_of_length_le (by omega)];exact Nat.le_refl _
def okF (F:List Int):Prop:=∀ p t,F[p]?=some t→ -1≤t∧t≤(numL (F.take p):Int)
theorem okF_nil:okF []:=fun p t h=>by simp at h
theorem okF_snoc {F:List Int} (h:okF F) {t:Int} (h0:-1≤t) (h1:t≤(numL F:Int)):okF (F++[t]):=by
 intro p u hp
 rcases Nat.lt_or_ge p F.length with hl|hl
 · rw [List.getElem?_append_left hl] at hp
   rw [List.take_append_of_le_length (by omega)]
   exact h p u hp
 rw [List.getElem?_append_right hl] at hp
 rcases Nat.eq_zero_or_pos (p-F.length) with h2|h2
 · have e:p=F.length:=by omega
   subst e
   simp at hp
   subst hp
   rw [List.take_left]
   exact⟨h0,h1⟩
 rw [List.getElem?_eq_none (by simp;omega)] at hp;cases hp
theorem okF_lt {F:List Int} (h:okF F) {p:Nat} {t:Int} (hp:F[p]?=some t):t<(numL (F.take (p+1)):Int):=by
 have:=h p t hp
 rw [numL_take F hp]
 split<;>omega
theorem flat_at {L:List (List Int)} (hl:∀ r∈L,r.length=9) {i k:Nat} (hk:k<9):L.flatten[9*i+k]?=(L[i]?.getD [])[k]?:=by
 induction L generalizing i with
 | nil=>simp
 | cons r L ih=>
  have hr:=hl r (by simp)
  rw [List.flatten_cons]
  cases i with
  | zero=>rw [List.getElem?_append_left (by omega)];simp
  | succ i=>
   rw [List.getElem?_append_right (by omega),hr,show 9*(i+1)+k-9=9*i+k by omega,ih fun x hx=>hl x (by simp [hx])]
   simp
theorem flat_len {L:List (List Int)} (hl:∀ r∈L,r.length=9):L.flatten.length=9*L.length:=by
 induction L with
 | nil=>rfl
 | cons r L ih=>
  rw [List.flatten_cons,List.length_append,hl r (by simp),ih fun x hx=>hl x (by simp [hx]),List.length_cons]
  omega
structure CanA (a:TAutomaton):Prop where
 st:a.Start=0
 n1:1≤a.Accept.length
 nl:a.Next.length=a.Accept.length
 rl:∀ r∈a.Next,r.length=9
 ok:okF a.Next.flatten
 dsc:∀ i,i<a.Accept.length→i<numL (a.Next.flatten.take (9*i))
 all:numL a.Next.flatten=a.Accept.length
 lv:(a.Accept=[false]∧a.Next=[[-1,-1,-1,-1,-1,-1,-1,-1,-1]])∨∀ i:Nat,i<a.Accept.length→∃ w,inW w∧LA a i w=true
 ds:∀ i j:Nat,i<a.Accept.length→j<a.Accept.length→(∀ w,inW w→LA a i w=LA a j w)→i=j
theorem CanA.flen {a:TAutomaton} (h:CanA a):a.Next.flatten.length=9*a.Accept.length:=by rw [flat_len h.rl,h.nl]
theorem CanA.fget {a:TAutomaton} (h:CanA a) {p:Nat} (hp:p<9*a.Accept.length):a.Next.flatten[p]?=some (nxA a (p / 9) (p%9)):=by
 have hl:p<a.Next.flatten.length:=by rw [h.flen];exact hp
 have e:=flat_at h.rl (i:=p / 9) (k:=p%9) (Nat.mod_lt _ (by omega))
 rw [Nat.div_add_mod] at e
 rw [List.getElem?_eq_getElem hl] at e ⊢
 unfold nxA
 rw [←e];rfl
theorem CanA.cle {a:TAutomaton} (h:CanA a) (p:Nat):numL (a.Next.flatten.take p)≤a.Accept.length:=by
 rw [←h.all]
 have:=numL_mono a.Next.flatten (p:=p) (q:=p+a.Next.flatten.length) (by omega)
 rwa [List.take_of_length_le (l:=a.Next.flatten) (i:=p+a.Next.flatten.length) (by omega)] at this
theorem CanA.lt {a:TAutomaton} (h:CanA a) {p:Nat} {t:Int} (hp:a.Next.flatten[p]?=some t):t<(a.Accept.length:Int):=by
 have h1:=okF_lt h.ok hp
 have h2:=h.cle (p+1)
 omega
def liveA (a:TAutomaton):Prop:=∀ i:Nat,i<a.Accept.length→∃ w,inW w∧LA a i w=true
theorem uniq_step {a b:TAutomaton} (ha:CanA a) (hb:CanA b) (la:liveA a) (lb:liveA b) (h:∀ w,inW w→LA a 0 w=LA b 0 w):∀ p,p≤9*a.Accept.length→p≤9*b.Accept.length→numL (a.Next.flatten.take p)=numL (b.Next.flatten.take p)∧(∀ j:Nat,j<numL (a.Next.flatten.take p)→∀ w,inW w→LA a j w=LA b j w)∧∀ q,q<p→a.Next.flatten[q]?=b.Next.flatten[q]?
 | 0,_,_=>by
  refine⟨rfl,fun j hj w hw=>?_,fun q hq=>absurd hq (Nat.not_lt_zero q)⟩
  have:j=0:=by simp [numL] at hj;exact hj
  subst this;exact h w hw
 | p+1,hpa,hpb=>by
  obtain⟨h1,h2,h3⟩:=uniq_step ha hb la lb h p (by omega) (by omega)
  have ea:=ha.fget (p:=p) (by omega)
  have eb:=hb.fget (p:=p) (by omega)
  have hia:=ha.dsc (p / 9) (by omega)
  have hmi:numL (a.Next.flatten.take (9*(p / 9)))≤numL (a.Next.flatten.take p):=numL_mono _ (by omega)
  have hk:p%9<9:=Nat.mod_lt _ (by omega)
  have hL:∀ w,inW w→LA a (nxA a (p / 9) (p%9)) w=LA b (nxA b (p / 9) (p%9)) w:=fun w hw=>by
   have:=h2 (p / 9) (by omega) (p%9::w) (inW_cons.2 ⟨hk,hw⟩)
   rwa [LA_cons,LA_cons] at this
  have ra:=ha.ok _ _ ea
  have rb:=hb.ok _ _ eb
  have lta:=ha.lt ea
  have ltb:=hb.lt eb
  have ca:=ha.cle p
  have cb:=hb.cle p
  have e:nxA a (p / 9) (p%9)=nxA b (p / 9) (p%9):=by
   generalize nxA a (p / 9) (p%9)=x at *
   generalize nxA b (p / 9) (p%9)=y at *
   rcases Int.lt_or_le x 0 with hx|hx
   · rcases Int.lt_or_le y 0 with hy|hy
     · omega
     obtain⟨w,hw,hl⟩:=lb y.toNat (by omega)
     rw [Int.toNat_of_nonneg hy,←hL w hw,LA_neg a w hx] at hl
     cases hl
   obtain⟨x,rfl⟩:=Int.eq_ofNat_of_zero_le hx
   rcases Int.lt_or_le y 0 with hy|hy
   · obtain⟨w,hw,hl⟩:=la x (by omega)
     rw [hL w hw,LA_neg b w hy] at hl
     cases hl
   obtain⟨y,rfl⟩:=Int.eq_ofNat_of_zero_le hy
   rcases Nat.lt_or_ge x (numL (a.Next.flatten.take p)) with hxc|hxc
   · have:=hb.ds x y (by omega) (by omega) fun w hw=>by rw [←h2 x hxc w hw,hL w hw]
     omega
   rcases Nat.lt_or_ge y (numL (a.Next.flatten.take p)) with hyc|hyc
   · have:=ha.ds x y (by omega) (by omega) fun w hw=>by rw [hL w hw,h2 y hyc w hw]
     omega
   omega
  have hc:numL (a.Next.flatten.take (p+1))=numL (b.Next.flatten.take (p+1)):=by
   rw [numL_take _ ea,numL_take _ eb,e,h1]
  refine⟨hc,fun j hj w hw=>?_,fun q hq=>?_⟩
  · rw [numL_take _ ea] at hj
    split at hj
    · rename_i hjc
      rcases Nat.lt_or_eq_of_le (Nat.le_of_lt_succ hj) with hj|hj
      · exact h2 j hj w hw
      have:=hL w hw
      rw [←e,hjc,←hj] at this
      exact this
    exact h2 j hj w hw
  rcases Nat.lt_or_eq_of_le (Nat.le_of_lt_succ hq) with hq|hq
  · exact h3 q hq
  subst hq;rw [ea,eb,e]
theorem can_len {a b:TAutomaton} (ha:CanA a) (hb:CanA b) (la:liveA a) (lb:liveA b) (h:∀ w,inW w→LA a 0 w=LA b 0 w):b.Accept.length≤a.Accept.length:=by
 rcases Nat.lt_or_ge a.Accept.length b.Accept.length with hl|hl
 · have h1:=(uniq_step ha hb la lb h (9*a.Accept.length) (Nat.le_refl _) (by omega)).1
   rw [List.take_of_length_le (by rw [ha.flen];exact Nat.le_refl _),ha.all] at h1
   have:=hb.dsc _ hl
   omega
 exact hl
theorem not_live {a:TAutomaton} (h:a.Accept=[false]∧a.Next=[[-1,-1,-1,-1,-1,-1,-1,-1,-1]]):∀ w,inW w→LA a 0 w=false:=by
 intro w hw
 cases w with
 | nil=>unfold LA acA;rw [h.1];rfl
 | cons k w=>
  have hk:=(inW_cons.1 hw).1
  rw [show (0:Int)=((0:Nat):Int) from rfl,LA_cons]
  refine LA_neg a w ?_
  unfold nxA
  rw [h.2]
  have:k=0∨k=1∨k=2∨k=3∨k=4∨k=5∨k=6∨k=7∨k=8:=by omega
  rcases this with rfl|rfl|rfl|rfl|rfl|rfl|rfl|rfl|rfl<;>decide
theorem rows_eq:∀ {L M:List (List Int)},(∀ r∈L,r.length=9)→(∀ r∈M,r.length=9)→L.flatten=M.flatten→L=M
 | [],[],_,_,_=>rfl
 | [],r::M,_,hm,h=>by
  have:=congrArg List.length h
  rw [List.flatten_cons,List.length_append,hm r (by simp)] at this
  simp at this
  try omega
 | r::L,[],hl,_,h=>by
  have:=congrArg List.length h
  rw [List.flatten_cons,List.length_append,hl r (by simp)] at this
  simp at this
  try omega
 | r::L,s::M,hl,hm,h=>by
  rw [List.flatten_cons,List.flatten_cons] at h
  have h2:=List.append_inj h ((hl r (by simp)).trans (hm s (by simp)).symm)
  rw [h2.1,rows_eq (fun x hx=>hl x (by simp [hx])) (fun x hx=>hm x (by simp [hx])) h2.2]
theorem can_uniq {a b:TAutomaton} (ha:CanA a) (hb:CanA b) (h:∀ w,inW w→LA a 0 w=LA b 0 w):a=b:=by
 have key:a.Accept=b.Accept∧a.Next=b.Next:=by
  rcases ha.lv with la|la
  · rcases hb.lv with lb|lb
    · exact⟨la.1.trans lb.1.symm,la.2.trans lb.2.symm⟩
    obtain⟨w,hw,hl⟩:=lb 0 hb.n1
    have:=h w hw
    rw [not_live la w hw] at this
    rw [show ((0:Nat):Int)=0 from rfl,←this] at hl
    cases hl
  rcases hb.lv with lb|lb
  · obtain⟨w,hw,hl⟩:=la 0 ha.n1
    have:=h w hw
    rw [not_live lb w hw] at this
    rw [show ((0:Nat):Int)=0 from rfl,this] at hl
    cases hl
  have hn:a.Accept.length=b.Accept.length:=Nat.le_antisymm (can_len hb ha lb la fun w hw=>(h w hw).symm) (can_len ha hb la lb h)
  obtain⟨h1,h2,h3⟩:=uniq_step ha hb la lb h (9*a.Accept.length) (Nat.le_refl _) (by omega)
  rw [List.take_of_length_le (by rw [ha.flen];exact Nat.le_refl _),ha.all] at h2
  constructor
  · refine List.ext_getElem? fun i=>?_
    rcases Nat.lt_or_ge i a.Accept.length with hi|hi
    · have:=h2 i hi [] inW_nil
      unfold LA acA at this
      rw [List.getElem?_eq_getElem hi,List.getElem?_eq_getElem (show i<b.Accept.length by omega)]
      simp only [Int.toNat_natCast,List.getElem?_eq_getElem hi,List.getElem?_eq_getElem (show i<b.Accept.length by omega),Option.getD_some] at this
      rw [show decide (0≤(i:Int))=true by simp,Bool.true_and,Bool.true_and] at this
      rw [this]
    rw [List.getElem?_eq_none hi,List.getElem?_eq_none (by omega)]
  refine rows_eq ha.rl hb.rl (List.ext_getElem? fun q=>?_)
  rcases Nat.lt_or_ge q (9*a.Accept.length) with hq|hq
  · exact h3 q hq
  rw [List.getElem?_eq_none (by rw [ha.flen];exact hq),List.getElem?_eq_none (by rw [hb.flen];omega)]
 cases a;cases b
 have e1:=ha.st
 have e2:=hb.st
 simp only at key e1 e2
 rw [key.1,key.2,e1,e2]
end Go.Q
namespace Go.Proofs.YtdhojcaoljhbiaaGreat
open Go.RowKit Go.Q
theorem ty3:tyB Tryz.prog 3 false 1=true:=by kernel_rfl
theorem in3:inZ Tryz.prog 3=some (some (.int .i64 0),1,8):=by kernel_rfl
theorem ty4:tyB Tryz.prog 4 false 1=true:=by kernel_rfl
theorem in4:inZ Tryz.prog 4=some (some (.bool false),1,1):=by kernel_rfl
theorem in5:inZ Tryz.prog 5=some (some (.int .u8 0),1,1):=by kernel_rfl
theorem ty9:tyB Tryz.prog 9 false 1=true:=by kernel_rfl
theorem in9:inZ Tryz.prog 9=some (some (.string .empty),1,16):=by kernel_rfl
theorem Cd:tyB Tryz.prog 24 false 1=true:=by kernel_rfl
theorem Ar:tyB Tryz.prog 26 true 1=true:=by kernel_rfl
theorem Ce:inZ Tryz.prog 26=some (some (.agg #[.slice none 0 0]),1,24):=by kernel_rfl
theorem st26:stB Tryz.prog 26=true:=by kernel_rfl
theorem Be:fldB Tryz.prog 26 0 0=true:=by kernel_rfl
theorem fp26_0:(match Tryz.prog.underlying 26 with|some (.struct fs)=>(match fs[0]? with|some f=>Nat.beq f.offset 0&&(match Tryz.prog.info? f.type with|some i=>Nat.beq i.size 1|none=>false)|none=>false)|_=>false)=true:=by kernel_rfl
theorem ty33:tyB Tryz.prog 33 false 1=true:=by kernel_rfl
theorem ty34:tyB Tryz.prog 34 false 1=true:=by kernel_rfl
theorem Cm:tyB Tryz.prog 36 true 3=true:=by kernel_rfl
theorem in36:inZ Tryz.prog 36=some (some (.agg #[.int .i64 0,.slice none 0 0,.slice none 0 0]),3,56):=by kernel_rfl
theorem st36:stB Tryz.prog 36=true:=by kernel_rfl
theorem fl36_0:fldB Tryz.prog 36 0 0=true:=by kernel_rfl
theorem Ct:fldB Tryz.prog 36 1 1=true:=by kernel_rfl
theorem fp36_1:(match Tryz.prog.underlying 36 with|some (.struct fs)=>(match fs[1]? with|some f=>Nat.beq f.offset 1&&(match Tryz.prog.info? f.type with|some i=>Nat.beq i.size 1|none=>false)|none=>false)|_=>false)=true:=by kernel_rfl
theorem Dc:fldB Tryz.prog 36 2 2=true:=by kernel_rfl
theorem fp36_2:(match Tryz.prog.underlying 36 with|some (.struct fs)=>(match fs[2]? with|some f=>Nat.beq f.offset 2&&(match Tryz.prog.info? f.type with|some i=>Nat.beq i.size 1|none=>false)|none=>false)|_=>false)=true:=by kernel_rfl
theorem C7:tyB Tryz.prog 40 false 1=true:=by kernel_rfl
theorem in40:inZ Tryz.prog 40=some (some (.slice none 0 0),1,24):=by kernel_rfl
theorem ty65:tyB Tryz.prog 65 false 1=true:=by kernel_rfl
theorem Bv:tyB Tryz.prog 71 true 4=true:=by kernel_rfl
theorem Ci:inZ Tryz.prog 71=some (some (.agg #[.int .i64 0,.int .i64 0,.int .i64 0,.int .i64 0]),4,32):=by kernel_rfl
theorem Da:stB Tryz.prog 71=true:=by kernel_rfl
theorem eqS71 (x0:Int) (x1:Int) (x2:Int) (x3:Int) (y0:Int) (y1:Int) (y2:Int) (y3:Int) (w:World):(binOp .eql 71 (.agg (List.toArray [.int .i64 x0,.int .i64 x1,.int .i64 x2,.int .i64 x3])) (.agg (List.toArray [.int .i64 y0,.int .i64 y1,.int .i64 y2,.int .i64 y3]))).run Tryz.prog w=.ok (.bool ((decide (x0=y0)&&decide (x1=y1)&&decide (x2=y2)&&decide (x3=y3)))) w:=by
 have hs:Tryz.prog.stoodInHeld 71=false:=by kernel_rfl
 simp [go_sem,hs,Tryz.underlying71]
 repeat' split
 all_goals simp [*]
theorem neS71 (x0:Int) (x1:Int) (x2:Int) (x3:Int) (y0:Int) (y1:Int) (y2:Int) (y3:Int) (w:World):(binOp .neq 71 (.agg (List.toArray [.int .i64 x0,.int .i64 x1,.int .i64 x2,.int .i64 x3])) (.agg (List.toArray [.int .i64 y0,.int .i64 y1,.int .i64 y2,.int .i64 y3]))).run Tryz.prog w=.ok (.bool (!(decide (x0=y0)&&decide (x1=y1)&&decide (x2=y2)&&decide (x3=y3)))) w:=by
 have hs:Tryz.prog.stoodInHeld 71=false:=by kernel_rfl
 simp [go_sem,hs,Tryz.underlying71]
 repeat' split
 all_goals simp [*]
theorem Co:fldB Tryz.prog 71 0 0=true:=by kernel_rfl
theorem Cg:(match Tryz.prog.underlying 71 with|some (.struct fs)=>(match fs[0]? with|some f=>Nat.beq f.offset 0&&(match Tryz.prog.info? f.type with|some i=>Nat.beq i.size 1|none=>false)|none=>false)|_=>false)=true:=by kernel_rfl
theorem fl71_1:fldB Tryz.prog 71 1 1=true:=by kernel_rfl
theorem fp71_1:(match Tryz.prog.underlying 71 with|some (.struct fs)=>(match fs[1]? with|some f=>Nat.beq f.offset 1&&(match Tryz.prog.info? f.type with|some i=>Nat.beq i.size 1|none=>false)|none=>false)|_=>false)=true:=by kernel_rfl
theorem Db:fldB Tryz.prog 71 2 2=true:=by kernel_rfl
theorem fp71_2:(match Tryz.prog.underlying 71 with|some (.struct fs)=>(match fs[2]? with|some f=>Nat.beq f.offset 2&&(match Tryz.prog.info? f.type with|some i=>Nat.beq i.size 1|none=>false)|none=>false)|_=>false)=true:=by kernel_rfl
theorem Dn:fldB Tryz.prog 71 3 3=true:=by kernel_rfl
theorem fp71_3:(match Tryz.prog.underlying 71 with|some (.struct fs)=>(match fs[3]? with|some f=>Nat.beq f.offset 3&&(match Tryz.prog.info? f.type with|some i=>Nat.beq i.size 1|none=>false)|none=>false)|_=>false)=true:=by kernel_rfl
theorem ty75:tyB Tryz.prog 75 true 5=true:=by kernel_rfl
theorem in75:inZ Tryz.prog 75=some (some (.agg #[.slice none 0 0,.int .i64 0,.int .i64 0,.slice none 0 0,.bool false]),5,72):=by kernel_rfl
theorem st75:stB Tryz.prog 75=true:=by kernel_rfl
theorem fl75_0:fldB Tryz.prog 75 0 0=true:=by kernel_rfl
theorem fl75_1:fldB Tryz.prog 75 1 1=true:=by kernel_rfl
theorem fl75_2:fldB Tryz.prog 75 2 2=true:=by kernel_rfl
theorem fl75_3:fldB Tryz.prog 75 3 3=true:=by kernel_rfl
theorem fl75_4:fldB Tryz.prog 75 4 4=true:=by kernel_rfl
theorem ty120:tyB Tryz.prog 120 false 1=true:=by kernel_rfl
theorem Di:fldB Tryz.prog 124 0 0=true:=by kernel_rfl
theorem Dq:fldB Tryz.prog 124 1 4=true:=by kernel_rfl
theorem C0:tyB Tryz.prog 132 true 3=true:=by kernel_rfl
theorem in132:inZ Tryz.prog 132=some (some (.agg #[.bool false,.int .i64 0,.int .i64 0]),3,24):=by kernel_rfl
theorem st132:stB Tryz.prog 132=true:=by kernel_rfl
theorem fl132_0:fldB Tryz.prog 132 0 0=true:=by kernel_rfl
theorem fp132_0:(match Tryz.prog.underlying 132 with|some (.struct fs)=>(match fs[0]? with|some f=>Nat.beq f.offset 0&&(match Tryz.prog.info? f.type with|some i=>Nat.beq i.size 1|none=>false)|none=>false)|_=>false)=true:=by kernel_rfl
theorem fl132_1:fldB Tryz.prog 132 1 1=true:=by kernel_rfl
theorem fp132_1:(match Tryz.prog.underlying 132 with|some (.struct fs)=>(match fs[1]? with|some f=>Nat.beq f.offset 1&&(match Tryz.prog.info? f.type with|some i=>Nat.beq i.size 1|none=>false)|none=>false)|_=>false)=true:=by kernel_rfl
theorem Df:fldB Tryz.prog 132 2 2=true:=by kernel_rfl
theorem fp132_2:(match Tryz.prog.underlying 132 with|some (.struct fs)=>(match fs[2]? with|some f=>Nat.beq f.offset 2&&(match Tryz.prog.info? f.type with|some i=>Nat.beq i.size 1|none=>false)|none=>false)|_=>false)=true:=by kernel_rfl
theorem C2:tyB Tryz.prog 175 true 5=true:=by kernel_rfl
theorem C3:inZ Tryz.prog 175=some (some (.agg #[.int .i64 0,.int .i64 0,.bool false,.int .i64 0,.int .i64 0]),5,40):=by kernel_rfl
theorem st175:stB Tryz.prog 175=true:=by kernel_rfl
theorem fl175_0:fldB Tryz.prog 175 0 0=true:=by kernel_rfl
theorem fp175_0:(match Tryz.prog.underlying 175 with|some (.struct fs)=>(match fs[0]? with|some f=>Nat.beq f.offset 0&&(match Tryz.prog.info? f.type with|some i=>Nat.beq i.size 1|none=>false)|none=>false)|_=>false)=true:=by kernel_rfl
theorem De:fldB Tryz.prog 175 1 1=true:=by kernel_rfl
theorem fp175_1:(match Tryz.prog.underlying 175 with|some (.struct fs)=>(match fs[1]? with|some f=>Nat.beq f.offset 1&&(match Tryz.prog.info? f.type with|some i=>Nat.beq i.size 1|none=>false)|none=>false)|_=>false)=true:=by kernel_rfl
theorem fl175_2:fldB Tryz.prog 175 2 2=true:=by kernel_rfl
theorem fl175_3:fldB Tryz.prog 175 3 3=true:=by kernel_rfl
theorem fp175_3:(match Tryz.prog.underlying 175 with|some (.struct fs)=>(match fs[3]? with|some f=>Nat.beq f.offset 3&&(match Tryz.prog.info? f.type with|some i=>Nat.beq i.size 1|none=>false)|none=>false)|_=>false)=true:=by kernel_rfl
theorem fl175_4:fldB Tryz.prog 175 4 4=true:=by kernel_rfl
theorem fp175_4:(match Tryz.prog.underlying 175 with|some (.struct fs)=>(match fs[4]? with|some f=>Nat.beq f.offset 4&&(match Tryz.prog.info? f.type with|some i=>Nat.beq i.size 1|none=>false)|none=>false)|_=>false)=true:=by kernel_rfl
end Go.Proofs.YtdhojcaoljhbiaaGreat
namespace Go.Proofs.YtdhojcaoljhbiaaGreat
open Go.RowKit Go.Q Go.D
end Go.Proofs.YtdhojcaoljhbiaaGreat
namespace Go.Q
open Go.RowKit Go.ChangeShapes Go.WideShapes Go.Deep Go.D
def OpensT {α:Type} (c:α→List T) (P:Program) (t:TypeId):Prop:=
 ∀ {H:Type} {enc:TypeId×Value→H} {w:World} {base:Nat} {spare:Nat→Bool} {held:Bool} {fuel:Nat} {cs:List Value} {x:DataW H×List MemPlace},
  DataW.trod enc P w base spare held fuel t cs=some x→∃ (a:α) (F:List Nat),Cs false w (c a) cs F
theorem Cs_one {o:Bool} {w:World} {t:T} {v:Value} {F:List Nat} (h:C o w t v F):Cs o w [t] [v] F:=by
 unfold Cs
 exact⟨v,[],F,[],rfl,h,by unfold Cs;exact⟨rfl,rfl⟩,by simp⟩
theorem Cs_one_inv {o:Bool} {w:World} {t:T} {v:Value} {F:List Nat} (h:Cs o w [t] [v] F):C o w t v F:=by
 simp only [Cs] at h
 obtain⟨c,cr,G1,G2,h1,h2,⟨rfl,rfl⟩,rfl⟩:=h
 cases h1
 simpa using h2
theorem rws_build {α:Type} {c:α→List T} {w:World} {b k:Nat} (hc:∀ a,(c a).length=k):∀ (l:List α) (css:List (List Value)) (Fs:List (List Nat)) (off:Nat),css.length=l.length→Fs.length=l.length→
 (∀ (i:Nat) (x:α) (cs:List Value) (f:List Nat),l[i]?=some x→css[i]?=some cs→Fs[i]?=some f→Cs false w (c x) cs f)→
 (∀ (i:Nat) (cs:List Value) (j:Nat) (u:Value),css[i]?=some cs→cs[j]?=some u→w.cell? ⟨b,off+i*k+j,none⟩=some u)→Rws false w b k off (l.map c) Fs.flatten
 | [],css,Fs,off,h1,h2,h3,h4=>by
  have:Fs=[]:=List.eq_nil_of_length_eq_zero (by simpa using h2)
  subst this
  simp only [List.map_nil,List.flatten_nil]
  unfold Rws
  rfl
 | a::l,css,Fs,off,h1,h2,h3,h4=>by
  match css,Fs,h1,h2 with
  | cs::css,f::Fs,h1,h2=>
   have ih:=rws_build hc l css Fs (off+k) (by simpa using h1) (by simpa using h2) (fun i x cs' f' hx hcs hf=>h3 (i+1) x cs' f' (by simpa using hx) (by simpa using hcs) (by simpa using hf)) (fun i cs' j u hcs hu=>by
    have:=h4 (i+1) cs' j u (by simpa using hcs) hu
    rwa [show off+(i+1)*k+j=off+k+i*k+j by rw [Nat.succ_mul];omega] at this)
   rw [List.map_cons,List.flatten_cons]
   unfold Rws
   refine⟨f,Fs.flatten,hc a,Ms.of (h3 0 a cs f rfl rfl rfl) fun j u hj=>?_,ih,rfl⟩
   have:=h4 0 cs j u rfl hj
   simpa using this
theorem opensTSlice {α:Type} {c:α→List T} {k:Nat} {P:Program} {t e:TypeId} (ht:P.underlying t=some (.slice e)) (hk:P.cellsOf e=k) (hpos:0<k) (hc:∀ a,(c a).length=k) (he:OpensT c P e):OpensT (fun (l:List α)=>[T.sl k (l.map c)]) P t:=by
 intro H enc w base spare held fuel cs x h
 rcases open_slice ht h with ⟨rfl,_⟩|⟨a,len,cap,m,n,D,Pl,rfl,hb,hl,hm,hmm,_,hi⟩
 · refine⟨[],[],Cs_one ?_⟩
   unfold C
   exact⟨none,0,0,rfl,rfl,Nat.le_refl _,Nat.zero_le _,.inl ⟨rfl,rfl,fun h=>by cases h⟩⟩
 have hlm:len≤m:=by rw [hmm];split<;>omega
 have key:∀ q,q≤len→∃ (css:List (List Value)) (l:List α) (Fs:List (List Nat)),css.length=q∧l.length=q∧Fs.length=q∧
  (∀ (i:Nat) (x:α) (cs:List Value) (f:List Nat),l[i]?=some x→css[i]?=some cs→Fs[i]?=some f→Cs false w (c x) cs f)∧
  (∀ (i:Nat) (cs:List Value),css[i]?=some cs→w.cells? base (a.add (i*P.cellsOf e)) (P.cellsOf e)=some cs):=by
  intro q
  induction q with
  | zero=>intro _;exact⟨[],[],[],rfl,rfl,rfl,by simp,by simp⟩
  | succ q ih=>
   intro hq
   obtain⟨css,l,Fs,h1,h2,h3,h4,h5⟩:=ih (by omega)
   obtain⟨cs',hc,htr⟩:=hi q (by omega)
   obtain⟨y,f,hr⟩:=he htr
   refine⟨css++[cs'],l++[y],Fs++[f],by simp [h1],by simp [h2],by simp [h3],fun i x cs f' hx hcs hf=>?_,fun i cs hcs=>?_⟩
   · rcases Nat.lt_trichotomy i q with hlt|rfl|hgt
     · rw [List.getElem?_append_left (by omega)] at hx hcs hf
       exact h4 i x cs f' hx hcs hf
     · rw [List.getElem?_append_right (by omega),h2] at hx
       rw [List.getElem?_append_right (by omega),h1] at hcs
       rw [List.getElem?_append_right (by omega),h3] at hf
       simp at hx hcs hf
       subst hx;subst hcs;subst hf;exact hr
     rw [List.getElem?_eq_none (by simp;omega)] at hx
     cases hx
   rcases Nat.lt_trichotomy i q with hlt|rfl|hgt
   · rw [List.getElem?_append_left (by omega)] at hcs
     exact h5 i cs hcs
   · rw [List.getElem?_append_right (by omega),h1] at hcs
     simp at hcs
     subst hcs;exact hc
   rw [List.getElem?_eq_none (by simp;omega)] at hcs
   cases hcs
 obtain⟨css,l,Fs,h1,h2,h3,h4,h5⟩:=key len (Nat.le_refl _)
 by_cases h0:len=0
 · refine⟨l,[],Cs_one ?_⟩
   unfold C
   exact⟨some a,len,cap,rfl,by simpa using h2,hl,hm,.inl ⟨h0,rfl,fun h=>by cases h⟩⟩
 obtain⟨b,off,spot⟩:=a
 obtain⟨_,hlen0,hat0⟩:=World.cells?_some (h5 0 _ (List.getElem?_eq_getElem (by omega)))
 have c0:=hat0 0 (by omega)
 rw [List.getElem?_eq_getElem (by omega)] at c0
 have hlt:b<w.heap.size:=by
  have:=World.block_lt_of_cell? w _ c0
  simpa [Addr.add] using this
 have hspot:spot=none:=by
  have:=World.cell?_spot c0
  simpa [Addr.add] using this
 subst hspot
 refine⟨l,b::Fs.flatten,Cs_one ?_⟩
 unfold C
 refine⟨some ⟨b,off,none⟩,len,cap,rfl,by simpa using h2,hl,hm,.inr ⟨b,off,Fs.flatten,rfl,rfl,hlt,(by simp),rws_build hc l css Fs off (by omega) (by omega) h4 fun i cs j u hcs hu=>?_⟩⟩
 obtain⟨_,hlen',hat⟩:=World.cells?_some (h5 i cs hcs)
 have hj:j<cs.length:=(List.getElem?_eq_some_iff.1 hu).1
 have:=hat j (by omega)
 rw [hu] at this
 rw [←this,←hk]
 congr 1
 unfold Addr.add
 split<;>split<;>simp_all<;>omega
theorem OpensT.vl {α:Type} {c:α→List T} {P:Program} {t:TypeId} {v:Value} {H:Type} {enc:TypeId×Value→H} {w:World} {base:Nat} {spare:Nat→Bool} {held:Bool} {d:DataW H} {p:List MemPlace} (h:OpensT c P t)
 (hv:DataW.Trod enc P w base spare held t v d p):∃ (a:α) (F:List Nat),Cs false w (c a) v.cells.toList F:=by
 obtain⟨fuel,hf⟩:=hv
 exact h hf
end Go.Q
namespace Go.Q
open Go.RowKit Go.ChangeShapes Go.WideShapes Go.Deep Go.D
def cByte (n:Fin 256):List T:=[.v (.int .u8 (n.val:Int))]
theorem opensTByte {P:Program} {t:TypeId} (ht:P.underlying t=some (.int .u8)):OpensT cByte P t:=by
 intro H enc w base spare held fuel cs x h
 obtain⟨n,rfl,_,hw⟩:=DataW.trod_int ht h
 have hr:0≤n∧n<256:=by
  simp [Lit.wf,IntKind.min,IntKind.max] at hw
  have h1:IntKind.u8.bits=8:=rfl
  simp [IntKind.signed,h1] at hw
  omega
 obtain⟨k,rfl⟩:∃ k:Nat,n=(k:Int):=⟨n.toNat,by omega⟩
 exact⟨⟨k,by omega⟩,[],Cs_one (by unfold C;exact⟨rfl,rfl,rfl⟩)⟩
theorem byR_fin (l:List (Fin 256)):byR (l.map fun n=>(n.val:Int))=l.map cByte:=by
 unfold byR;rw [List.map_map];rfl
theorem C_fin {w:World} {l:List (Fin 256)} {v:Value} {F:List Nat} (h:C false w (.sl 1 (l.map cByte)) v F):C false w (.sl 1 (byR (l.map fun n=>(n.val:Int)))) v F:=by rw [byR_fin];exact h
theorem fin_range (l:List (Fin 256)):∀ n∈l.map (fun n=>(n.val:Int)),0≤n∧n<256:=fun n hn=>by
 obtain⟨k,_,rfl⟩:=List.mem_map.1 hn
 have:=k.isLt
 omega
end Go.Q
namespace Go.Proofs.YtdhojcaoljhbiaaGreat
open Go.RowKit Go.Q Go.D
theorem lawsbig (bs:List Int):FnT Tryz.prog 5 [.one (.sl 1 (byR bs))] (.a (.one (.v (.bool (decide (1048576<bs.length)))))):=by
 refine A6 Tryz.func5 U (by kernel_rfl) Tryz.ntmps5 U fun hlen w0=>?_
 try simp [cPair,cToken,cExpr,cEdge,cGraph,cStep,cWalk,cChange,cBatch,cHistory,cPositions,cAutomaton,cProductStep,cPathAtom,cConjunction,cView,cDelta,cRegistered,cRegistry] at hlen
 refine Af (AWl.ac ?_);refine Aa (Af (Ab ?_));refine Ac ((by first|exact R_lenm U (.no U) U (.tm U) (by first|exact .t|exact .rf U|exact .vw|exact .nil) Tryz.underlying22|exact R_len U (.no U) U (.tm U) (by first|exact .t|exact .rf U|exact .vw|exact .nil) Tryz.underlying22)) U ?_;refine AWl.gc ?_;refine Ag ?_;refine Aa (Ai (Bb U U ?_))
 simp [byR];omega
end Go.Proofs.YtdhojcaoljhbiaaGreat
namespace Go.Q
end Go.Q
namespace Go.Proofs.YtdhojcaoljhbiaaGreat
open Go.RowKit Go.Q Go.D
theorem slicesEqualToken (l r:List TToken):FnT Tryz.prog 39 [.one (.sl 4 (l.map cToken)),.one (.sl 4 (r.map cToken))] (.a (.one (.v (.bool (decide (l=r)))))):=by
 refine A6 Tryz.func39 U (by kernel_rfl) Tryz.ntmps39 U fun hlen w0=>?_
 try simp [cPair,cToken,cExpr,cEdge,cGraph,cStep,cWalk,cChange,cBatch,cHistory,cPositions,cAutomaton,cProductStep,cPathAtom,cConjunction,cView,cDelta,cRegistered,cRegistry] at hlen
 refine Af (AWl.ac ?_);refine Aa (Ae (Af (Ab ?_)));refine Br (.t) Tryz.underlying24 ?_;refine Ab ?_;refine Br (.t) Tryz.underlying24 ?_;refine Ac (R_ne U (.no U) U (.tm U) (.tm U)) U ?_;refine Aa (Ah (.tm U) (fun h10=>?_) (fun h10=>?_))
 · try simp at h10
   refine Af (AWl.ac ?_);refine Aa (Ai (Bb U U ?_))
   congr 1;symm;exact decide_eq_false fun e=>h10 (by rw [e])
 try simp at h10
 refine AW.skip (Ae (Af (Ab ?_)));refine Br (.t) Tryz.underlying24 ?_;refine Ac (Bf U (.no U) U (.const U)) U ?_;refine Aa (AW.block (Dl (β:=Nat) (fun x=>x≤l.length∧∀ i,i<x→l[i]?=r[i]?) (fun x=>⟨_,[(13,(true,.a (.one (.t (.v (.int .i64 x)))))),(0,_),(1,_),(12,_)],[]⟩) (fun x=>l.length-x) (0) ⟨Nat.zero_le _,by simp⟩ (Az U ⟨U,U,U,U,Y⟩ trivial) ?_));intro k hk
 obtain⟨hk,he⟩:=hk
 refine Af (AWl.lt ?_);refine Aa (Ae (Ah (.tm U) (fun h14=>?_) (fun h14=>?_)))
 · try simp at h14
   obtain⟨x,hx⟩:∃ x,l[k]?=some x:=⟨_,List.getElem?_eq_getElem h14⟩
   obtain⟨y,hy⟩:∃ y,r[k]?=some y:=⟨_,List.getElem?_eq_getElem (by omega)⟩
   refine AW.skip (Ae (AW.block (Af (Ab ?_))));refine Ag ?_;refine Aa (Ae (Cc 9 (nthB [[],[],[0,1],[0,1,2],[],[],[4,5],[4,5,6],[0,1,2,3,4,5,6,7]]) (by kernel_rfl) (by kernel_rfl) (by kernel_rfl) ?_));refine Av ?_;refine Av ?_;refine DrawC.s (fun _ hs=>(by exact An U (.no U) (Aj hs U) (hs.tm U) (hs.tm U) Tryz.underlying24 Bv (fun _=>⟨by omega,(by exact Am (by assumption))⟩))) ?_;refine Bp Bv ?_;refine Av ?_;refine Av ?_;refine DrawC.s (fun _ hs=>(by exact An U (.no U) (Aj hs U) (hs.tm U) (hs.tm U) Tryz.underlying24 Bv (fun _=>⟨by omega,(by exact Am (by assumption))⟩))) ?_;refine Bp Bv ?_;refine DrawC.s (fun _ hs=>R_eqs U (.no U) (Aj hs U) (hs.tm U) (hs.tm U) U U (by kernel_rfl) (neS71 _ _ _ _ _ _ _ _)) ?_;refine DrawC.fin U U ?_;refine Aa (Ah (.tm U) (fun h24=>?_) (fun h24=>?_))
   · try simp at h24
     refine Ae (Al (Ap [0,1,5,12,13] []) ?_);refine Ad (AWl.ac ?_);refine Aa (Ai (Bb U U ?_))
     congr 1;symm;exact decide_eq_false fun e=>by rw [e] at hx;rw [hy] at hx;cases hx;simp at h24
   try simp at h24
   have hxy:x=y:=by first|exact h24|exact TToken.ext_iff'.2 (by simpa [and_assoc] using h24)
   refine AW.skip (Al (Ap [0,1,5,12,13] []) ?_);refine Ad (Bk ?_);refine Ab ?_;refine Aa ?_;refine Round.next (k+1) ⟨by omega,fun i hi=>by rcases Nat.lt_or_eq_of_le (Nat.le_of_lt_succ hi) with h|rfl;exact he i h;rw [hx,hy,hxy]⟩ (by omega) (Az rfl ⟨rfl,rfl,rfl,rfl,Y⟩ trivial)
 try simp at h14
 refine Bz (Af (AWl.ac ?_));refine Aa (Ai (Bb U U ?_))
 congr 1;symm;exact decide_eq_true (eq_of_getElem? (by omega) fun i hi=>he i (by omega))
end Go.Proofs.YtdhojcaoljhbiaaGreat
namespace Go.Q
open Go.D
end Go.Q
namespace Go.Proofs.YtdhojcaoljhbiaaGreat
open Go.RowKit Go.Q Go.D
theorem implwithin (n a b:Int):FnT Tryz.prog 54 [.one (.v (.int .i64 n)),.one (.v (.int .i64 a)),.one (.v (.int .i64 b))] (.a (.one (.v (.bool (inB n a b))))):=by
 refine A6 Tryz.func54 U (by kernel_rfl) Tryz.ntmps54 U fun hlen w0=>?_
 try simp [cPair,cToken,cExpr,cEdge,cGraph,cStep,cWalk,cChange,cBatch,cHistory,cPositions,cAutomaton,cProductStep,cPathAtom,cConjunction,cView,cDelta,cRegistered,cRegistry] at hlen
 refine Af (AWl.ac ?_);refine Aa (Af (Ab ?_));refine Ab ?_;refine Ac (R_ge U (.no U) U (.tm U) (.tm U)) U ?_;refine Ab ?_;refine Cl ?_;refine Cl ?_;refine Ac (R_le U (by exact .yes1 U U U U) U (.tmp U (by exact id)) (.tmp U (by exact id))) U ?_;refine Cb ?_;refine Ag ?_;refine Aa (Ai (Bb U U ?_))
 rfl
theorem specl1In (n a b:Int):FnT Tryz.prog 58 [.one (.v (.int .i64 n)),.one (.v (.int .i64 a)),.one (.v (.int .i64 b))] (.a (.one (.v (.bool (inB n a b))))):=by
 refine A6 Tryz.func58 U (by kernel_rfl) Tryz.ntmps58 U fun hlen w0=>?_
 try simp [cPair,cToken,cExpr,cEdge,cGraph,cStep,cWalk,cChange,cBatch,cHistory,cPositions,cAutomaton,cProductStep,cPathAtom,cConjunction,cView,cDelta,cRegistered,cRegistry] at hlen
 refine Af (AWl.ac ?_);refine Aa (Af (Ab ?_));refine Ab ?_;refine Ac (R_ge U (.no U) U (.tm U) (.tm U)) U ?_;refine Ab ?_;refine Cl ?_;refine Cl ?_;refine Ac (R_le U (by exact .yes1 U U U U) U (.tmp U (by exact id)) (.tmp U (by exact id))) U ?_;refine Cb ?_;refine Ag ?_;refine Aa (Ai (Bb U U ?_))
 rfl
theorem implisLetter (n:Int):FnT Tryz.prog 138 [.one (.v (.int .i64 n))] (.a (.one (.v (.bool (inB n 0 8))))):=by
 refine A6 Tryz.func138 U (by kernel_rfl) Tryz.ntmps138 U fun hlen w0=>?_
 try simp [cPair,cToken,cExpr,cEdge,cGraph,cStep,cWalk,cChange,cBatch,cHistory,cPositions,cAutomaton,cProductStep,cPathAtom,cConjunction,cView,cDelta,cRegistered,cRegistry] at hlen
 refine Af (AWl.ac ?_);refine Aa (Af (Ab ?_));refine Bu (implwithin _ _ _) ?_;refine Ag ?_;refine Aa (Ai (Bb U U ?_))
 rfl
theorem specl2Letter (n:Int):FnT Tryz.prog 146 [.one (.v (.int .i64 n))] (.a (.one (.v (.bool (inB n 0 8))))):=by
 refine A6 Tryz.func146 U (by kernel_rfl) Tryz.ntmps146 U fun hlen w0=>?_
 try simp [cPair,cToken,cExpr,cEdge,cGraph,cStep,cWalk,cChange,cBatch,cHistory,cPositions,cAutomaton,cProductStep,cPathAtom,cConjunction,cView,cDelta,cRegistered,cRegistry] at hlen
 refine Af (AWl.ac ?_);refine Aa (Af (Ab ?_));refine Bu (specl1In _ _ _) ?_;refine Ag ?_;refine Aa (Ai (Bb U U ?_))
 rfl
end Go.Proofs.YtdhojcaoljhbiaaGreat
namespace Go.Proofs.YtdhojcaoljhbiaaGreat
open Go.RowKit Go.Q Go.D
theorem specEqualExprs (a b:TExpr):FnT Tryz.prog 40 [.agg (cExpr a),.agg (cExpr b)] (.a (.one (.v (.bool (decide (a=b)))))):=by
 refine A6 Tryz.func40 U (by kernel_rfl) Tryz.ntmps40 U fun hlen w0=>?_
 try simp [cPair,cToken,cExpr,cEdge,cGraph,cStep,cWalk,cChange,cBatch,cHistory,cPositions,cAutomaton,cProductStep,cPathAtom,cConjunction,cView,cDelta,cRegistered,cRegistry] at hlen
 refine Af (Ac (Bo U U U (.tm U) (ts:=_) (by rfl)) U ?_);refine Ac (Bo U U U (.tm U) (ts:=_) (by rfl)) U ?_;refine AWl.ac ?_;refine Aa (Ae (Af (A8 Be ?_)));refine Ak Cd ?_;refine Br (.t) Tryz.underlying24 ?_;refine A8 Be ?_;refine Ak Cd ?_;refine Br (.t) Tryz.underlying24 ?_;refine Ac (R_ne U (.no U) U (.tm U) (.tm U)) U ?_;refine Aa (Ah (.tm U) (fun h12=>?_) (fun h12=>?_))
 · try simp at h12
   refine Ae (Al (Ap [0,1,2,3,4] []) ?_);refine Ad (AWl.ac ?_);refine Aa (Ai (Bb U U ?_))
   congr 1;symm;exact decide_eq_false fun e=>by subst e;simp at h12
 try simp at h12
 refine AW.skip (Ae (Ae (Al (Ap [0,1,2,3,4] []) ?_)));refine Ad (AWl.ac ?_);refine Aa (AW.block (Dl (β:=Nat) (fun x=>x≤a.Tokens.length∧∀ i,i<x→a.Tokens[i]?=b.Tokens[i]?) (fun x=>⟨_,[(5,(true,.a (.one (.t (.v (.int .i64 x)))))),(2,_),(3,_)],[]⟩) (fun x=>a.Tokens.length-x) (0) ⟨Nat.zero_le _,by simp⟩ (Az U ⟨U,U,U,Y⟩ trivial) ?_));intro k hk
 obtain⟨hk,he⟩:=hk
 refine Ae (Af (Ab ?_));refine A8 Be ?_;refine Ak Cd ?_;refine Br (.t) Tryz.underlying24 ?_;refine AWl.lt ?_;refine Aa (Ah (.tm U) (fun h17=>?_) (fun h17=>?_))
 · try simp at h17
   obtain⟨x,hx⟩:∃ x,a.Tokens[k]?=some x:=⟨_,List.getElem?_eq_getElem h17⟩
   obtain⟨y,hy⟩:∃ y,b.Tokens[k]?=some y:=⟨_,List.getElem?_eq_getElem (by omega)⟩
   refine AW.skip (Ae (AW.block (Ae (Cc 11 (nthB [[],[0],[],[0,1,2],[0,1,2,3],[],[5],[],[5,6,7],[5,6,7,8],[0,1,2,3,4,5,6,7,8,9]]) (by kernel_rfl) (by kernel_rfl) (by kernel_rfl) ?_))));refine Ck Be ?_;refine Bp Cd ?_;refine Av ?_;refine DrawC.s (fun _ hs=>(by exact An U (.no U) (Aj hs U) (hs.tm U) (hs.tm U) Tryz.underlying24 Bv (fun _=>⟨by omega,(by exact Am (by assumption))⟩))) ?_;refine Bp Bv ?_;refine Ck Be ?_;refine Bp Cd ?_;refine Av ?_;refine DrawC.s (fun _ hs=>(by exact An U (.no U) (Aj hs U) (hs.tm U) (hs.tm U) Tryz.underlying24 Bv (fun _=>⟨by omega,(by exact Am (by assumption))⟩))) ?_;refine Bp Bv ?_;refine DrawC.s (fun _ hs=>R_eqs U (.no U) (Aj hs U) (hs.tm U) (hs.tm U) U U (by kernel_rfl) (neS71 _ _ _ _ _ _ _ _)) ?_;refine DrawC.fin U U ?_;refine Aa (Ah (.tm U) (fun h30=>?_) (fun h30=>?_))
   · try simp at h30
     refine Ae (Al (Ap [2,3,5] []) ?_);refine Ad (AWl.ac ?_);refine Aa (Ai (Bb U U ?_))
     congr 1;symm;exact decide_eq_false fun e=>by subst e;rw [hx] at hy;cases hy;simp at h30
   try simp at h30
   have hxy:x=y:=TToken.ext_iff'.2 (by simpa [and_assoc] using h30)
   refine AW.skip (Al (Ap [2,3,5] []) ?_);refine Ad (Ab ?_);refine Bk ?_;refine Ag ?_;refine Aa ?_;refine Round.next (k+1) ⟨by omega,fun i hi=>by rcases Nat.lt_or_eq_of_le (Nat.le_of_lt_succ hi) with h|rfl;exact he i h;rw [hx,hy,hxy]⟩ (by omega) (Az rfl ⟨rfl,rfl,rfl,Y⟩ trivial)
 try simp at h17
 refine Bz (Af (AWl.ac ?_));refine Aa (Ai (Bb U U ?_))
 congr 1;symm;exact decide_eq_true (TExpr.ext_iff'.2 (eq_of_getElem? (by omega) fun i hi=>he i (by omega)))
theorem implEqualExprs (a b:TExpr):FnT Tryz.prog 9 [.agg (cExpr a),.agg (cExpr b)] (.a (.one (.v (.bool (decide (a=b)))))):=by
 refine A6 Tryz.func9 U (by kernel_rfl) Tryz.ntmps9 U fun hlen w0=>?_
 try simp [cPair,cToken,cExpr,cEdge,cGraph,cStep,cWalk,cChange,cBatch,cHistory,cPositions,cAutomaton,cProductStep,cPathAtom,cConjunction,cView,cDelta,cRegistered,cRegistry] at hlen
 refine Af (Ac (Bo U U U (.tm U) (ts:=_) (by rfl)) U ?_);refine Ac (Bo U U U (.tm U) (ts:=_) (by rfl)) U ?_;refine AWl.ac ?_;refine Aa (Af (A8 Be ?_));refine Ak Cd ?_;refine A8 Be ?_;refine Ak Cd ?_;refine Bu (slicesEqualToken _ _) ?_;refine Ag ?_;refine Aa (Ai (Bb U U ?_))
 congr 1;simp [TExpr.ext_iff']
end Go.Proofs.YtdhojcaoljhbiaaGreat
