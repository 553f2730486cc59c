import Derived.Test.YtdhojcaoljhbiaaGreatDoorAbsRxk
import Derived.Test.YtdhojcaoljhbiaaGreatDoorProg
import Derived.Deep.Slices
import Derived.Test.YtdhojcaoljhbiaaGreatDoorAbsJxk
import Derived.Shelf.SlSortCmp.NoneTotal
import Derived.Shelf.Abstract
import Derived.Ground.SlsfProg
set_option linter.unusedVariables false
set_option linter.unusedSimpArgs false
set_option maxRecDepth 100000
namespace Go.D
open Go.Q
def cInt (x:Int):List T:=[.v (.int .i64 x)]
def cBool (x:Bool):List T:=[.v (.bool x)]
def cIntS (x:List Int):List T:=[.sl 1 (x.map cInt)]
structure TPair where
 From:Int
 To:Int
 deriving DecidableEq
def cPair (x:TPair):List T:=[.v (.int .i64 x.From),.v (.int .i64 x.To)]
def cPairS (x:List TPair):List T:=[.sl 2 (x.map cPair)]
theorem TPair.ext_iff' {x y:TPair}:x=y↔x.From=y.From∧x.To=y.To:=by
 cases x;cases y;simp
structure TToken where
 Kind:Int
 Letter:Int
 Low:Int
 High:Int
 deriving DecidableEq
def cToken (x:TToken):List T:=[.v (.int .i64 x.Kind),.v (.int .i64 x.Letter),.v (.int .i64 x.Low),.v (.int .i64 x.High)]
theorem TToken.ext_iff' {x y:TToken}:x=y↔x.Kind=y.Kind∧x.Letter=y.Letter∧x.Low=y.Low∧x.High=y.High:=by
 cases x;cases y;simp
structure TExpr where
 Tokens:(List TToken)
 deriving DecidableEq
def cExpr (x:TExpr):List T:=[.sl 4 (x.Tokens.map cToken)]
theorem TExpr.ext_iff' {x y:TExpr}:x=y↔x.Tokens=y.Tokens:=by
 cases x;cases y;simp
structure TEdge where
 ID:Int
 From:Int
 To:Int
 Label:Int
 deriving DecidableEq
def cEdge (x:TEdge):List T:=[.v (.int .i64 x.ID),.v (.int .i64 x.From),.v (.int .i64 x.To),.v (.int .i64 x.Label)]
theorem TEdge.ext_iff' {x y:TEdge}:x=y↔x.ID=y.ID∧x.From=y.From∧x.To=y.To∧x.Label=y.Label:=by
 cases x;cases y;simp
structure TGraph where
 Values:(List Int)
 Edges:(List TEdge)
 deriving DecidableEq
def cGraph (x:TGraph):List T:=[.sl 1 (x.Values.map cInt),.sl 4 (x.Edges.map cEdge)]
theorem TGraph.ext_iff' {x y:TGraph}:x=y↔x.Values=y.Values∧x.Edges=y.Edges:=by
 cases x;cases y;simp
structure TStep where
 Edge:Int
 Inverse:Bool
 deriving DecidableEq
def cStep (x:TStep):List T:=[.v (.int .i64 x.Edge),.v (.bool x.Inverse)]
theorem TStep.ext_iff' {x y:TStep}:x=y↔x.Edge=y.Edge∧x.Inverse=y.Inverse:=by
 cases x;cases y;simp
structure TWalk where
 Start:Int
 Steps:(List TStep)
 deriving DecidableEq
def cWalk (x:TWalk):List T:=[.v (.int .i64 x.Start),.sl 2 (x.Steps.map cStep)]
theorem TWalk.ext_iff' {x y:TWalk}:x=y↔x.Start=y.Start∧x.Steps=y.Steps:=by
 cases x;cases y;simp
structure TChange where
 Insert:Bool
 Edge:TEdge
 deriving DecidableEq
def cChange (x:TChange):List T:=[.v (.bool x.Insert),.v (.int .i64 x.Edge.ID),.v (.int .i64 x.Edge.From),.v (.int .i64 x.Edge.To),.v (.int .i64 x.Edge.Label)]
theorem TChange.ext_iff' {x y:TChange}:x=y↔x.Insert=y.Insert∧x.Edge=y.Edge:=by
 cases x;cases y;simp
structure TBatch where
 Changes:(List TChange)
 deriving DecidableEq
def cBatch (x:TBatch):List T:=[.sl 5 (x.Changes.map cChange)]
theorem TBatch.ext_iff' {x y:TBatch}:x=y↔x.Changes=y.Changes:=by
 cases x;cases y;simp
structure THistory where
 First:Int
 Graphs:(List TGraph)
 deriving DecidableEq
def cHistory (x:THistory):List T:=[.v (.int .i64 x.First),.sl 2 (x.Graphs.map cGraph)]
theorem THistory.ext_iff' {x y:THistory}:x=y↔x.First=y.First∧x.Graphs=y.Graphs:=by
 cases x;cases y;simp
structure TPositions where
 Letters:(List Int)
 First:Int
 Last:Int
 Follow:(List Int)
 Nullable:Bool
 deriving DecidableEq
def cPositions (x:TPositions):List T:=[.sl 1 (x.Letters.map cInt),.v (.int .i64 x.First),.v (.int .i64 x.Last),.sl 1 (x.Follow.map cInt),.v (.bool x.Nullable)]
theorem TPositions.ext_iff' {x y:TPositions}:x=y↔x.Letters=y.Letters∧x.First=y.First∧x.Last=y.Last∧x.Follow=y.Follow∧x.Nullable=y.Nullable:=by
 cases x;cases y;simp
structure TAutomaton where
 Start:Int
 Accept:(List Bool)
 Next:(List (List Int))
 deriving DecidableEq
def cAutomaton (x:TAutomaton):List T:=[.v (.int .i64 x.Start),.sl 1 (x.Accept.map cBool),.sl 1 (x.Next.map cIntS)]
theorem TAutomaton.ext_iff' {x y:TAutomaton}:x=y↔x.Start=y.Start∧x.Accept=y.Accept∧x.Next=y.Next:=by
 cases x;cases y;simp
structure TProductStep where
 Step:TStep
 Node:Int
 State:Int
 deriving DecidableEq
def cProductStep (x:TProductStep):List T:=[.v (.int .i64 x.Step.Edge),.v (.bool x.Step.Inverse),.v (.int .i64 x.Node),.v (.int .i64 x.State)]
theorem TProductStep.ext_iff' {x y:TProductStep}:x=y↔x.Step=y.Step∧x.Node=y.Node∧x.State=y.State:=by
 cases x;cases y;simp
structure TPathAtom where
 From:Int
 To:Int
 Expr:TExpr
 deriving DecidableEq
def cPathAtom (x:TPathAtom):List T:=[.v (.int .i64 x.From),.v (.int .i64 x.To),.sl 4 (x.Expr.Tokens.map cToken)]
theorem TPathAtom.ext_iff' {x y:TPathAtom}:x=y↔x.From=y.From∧x.To=y.To∧x.Expr=y.Expr:=by
 cases x;cases y;simp
structure TConjunction where
 VariableCount:Int
 Atoms:(List TPathAtom)
 deriving DecidableEq
def cConjunction (x:TConjunction):List T:=[.v (.int .i64 x.VariableCount),.sl 3 (x.Atoms.map cPathAtom)]
theorem TConjunction.ext_iff' {x y:TConjunction}:x=y↔x.VariableCount=y.VariableCount∧x.Atoms=y.Atoms:=by
 cases x;cases y;simp
structure TView where
 Automaton:TAutomaton
 Source:Int
 Ranks:(List Int)
 Supports:(List Int)
 deriving DecidableEq
def cView (x:TView):List T:=[.v (.int .i64 x.Automaton.Start),.sl 1 (x.Automaton.Accept.map cBool),.sl 1 (x.Automaton.Next.map cIntS),.v (.int .i64 x.Source),.sl 1 (x.Ranks.map cInt),.sl 1 (x.Supports.map cInt)]
theorem TView.ext_iff' {x y:TView}:x=y↔x.Automaton=y.Automaton∧x.Source=y.Source∧x.Ranks=y.Ranks∧x.Supports=y.Supports:=by
 cases x;cases y;simp
structure TDelta where
 Added:(List TPair)
 Removed:(List TPair)
 deriving DecidableEq
def cDelta (x:TDelta):List T:=[.sl 2 (x.Added.map cPair),.sl 2 (x.Removed.map cPair)]
theorem TDelta.ext_iff' {x y:TDelta}:x=y↔x.Added=y.Added∧x.Removed=y.Removed:=by
 cases x;cases y;simp
structure TRegistered where
 ID:Int
 Expr:TExpr
 Shared:Int
 deriving DecidableEq
def cRegistered (x:TRegistered):List T:=[.v (.int .i64 x.ID),.sl 4 (x.Expr.Tokens.map cToken),.v (.int .i64 x.Shared)]
theorem TRegistered.ext_iff' {x y:TRegistered}:x=y↔x.ID=y.ID∧x.Expr=y.Expr∧x.Shared=y.Shared:=by
 cases x;cases y;simp
structure TRegistry where
 Automata:(List TAutomaton)
 Queries:(List TRegistered)
 deriving DecidableEq
def cRegistry (x:TRegistry):List T:=[.sl 3 (x.Automata.map cAutomaton),.sl 3 (x.Queries.map cRegistered)]
theorem TRegistry.ext_iff' {x y:TRegistry}:x=y↔x.Automata=y.Automata∧x.Queries=y.Queries:=by
 cases x;cases y;simp
end Go.D
namespace Go.Q
def inB (x a b:Int):Bool:=decide (a≤x)&&decide (x≤b)
theorem eq_of_getElem? {α:Type} {l r:List α} (hl:l.length=r.length) (h:∀ i:Nat,i<l.length→l[i]?=r[i]?):l=r:=List.ext_getElem? fun i=>by
 rcases Nat.lt_or_ge i l.length with hi|hi
 · exact h i hi
 rw [List.getElem?_eq_none hi,List.getElem?_eq_none (by omega)]
theorem each_succ {α:Type} {p:α→Bool} {l:List α} {k:Nat} {x:α} (h:∀ j y,j<k→l[j]?=some y→p y=true) (hx:l[k]?=some x) (hp:p x=true):∀ j y,j<k+1→l[j]?=some y→p y=true:=fun j y hj hy=>by
 rcases Nat.lt_or_eq_of_le (Nat.le_of_lt_succ hj) with h1|rfl
 · exact h j y h1 hy
 rw [hx] at hy;cases hy;exact hp
theorem each_all {α:Type} {p:α→Bool} {l:List α} {k:Nat} (h:∀ j y,j<k→l[j]?=some y→p y=true) (hk:l.length≤k):l.all p=true:=by
 rw [List.all_eq_true]
 intro x hx
 obtain⟨j,hj,rfl⟩:=List.getElem_of_mem hx
 exact h j _ (by omega) (List.getElem?_eq_getElem hj)
theorem not_all {α:Type} {p:α→Bool} {l:List α} {k:Nat} {x:α} (hx:l[k]?=some x) (hp:p x=false):l.all p=false:=by
 rw [List.all_eq_false]
 exact⟨x,List.mem_of_getElem? hx,by rw [hp];simp⟩
def findI {α:Type} (p:α→Bool):List α→Nat→Int
 | [],_=> -1
 | x::r,k=>if p x then (k:Int) else findI p r (k+1)
theorem findI_at {α:Type} {p:α→Bool}:∀ {l:List α} {m k:Nat} {x:α},(∀ j y,j<k→l[j]?=some y→(!p y)=true)→l[k]?=some x→p x=true→findI p l m=((m+k:Nat):Int)
 | [],_,_,_,_,h,_=>by simp at h
 | y::l,m,0,x,_,h,hp=>by simp at h;subst h;simp [findI,hp]
 | y::l,m,k+1,x,hn,h,hp=>by
  have h0:=hn 0 y (by omega) rfl
  have h0':p y=false:=by simpa using h0
  rw [findI,h0',if_neg (by simp),findI_at (k:=k) (fun j z hj hz=>hn (j+1) z (by omega) (by simpa using hz)) (by simpa using h) hp]
  omega
theorem findI_none {α:Type} {p:α→Bool}:∀ {l:List α} {m k:Nat},(∀ j y,j<k→l[j]?=some y→(!p y)=true)→l.length≤k→findI p l m=-1
 | [],_,_,_,_=>rfl
 | y::l,m,0,_,h=>by simp at h
 | y::l,m,k+1,hn,h=>by
  have h0:=hn 0 y (by omega) rfl
  have h0':p y=false:=by simpa using h0
  rw [findI,h0',if_neg (by simp)]
  exact findI_none (k:=k) (fun j z hj hz=>hn (j+1) z (by omega) (by simpa using hz)) (by simpa using h)
theorem findI_lt {α:Type} {p:α→Bool}:∀ {l:List α} {m:Nat},findI p l m=-1∨∃ k x,l[k]?=some x∧p x=true∧findI p l m=((m+k:Nat):Int)
 | [],_=>.inl rfl
 | y::l,m=>by
  rw [findI]
  split
  · exact .inr ⟨0,y,rfl,by assumption,rfl⟩
  rcases findI_lt (p:=p) (l:=l) (m:=m+1) with h|⟨k,x,h1,h2,h3⟩
  · exact .inl h
  exact .inr ⟨k+1,x,by simpa using h1,h2,by rw [h3];omega⟩
theorem getD_at {α:Type} {d:α} {l:List α} {k:Nat} (h:k<l.length):l[k]?=some (l[k]?.getD d):=by rw [List.getElem?_eq_getElem h];rfl
section
open Go.RowKit
variable {P:Program} {ops:Array Oper} {o:Oper} {σ:St} {q:Bool}
theorem C4 {α:Type} {f:α→List T} {l:List α} {x:Operand} {t:TypeId} {A0:A} {k:Nat} (ho:o.op=.call { callee:=.builtin .len,args:=#[x],argTypes:=#[t] }) (hg:Grd ops o σ q) (hd:o.dst.all (fun d=>Nat.blt d σ.n)=true)
 (hx:Get σ q x A0) (hs:Sq σ A0 k (l.map f)) {e:TypeId} (hu:P.underlying t=some (.slice e)):Op1 P ops o σ (σ.put o.dst (q,.a (.one (.t (.v (.int .i64 l.length)))))):=by
 have:=R_len ho hg hd hx hs hu
 rwa [List.length_map] at this
variable {w0:Base} {Q:Exit→St→Prop} {n:Nat} {sl:List (Nat×(Bool×S))} {rs:List (Nat×R)} {ls:List Oper}
theorem Aq {d i:Nat} {t:TypeId} {cs:List T} {ag:Bool} {m:Nat} (ht:tyB P t ag m=true) (h:AWl P w0 ops Q ls ⟨n,(d,(true,.a (mkA ag ((cs.take m).map .t))))::sl,rs⟩) (ho:o.op=.load t (.tmp i):=by exact rfl) (hx:look sl i=some (true,.a (.one (.t (.ad cs)))):=by exact rfl) (hn:Nat.ble m cs.length=true:=by exact rfl) (h1:(ag||Nat.beq m 1)=true:=by exact rfl) (hg:o.guard=none:=by exact rfl) (hd:o.dst.all (fun d=>Nat.blt d n)=true:=by exact rfl) (he:o.dst=some d:=by exact rfl):AWl P w0 ops Q (o::ls) ⟨n,sl,rs⟩:=Ag (Bw ho (.no hg) hd (.tm hx) ht hn h1) he h
theorem Bl {P:Program} {w0:Base} {Q:Exit→St→Prop} {ops:Array Oper} {o:Oper} {l:List Oper} {n:Nat} {sl:List (Nat×(Bool×S))} {rs:List (Nat×R)} {d:Nat} {f:FuncId} {xs:List Operand} {tys:Array TypeId} {ins:List V0} {out:V} (hf:FnT P f ins out) (h:AWl P w0 ops Q l ⟨n,(d,(true,inS out))::sl,rs⟩) (ho:o.op=.call { callee:=.value (.func f),args:=xs.toArray,argTypes:=tys }:=by exact rfl) (hg:o.guard=none:=by exact rfl) (hd:o.dst.all (fun d=>Nat.blt d n)=true:=by exact rfl) (ha:Args ⟨n,sl,rs⟩ true xs ins:=by repeat first|exact .nil|refine .cons (.tm rfl) rfl ?_|refine .cons (.const rfl) rfl ?_) (he:o.dst=some d:=by exact rfl):AWl P w0 ops Q (o::l) ⟨n,sl,rs⟩:=Ag (A3 hf.fr ho (.no hg) hd ha) he h
theorem Cp {P:Program} {w0:Base} {Q:Exit→St→Prop} {ops:Array Oper} {o:Oper} {l:List Oper} {n:Nat} {sl:List (Nat×(Bool×S))} {rs:List (Nat×R)} {d i:Nat} {j g:Nat} {b:Bool} {x:A}  (h:AWl P w0 ops Q l ⟨n,(d,(b,.a (x)))::sl,rs⟩) (ho:o.op=.move (.tmp i):=by exact rfl) (hg:o.guard=some (j,true):=by exact rfl) (hj:(ops[j]?).bind (·.dst)=some g:=by exact rfl) (hb:look sl g=some (true,.a (.one (.t (.v (.bool b))))):=by exact rfl) (hgn:Nat.blt g n=true:=by exact rfl) (hx:look sl i=some (true,.a x):=by exact rfl) (hd:o.dst.all (fun d=>Nat.blt d n)=true:=by exact rfl) (he:o.dst=some d:=by exact rfl):AWl P w0 ops Q (o::l) ⟨n,sl,rs⟩:=Ag (Az ho (.yes1 hg hj hb hgn) hd (.tmp hx fun _=>rfl)) he h
theorem Dm {P:Program} {w0:Base} {Q:Exit→St→Prop} {ops:Array Oper} {o:Oper} {l:List Oper} {n:Nat} {sl:List (Nat×(Bool×S))} {rs:List (Nat×R)} {d i:Nat} {j g:Nat} {b:Bool} {t:TypeId} {cs:List T} {ag:Bool} {m:Nat} (ht:tyB P t ag m=true) (h:AWl P w0 ops Q l ⟨n,(d,(b,.a (mkA ag ((cs.take m).map .t))))::sl,rs⟩) (ho:o.op=.load t (.tmp i):=by exact rfl) (hg:o.guard=some (j,true):=by exact rfl) (hj:(ops[j]?).bind (·.dst)=some g:=by exact rfl) (hb:look sl g=some (true,.a (.one (.t (.v (.bool b))))):=by exact rfl) (hgn:Nat.blt g n=true:=by exact rfl) (hx:look sl i=some (b,.a (.one (.t (.ad cs)))):=by exact rfl) (hn:Nat.ble m cs.length=true:=by exact rfl) (h1:(ag||Nat.beq m 1)=true:=by exact rfl) (hd:o.dst.all (fun d=>Nat.blt d n)=true:=by exact rfl) (he:o.dst=some d:=by exact rfl):AWl P w0 ops Q (o::l) ⟨n,sl,rs⟩:=Ag (Bw ho (.yes1 hg hj hb hgn) hd (.tmp hx id) ht hn h1) he h
theorem Ds {P:Program} {w0:Base} {Q:Exit→St→Prop} {ops:Array Oper} {o:Oper} {l:List Oper} {n:Nat} {sl:List (Nat×(Bool×S))} {rs:List (Nat×R)} {d i:Nat} {j g:Nat} {b:Bool} {t:TypeId} {k off:Nat} {cs:List T} (hf:fldB P t k off=true) (h:AWl P w0 ops Q l ⟨n,(d,(b,.a (.one (.t (.ad (cs.drop off))))))::sl,rs⟩) (ho:o.op=.fieldAddr t (.tmp i) k:=by exact rfl) (hg:o.guard=some (j,true):=by exact rfl) (hj:(ops[j]?).bind (·.dst)=some g:=by exact rfl) (hb:look sl g=some (true,.a (.one (.t (.v (.bool b))))):=by exact rfl) (hgn:Nat.blt g n=true:=by exact rfl) (hx:look sl i=some (true,.a (.one (.t (.ad cs)))):=by exact rfl) (hd:o.dst.all (fun d=>Nat.blt d n)=true:=by exact rfl) (he:o.dst=some d:=by exact rfl):AWl P w0 ops Q (o::l) ⟨n,sl,rs⟩:=Ag (Cq ho (.yes1 hg hj hb hgn) hd (.tmp hx fun _=>rfl) hf) he h
theorem Dj {P:Program} {w0:Base} {Q:Exit→St→Prop} {ops:Array Oper} {o:Oper} {l:List Oper} {n:Nat} {sl:List (Nat×(Bool×S))} {rs:List (Nat×R)} {d i:Nat} {j g:Nat} {b:Bool} {x:A}  (h:AWl P w0 ops Q l ⟨n,(d,(!b,.a (x)))::sl,rs⟩) (ho:o.op=.move (.tmp i):=by exact rfl) (hg:o.guard=some (j,false):=by exact rfl) (hj:(ops[j]?).bind (·.dst)=some g:=by exact rfl) (hb:look sl g=some (true,.a (.one (.t (.v (.bool b))))):=by exact rfl) (hgn:Nat.blt g n=true:=by exact rfl) (hx:look sl i=some (true,.a x):=by exact rfl) (hd:o.dst.all (fun d=>Nat.blt d n)=true:=by exact rfl) (he:o.dst=some d:=by exact rfl):AWl P w0 ops Q (o::l) ⟨n,sl,rs⟩:=Ag (Az ho (.not1 hg hj hb hgn) hd (.tmp hx fun _=>rfl)) he h
theorem C8 {P:Program} {w0:Base} {Q:Exit→St→Prop} {ops:Array Oper} {o:Oper} {l:List Oper} {n:Nat} {sl:List (Nat×(Bool×S))} {rs:List (Nat×R)} {d i:Nat} {j g:Nat} {b:Bool} {t:TypeId} {cs:List T} {ag:Bool} {m:Nat} (ht:tyB P t ag m=true) (h:AWl P w0 ops Q l ⟨n,(d,(!b,.a (mkA ag ((cs.take m).map .t))))::sl,rs⟩) (ho:o.op=.load t (.tmp i):=by exact rfl) (hg:o.guard=some (j,false):=by exact rfl) (hj:(ops[j]?).bind (·.dst)=some g:=by exact rfl) (hb:look sl g=some (true,.a (.one (.t (.v (.bool b))))):=by exact rfl) (hgn:Nat.blt g n=true:=by exact rfl) (hx:look sl i=some (!b,.a (.one (.t (.ad cs)))):=by exact rfl) (hn:Nat.ble m cs.length=true:=by exact rfl) (h1:(ag||Nat.beq m 1)=true:=by exact rfl) (hd:o.dst.all (fun d=>Nat.blt d n)=true:=by exact rfl) (he:o.dst=some d:=by exact rfl):AWl P w0 ops Q (o::l) ⟨n,sl,rs⟩:=Ag (Bw ho (.not1 hg hj hb hgn) hd (.tmp hx id) ht hn h1) he h
theorem C9 {P:Program} {w0:Base} {Q:Exit→St→Prop} {ops:Array Oper} {o:Oper} {l:List Oper} {n:Nat} {sl:List (Nat×(Bool×S))} {rs:List (Nat×R)} {d i:Nat} {j g:Nat} {b:Bool} {t:TypeId} {k off:Nat} {cs:List T} (hf:fldB P t k off=true) (h:AWl P w0 ops Q l ⟨n,(d,(!b,.a (.one (.t (.ad (cs.drop off))))))::sl,rs⟩) (ho:o.op=.fieldAddr t (.tmp i) k:=by exact rfl) (hg:o.guard=some (j,false):=by exact rfl) (hj:(ops[j]?).bind (·.dst)=some g:=by exact rfl) (hb:look sl g=some (true,.a (.one (.t (.v (.bool b))))):=by exact rfl) (hgn:Nat.blt g n=true:=by exact rfl) (hx:look sl i=some (true,.a (.one (.t (.ad cs)))):=by exact rfl) (hd:o.dst.all (fun d=>Nat.blt d n)=true:=by exact rfl) (he:o.dst=some d:=by exact rfl):AWl P w0 ops Q (o::l) ⟨n,sl,rs⟩:=Ag (Cq ho (.not1 hg hj hb hgn) hd (.tmp hx fun _=>rfl) hf) he h
theorem Cm {P:Program} {w0:Base} {Q:Exit→St→Prop} {ops:Array Oper} {o:Oper} {l:List Oper} {n:Nat} {sl:List (Nat×(Bool×S))} {rs:List (Nat×R)} {d i:Nat} {j:Nat} {b b':Bool}  (h:AWl P w0 ops Q l ⟨n,(d,(true,.a (.one (.t (.v (.bool (b&&b')))))))::sl,rs⟩) (ho:o.op=.pick (.tmp i) (.tmp j) (.const (.bool false)):=by exact rfl) (hg:o.guard=none:=by exact rfl) (hx:look sl i=some (true,.a (.one (.t (.v (.bool b))))):=by exact rfl) (hy:look sl j=some (b,.a (.one (.t (.v (.bool b'))))):=by exact rfl) (hd:o.dst.all (fun d=>Nat.blt d n)=true:=by exact rfl) (he:o.dst=some d:=by exact rfl):AWl P w0 ops Q (o::l) ⟨n,sl,rs⟩:=Ag (R_and ho (.no hg) hd (.tm hx) (.tmp hy id)) he h
theorem Cf {P:Program} {w0:Base} {Q:Exit→St→Prop} {ops:Array Oper} {o:Oper} {l:List Oper} {n:Nat} {sl:List (Nat×(Bool×S))} {rs:List (Nat×R)} {d i:Nat} {j:Nat} {b b':Bool}  (h:AWl P w0 ops Q l ⟨n,(d,(true,.a (.one (.t (.v (.bool (b||b')))))))::sl,rs⟩) (ho:o.op=.pick (.tmp i) (.const (.bool true)) (.tmp j):=by exact rfl) (hg:o.guard=none:=by exact rfl) (hx:look sl i=some (true,.a (.one (.t (.v (.bool b))))):=by exact rfl) (hy:look sl j=some (!b,.a (.one (.t (.v (.bool b'))))):=by exact rfl) (hd:o.dst.all (fun d=>Nat.blt d n)=true:=by exact rfl) (he:o.dst=some d:=by exact rfl):AWl P w0 ops Q (o::l) ⟨n,sl,rs⟩:=Ag (R_or ho (.no hg) hd (.tm hx) (.tmp hy id)) he h
theorem C1 {P:Program} {w0:Base} {Q:Exit→St→Prop} {ops:Array Oper} {o:Oper} {l:List Oper} {n:Nat} {sl:List (Nat×(Bool×S))} {rs:List (Nat×R)} {d i:Nat} {t:TypeId} {b:Bool}  (h:AWl P w0 ops Q l ⟨n,(d,(true,.a (.one (.t (.v (.bool !b))))))::sl,rs⟩) (ho:o.op=.unOp .not t (.tmp i):=by exact rfl) (hg:o.guard=none:=by exact rfl) (hx:look sl i=some (true,.a (.one (.t (.v (.bool b))))):=by exact rfl) (hd:o.dst.all (fun d=>Nat.blt d n)=true:=by exact rfl) (he:o.dst=some d:=by exact rfl):AWl P w0 ops Q (o::l) ⟨n,sl,rs⟩:=Ag (Cy ho (.no hg) hd (.tm hx)) he h
theorem Br {P:Program} {w0:Base} {Q:Exit→St→Prop} {ops:Array Oper} {o:Oper} {l:List Oper} {n:Nat} {sl:List (Nat×(Bool×S))} {rs:List (Nat×R)} {d i:Nat} {t t':TypeId} {k:IntKind} {c m:Int}  (h:AWl P w0 ops Q l ⟨n,(d,(true,.a (.one (.t (.v (.bool (decide (c=m))))))))::sl,rs⟩) (ho:o.op=.binOp .eql t (.tmp i) (.const (.int k m)) t':=by exact rfl) (hg:o.guard=none:=by exact rfl) (hx:look sl i=some (true,.a (.one (.t (.v (.int k c))))):=by exact rfl) (hc:(Value.int k m).oneCell'=true:=by exact rfl) (hd:o.dst.all (fun d=>Nat.blt d n)=true:=by exact rfl) (he:o.dst=some d:=by exact rfl):AWl P w0 ops Q (o::l) ⟨n,sl,rs⟩:=Ag (R_eq ho (.no hg) hd (.tm hx) (.const hc)) he h
theorem AWl.nc {P:Program} {w0:Base} {Q:Exit→St→Prop} {ops:Array Oper} {o:Oper} {l:List Oper} {n:Nat} {sl:List (Nat×(Bool×S))} {rs:List (Nat×R)} {d i:Nat} {t t':TypeId} {k:IntKind} {c m:Int}  (h:AWl P w0 ops Q l ⟨n,(d,(true,.a (.one (.t (.v (.bool (!decide (c=m))))))))::sl,rs⟩) (ho:o.op=.binOp .neq t (.tmp i) (.const (.int k m)) t':=by exact rfl) (hg:o.guard=none:=by exact rfl) (hx:look sl i=some (true,.a (.one (.t (.v (.int k c))))):=by exact rfl) (hc:(Value.int k m).oneCell'=true:=by exact rfl) (hd:o.dst.all (fun d=>Nat.blt d n)=true:=by exact rfl) (he:o.dst=some d:=by exact rfl):AWl P w0 ops Q (o::l) ⟨n,sl,rs⟩:=Ag (R_ne ho (.no hg) hd (.tm hx) (.const hc)) he h
theorem AWl.lc {P:Program} {w0:Base} {Q:Exit→St→Prop} {ops:Array Oper} {o:Oper} {l:List Oper} {n:Nat} {sl:List (Nat×(Bool×S))} {rs:List (Nat×R)} {d i:Nat} {t t':TypeId} {k:IntKind} {c m:Int}  (h:AWl P w0 ops Q l ⟨n,(d,(true,.a (.one (.t (.v (.bool (decide (c<m))))))))::sl,rs⟩) (ho:o.op=.binOp .lss t (.tmp i) (.const (.int k m)) t':=by exact rfl) (hg:o.guard=none:=by exact rfl) (hx:look sl i=some (true,.a (.one (.t (.v (.int k c))))):=by exact rfl) (hc:(Value.int k m).oneCell'=true:=by exact rfl) (hd:o.dst.all (fun d=>Nat.blt d n)=true:=by exact rfl) (he:o.dst=some d:=by exact rfl):AWl P w0 ops Q (o::l) ⟨n,sl,rs⟩:=Ag (R_lt ho (.no hg) hd (.tm hx) (.const hc)) he h
theorem AWl.gc {P:Program} {w0:Base} {Q:Exit→St→Prop} {ops:Array Oper} {o:Oper} {l:List Oper} {n:Nat} {sl:List (Nat×(Bool×S))} {rs:List (Nat×R)} {d i:Nat} {t t':TypeId} {k:IntKind} {c m:Int}  (h:AWl P w0 ops Q l ⟨n,(d,(true,.a (.one (.t (.v (.bool (decide (m<c))))))))::sl,rs⟩) (ho:o.op=.binOp .gtr t (.tmp i) (.const (.int k m)) t':=by exact rfl) (hg:o.guard=none:=by exact rfl) (hx:look sl i=some (true,.a (.one (.t (.v (.int k c))))):=by exact rfl) (hc:(Value.int k m).oneCell'=true:=by exact rfl) (hd:o.dst.all (fun d=>Nat.blt d n)=true:=by exact rfl) (he:o.dst=some d:=by exact rfl):AWl P w0 ops Q (o::l) ⟨n,sl,rs⟩:=Ag (R_gt ho (.no hg) hd (.tm hx) (.const hc)) he h
theorem AWl.gd {P:Program} {w0:Base} {Q:Exit→St→Prop} {ops:Array Oper} {o:Oper} {l:List Oper} {n:Nat} {sl:List (Nat×(Bool×S))} {rs:List (Nat×R)} {d i:Nat} {t t':TypeId} {k:IntKind} {c m:Int}  (h:AWl P w0 ops Q l ⟨n,(d,(true,.a (.one (.t (.v (.bool (decide (m≤c))))))))::sl,rs⟩) (ho:o.op=.binOp .geq t (.tmp i) (.const (.int k m)) t':=by exact rfl) (hg:o.guard=none:=by exact rfl) (hx:look sl i=some (true,.a (.one (.t (.v (.int k c))))):=by exact rfl) (hc:(Value.int k m).oneCell'=true:=by exact rfl) (hd:o.dst.all (fun d=>Nat.blt d n)=true:=by exact rfl) (he:o.dst=some d:=by exact rfl):AWl P w0 ops Q (o::l) ⟨n,sl,rs⟩:=Ag (R_ge ho (.no hg) hd (.tm hx) (.const hc)) he h
theorem C6 {P:Program} {w0:Base} {Q:Exit→St→Prop} {ops:Array Oper} {o:Oper} {l:List Oper} {n:Nat} {sl:List (Nat×(Bool×S))} {rs:List (Nat×R)} {d i:Nat} {t t':TypeId} {c m:Int}  (h:AWl P w0 ops Q l ⟨n,(d,(true,.a (.one (.t (.v (.int .i64 (c-m)))))))::sl,rs⟩) (ho:o.op=.binOp .sub t (.tmp i) (.const (.int .i64 m)) t':=by exact rfl) (hg:o.guard=none:=by exact rfl) (hx:look sl i=some (true,.a (.one (.t (.v (.int .i64 c))))):=by exact rfl) (hb:-9223372036854775808≤c-m∧c-m≤9223372036854775807:=by omega) (hd:o.dst.all (fun d=>Nat.blt d n)=true:=by exact rfl) (he:o.dst=some d:=by exact rfl):AWl P w0 ops Q (o::l) ⟨n,sl,rs⟩:=Ag (Dy ho (.no hg) hd (.tm hx) (.const rfl) fun _=>hb) he h
theorem Bp {d i:Nat} {id p:Nat} {t:TypeId} {cs:List E} {ag:Bool} {m:Nat} (ht:tyB P t ag m=true) (h:AWl P w0 ops Q ls ⟨n,(d,(true,.a (mkA ag ((cs.drop p).take m))))::sl,rs⟩) (ho:o.op=.load t (.tmp i):=by exact rfl) (hx:look sl i=some (true,.a (.one (.pp id p))):=by exact rfl) (hs:look rs id=some (.box cs):=by exact rfl) (hn:Nat.ble (p+m) cs.length=true:=by exact rfl) (h1:(ag||Nat.beq m 1)=true:=by exact rfl) (hg:o.guard=none:=by exact rfl) (hd:o.dst.all (fun d=>Nat.blt d n)=true:=by exact rfl) (he:o.dst=some d:=by exact rfl):AWl P w0 ops Q (o::ls) ⟨n,sl,rs⟩:=Ag (Ax ho (.no hg) hd (.tm hx) hs ht hn h1) he h
theorem A7 {d i:Nat} {t:TypeId} {j off:Nat} {cs:List T} (hf:fldB P t j off=true) (h:AWl P w0 ops Q ls ⟨n,(d,(true,.a (.one (.t (.ad (cs.drop off))))))::sl,rs⟩) (ho:o.op=.fieldAddr t (.tmp i) j:=by exact rfl) (hx:look sl i=some (true,.a (.one (.t (.ad cs)))):=by exact rfl) (hg:o.guard=none:=by exact rfl) (hd:o.dst.all (fun d=>Nat.blt d n)=true:=by exact rfl) (he:o.dst=some d:=by exact rfl):AWl P w0 ops Q (o::ls) ⟨n,sl,rs⟩:=Ag (Cq ho (.no hg) hd (.tm hx) hf) he h
theorem B6 {d i:Nat} {id p:Nat} {t:TypeId} {j off:Nat} (hf:fldB P t j off=true) (h:AWl P w0 ops Q ls ⟨n,(d,(true,.a (.one (.pp id (p+off)))))::sl,rs⟩) (ho:o.op=.fieldAddr t (.tmp i) j:=by exact rfl) (hx:look sl i=some (true,.a (.one (.pp id p))):=by exact rfl) (hg:o.guard=none:=by exact rfl) (hd:o.dst.all (fun d=>Nat.blt d n)=true:=by exact rfl) (he:o.dst=some d:=by exact rfl):AWl P w0 ops Q (o::ls) ⟨n,sl,rs⟩:=Ag (Av ho (.no hg) hd (.tm hx) hf) he h
theorem A8 {d i:Nat} {t t':TypeId} {c m:Int}  (h:AWl P w0 ops Q ls ⟨n,(d,(true,.a (.one (.t (.v (.int .i64 (c+m)))))))::sl,rs⟩) (ho:o.op=.binOp .add t (.tmp i) (.const (.int .i64 m)) t':=by exact rfl) (hx:look sl i=some (true,.a (.one (.t (.v (.int .i64 c))))):=by exact rfl) (hb:-9223372036854775808≤c+m∧c+m≤9223372036854775807:=by omega) (hg:o.guard=none:=by exact rfl) (hd:o.dst.all (fun d=>Nat.blt d n)=true:=by exact rfl) (he:o.dst=some d:=by exact rfl):AWl P w0 ops Q (o::ls) ⟨n,sl,rs⟩:=Ag (R_add ho (.no hg) hd (.tm hx) (.const rfl) fun _=>hb) he h
theorem AWl.lt {d i:Nat} {j:Nat} {t t':TypeId} {k:IntKind} {c m:Int}  (h:AWl P w0 ops Q ls ⟨n,(d,(true,.a (.one (.t (.v (.bool (decide (c<m))))))))::sl,rs⟩) (ho:o.op=.binOp .lss t (.tmp i) (.tmp j) t':=by exact rfl) (hx:look sl i=some (true,.a (.one (.t (.v (.int k c))))):=by exact rfl) (hy:look sl j=some (true,.a (.one (.t (.v (.int k m))))):=by exact rfl) (hg:o.guard=none:=by exact rfl) (hd:o.dst.all (fun d=>Nat.blt d n)=true:=by exact rfl) (he:o.dst=some d:=by exact rfl):AWl P w0 ops Q (o::ls) ⟨n,sl,rs⟩:=Ag (R_lt ho (.no hg) hd (.tm hx) (.tm hy)) he h
theorem AWl.eq {d i:Nat} {j:Nat} {t t':TypeId} {k:IntKind} {c m:Int}  (h:AWl P w0 ops Q ls ⟨n,(d,(true,.a (.one (.t (.v (.bool (decide (c=m))))))))::sl,rs⟩) (ho:o.op=.binOp .eql t (.tmp i) (.tmp j) t':=by exact rfl) (hx:look sl i=some (true,.a (.one (.t (.v (.int k c))))):=by exact rfl) (hy:look sl j=some (true,.a (.one (.t (.v (.int k m))))):=by exact rfl) (hg:o.guard=none:=by exact rfl) (hd:o.dst.all (fun d=>Nat.blt d n)=true:=by exact rfl) (he:o.dst=some d:=by exact rfl):AWl P w0 ops Q (o::ls) ⟨n,sl,rs⟩:=Ag (R_eq ho (.no hg) hd (.tm hx) (.tm hy)) he h
theorem Bc {d i:Nat} {α:Type} {f:α→List T} {a:List α} {t:TypeId} {A0:A} {k:Nat} {e:TypeId} (hs:Sq ⟨n,sl,rs⟩ A0 k (a.map f)) (hu:P.underlying t=some (.slice e)) (h:AWl P w0 ops Q ls ⟨n,(d,(true,.a (.one (.t (.v (.int .i64 a.length))))))::sl,rs⟩) (ho:o.op=.call { callee:=.builtin .len,args:=#[.tmp i],argTypes:=#[t] }:=by exact rfl) (hx:look sl i=some (true,.a A0):=by exact rfl) (hg:o.guard=none:=by exact rfl) (hd:o.dst.all (fun d=>Nat.blt d n)=true:=by exact rfl) (he:o.dst=some d:=by exact rfl):AWl P w0 ops Q (o::ls) ⟨n,sl,rs⟩:=Ag (C4 ho (.no hg) hd (.tm hx) hs hu) he h
theorem A4 {id p i j:Nat} {t:TypeId} {cs:List E} {A0:A} {ag:Bool} {m:Nat} (ht:tyB P t ag m=true) (h:AWl P w0 ops Q ls ⟨n,sl,setR rs id (.box (setC cs p (cellsA A0)))⟩) (ho:o.op=.store t (.tmp i) (.tmp j):=by exact rfl) (hg:o.guard=none:=by exact rfl) (hdn:o.dst=none:=by exact rfl) (hx:look sl i=some (true,.a (.one (.pp id p))):=by exact rfl) (hy:look sl j=some (true,.a A0):=by exact rfl) (hs:look rs id=some (.box cs):=by exact rfl) (he:(cellsA A0).all E.cell1=true:=by exact rfl) (hl:Nat.beq (cellsA A0).length m=true:=by exact rfl) (hn:Nat.ble (p+m) cs.length=true:=by exact rfl) (hv1:nvB id sl rs=true:=by kernel_rfl) (hv2:(cellsA A0).all (E.nv id)=true:=by exact rfl):AWl P w0 ops Q (o::ls) ⟨n,sl,rs⟩:=AWl.chgb (R_store_pb (σ:=⟨n,sl,rs⟩) ho hg hdn (.tm hx) (.tm hy) hs ht he hl hn hv1 hv2) h
end
end Go.Q
namespace Go.Proofs.YtdhojcaoljhbiaaGreatDoor
open Go.RowKit Go.Q
theorem ty3:tyB Tryz.prog 3 false 1=true:=by kernel_rfl
theorem in3:inZ Tryz.prog 3=some (some (.int .i64 0),1,8):=by kernel_rfl
theorem ty4:tyB Tryz.prog 4 false 1=true:=by kernel_rfl
theorem in4:inZ Tryz.prog 4=some (some (.bool false),1,1):=by kernel_rfl
theorem in5:inZ Tryz.prog 5=some (some (.int .u8 0),1,1):=by kernel_rfl
theorem ty9:tyB Tryz.prog 9 false 1=true:=by kernel_rfl
theorem in9:inZ Tryz.prog 9=some (some (.string .empty),1,16):=by kernel_rfl
theorem Ca:tyB Tryz.prog 34 false 1=true:=by kernel_rfl
theorem in34:inZ Tryz.prog 34=some (some (.slice none 0 0),1,24):=by kernel_rfl
theorem ty35:tyB Tryz.prog 35 false 1=true:=by kernel_rfl
theorem Bz:tyB Tryz.prog 37 true 2=true:=by kernel_rfl
theorem in37:inZ Tryz.prog 37=some (some (.agg #[.slice none 0 0,.slice none 0 0]),2,48):=by kernel_rfl
theorem st37:stB Tryz.prog 37=true:=by kernel_rfl
theorem Cv:fldB Tryz.prog 37 0 0=true:=by kernel_rfl
theorem Dr:fldB Tryz.prog 37 1 1=true:=by kernel_rfl
theorem Dl:tyB Tryz.prog 38 false 1=true:=by kernel_rfl
theorem Cc:tyB Tryz.prog 40 true 2=true:=by kernel_rfl
theorem in40:inZ Tryz.prog 40=some (some (.agg #[.int .i64 0,.slice none 0 0]),2,32):=by kernel_rfl
theorem st40:stB Tryz.prog 40=true:=by kernel_rfl
theorem C7:fldB Tryz.prog 40 0 0=true:=by kernel_rfl
theorem fp40_0:(match Tryz.prog.underlying 40 with|some (.struct fs)=>(match fs[0]? with|some f=>Nat.beq f.offset 0&&(match Tryz.prog.info? f.type with|some i=>Nat.beq i.size 1|none=>false)|none=>false)|_=>false)=true:=by kernel_rfl
theorem Cl:fldB Tryz.prog 40 1 1=true:=by kernel_rfl
theorem ty83:tyB Tryz.prog 83 false 1=true:=by kernel_rfl
theorem in83:inZ Tryz.prog 83=some (some (.slice none 0 0),1,24):=by kernel_rfl
theorem ty89:tyB Tryz.prog 89 false 1=true:=by kernel_rfl
theorem in89:inZ Tryz.prog 89=some (some (.slice none 0 0),1,24):=by kernel_rfl
theorem Dq:tyB Tryz.prog 91 false 1=true:=by kernel_rfl
theorem Ci:tyB Tryz.prog 93 true 1=true:=by kernel_rfl
theorem in93:inZ Tryz.prog 93=some (some (.agg #[.slice none 0 0]),1,24):=by kernel_rfl
theorem st93:stB Tryz.prog 93=true:=by kernel_rfl
theorem Cr:fldB Tryz.prog 93 0 0=true:=by kernel_rfl
theorem fp93_0:(match Tryz.prog.underlying 93 with|some (.struct fs)=>(match fs[0]? with|some f=>Nat.beq f.offset 0&&(match Tryz.prog.info? f.type with|some i=>Nat.beq i.size 1|none=>false)|none=>false)|_=>false)=true:=by kernel_rfl
theorem ty95:tyB Tryz.prog 95 true 3=true:=by kernel_rfl
theorem in95:inZ Tryz.prog 95=some (some (.agg #[.int .i64 0,.int .i64 0,.slice none 0 0]),3,40):=by kernel_rfl
theorem st95:stB Tryz.prog 95=true:=by kernel_rfl
theorem fl95_0:fldB Tryz.prog 95 0 0=true:=by kernel_rfl
theorem fp95_0:(match Tryz.prog.underlying 95 with|some (.struct fs)=>(match fs[0]? with|some f=>Nat.beq f.offset 0&&(match Tryz.prog.info? f.type with|some i=>Nat.beq i.size 1|none=>false)|none=>false)|_=>false)=true:=by kernel_rfl
theorem fl95_1:fldB Tryz.prog 95 1 1=true:=by kernel_rfl
theorem fp95_1:(match Tryz.prog.underlying 95 with|some (.struct fs)=>(match fs[1]? with|some f=>Nat.beq f.offset 1&&(match Tryz.prog.info? f.type with|some i=>Nat.beq i.size 1|none=>false)|none=>false)|_=>false)=true:=by kernel_rfl
theorem fl95_2:fldB Tryz.prog 95 2 2=true:=by kernel_rfl
theorem fp95_2:(match Tryz.prog.underlying 95 with|some (.struct fs)=>(match fs[2]? with|some f=>Nat.beq f.offset 2&&(match Tryz.prog.info? f.type with|some i=>Nat.beq i.size 1|none=>false)|none=>false)|_=>false)=true:=by kernel_rfl
theorem Cj:tyB Tryz.prog 97 true 2=true:=by kernel_rfl
theorem Du:inZ Tryz.prog 97=some (some (.agg #[.int .i64 0,.int .i64 0]),2,16):=by kernel_rfl
theorem st97:stB Tryz.prog 97=true:=by kernel_rfl
theorem eqS97 (x0:Int) (x1:Int) (y0:Int) (y1:Int) (w:World):(binOp .eql 97 (.agg (List.toArray [.int .i64 x0,.int .i64 x1])) (.agg (List.toArray [.int .i64 y0,.int .i64 y1]))).run Tryz.prog w=.ok (.bool ((decide (x0=y0)&&decide (x1=y1)))) w:=by
 have hs:Tryz.prog.stoodInHeld 97=false:=by kernel_rfl
 simp [go_sem,hs,Tryz.underlying97]
 repeat' split
 all_goals simp [*]
theorem neS97 (x0:Int) (x1:Int) (y0:Int) (y1:Int) (w:World):(binOp .neq 97 (.agg (List.toArray [.int .i64 x0,.int .i64 x1])) (.agg (List.toArray [.int .i64 y0,.int .i64 y1]))).run Tryz.prog w=.ok (.bool (!(decide (x0=y0)&&decide (x1=y1)))) w:=by
 have hs:Tryz.prog.stoodInHeld 97=false:=by kernel_rfl
 simp [go_sem,hs,Tryz.underlying97]
 repeat' split
 all_goals simp [*]
theorem fl97_0:fldB Tryz.prog 97 0 0=true:=by kernel_rfl
theorem fp97_0:(match Tryz.prog.underlying 97 with|some (.struct fs)=>(match fs[0]? with|some f=>Nat.beq f.offset 0&&(match Tryz.prog.info? f.type with|some i=>Nat.beq i.size 1|none=>false)|none=>false)|_=>false)=true:=by kernel_rfl
theorem fl97_1:fldB Tryz.prog 97 1 1=true:=by kernel_rfl
theorem fp97_1:(match Tryz.prog.underlying 97 with|some (.struct fs)=>(match fs[1]? with|some f=>Nat.beq f.offset 1&&(match Tryz.prog.info? f.type with|some i=>Nat.beq i.size 1|none=>false)|none=>false)|_=>false)=true:=by kernel_rfl
theorem ty101:tyB Tryz.prog 101 true 4=true:=by kernel_rfl
theorem in101:inZ Tryz.prog 101=some (some (.agg #[.int .i64 0,.int .i64 0,.int .i64 0,.int .i64 0]),4,32):=by kernel_rfl
theorem st101:stB Tryz.prog 101=true:=by kernel_rfl
theorem fl101_0:fldB Tryz.prog 101 0 0=true:=by kernel_rfl
theorem fp101_0:(match Tryz.prog.underlying 101 with|some (.struct fs)=>(match fs[0]? with|some f=>Nat.beq f.offset 0&&(match Tryz.prog.info? f.type with|some i=>Nat.beq i.size 1|none=>false)|none=>false)|_=>false)=true:=by kernel_rfl
theorem fl101_1:fldB Tryz.prog 101 1 1=true:=by kernel_rfl
theorem fp101_1:(match Tryz.prog.underlying 101 with|some (.struct fs)=>(match fs[1]? with|some f=>Nat.beq f.offset 1&&(match Tryz.prog.info? f.type with|some i=>Nat.beq i.size 1|none=>false)|none=>false)|_=>false)=true:=by kernel_rfl
theorem fl101_2:fldB Tryz.prog 101 2 2=true:=by kernel_rfl
theorem fp101_2:(match Tryz.prog.underlying 101 with|some (.struct fs)=>(match fs[2]? with|some f=>Nat.beq f.offset 2&&(match Tryz.prog.info? f.type with|some i=>Nat.beq i.size 1|none=>false)|none=>false)|_=>false)=true:=by kernel_rfl
theorem fl101_3:fldB Tryz.prog 101 3 3=true:=by kernel_rfl
theorem fp101_3:(match Tryz.prog.underlying 101 with|some (.struct fs)=>(match fs[3]? with|some f=>Nat.beq f.offset 3&&(match Tryz.prog.info? f.type with|some i=>Nat.beq i.size 1|none=>false)|none=>false)|_=>false)=true:=by kernel_rfl
theorem Cg:tyB Tryz.prog 137 true 4=true:=by kernel_rfl
theorem Ck:inZ Tryz.prog 137=some (some (.agg #[.int .i64 0,.int .i64 0,.int .i64 0,.int .i64 0]),4,32):=by kernel_rfl
theorem De:stB Tryz.prog 137=true:=by kernel_rfl
theorem eqS137 (x0:Int) (x1:Int) (x2:Int) (x3:Int) (y0:Int) (y1:Int) (y2:Int) (y3:Int) (w:World):(binOp .eql 137 (.agg (List.toArray [.int .i64 x0,.int .i64 x1,.int .i64 x2,.int .i64 x3])) (.agg (List.toArray [.int .i64 y0,.int .i64 y1,.int .i64 y2,.int .i64 y3]))).run Tryz.prog w=.ok (.bool ((decide (x0=y0)&&decide (x1=y1)&&decide (x2=y2)&&decide (x3=y3)))) w:=by
 have hs:Tryz.prog.stoodInHeld 137=false:=by kernel_rfl
 simp [go_sem,hs,Tryz.underlying137]
 repeat' split
 all_goals simp [*]
theorem fl137_0:fldB Tryz.prog 137 0 0=true:=by kernel_rfl
theorem Cn:(match Tryz.prog.underlying 137 with|some (.struct fs)=>(match fs[0]? with|some f=>Nat.beq f.offset 0&&(match Tryz.prog.info? f.type with|some i=>Nat.beq i.size 1|none=>false)|none=>false)|_=>false)=true:=by kernel_rfl
theorem Dv:fldB Tryz.prog 137 1 1=true:=by kernel_rfl
theorem fp137_1:(match Tryz.prog.underlying 137 with|some (.struct fs)=>(match fs[1]? with|some f=>Nat.beq f.offset 1&&(match Tryz.prog.info? f.type with|some i=>Nat.beq i.size 1|none=>false)|none=>false)|_=>false)=true:=by kernel_rfl
theorem Dp:fldB Tryz.prog 137 2 2=true:=by kernel_rfl
theorem fp137_2:(match Tryz.prog.underlying 137 with|some (.struct fs)=>(match fs[2]? with|some f=>Nat.beq f.offset 2&&(match Tryz.prog.info? f.type with|some i=>Nat.beq i.size 1|none=>false)|none=>false)|_=>false)=true:=by kernel_rfl
theorem Df:fldB Tryz.prog 137 3 3=true:=by kernel_rfl
theorem fp137_3:(match Tryz.prog.underlying 137 with|some (.struct fs)=>(match fs[3]? with|some f=>Nat.beq f.offset 3&&(match Tryz.prog.info? f.type with|some i=>Nat.beq i.size 1|none=>false)|none=>false)|_=>false)=true:=by kernel_rfl
theorem ty175:tyB Tryz.prog 175 false 1=true:=by kernel_rfl
theorem ty207:tyB Tryz.prog 207 false 1=true:=by kernel_rfl
theorem fl211_0:fldB Tryz.prog 211 0 0=true:=by kernel_rfl
theorem fl211_1:fldB Tryz.prog 211 1 4=true:=by kernel_rfl
theorem ty247:tyB Tryz.prog 247 false 1=true:=by kernel_rfl
theorem in247:inZ Tryz.prog 247=some (some (.slice none 0 0),1,24):=by kernel_rfl
theorem in249:inZ Tryz.prog 249=some (some (.agg #[.int .i64 0,.bool false]),2,16):=by kernel_rfl
theorem st249:stB Tryz.prog 249=true:=by kernel_rfl
theorem fp249_0:(match Tryz.prog.underlying 249 with|some (.struct fs)=>(match fs[0]? with|some f=>Nat.beq f.offset 0&&(match Tryz.prog.info? f.type with|some i=>Nat.beq i.size 1|none=>false)|none=>false)|_=>false)=true:=by kernel_rfl
theorem fp249_1:(match Tryz.prog.underlying 249 with|some (.struct fs)=>(match fs[1]? with|some f=>Nat.beq f.offset 1&&(match Tryz.prog.info? f.type with|some i=>Nat.beq i.size 1|none=>false)|none=>false)|_=>false)=true:=by kernel_rfl
theorem ty251:tyB Tryz.prog 251 true 4=true:=by kernel_rfl
theorem in251:inZ Tryz.prog 251=some (some (.agg #[.int .i64 0,.bool false,.int .i64 0,.int .i64 0]),4,32):=by kernel_rfl
theorem st251:stB Tryz.prog 251=true:=by kernel_rfl
theorem fp251_0:(match Tryz.prog.underlying 251 with|some (.struct fs)=>(match fs[0]? with|some f=>Nat.beq f.offset 0&&(match Tryz.prog.info? f.type with|some i=>Nat.beq i.size 2|none=>false)|none=>false)|_=>false)=true:=by kernel_rfl
theorem fl251_1:fldB Tryz.prog 251 1 2=true:=by kernel_rfl
theorem fp251_1:(match Tryz.prog.underlying 251 with|some (.struct fs)=>(match fs[1]? with|some f=>Nat.beq f.offset 2&&(match Tryz.prog.info? f.type with|some i=>Nat.beq i.size 1|none=>false)|none=>false)|_=>false)=true:=by kernel_rfl
theorem fl251_2:fldB Tryz.prog 251 2 3=true:=by kernel_rfl
theorem fp251_2:(match Tryz.prog.underlying 251 with|some (.struct fs)=>(match fs[2]? with|some f=>Nat.beq f.offset 3&&(match Tryz.prog.info? f.type with|some i=>Nat.beq i.size 1|none=>false)|none=>false)|_=>false)=true:=by kernel_rfl
end Go.Proofs.YtdhojcaoljhbiaaGreatDoor
namespace Go.Proofs.YtdhojcaoljhbiaaGreatDoor
open Go.RowKit Go.Q Go.D
end Go.Proofs.YtdhojcaoljhbiaaGreatDoor
namespace Go.Q
open Go.RowKit Go.ChangeShapes Go.WideShapes Go.Deep Go.D
def OpensT {α:Type} (c:α→List T) (P:Program) (t:TypeId):Prop:=
 ∀ {H:Type} {enc:TypeId×Value→H} {w:World} {base:Nat} {spare:Nat→Bool} {held:Bool} {fuel:Nat} {cs:List Value} {x:DataW H×List MemPlace},
  DataW.trod enc P w base spare held fuel t cs=some x→∃ (a:α) (F:List Nat),Cs false w (c a) cs F
theorem Cs_one {o:Bool} {w:World} {t:T} {v:Value} {F:List Nat} (h:C o w t v F):Cs o w [t] [v] F:=by
 unfold Cs
 exact⟨v,[],F,[],rfl,h,by unfold Cs;exact⟨rfl,rfl⟩,by simp⟩
theorem Cs_one_inv {o:Bool} {w:World} {t:T} {v:Value} {F:List Nat} (h:Cs o w [t] [v] F):C o w t v F:=by
 simp only [Cs] at h
 obtain⟨c,cr,G1,G2,h1,h2,⟨rfl,rfl⟩,rfl⟩:=h
 cases h1
 simpa using h2
theorem rws_build {α:Type} {c:α→List T} {w:World} {b k:Nat} (hc:∀ a,(c a).length=k):∀ (l:List α) (css:List (List Value)) (Fs:List (List Nat)) (off:Nat),css.length=l.length→Fs.length=l.length→
 (∀ (i:Nat) (x:α) (cs:List Value) (f:List Nat),l[i]?=some x→css[i]?=some cs→Fs[i]?=some f→Cs false w (c x) cs f)→
 (∀ (i:Nat) (cs:List Value) (j:Nat) (u:Value),css[i]?=some cs→cs[j]?=some u→w.cell? ⟨b,off+i*k+j,none⟩=some u)→Rws false w b k off (l.map c) Fs.flatten
 | [],css,Fs,off,h1,h2,h3,h4=>by
  have:Fs=[]:=List.eq_nil_of_length_eq_zero (by simpa using h2)
  subst this
  simp only [List.map_nil,List.flatten_nil]
  unfold Rws
  rfl
 | a::l,css,Fs,off,h1,h2,h3,h4=>by
  match css,Fs,h1,h2 with
  | cs::css,f::Fs,h1,h2=>
   have ih:=rws_build hc l css Fs (off+k) (by simpa using h1) (by simpa using h2) (fun i x cs' f' hx hcs hf=>h3 (i+1) x cs' f' (by simpa using hx) (by simpa using hcs) (by simpa using hf)) (fun i cs' j u hcs hu=>by
    have:=h4 (i+1) cs' j u (by simpa using hcs) hu
    rwa [show off+(i+1)*k+j=off+k+i*k+j by rw [Nat.succ_mul];omega] at this)
   rw [List.map_cons,List.flatten_cons]
   unfold Rws
   refine⟨f,Fs.flatten,hc a,Ms.of (h3 0 a cs f rfl rfl rfl) fun j u hj=>?_,ih,rfl⟩
   have:=h4 0 cs j u rfl hj
   simpa using this
theorem opensTSlice {α:Type} {c:α→List T} {k:Nat} {P:Program} {t e:TypeId} (ht:P.underlying t=some (.slice e)) (hk:P.cellsOf e=k) (hpos:0<k) (hc:∀ a,(c a).length=k) (he:OpensT c P e):OpensT (fun (l:List α)=>[T.sl k (l.map c)]) P t:=by
 intro H enc w base spare held fuel cs x h
 rcases open_slice ht h with ⟨rfl,_⟩|⟨a,len,cap,m,n,D,Pl,rfl,hb,hl,hm,hmm,_,hi⟩
 · refine⟨[],[],Cs_one ?_⟩
   unfold C
   exact⟨none,0,0,rfl,rfl,Nat.le_refl _,Nat.zero_le _,.inl ⟨rfl,rfl,fun h=>by cases h⟩⟩
 have hlm:len≤m:=by rw [hmm];split<;>omega
 have key:∀ q,q≤len→∃ (css:List (List Value)) (l:List α) (Fs:List (List Nat)),css.length=q∧l.length=q∧Fs.length=q∧
  (∀ (i:Nat) (x:α) (cs:List Value) (f:List Nat),l[i]?=some x→css[i]?=some cs→Fs[i]?=some f→Cs false w (c x) cs f)∧
  (∀ (i:Nat) (cs:List Value),css[i]?=some cs→w.cells? base (a.add (i*P.cellsOf e)) (P.cellsOf e)=some cs):=by
  intro q
  induction q with
  | zero=>intro _;exact⟨[],[],[],rfl,rfl,rfl,by simp,by simp⟩
  | succ q ih=>
   intro hq
   obtain⟨css,l,Fs,h1,h2,h3,h4,h5⟩:=ih (by omega)
   obtain⟨cs',hc,htr⟩:=hi q (by omega)
   obtain⟨y,f,hr⟩:=he htr
   refine⟨css++[cs'],l++[y],Fs++[f],by simp [h1],by simp [h2],by simp [h3],fun i x cs f' hx hcs hf=>?_,fun i cs hcs=>?_⟩
   · rcases Nat.lt_trichotomy i q with hlt|rfl|hgt
     · rw [List.getElem?_append_left (by omega)] at hx hcs hf
       exact h4 i x cs f' hx hcs hf
     · rw [List.getElem?_append_right (by omega),h2] at hx
       rw [List.getElem?_append_right (by omega),h1] at hcs
       rw [List.getElem?_append_right (by omega),h3] at hf
       simp at hx hcs hf
       subst hx;subst hcs;subst hf;exact hr
     rw [List.getElem?_eq_none (by simp;omega)] at hx
     cases hx
   rcases Nat.lt_trichotomy i q with hlt|rfl|hgt
   · rw [List.getElem?_append_left (by omega)] at hcs
     exact h5 i cs hcs
   · rw [List.getElem?_append_right (by omega),h1] at hcs
     simp at hcs
     subst hcs;exact hc
   rw [List.getElem?_eq_none (by simp;omega)] at hcs
   cases hcs
 obtain⟨css,l,Fs,h1,h2,h3,h4,h5⟩:=key len (Nat.le_refl _)
 by_cases h0:len=0
 · refine⟨l,[],Cs_one ?_⟩
   unfold C
   exact⟨some a,len,cap,rfl,by simpa using h2,hl,hm,.inl ⟨h0,rfl,fun h=>by cases h⟩⟩
 obtain⟨b,off,spot⟩:=a
 obtain⟨_,hlen0,hat0⟩:=World.cells?_some (h5 0 _ (List.getElem?_eq_getElem (by omega)))
 have c0:=hat0 0 (by omega)
 rw [List.getElem?_eq_getElem (by omega)] at c0
 have hlt:b<w.heap.size:=by
  have:=World.block_lt_of_cell? w _ c0
  simpa [Addr.add] using this
 have hspot:spot=none:=by
  have:=World.cell?_spot c0
  simpa [Addr.add] using this
 subst hspot
 refine⟨l,b::Fs.flatten,Cs_one ?_⟩
 unfold C
 refine⟨some ⟨b,off,none⟩,len,cap,rfl,by simpa using h2,hl,hm,.inr ⟨b,off,Fs.flatten,rfl,rfl,hlt,(by simp),rws_build hc l css Fs off (by omega) (by omega) h4 fun i cs j u hcs hu=>?_⟩⟩
 obtain⟨_,hlen',hat⟩:=World.cells?_some (h5 i cs hcs)
 have hj:j<cs.length:=(List.getElem?_eq_some_iff.1 hu).1
 have:=hat j (by omega)
 rw [hu] at this
 rw [←this,←hk]
 congr 1
 unfold Addr.add
 split<;>split<;>simp_all<;>omega
theorem OpensT.vl {α:Type} {c:α→List T} {P:Program} {t:TypeId} {v:Value} {H:Type} {enc:TypeId×Value→H} {w:World} {base:Nat} {spare:Nat→Bool} {held:Bool} {d:DataW H} {p:List MemPlace} (h:OpensT c P t)
 (hv:DataW.Trod enc P w base spare held t v d p):∃ (a:α) (F:List Nat),Cs false w (c a) v.cells.toList F:=by
 obtain⟨fuel,hf⟩:=hv
 exact h hf
end Go.Q
namespace Go.Q
open Go.RowKit Go.ChangeShapes Go.WideShapes Go.Deep Go.D
def cByte (n:Fin 256):List T:=[.v (.int .u8 (n.val:Int))]
theorem opensTByte {P:Program} {t:TypeId} (ht:P.underlying t=some (.int .u8)):OpensT cByte P t:=by
 intro H enc w base spare held fuel cs x h
 obtain⟨n,rfl,_,hw⟩:=DataW.trod_int ht h
 have hr:0≤n∧n<256:=by
  simp [Lit.wf,IntKind.min,IntKind.max] at hw
  have h1:IntKind.u8.bits=8:=rfl
  simp [IntKind.signed,h1] at hw
  omega
 obtain⟨k,rfl⟩:∃ k:Nat,n=(k:Int):=⟨n.toNat,by omega⟩
 exact⟨⟨k,by omega⟩,[],Cs_one (by unfold C;exact⟨rfl,rfl,rfl⟩)⟩
theorem byR_fin (l:List (Fin 256)):byR (l.map fun n=>(n.val:Int))=l.map cByte:=by
 unfold byR;rw [List.map_map];rfl
theorem C_fin {w:World} {l:List (Fin 256)} {v:Value} {F:List Nat} (h:C false w (.sl 1 (l.map cByte)) v F):C false w (.sl 1 (byR (l.map fun n=>(n.val:Int)))) v F:=by rw [byR_fin];exact h
theorem fin_range (l:List (Fin 256)):∀ n∈l.map (fun n=>(n.val:Int)),0≤n∧n<256:=fun n hn=>by
 obtain⟨k,_,rfl⟩:=List.mem_map.1 hn
 have:=k.isLt
 omega
end Go.Q
namespace Go.Proofs.YtdhojcaoljhbiaaGreatDoor
open Go.RowKit Go.Q Go.D
theorem lawsbig (bs:List Int):FnT Tryz.prog 5 [.one (.sl 1 (byR bs))] (.a (.one (.v (.bool (decide (1048576<bs.length)))))):=by
 refine Ay Tryz.func5 U (by kernel_rfl) Tryz.ntmps5 U fun hlen w0=>?_
 try simp [cPair,cToken,cExpr,cEdge,cGraph,cStep,cWalk,cChange,cBatch,cHistory,cPositions,cAutomaton,cProductStep,cPathAtom,cConjunction,cView,cDelta,cRegistered,cRegistry] at hlen
 refine Ae (Ak ?_);refine Aa (Ae (Ab ?_));refine Bc (.t) Tryz.underlying22 ?_;refine AWl.gc ?_;refine Ah ?_;refine Aa (Al (Bb U U ?_))
 simp [byR];omega
end Go.Proofs.YtdhojcaoljhbiaaGreatDoor
namespace Go.Q
theorem findI_mem {α:Type} [DecidableEq α] (v:α):∀ (l:List α) (m:Nat),decide (0≤findI (fun x=>decide (v=x)) l m)=decide (v∈l)
 | [],m=>by simp [findI]
 | x::l,m=>by
  rw [findI]
  by_cases h:v=x
  · subst h;simp
  rw [if_neg (by simpa using h),findI_mem v l (m+1)];simp [h]
end Go.Q
namespace Go.Proofs.YtdhojcaoljhbiaaGreatDoor
open Go.RowKit Go.Q Go.D
theorem slicesEqualInt (l r:List Int):FnT Tryz.prog 73 [.one (.sl 1 (l.map cInt)),.one (.sl 1 (r.map cInt))] (.a (.one (.v (.bool (decide (l=r)))))):=by
 refine Ay Tryz.func73 U (by kernel_rfl) Tryz.ntmps73 U fun hlen w0=>?_
 try simp [cPair,cToken,cExpr,cEdge,cGraph,cStep,cWalk,cChange,cBatch,cHistory,cPositions,cAutomaton,cProductStep,cPathAtom,cConjunction,cView,cDelta,cRegistered,cRegistry] at hlen
 refine Ae (Ak ?_);refine Aa (Ac (Ae (Ab ?_)));refine Bc (.t) Tryz.underlying34 ?_;refine Ab ?_;refine Bc (.t) Tryz.underlying34 ?_;refine Ag (R_ne U (.no U) U (.tm U) (.tm U)) U ?_;refine Aa (Ai (.tm U) (fun h10=>?_) (fun h10=>?_))
 · try simp at h10
   refine Ae (Ak ?_);refine Aa (Al (Bb U U ?_))
   congr 1;symm;exact decide_eq_false fun e=>h10 (by rw [e])
 try simp at h10
 refine Aj (Ac (Ae (Ab ?_)));refine Bc (.t) Tryz.underlying34 ?_;refine Ag (Az U (.no U) U (.const U)) U ?_;refine Aa (AW.block (Dx (β:=Nat) (fun x=>x≤l.length∧∀ i,i<x→l[i]?=r[i]?) (fun x=>⟨_,[(13,(true,.a (.one (.t (.v (.int .i64 x)))))),(0,_),(1,_),(12,_)],[]⟩) (fun x=>l.length-x) (0) ⟨Nat.zero_le _,by simp⟩ (Ar U ⟨U,U,U,U,Y⟩ trivial) ?_));intro k hk
 obtain⟨hk,he⟩:=hk
 refine Ae (AWl.lt ?_);refine Aa (Ac (Ai (.tm U) (fun h14=>?_) (fun h14=>?_)))
 · try simp at h14
   obtain⟨x,hx⟩:∃ x,l[k]?=some x:=⟨_,List.getElem?_eq_getElem h14⟩
   obtain⟨y,hy⟩:∃ y,r[k]?=some y:=⟨_,List.getElem?_eq_getElem (by omega)⟩
   refine Aj (Ac (AW.block (Ae (Ab ?_))));refine Ah ?_;refine Aa (Ac (Bq 9 (nthB [[],[],[0,1],[0,1,2],[],[],[4,5],[4,5,6],[0,1,2,3,4,5,6,7]]) (by kernel_rfl) (by kernel_rfl) (by kernel_rfl) ?_));refine Ap ?_;refine Ap ?_;refine DrawC.s (fun _ hs=>(by exact An U (.no U) (Af hs U) (hs.tm U) (hs.tm U) Tryz.underlying34 ty3 (fun _=>⟨by omega,(by exact Ao (by assumption))⟩))) ?_;refine A5 ty3 ?_;refine Ap ?_;refine Ap ?_;refine DrawC.s (fun _ hs=>(by exact An U (.no U) (Af hs U) (hs.tm U) (hs.tm U) Tryz.underlying34 ty3 (fun _=>⟨by omega,(by exact Ao (by assumption))⟩))) ?_;refine A5 ty3 ?_;refine DrawC.s (fun _ hs=>R_ne U (.no U) (Af hs U) (hs.tm U) (hs.tm U)) ?_;refine Bi U U ?_;refine Aa (Ai (.tm U) (fun h24=>?_) (fun h24=>?_))
   · try simp at h24
     refine Ac (Am (As [0,1,5,12,13] []) ?_);refine Ad (Ak ?_);refine Aa (Al (Bb U U ?_))
     congr 1;symm;exact decide_eq_false fun e=>by rw [e] at hx;rw [hy] at hx;cases hx;simp at h24
   try simp at h24
   have hxy:x=y:=by first|exact h24|exact Tint.ext_iff'.2 (by simpa [and_assoc] using h24)
   refine Aj (Am (As [0,1,5,12,13] []) ?_);refine Ad (A8 ?_);refine Ab ?_;refine Aa ?_;refine Round.next (k+1) ⟨by omega,fun i hi=>by rcases Nat.lt_or_eq_of_le (Nat.le_of_lt_succ hi) with h|rfl;exact he i h;rw [hx,hy,hxy]⟩ (by omega) (Ar rfl ⟨rfl,rfl,rfl,rfl,Y⟩ trivial)
 try simp at h14
 refine Ba (Ae (Ak ?_));refine Aa (Al (Bb U U ?_))
 congr 1;symm;exact decide_eq_true (eq_of_getElem? (by omega) fun i hi=>he i (by omega))
theorem slicesIndexBool (l:List Bool) (v:Bool):FnT Tryz.prog 134 [.one (.sl 1 (l.map cBool)),.one (.v (.bool v))] (.a (.one (.v (.int .i64 (findI (fun x=>decide (v=x)) l 0))))):=by
 refine Ay Tryz.func134 U (by kernel_rfl) Tryz.ntmps134 U fun hlen w0=>?_
 try simp [cPair,cToken,cExpr,cEdge,cGraph,cStep,cWalk,cChange,cBatch,cHistory,cPositions,cAutomaton,cProductStep,cPathAtom,cConjunction,cView,cDelta,cRegistered,cRegistry] at hlen
 refine Ae (Ak ?_);refine Aa (Ac (Ae (Ab ?_)));refine Bc (.t) Tryz.underlying131 ?_;refine Ag (Az U (.no U) U (.const U)) U ?_;refine Aa (AW.block (Dx (β:=Nat) (fun x=>x≤(l).length∧∀ j y,j<x→(l)[j]?=some y→(fun x=>!decide (v=x)) y=true) (fun x=>⟨_,[(8,(true,.a (.one (.t (.v (.int .i64 (x:Nat))))))),(0,_),(1,_),(7,_)],[]⟩) (fun x=>(l).length-x) (0) ⟨Nat.zero_le _,fun j y hj=>absurd hj (Nat.not_lt_zero j)⟩ (Ar U ⟨U,U,U,U,Y⟩ trivial) ?_));intro k hk;refine Ae (AWl.lt ?_);refine Aa (Ac (Ai (.tm U) (fun hlt=>?_) (fun hlt=>?_)))
 · try simp at hlt
   obtain⟨x,hx⟩:∃ ξ,(l)[k]?=some ξ:=⟨_,List.getElem?_eq_getElem (by exact hlt)⟩
   refine Aj (Ac (AW.block (Ae (Ab ?_))));refine Ah ?_;refine Aa (Ae (Ab ?_));refine Ab ?_;refine Ab ?_;refine Ag ((An U (.no U) U (.tm U) (.tm U) Tryz.underlying131 ty4 (fun _=>⟨by omega,(by exact Ao (by assumption))⟩))) U ?_;refine Aq ty4 ?_;refine Ag (R_eqb U (.no U) U (.tm U) (.tm U) Tryz.underlying4) U ?_;refine Aa (Ai (.tm U) (fun h16=>?_) (fun h16=>?_))
   · try simp at h16
     refine Ac (Am (As [0,1,5,7,8] []) ?_);refine Ad (Ab ?_);refine Ah ?_;refine Aa (Al (Bb U U ?_))
     rw [findI_at (k:=k) hk.2 hx (by simp [h16])];simp
   try simp at h16
   refine Aj (Am (As [0,1,5,7,8] []) ?_);refine Ad (A8 ?_);refine Ab ?_;refine Aa ?_;refine Round.next (k+1) ⟨by omega,each_succ hk.2 hx (by simp [h16])⟩ (by omega) (Ar rfl ⟨rfl,rfl,rfl,rfl,Y⟩ trivial)
 try simp at hlt
 refine Ba (Ae (Ak ?_));refine Aa (Al (Bb U U ?_))
 rw [findI_none hk.2 (by omega)]
theorem slicesContainsBool (l:List Bool) (v:Bool):FnT Tryz.prog 94 [.one (.sl 1 (l.map cBool)),.one (.v (.bool v))] (.a (.one (.v (.bool (decide (v∈l)))))):=by
 refine Ay Tryz.func94 U (by kernel_rfl) Tryz.ntmps94 U fun hlen w0=>?_
 try simp [cPair,cToken,cExpr,cEdge,cGraph,cStep,cWalk,cChange,cBatch,cHistory,cPositions,cAutomaton,cProductStep,cPathAtom,cConjunction,cView,cDelta,cRegistered,cRegistry] at hlen
 refine Ae (Ak ?_);refine Aa (Ae (Ab ?_));refine Ab ?_;refine Bl (slicesIndexBool _ _) ?_;refine AWl.gd ?_;refine Ah ?_;refine Aa (Al (Bb U U ?_))
 rw [findI_mem]
theorem slicesIndexPair (l:List TPair) (v:TPair):FnT Tryz.prog 135 [.one (.sl 2 (l.map cPair)),.agg (cPair v)] (.a (.one (.v (.int .i64 (findI (fun x=>decide (v=x)) l 0))))):=by
 refine Ay Tryz.func135 U (by kernel_rfl) Tryz.ntmps135 U fun hlen w0=>?_
 try simp [cPair,cToken,cExpr,cEdge,cGraph,cStep,cWalk,cChange,cBatch,cHistory,cPositions,cAutomaton,cProductStep,cPathAtom,cConjunction,cView,cDelta,cRegistered,cRegistry] at hlen
 refine Ae (Ag (B9 U U U (.tm U) (ts:=_) (by rfl)) U ?_);refine Ak ?_;refine Aa (Ac (Ae (Ab ?_)));refine Bc (.t) Tryz.underlying89 ?_;refine Ag (Az U (.no U) U (.const U)) U ?_;refine Aa (AW.block (Dx (β:=Nat) (fun x=>x≤(l).length∧∀ j y,j<x→(l)[j]?=some y→(fun x=>!decide (v=x)) y=true) (fun x=>⟨_,[(8,(true,.a (.one (.t (.v (.int .i64 (x:Nat))))))),(0,_),(3,_),(7,_)],[]⟩) (fun x=>(l).length-x) (0) ⟨Nat.zero_le _,fun j y hj=>absurd hj (Nat.not_lt_zero j)⟩ (Ar U ⟨U,U,U,U,Y⟩ trivial) ?_));intro k hk;refine Ae (AWl.lt ?_);refine Aa (Ac (Ai (.tm U) (fun hlt=>?_) (fun hlt=>?_)))
 · try simp at hlt
   obtain⟨x,hx⟩:∃ ξ,(l)[k]?=some ξ:=⟨_,List.getElem?_eq_getElem (by exact hlt)⟩
   refine Aj (Ac (AW.block (Ae (Ab ?_))));refine Ah ?_;refine Aa (Ac (Bq 6 (nthB [[],[],[],[1,2],[1,2,3],[0,1,2,3,4]]) (by kernel_rfl) (by kernel_rfl) (by kernel_rfl) ?_));refine A5 Cj ?_;refine Ap ?_;refine Ap ?_;refine DrawC.s (fun _ hs=>(by exact An U (.no U) (Af hs U) (hs.tm U) (hs.tm U) Tryz.underlying89 Cj (fun _=>⟨by omega,(by exact Ao (by assumption))⟩))) ?_;refine A5 Cj ?_;refine DrawC.s (fun _ hs=>R_eqs U (.no U) (Af hs U) (hs.tm U) (hs.tm U) U U (by kernel_rfl) (eqS97 _ _ _ _)) ?_;refine Bi U U ?_;refine Aa (Ai (.tm U) (fun h16=>?_) (fun h16=>?_))
   · try simp at h16
     refine Ac (Am (As [0,3,5,7,8] []) ?_);refine Ad (Ab ?_);refine Ah ?_;refine Aa (Al (Bb U U ?_))
     rw [findI_at (k:=k) hk.2 hx (by grind [TPair.ext_iff'])];simp
   try simp at h16
   refine Aj (Am (As [0,3,5,7,8] []) ?_);refine Ad (A8 ?_);refine Ab ?_;refine Aa ?_;refine Round.next (k+1) ⟨by omega,each_succ hk.2 hx (by grind [TPair.ext_iff'])⟩ (by omega) (Ar rfl ⟨rfl,rfl,rfl,rfl,Y⟩ trivial)
 try simp at hlt
 refine Ba (Ae (Ak ?_));refine Aa (Al (Bb U U ?_))
 rw [findI_none hk.2 (by omega)]
theorem slicesContainsPair (l:List TPair) (v:TPair):FnT Tryz.prog 95 [.one (.sl 2 (l.map cPair)),.agg (cPair v)] (.a (.one (.v (.bool (decide (v∈l)))))):=by
 refine Ay Tryz.func95 U (by kernel_rfl) Tryz.ntmps95 U fun hlen w0=>?_
 try simp [cPair,cToken,cExpr,cEdge,cGraph,cStep,cWalk,cChange,cBatch,cHistory,cPositions,cAutomaton,cProductStep,cPathAtom,cConjunction,cView,cDelta,cRegistered,cRegistry] at hlen
 refine Ae (Ag (B9 U U U (.tm U) (ts:=_) (by rfl)) U ?_);refine Ak ?_;refine Aa (Ae (Ab ?_));refine Aq Cj ?_;refine Bl (slicesIndexPair _ _) ?_;refine AWl.gd ?_;refine Ah ?_;refine Aa (Al (Bb U U ?_))
 rw [findI_mem]
end Go.Proofs.YtdhojcaoljhbiaaGreatDoor
namespace Go.Q
open Go.D
end Go.Q
namespace Go.Proofs.YtdhojcaoljhbiaaGreatDoor
open Go.RowKit Go.Q Go.D
theorem implwithin (n a b:Int):FnT Tryz.prog 67 [.one (.v (.int .i64 n)),.one (.v (.int .i64 a)),.one (.v (.int .i64 b))] (.a (.one (.v (.bool (inB n a b))))):=by
 refine Ay Tryz.func67 U (by kernel_rfl) Tryz.ntmps67 U fun hlen w0=>?_
 try simp [cPair,cToken,cExpr,cEdge,cGraph,cStep,cWalk,cChange,cBatch,cHistory,cPositions,cAutomaton,cProductStep,cPathAtom,cConjunction,cView,cDelta,cRegistered,cRegistry] at hlen
 refine Ae (Ak ?_);refine Aa (Ae (Ab ?_));refine Ab ?_;refine Ag (R_ge U (.no U) U (.tm U) (.tm U)) U ?_;refine Ab ?_;refine Cp ?_;refine Cp ?_;refine Ag (R_le U (by exact .yes1 U U U U) U (.tmp U (by exact id)) (.tmp U (by exact id))) U ?_;refine Cm ?_;refine Ah ?_;refine Aa (Al (Bb U U ?_))
 rfl
theorem specl1In (n a b:Int):FnT Tryz.prog 44 [.one (.v (.int .i64 n)),.one (.v (.int .i64 a)),.one (.v (.int .i64 b))] (.a (.one (.v (.bool (inB n a b))))):=by
 refine Ay Tryz.func44 U (by kernel_rfl) Tryz.ntmps44 U fun hlen w0=>?_
 try simp [cPair,cToken,cExpr,cEdge,cGraph,cStep,cWalk,cChange,cBatch,cHistory,cPositions,cAutomaton,cProductStep,cPathAtom,cConjunction,cView,cDelta,cRegistered,cRegistry] at hlen
 refine Ae (Ak ?_);refine Aa (Ae (Ab ?_));refine Ab ?_;refine Ag (R_ge U (.no U) U (.tm U) (.tm U)) U ?_;refine Ab ?_;refine Cp ?_;refine Cp ?_;refine Ag (R_le U (by exact .yes1 U U U U) U (.tmp U (by exact id)) (.tmp U (by exact id))) U ?_;refine Cm ?_;refine Ah ?_;refine Aa (Al (Bb U U ?_))
 rfl
theorem implisLetter (n:Int):FnT Tryz.prog 190 [.one (.v (.int .i64 n))] (.a (.one (.v (.bool (inB n 0 8))))):=by
 refine Ay Tryz.func190 U (by kernel_rfl) Tryz.ntmps190 U fun hlen w0=>?_
 try simp [cPair,cToken,cExpr,cEdge,cGraph,cStep,cWalk,cChange,cBatch,cHistory,cPositions,cAutomaton,cProductStep,cPathAtom,cConjunction,cView,cDelta,cRegistered,cRegistry] at hlen
 refine Ae (Ak ?_);refine Aa (Ae (Ab ?_));refine Bl (implwithin _ _ _) ?_;refine Ah ?_;refine Aa (Al (Bb U U ?_))
 rfl
theorem specl2Letter (n:Int):FnT Tryz.prog 188 [.one (.v (.int .i64 n))] (.a (.one (.v (.bool (inB n 0 8))))):=by
 refine Ay Tryz.func188 U (by kernel_rfl) Tryz.ntmps188 U fun hlen w0=>?_
 try simp [cPair,cToken,cExpr,cEdge,cGraph,cStep,cWalk,cChange,cBatch,cHistory,cPositions,cAutomaton,cProductStep,cPathAtom,cConjunction,cView,cDelta,cRegistered,cRegistry] at hlen
 refine Ae (Ak ?_);refine Aa (Ae (Ab ?_));refine Bl (specl1In _ _ _) ?_;refine Ah ?_;refine Aa (Al (Bb U U ?_))
 rfl
end Go.Proofs.YtdhojcaoljhbiaaGreatDoor
namespace Go.Proofs.YtdhojcaoljhbiaaGreatDoor
open Go.RowKit Go.Q Go.D
end Go.Proofs.YtdhojcaoljhbiaaGreatDoor
namespace Go.D
open Go.Q
end Go.D
set_option maxHeartbeats 1000000
set_option maxRecDepth 100000
namespace Go.Q
open Go.D
end Go.Q
namespace Go.Proofs.YtdhojcaoljhbiaaGreatDoor
open Go.RowKit Go.Q Go.D
end Go.Proofs.YtdhojcaoljhbiaaGreatDoor
namespace Go.Q
open Go.RowKit Go.Sort Go.Proofs
section
variable {P:Program}
theorem heap_mapBlock {w:World} {blk:Nat} {f:Array Value→Array Value} {c:Array Value} {e:TypeId} {fr:Nat×Nat} (hb:w.heap[blk]?=some (.cells c e fr)):(mapBlock w blk f).heap[blk]?=some (.cells (f c) e fr):=by
 unfold mapBlock
 show (w.heap.modify blk (onCells f))[blk]?=_
 rw [Array.getElem?_modify,if_pos rfl,hb]
 rfl
theorem heap_mapBlock_other {w:World} {blk b:Nat} {f:Array Value→Array Value} (h:b≠blk):(mapBlock w blk f).heap[b]?=w.heap[b]?:=by
 unfold mapBlock
 show (w.heap.modify blk (onCells f))[b]?=_
 rw [Array.getElem?_modify,if_neg (fun e=>h e.symm)]
theorem flat_get {α:Type} [Inhabited α] {enc:α→List Value} {k:Nat} (hk:∀ x,(enc x).length=k):∀ (l:List α) (t:Nat),t<l.length*k→((l.map enc).flatten)[t]?=some ((enc (l[t / k]!))[t%k]!)
 | [],t,h=>by simp at h
 | x::l,t,h=>by
  rw [List.map_cons,List.flatten_cons]
  rw [List.length_cons,Nat.succ_mul] at h
  have hk0:0<k:=by
   rcases Nat.eq_zero_or_pos k with e|e
   · subst e;omega
   exact e
  by_cases ht:t<k
  · rw [List.getElem?_append_left (by rw [hk];exact ht),Nat.div_eq_of_lt ht,Nat.mod_eq_of_lt ht]
    have:t<(enc x).length:=by rw [hk];exact ht
    rw [List.getElem?_eq_getElem this]
    simp [this]
  rw [List.getElem?_append_right (by rw [hk];omega),hk]
  have e1:t / k=(t-k) / k+1:=by
   conv=>lhs;rw [show t=(t-k)+k by omega]
   rw [Nat.add_div_right _ hk0]
  have e2:t%k=(t-k)%k:=by
   conv=>lhs;rw [show t=(t-k)+k by omega]
   rw [Nat.add_mod_right]
  rw [flat_get hk l (t-k) (by omega),e1,e2]
  simp
theorem FnS.ofK {α:Type} [Inhabited α] [DecidableEq α] {f:FuncId} {kv:Value} {k:Nat} {enc:α→List Value} {c:α→List T} {lt:α→α→Bool} (hcallee:Callee P f) (hc:∀ x,c x=(enc x).map .v) (hk:∀ x,(enc x).length=k) (h1:∀ x,∀ v∈enc x,v.oneCell'=true) (S:List α→List α) (hS:∀ l,(S l).length=l.length)
 (hnone:∀ p cap w,Calls P f #[.slice p 0 cap,kv] w fun e w'=>e=.returned (.tuple #[])∧w'=w)
 (hsome:∀ (blk cap:Nat) (d:Array α) (w:World),HoldsK enc k w blk 0 d→blk<w.heap.size→d.size<4611686018427387904→Calls P f #[.slice (some ⟨blk,0,none⟩) d.size cap,kv] w fun e w'=>e=.returned (.tuple #[])∧∃ n os,w'=sortWorldK enc k w blk 0 n (S d.toList).toArray os)
 (l:List α) (hl:l.length<4611686018427387904):FnS P f k (l.map c) kv ((S l).map c):=⟨hcallee,fun w v F _ hC hnd hth=>by
 have hcm:∀ m:List α,(m.map c).flatten=((m.map enc).flatten).map T.v:=fun m=>by
  rw [List.map_flatten,List.map_map]
  congr 1
  exact List.map_congr_left fun x _=>hc x
 have hrow:∀ m:List α,∀ r∈m.map c,r.length=k:=fun m r hr=>by
  obtain⟨x,_,rfl⟩:=List.mem_map.1 hr
  rw [hc,List.length_map,hk]
 have hCc:=hC
 simp only [C] at hCc
 obtain⟨a0,n0,m0,rfl,_⟩:=hCc
 obtain⟨e1,e2,e3⟩:=hC.hdr
 rw [List.length_map] at e1
 rcases hC.blk with ⟨q1,q2,q3⟩|⟨g,G,cur,e',rfl,rfl,q3,q4,q5⟩
 · have hl0:l=[]:=by simpa using q3
   subst hl0
   have hS0:S []=[]:=List.eq_nil_of_length_eq_zero (by rw [hS];rfl)
   subst e1;refine (hnone a0 m0 w).mono fun e w' ⟨h1,h2⟩=>?_;subst h2
   rw [hS0]
   exact⟨h1,Chg.refl _ _,F,hC,hnd,fun b hb=>⟨hb,hth b hb⟩⟩
 obtain⟨s1,xs,s2,s3,s4⟩:=q5.flat
 rw [hcm] at s2
 simp only [Nat.zero_add] at s4
 have hval:∀ m:List α,((m.map enc).flatten).all Value.oneCell'=true:=fun m=>by
  rw [List.all_eq_true]
  intro v hv
  rw [List.mem_flatten] at hv
  obtain⟨r,hr,hv⟩:=hv
  obtain⟨x,_,rfl⟩:=List.mem_map.1 hr
  exact h1 x v hv
 have hG:G=[]∧xs=(l.map enc).flatten:=by
  have key:∀ (vs:List Value) {cs:List Value} {G:List Nat},Cs true w (vs.map T.v) cs G→G=[]∧cs=vs:=by
   intro vs
   induction vs with
   | nil=>intro cs G h;simp only [List.map_nil,Cs] at h;exact⟨h.2,h.1⟩
   | cons v vs ih=>
    intro cs G h
    simp only [List.map_cons,Cs] at h
    obtain⟨c1,cr,G1,G2,rfl,h2,h3,rfl⟩:=h
    simp only [C] at h2
    obtain⟨rfl,rfl,_⟩:=h2
    obtain⟨rfl,rfl⟩:=ih h3
    exact⟨rfl,rfl⟩
  exact key _ s2
 obtain⟨rfl,rfl⟩:=hG
 have hglt:g<w.heap.size:=(Array.getElem?_eq_some_iff.1 q3).1
 have hH:HoldsK enc k w g 0 l.toArray:=fun j hj=>by
  rw [size_flatK] at hj
  rw [Nat.zero_add]
  refine⟨?_,?_⟩
  · have hj':j<l.length*k:=by simpa using hj
    rw [s4 j _ (flat_get hk l j hj'),get_flatK enc k l.toArray j hj]
    simp
  simp [World.frozen?,q3]
 have hcall:=hsome g m0 l.toArray w hH hglt (by simpa using hl)
 rw [List.size_toArray,e1] at hcall
 refine hcall.mono fun e w' hR=>?_
 obtain⟨rfl,n,os,rfl⟩:=hR
 simp only [List.toList_toArray]
 have hsl:=hS l
 generalize hd':(S l).toArray=d'
 have hd's:d'.size=l.length:=by rw [←hd'];simpa using hsl
 have hw1:(sortWorldK enc k w g 0 n d' os).heap[g]?=some (.cells (putCells id 0 (flatK enc k d') cur) e' (0,0)):=by
  unfold sortWorldK grow putRowK putRow
  show ((mapBlock (Go.Sort.ahead w n) g _).heap++os)[g]?=_
  have hm:=heap_mapBlock (w:=Go.Sort.ahead w n) (f:=putCells id 0 (flatK enc k d')) q3
  rw [Array.getElem?_append_left (Array.getElem?_eq_some_iff.1 hm).1]
  exact hm
 have hw2:∀ b,b<w.heap.size→b≠g→(sortWorldK enc k w g 0 n d' os).heap[b]?=w.heap[b]?:=fun b hb hne=>by
  unfold sortWorldK grow putRowK putRow
  show ((mapBlock (Go.Sort.ahead w n) g _).heap++os)[b]?=_
  have hm:=heap_mapBlock_other (w:=Go.Sort.ahead w n) (f:=putCells id 0 (flatK enc k d')) hne
  have hb':b<(mapBlock (Go.Sort.ahead w n) g (putCells id 0 (flatK enc k d'))).heap.size:=heap_lt hm hb
  rw [Array.getElem?_append_left hb']
  exact hm
 have hsz:(putCells id 0 (flatK enc k d') cur).size=m0*k:=by unfold putCells;simp [q4]
 have hch:Chg w (sortWorldK enc k w g 0 n d' os) [g]:=⟨rfl,rfl,rfl,by unfold sortWorldK;rw [size_grow];unfold putRowK;rw [Go.Proofs.size_putRow];exact Nat.le_add_right _ _,fun b hb hn=>hw2 b hb (by simpa using hn)⟩
 have hH':HoldsK enc k (sortWorldK enc k w g 0 n d' os) g 0 d':=holdsK_sortWorldK_c enc k w g 0 l.toArray d' n os hH hglt (by rw [hd's];simp)
 refine⟨trivial,hch,[g],?_,by simp,fun b hb=>?_⟩
 · unfold C
   refine⟨_,_,_,rfl,by rw [List.length_map,hsl,e1],e2,e3,.inr ⟨g,0,[],rfl,rfl,(Array.getElem?_eq_some_iff.1 hw1).1,fun _=>⟨rfl,_,e',hw1,hsz⟩,Rws.of (xs:=((S l).map enc).flatten) (hrow _) ?_ fun j u hj=>?_⟩⟩
   · rw [hcm];exact Cs_vals (hval _)
   have hjl:j<(S l).length*k:=by
    have:=(List.getElem?_eq_some_iff.1 hj).1
    have e:∀ m:List α,((m.map enc).flatten).length=m.length*k:=fun m=>by
     induction m with
     | nil=>simp
     | cons x m ih=>rw [List.map_cons,List.flatten_cons,List.length_append,ih,hk,List.length_cons,Nat.succ_mul];omega
    rwa [e] at this
   have hjd:j<(flatK enc k d').size:=by rw [size_flatK,hd's,←hsl];exact hjl
   have h5:=(hH' j hjd).1
   rw [flat_get hk _ j hjl] at hj
   cases hj
   rw [h5,get_flatK enc k d' j (by rw [hd's,←hsl];exact hjl),←hd']
   simp
 simp only [List.mem_singleton] at hb
 subst hb
 exact⟨by simp,.inl _,_,hw1⟩⟩
end
end Go.Q
set_option maxHeartbeats 1000000
set_option maxRecDepth 100000
namespace Go.Q
open Go.D
def zerT (t:TToken):Bool:=decide (t.Letter=0)&&decide (t.Low=0)&&decide (t.High=0)
def arity (t:TToken):Int:=
 if t.Kind=1∨t.Kind=2 then (if zerT t then 0 else -1)
 else if t.Kind=3 then (if inB t.Letter 0 8&&decide (t.Low=0)&&decide (t.High=0) then 0 else -1)
 else if t.Kind=4∨t.Kind=5 then (if zerT t then 2 else -1)
 else if t.Kind=6 then (if zerT t then 1 else -1)
 else if t.Kind=7 then (if decide (t.Letter=0)&&inB t.High 1 3&&inB t.Low 0 t.High then 1 else -1)
 else -1
def tokOk (t:TToken):Bool:=decide (0≤arity t)
def depthGo:Int→List TToken→Bool
 | d,[]=>decide (d=1)
 | d,t::r=>if arity t<0∨d<arity t then false else depthGo (d-arity t+1) r
def isExpr (l:List TToken):Bool:=depthGo 0 l
theorem depthGo_drop {l:List TToken} {k:Nat} {t:TToken} {d:Int} (h:l[k]?=some t):depthGo d (l.drop k)=if arity t<0∨d<arity t then false else depthGo (d-arity t+1) (l.drop (k+1)):=by
 rw [drop_at h,depthGo]
theorem arity_le (t:TToken):-1≤arity t∧arity t≤2:=by
 unfold arity
 repeat' split
 all_goals omega
end Go.Q
namespace Go.Proofs.YtdhojcaoljhbiaaGreatDoor
open Go.RowKit Go.Q Go.D
theorem specl8Arity (t:TToken):FnT Tryz.prog 140 [.agg (cToken t)] (.a (.one (.v (.int .i64 (arity t))))):=by
 refine Ay Tryz.func140 U (by kernel_rfl) Tryz.ntmps140 U fun hlen w0=>?_
 try simp [cPair,cToken,cExpr,cEdge,cGraph,cStep,cWalk,cChange,cBatch,cHistory,cPositions,cAutomaton,cProductStep,cPathAtom,cConjunction,cView,cDelta,cRegistered,cRegistry] at hlen
 refine Ae (Ag (B9 U U U (.tm U) (ts:=_) (by rfl)) U ?_);refine Ak ?_;refine Aa (Ac (Ae (A7 fl137_0 ?_)));refine Aq ty3 ?_;refine Aa (AW.block (Ac (Ae (Br ?_))));refine Ah ?_;refine Aa (Ai (.tm U) (fun h5=>?_) (fun h5=>?_))
 · try simp at h5
   refine Aj (Ai (.tm U) (fun h5=>?_) (fun h5=>?_))
   · try simp at h5
     refine Ac (Ae (A7 Dv ?_));refine Aq ty3 ?_;refine AWl.nc ?_;refine Ab ?_;refine C9 Dp ?_;refine C8 ty3 ?_;refine Ag (R_ne U (by exact .not1 U U U U) U (.tmp U (by exact id)) (.const U)) U ?_;refine Cf ?_;refine Ab ?_;refine C9 Df ?_;refine C8 ty3 ?_;refine Ag (R_ne U (by exact .not1 U U U U) U (.tmp U (by exact id)) (.const U)) U ?_;refine Cf ?_;refine Aa (Ai (.tm U) (fun h20=>?_) (fun h20=>?_))
     · try simp at h20
       refine Ac (Am (As [0,1,2,4,5] []) ?_);refine Ad (Ak ?_);refine Aa (Al (Bb U U ?_))
       unfold arity zerT;grind
     try simp at h20
     refine Aj (Ac (Am (As [0,1,2,4,5] []) ?_));refine Ad (Ak ?_);refine Aa (Al (Bb U U ?_))
     unfold arity zerT;grind
   exfalso;(try simp at h5);first|contradiction|omega|simp_all|grind
 try simp at h5
 refine Ad (Br ?_);refine Ah ?_;refine Aa (Ai (.tm U) (fun h5=>?_) (fun h5=>?_))
 · try simp at h5
   refine Ac (Ae (A7 Dv ?_));refine Aq ty3 ?_;refine AWl.nc ?_;refine Ab ?_;refine C9 Dp ?_;refine C8 ty3 ?_;refine Ag (R_ne U (by exact .not1 U U U U) U (.tmp U (by exact id)) (.const U)) U ?_;refine Cf ?_;refine Ab ?_;refine C9 Df ?_;refine C8 ty3 ?_;refine Ag (R_ne U (by exact .not1 U U U U) U (.tmp U (by exact id)) (.const U)) U ?_;refine Cf ?_;refine Aa (Ai (.tm U) (fun h20=>?_) (fun h20=>?_))
   · try simp at h20
     refine Ac (Am (As [0,1,2,4,5] []) ?_);refine Ad (Ak ?_);refine Aa (Al (Bb U U ?_))
     unfold arity zerT;grind
   try simp at h20
   refine Aj (Ac (Am (As [0,1,2,4,5] []) ?_));refine Ad (Ak ?_);refine Aa (Al (Bb U U ?_))
   unfold arity zerT;grind
 try simp at h5
 refine Ae (Br ?_);refine Ah ?_;refine Aa (Ai (.tm U) (fun h21=>?_) (fun h21=>?_))
 · try simp at h21
   refine Ac (Ae (A7 Dv ?_));refine Aq ty3 ?_;refine Bl (specl2Letter _) ?_;refine C1 ?_;refine Ab ?_;refine C9 Dp ?_;refine C8 ty3 ?_;refine Ag (R_ne U (by exact .not1 U U U U) U (.tmp U (by exact id)) (.const U)) U ?_;refine Cf ?_;refine Ab ?_;refine C9 Df ?_;refine C8 ty3 ?_;refine Ag (R_ne U (by exact .not1 U U U U) U (.tmp U (by exact id)) (.const U)) U ?_;refine Cf ?_;refine Aa (Ai (.tm U) (fun h36=>?_) (fun h36=>?_))
   · try simp at h36
     refine Ac (Am (As [0,1,2,4,5] []) ?_);refine Ad (Ak ?_);refine Aa (Al (Bb U U ?_))
     unfold arity zerT;grind
   try simp at h36
   refine Aj (Ac (Am (As [0,1,2,4,5] []) ?_));refine Ad (Ak ?_);refine Aa (Al (Bb U U ?_))
   unfold arity zerT;grind
 try simp at h21
 refine Ac (Ae (Br ?_));refine Ah ?_;refine Aa (Ai (.tm U) (fun h37=>?_) (fun h37=>?_))
 · try simp at h37
   refine Aj (Ai (.tm U) (fun h37=>?_) (fun h37=>?_))
   · try simp at h37
     refine Ac (Ac (Am (As [0,1,2,4,5,37] []) ?_));refine Ad (A7 Dv ?_);refine Aq ty3 ?_;refine AWl.nc ?_;refine Ab ?_;refine C9 Dp ?_;refine C8 ty3 ?_;refine Ag (R_ne U (by exact .not1 U U U U) U (.tmp U (by exact id)) (.const U)) U ?_;refine Cf ?_;refine Ab ?_;refine C9 Df ?_;refine C8 ty3 ?_;refine Ag (R_ne U (by exact .not1 U U U U) U (.tmp U (by exact id)) (.const U)) U ?_;refine Cf ?_;refine Aa (Ai (.tm U) (fun h52=>?_) (fun h52=>?_))
     · try simp at h52
       refine Ac (Am (As [0,1,2,4,5,37] []) ?_);refine Ad (Ak ?_);refine Aa (Al (Bb U U ?_))
       unfold arity zerT;grind
     try simp at h52
     refine Aj (Ac (Am (As [0,1,2,4,5,37] []) ?_));refine Ad (Ak ?_);refine Aa (Al (Bb U U ?_))
     unfold arity zerT;grind
   exfalso;(try simp at h37);first|contradiction|omega|simp_all|grind
 try simp at h37
 refine Am (As [0,1,2,4,5,37] []) ?_;refine Ad (Br ?_);refine Ah ?_;refine Aa (Ai (.tm U) (fun h37=>?_) (fun h37=>?_))
 · try simp at h37
   refine Ac (Ae (A7 Dv ?_));refine Aq ty3 ?_;refine AWl.nc ?_;refine Ab ?_;refine C9 Dp ?_;refine C8 ty3 ?_;refine Ag (R_ne U (by exact .not1 U U U U) U (.tmp U (by exact id)) (.const U)) U ?_;refine Cf ?_;refine Ab ?_;refine C9 Df ?_;refine C8 ty3 ?_;refine Ag (R_ne U (by exact .not1 U U U U) U (.tmp U (by exact id)) (.const U)) U ?_;refine Cf ?_;refine Aa (Ai (.tm U) (fun h52=>?_) (fun h52=>?_))
   · try simp at h52
     refine Ac (Am (As [0,1,2,4,5,37] []) ?_);refine Ad (Ak ?_);refine Aa (Al (Bb U U ?_))
     unfold arity zerT;grind
   try simp at h52
   refine Aj (Ac (Am (As [0,1,2,4,5,37] []) ?_));refine Ad (Ak ?_);refine Aa (Al (Bb U U ?_))
   unfold arity zerT;grind
 try simp at h37
 refine Ae (Br ?_);refine Ah ?_;refine Aa (Ai (.tm U) (fun h53=>?_) (fun h53=>?_))
 · try simp at h53
   refine Ac (Ae (A7 Dv ?_));refine Aq ty3 ?_;refine AWl.nc ?_;refine Ab ?_;refine C9 Dp ?_;refine C8 ty3 ?_;refine Ag (R_ne U (by exact .not1 U U U U) U (.tmp U (by exact id)) (.const U)) U ?_;refine Cf ?_;refine Ab ?_;refine C9 Df ?_;refine C8 ty3 ?_;refine Ag (R_ne U (by exact .not1 U U U U) U (.tmp U (by exact id)) (.const U)) U ?_;refine Cf ?_;refine Aa (Ai (.tm U) (fun h67=>?_) (fun h67=>?_))
   · try simp at h67
     refine Ac (Am (As [0,1,2,4,5,37] []) ?_);refine Ad (Ak ?_);refine Aa (Al (Bb U U ?_))
     unfold arity zerT;grind
   try simp at h67
   refine Aj (Ac (Am (As [0,1,2,4,5,37] []) ?_));refine Ad (Ak ?_);refine Aa (Al (Bb U U ?_))
   unfold arity zerT;grind
 try simp at h53
 refine Ae (Br ?_);refine Ah ?_;refine Aa (Ai (.tm U) (fun h68=>?_) (fun h68=>?_))
 · try simp at h68
   refine Ac (Ae (A7 Dv ?_));refine Aq ty3 ?_;refine AWl.nc ?_;refine Ab ?_;refine C9 Df ?_;refine C8 ty3 ?_;refine Ag (A3 (FnT.fr (specl1In _ _ _)) U (by exact .not1 U U U U) U (.cons (.tmp U (by exact id)) U (.cons (.const U) U (.cons (.const U) U .nil)))) U ?_;refine Ag (Cy U (by exact .not1 U U U U) U (.tmp U (by exact id))) U ?_;refine Cf ?_;refine Ab ?_;refine C9 Dp ?_;refine C8 ty3 ?_;refine C9 Df ?_;refine C8 ty3 ?_;refine Ag (A3 (FnT.fr (specl1In _ _ _)) U (by exact .not1 U U U U) U (.cons (.tmp U (by exact id)) U (.cons (.const U) U (.cons (.tmp U (by exact id)) U .nil)))) U ?_;refine Ag (Cy U (by exact .not1 U U U U) U (.tmp U (by exact id))) U ?_;refine Cf ?_;refine Aa (Ai (.tm U) (fun h86=>?_) (fun h86=>?_))
   · try simp at h86
     refine Ac (Am (As [0,1,2,4,5,37] []) ?_);refine Ad (Ak ?_);refine Aa (Al (Bb U U ?_))
     unfold arity zerT;grind
   try simp at h86
   refine Aj (Ac (Am (As [0,1,2,4,5,37] []) ?_));refine Ad (Ak ?_);refine Aa (Al (Bb U U ?_))
   unfold arity zerT;grind
 try simp at h68
 refine Aj (Ae (Ak ?_));refine Aa (Al (Bb U U ?_))
 unfold arity zerT;grind
theorem impltokenOk (t:TToken):FnT Tryz.prog 179 [.agg (cToken t)] (.a (.one (.v (.bool (tokOk t))))):=by
 refine Ay Tryz.func179 U (by kernel_rfl) Tryz.ntmps179 U fun hlen w0=>?_
 try simp [cPair,cToken,cExpr,cEdge,cGraph,cStep,cWalk,cChange,cBatch,cHistory,cPositions,cAutomaton,cProductStep,cPathAtom,cConjunction,cView,cDelta,cRegistered,cRegistry] at hlen
 refine Ae (Ag (B9 U U U (.tm U) (ts:=_) (by rfl)) U ?_);refine Ak ?_;refine Aa (Ac (Ae (A7 fl137_0 ?_)));refine Aq ty3 ?_;refine Aa (AW.block (Ae (Br ?_)));refine Ah ?_;refine Aa (Ai (.tm U) (fun h5=>?_) (fun h5=>?_))
 · try simp at h5
   refine Ae (A7 Dv ?_);refine Aq ty3 ?_;refine Bl (implisLetter _) ?_;refine Ab ?_;refine Ds Dp ?_;refine Dm ty3 ?_;refine Ag (R_eq U (by exact .yes1 U U U U) U (.tmp U (by exact id)) (.const U)) U ?_;refine Cm ?_;refine Ab ?_;refine Ds Df ?_;refine Dm ty3 ?_;refine Ag (R_eq U (by exact .yes1 U U U U) U (.tmp U (by exact id)) (.const U)) U ?_;refine Cm ?_;refine Ah ?_;refine Aa (Al (Bb U U ?_))
   congr 1;unfold tokOk arity zerT;simp only [*];simp<;>(repeat' split)<;>simp_all<;>grind
 try simp at h5
 refine Ae (Br ?_);refine Ah ?_;refine Aa (Ai (.tm U) (fun h20=>?_) (fun h20=>?_))
 · try simp at h20
   refine Ae (A7 Dv ?_);refine Aq ty3 ?_;refine Br ?_;refine Ab ?_;refine Ds Dp ?_;refine Dm ty3 ?_;refine Ds Df ?_;refine Dm ty3 ?_;refine Ag (A3 (FnT.fr (implwithin _ _ _)) U (by exact .yes1 U U U U) U (.cons (.tmp U (by exact id)) U (.cons (.const U) U (.cons (.tmp U (by exact id)) U .nil)))) U ?_;refine Cm ?_;refine Ab ?_;refine Ds Df ?_;refine Dm ty3 ?_;refine Ag (A3 (FnT.fr (implwithin _ _ _)) U (by exact .yes1 U U U U) U (.cons (.tmp U (by exact id)) U (.cons (.const U) U (.cons (.const U) U .nil)))) U ?_;refine Cm ?_;refine Ah ?_;refine Aa (Al (Bb U U ?_))
   congr 1;unfold tokOk arity zerT;simp only [*];simp<;>(repeat' split)<;>simp_all<;>grind
 try simp at h20
 refine Ac (Ae (Br ?_));refine Ah ?_;refine Aa (Ai (.tm U) (fun h37=>?_) (fun h37=>?_))
 · try simp at h37
   refine Aj (Ai (.tm U) (fun h37=>?_) (fun h37=>?_))
   · try simp at h37
     refine Ac (Am (As [0,1,2,4,37] []) ?_);refine Ad (Aq Cg ?_);refine A7 fl137_0 ?_;refine Aq ty3 ?_;refine Ag (Bd (ps:=[(0,.tmp 45)]) U U U Ck U U De (.cons (.tm U) U U Cn .nil) U) U ?_;refine Ag (R_eqs U (.no U) U (.tm U) (.tm U) U U (by kernel_rfl) (eqS137 _ _ _ _ _ _ _ _)) U ?_;refine Ah ?_;refine Aa (Al (Bb U U ?_))
     congr 1;unfold tokOk arity zerT;simp only [*];simp<;>(repeat' split)<;>simp_all<;>grind
   exfalso;(try simp at h37);first|contradiction|omega|simp_all|grind
 try simp at h37
 refine Ac (Am (As [0,1,2,4,37] []) ?_);refine Ad (Br ?_);refine Ah ?_;refine Aa (Ai (.tm U) (fun h37=>?_) (fun h37=>?_))
 · try simp at h37
   refine Aj (Ai (.tm U) (fun h37=>?_) (fun h37=>?_))
   · try simp at h37
     refine Ae (Aq Cg ?_);refine A7 fl137_0 ?_;refine Aq ty3 ?_;refine Ag (Bd (ps:=[(0,.tmp 45)]) U U U Ck U U De (.cons (.tm U) U U Cn .nil) U) U ?_;refine Ag (R_eqs U (.no U) U (.tm U) (.tm U) U U (by kernel_rfl) (eqS137 _ _ _ _ _ _ _ _)) U ?_;refine Ah ?_;refine Aa (Al (Bb U U ?_))
     congr 1;unfold tokOk arity zerT;simp only [*];simp<;>(repeat' split)<;>simp_all<;>grind
   exfalso;(try simp at h37);first|contradiction|omega|simp_all|grind
 try simp at h37
 refine Ae (Br ?_);refine Ah ?_;refine Aa (Ai (.tm U) (fun h37=>?_) (fun h37=>?_))
 · try simp at h37
   refine Aj (Ai (.tm U) (fun h37=>?_) (fun h37=>?_))
   · try simp at h37
     refine Ae (Aq Cg ?_);refine A7 fl137_0 ?_;refine Aq ty3 ?_;refine Ag (Bd (ps:=[(0,.tmp 45)]) U U U Ck U U De (.cons (.tm U) U U Cn .nil) U) U ?_;refine Ag (R_eqs U (.no U) U (.tm U) (.tm U) U U (by kernel_rfl) (eqS137 _ _ _ _ _ _ _ _)) U ?_;refine Ah ?_;refine Aa (Al (Bb U U ?_))
     congr 1;unfold tokOk arity zerT;simp only [*];simp<;>(repeat' split)<;>simp_all<;>grind
   exfalso;(try simp at h37);first|contradiction|omega|simp_all|grind
 try simp at h37
 refine Ae (Br ?_);refine Ah ?_;refine Aa (Ai (.tm U) (fun h37=>?_) (fun h37=>?_))
 · try simp at h37
   refine Aj (Ai (.tm U) (fun h37=>?_) (fun h37=>?_))
   · try simp at h37
     refine Ae (Aq Cg ?_);refine A7 fl137_0 ?_;refine Aq ty3 ?_;refine Ag (Bd (ps:=[(0,.tmp 45)]) U U U Ck U U De (.cons (.tm U) U U Cn .nil) U) U ?_;refine Ag (R_eqs U (.no U) U (.tm U) (.tm U) U U (by kernel_rfl) (eqS137 _ _ _ _ _ _ _ _)) U ?_;refine Ah ?_;refine Aa (Al (Bb U U ?_))
     congr 1;unfold tokOk arity zerT;simp only [*];simp<;>(repeat' split)<;>simp_all<;>grind
   exfalso;(try simp at h37);first|contradiction|omega|simp_all|grind
 try simp at h37
 refine Ad (Br ?_);refine Ah ?_;refine Aa (Ai (.tm U) (fun h37=>?_) (fun h37=>?_))
 · try simp at h37
   refine Ae (Aq Cg ?_);refine A7 fl137_0 ?_;refine Aq ty3 ?_;refine Ag (Bd (ps:=[(0,.tmp 45)]) U U U Ck U U De (.cons (.tm U) U U Cn .nil) U) U ?_;refine Ag (R_eqs U (.no U) U (.tm U) (.tm U) U U (by kernel_rfl) (eqS137 _ _ _ _ _ _ _ _)) U ?_;refine Ah ?_;refine Aa (Al (Bb U U ?_))
   congr 1;unfold tokOk arity zerT;simp only [*];simp<;>(repeat' split)<;>simp_all<;>grind
 try simp at h37
 refine Aj (Ae (Ak ?_));refine Aa (Al (Bb U U ?_))
 congr 1;unfold tokOk arity zerT;simp only [*];simp<;>(repeat' split)<;>simp_all<;>grind
theorem specIsExpr (e:TExpr) (hz:e.Tokens.length≤1048576):FnT Tryz.prog 117 [.agg (cExpr e)] (.a (.one (.v (.bool (isExpr e.Tokens))))):=by
 refine Ay Tryz.func117 U (by kernel_rfl) Tryz.ntmps117 U fun hlen w0=>?_
 try simp [cPair,cToken,cExpr,cEdge,cGraph,cStep,cWalk,cChange,cBatch,cHistory,cPositions,cAutomaton,cProductStep,cPathAtom,cConjunction,cView,cDelta,cRegistered,cRegistry] at hlen
 refine Ae (Ag (B9 U U U (.tm U) (ts:=_) (by rfl)) U ?_);refine Ak ?_;refine Aa (Ae (Ak ?_));refine Aa (Ac (Ae (Ak ?_)));refine Aa (AW.block (Dz (fun (k:Nat) (d:Int)=>(k≤e.Tokens.length∧0≤d∧d≤k)∧isExpr e.Tokens=depthGo d (e.Tokens.drop k)) (fun (k:Nat) (d:Int)=>⟨_,[(4,(true,.a (.one (.t (.v (.int .i64 (k:Nat))))))),(3,(true,.a (.one (.t (.v (.int .i64 d)))))),(1,_)],[]⟩) (fun (k:Nat) (d:Int)=>e.Tokens.length-k) (0) (0) ⟨by simp,U⟩ (Ar U ⟨U,U,U,Y⟩ trivial) ?_))
 rintro k d ⟨hk,he⟩
 refine Ac (Ae (Ab ?_));refine A7 Cr ?_;refine Aq Dq ?_;refine Bc (.t) Tryz.underlying91 ?_;refine AWl.lt ?_;refine Aa (Ai (.tm U) (fun hlt=>?_) (fun hlt=>?_))
 · try simp at hlt
   obtain⟨t,hx⟩:∃ t,e.Tokens[k]?=some t:=⟨_,List.getElem?_eq_getElem (by omega)⟩
   rw [depthGo_drop hx] at he
   have ha:=arity_le t
   refine Aj (Ac (AW.block (Ae (A7 Cr ?_))));refine Aq Dq ?_;refine Ab ?_;refine Ag ((An U (.no U) U (.tm U) (.tm U) Tryz.underlying91 Cg (fun _=>⟨by omega,(by exact Ao (by assumption))⟩))) U ?_;refine Aq Cg ?_;refine Bl (specl8Arity _) ?_;refine Ah ?_;refine Aa (Ac (Ac (Am (As [1,3,4,5] []) ?_)));refine Ad (Ab ?_);refine AWl.lc ?_;refine Ab ?_;refine Dj ?_;refine Dj ?_;refine Ag (R_gt U (by exact .not1 U U U U) U (.tmp U (by exact id)) (.tmp U (by exact id))) U ?_;refine Cf ?_;refine Aa (Ai (.tm U) (fun h25=>?_) (fun h25=>?_))
   · try simp at h25
     refine Ac (Am (As [1,3,4,5] []) ?_);refine Ad (Ak ?_);refine Aa (Al (Bb U U ?_))
     rw [he,if_pos (by omega)]
   try simp at h25
   refine Aj (Am (As [1,3,4,5] []) ?_);refine Ad (Ab ?_);refine Ab ?_;refine Ag (Dy U (.no U) U (.tm U) (.tm U) (fun _=>by omega)) U ?_;refine A8 ?_;refine Ah ?_;refine Aa (Ad (Ab ?_));refine A8 ?_;refine Ah ?_;refine Aa ?_
   repeat (with_reducible refine Au ?_)
   refine Round2.next (k+1) (d-arity t+1) ⟨by omega,by rw [he,if_neg (by omega)]⟩ (by omega) (Ar rfl ⟨rfl,rfl,rfl,Y⟩ trivial)
 try simp at hlt
 refine Ba (Ae (Ab ?_));refine Br ?_;refine Ah ?_;refine Aa (Al (Bb U U ?_))
 rw [he,List.drop_eq_nil_of_le (show e.Tokens.length≤k by omega)];rfl
end Go.Proofs.YtdhojcaoljhbiaaGreatDoor
