import Derived.Test.YtdhojcaoljhbiaaGreatDoorAbsWxr
import Derived.Test.YtdhojcaoljhbiaaGreatDoorProg
import Derived.Deep.Slices
set_option linter.unusedVariables false
set_option linter.unusedSimpArgs false
set_option maxRecDepth 100000
namespace Go.D
open Go.Q
def cInt (x:Int):List T:=[.v (.int .i64 x)]
def cBool (x:Bool):List T:=[.v (.bool x)]
def cIntS (x:List Int):List T:=[.sl 1 (x.map cInt)]
structure TPair where
 From:Int
 To:Int
 deriving DecidableEq
def cPair (x:TPair):List T:=[.v (.int .i64 x.From),.v (.int .i64 x.To)]
theorem TPair.ext_iff' {x y:TPair}:x=y↔x.From=y.From∧x.To=y.To:=by
 cases x;cases y;simp
structure TToken where
 Kind:Int
 Letter:Int
 Low:Int
 High:Int
 deriving DecidableEq
def cToken (x:TToken):List T:=[.v (.int .i64 x.Kind),.v (.int .i64 x.Letter),.v (.int .i64 x.Low),.v (.int .i64 x.High)]
theorem TToken.ext_iff' {x y:TToken}:x=y↔x.Kind=y.Kind∧x.Letter=y.Letter∧x.Low=y.Low∧x.High=y.High:=by
 cases x;cases y;simp
structure TExpr where
 Tokens:(List TToken)
 deriving DecidableEq
def cExpr (x:TExpr):List T:=[.sl 4 (x.Tokens.map cToken)]
theorem TExpr.ext_iff' {x y:TExpr}:x=y↔x.Tokens=y.Tokens:=by
 cases x;cases y;simp
structure TEdge where
 ID:Int
 From:Int
 To:Int
 Label:Int
 deriving DecidableEq
def cEdge (x:TEdge):List T:=[.v (.int .i64 x.ID),.v (.int .i64 x.From),.v (.int .i64 x.To),.v (.int .i64 x.Label)]
theorem TEdge.ext_iff' {x y:TEdge}:x=y↔x.ID=y.ID∧x.From=y.From∧x.To=y.To∧x.Label=y.Label:=by
 cases x;cases y;simp
structure TGraph where
 Values:(List Int)
 Edges:(List TEdge)
 deriving DecidableEq
def cGraph (x:TGraph):List T:=[.sl 1 (x.Values.map cInt),.sl 4 (x.Edges.map cEdge)]
theorem TGraph.ext_iff' {x y:TGraph}:x=y↔x.Values=y.Values∧x.Edges=y.Edges:=by
 cases x;cases y;simp
structure TStep where
 Edge:Int
 Inverse:Bool
 deriving DecidableEq
def cStep (x:TStep):List T:=[.v (.int .i64 x.Edge),.v (.bool x.Inverse)]
theorem TStep.ext_iff' {x y:TStep}:x=y↔x.Edge=y.Edge∧x.Inverse=y.Inverse:=by
 cases x;cases y;simp
structure TWalk where
 Start:Int
 Steps:(List TStep)
 deriving DecidableEq
def cWalk (x:TWalk):List T:=[.v (.int .i64 x.Start),.sl 2 (x.Steps.map cStep)]
theorem TWalk.ext_iff' {x y:TWalk}:x=y↔x.Start=y.Start∧x.Steps=y.Steps:=by
 cases x;cases y;simp
structure TChange where
 Insert:Bool
 Edge:TEdge
 deriving DecidableEq
def cChange (x:TChange):List T:=[.v (.bool x.Insert),.v (.int .i64 x.Edge.ID),.v (.int .i64 x.Edge.From),.v (.int .i64 x.Edge.To),.v (.int .i64 x.Edge.Label)]
theorem TChange.ext_iff' {x y:TChange}:x=y↔x.Insert=y.Insert∧x.Edge=y.Edge:=by
 cases x;cases y;simp
structure TBatch where
 Changes:(List TChange)
 deriving DecidableEq
def cBatch (x:TBatch):List T:=[.sl 5 (x.Changes.map cChange)]
theorem TBatch.ext_iff' {x y:TBatch}:x=y↔x.Changes=y.Changes:=by
 cases x;cases y;simp
structure THistory where
 First:Int
 Graphs:(List TGraph)
 deriving DecidableEq
def cHistory (x:THistory):List T:=[.v (.int .i64 x.First),.sl 2 (x.Graphs.map cGraph)]
theorem THistory.ext_iff' {x y:THistory}:x=y↔x.First=y.First∧x.Graphs=y.Graphs:=by
 cases x;cases y;simp
structure TPositions where
 Letters:(List Int)
 First:Int
 Last:Int
 Follow:(List Int)
 Nullable:Bool
 deriving DecidableEq
def cPositions (x:TPositions):List T:=[.sl 1 (x.Letters.map cInt),.v (.int .i64 x.First),.v (.int .i64 x.Last),.sl 1 (x.Follow.map cInt),.v (.bool x.Nullable)]
theorem TPositions.ext_iff' {x y:TPositions}:x=y↔x.Letters=y.Letters∧x.First=y.First∧x.Last=y.Last∧x.Follow=y.Follow∧x.Nullable=y.Nullable:=by
 cases x;cases y;simp
structure TAutomaton where
 Start:Int
 Accept:(List Bool)
 Next:(List (List Int))
 deriving DecidableEq
def cAutomaton (x:TAutomaton):List T:=[.v (.int .i64 x.Start),.sl 1 (x.Accept.map cBool),.sl 1 (x.Next.map cIntS)]
theorem TAutomaton.ext_iff' {x y:TAutomaton}:x=y↔x.Start=y.Start∧x.Accept=y.Accept∧x.Next=y.Next:=by
 cases x;cases y;simp
structure TProductStep where
 Step:TStep
 Node:Int
 State:Int
 deriving DecidableEq
def cProductStep (x:TProductStep):List T:=[.v (.int .i64 x.Step.Edge),.v (.bool x.Step.Inverse),.v (.int .i64 x.Node),.v (.int .i64 x.State)]
theorem TProductStep.ext_iff' {x y:TProductStep}:x=y↔x.Step=y.Step∧x.Node=y.Node∧x.State=y.State:=by
 cases x;cases y;simp
structure TPathAtom where
 From:Int
 To:Int
 Expr:TExpr
 deriving DecidableEq
def cPathAtom (x:TPathAtom):List T:=[.v (.int .i64 x.From),.v (.int .i64 x.To),.sl 4 (x.Expr.Tokens.map cToken)]
theorem TPathAtom.ext_iff' {x y:TPathAtom}:x=y↔x.From=y.From∧x.To=y.To∧x.Expr=y.Expr:=by
 cases x;cases y;simp
structure TConjunction where
 VariableCount:Int
 Atoms:(List TPathAtom)
 deriving DecidableEq
def cConjunction (x:TConjunction):List T:=[.v (.int .i64 x.VariableCount),.sl 3 (x.Atoms.map cPathAtom)]
theorem TConjunction.ext_iff' {x y:TConjunction}:x=y↔x.VariableCount=y.VariableCount∧x.Atoms=y.Atoms:=by
 cases x;cases y;simp
structure TView where
 Automaton:TAutomaton
 Source:Int
 Ranks:(List Int)
 Supports:(List Int)
 deriving DecidableEq
def cView (x:TView):List T:=[.v (.int .i64 x.Automaton.Start),.sl 1 (x.Automaton.Accept.map cBool),.sl 1 (x.Automaton.Next.map cIntS),.v (.int .i64 x.Source),.sl 1 (x.Ranks.map cInt),.sl 1 (x.Supports.map cInt)]
theorem TView.ext_iff' {x y:TView}:x=y↔x.Automaton=y.Automaton∧x.Source=y.Source∧x.Ranks=y.Ranks∧x.Supports=y.Supports:=by
 cases x;cases y;simp
structure TDelta where
 Added:(List TPair)
 Removed:(List TPair)
 deriving DecidableEq
def cDelta (x:TDelta):List T:=[.sl 2 (x.Added.map cPair),.sl 2 (x.Removed.map cPair)]
theorem TDelta.ext_iff' {x y:TDelta}:x=y↔x.Added=y.Added∧x.Removed=y.Removed:=by
 cases x;cases y;simp
structure TRegistered where
 ID:Int
 Expr:TExpr
 Shared:Int
 deriving DecidableEq
def cRegistered (x:TRegistered):List T:=[.v (.int .i64 x.ID),.sl 4 (x.Expr.Tokens.map cToken),.v (.int .i64 x.Shared)]
theorem TRegistered.ext_iff' {x y:TRegistered}:x=y↔x.ID=y.ID∧x.Expr=y.Expr∧x.Shared=y.Shared:=by
 cases x;cases y;simp
structure TRegistry where
 Automata:(List TAutomaton)
 Queries:(List TRegistered)
 deriving DecidableEq
def cRegistry (x:TRegistry):List T:=[.sl 3 (x.Automata.map cAutomaton),.sl 3 (x.Queries.map cRegistered)]
theorem TRegistry.ext_iff' {x y:TRegistry}:x=y↔x.Automata=y.Automata∧x.Queries=y.Queries:=by
 cases x;cases y;simp
end Go.D
namespace Go.Q
def inB (x a b:Int):Bool:=decide (a≤x)&&decide (x≤b)
theorem eq_of_getElem? {α:Type} {l r:List α} (hl:l.length=r.length) (h:∀ i:Nat,i<l.length→l[i]?=r[i]?):l=r:=List.ext_getElem? fun i=>by
 rcases Nat.lt_or_ge i l.length with hi|hi
 · exact h i hi
 rw [List.getElem?_eq_none hi,List.getElem?_eq_none (by omega)]
theorem each_succ {α:Type} {p:α→Bool} {l:List α} {k:Nat} {x:α} (h:∀ j y,j<k→l[j]?=some y→p y=true) (hx:l[k]?=some x) (hp:p x=true):∀ j y,j<k+1→l[j]?=some y→p y=true:=fun j y hj hy=>by
 rcases Nat.lt_or_eq_of_le (Nat.le_of_lt_succ hj) with h1|rfl
 · exact h j y h1 hy
 rw [hx] at hy;cases hy;exact hp
theorem each_all {α:Type} {p:α→Bool} {l:List α} {k:Nat} (h:∀ j y,j<k→l[j]?=some y→p y=true) (hk:l.length≤k):l.all p=true:=by
 rw [List.all_eq_true]
 intro x hx
 obtain⟨j,hj,rfl⟩:=List.getElem_of_mem hx
 exact h j _ (by omega) (List.getElem?_eq_getElem hj)
theorem not_all {α:Type} {p:α→Bool} {l:List α} {k:Nat} {x:α} (hx:l[k]?=some x) (hp:p x=false):l.all p=false:=by
 rw [List.all_eq_false]
 exact⟨x,List.mem_of_getElem? hx,by rw [hp];simp⟩
def findI {α:Type} (p:α→Bool):List α→Nat→Int
 | [],_=> -1
 | x::r,k=>if p x then (k:Int) else findI p r (k+1)
theorem findI_at {α:Type} {p:α→Bool}:∀ {l:List α} {m k:Nat} {x:α},(∀ j y,j<k→l[j]?=some y→(!p y)=true)→l[k]?=some x→p x=true→findI p l m=((m+k:Nat):Int)
 | [],_,_,_,_,h,_=>by simp at h
 | y::l,m,0,x,_,h,hp=>by simp at h;subst h;simp [findI,hp]
 | y::l,m,k+1,x,hn,h,hp=>by
  have h0:=hn 0 y (by omega) rfl
  have h0':p y=false:=by simpa using h0
  rw [findI,h0',if_neg (by simp),findI_at (k:=k) (fun j z hj hz=>hn (j+1) z (by omega) (by simpa using hz)) (by simpa using h) hp]
  omega
theorem findI_none {α:Type} {p:α→Bool}:∀ {l:List α} {m k:Nat},(∀ j y,j<k→l[j]?=some y→(!p y)=true)→l.length≤k→findI p l m=-1
 | [],_,_,_,_=>rfl
 | y::l,m,0,_,h=>by simp at h
 | y::l,m,k+1,hn,h=>by
  have h0:=hn 0 y (by omega) rfl
  have h0':p y=false:=by simpa using h0
  rw [findI,h0',if_neg (by simp)]
  exact findI_none (k:=k) (fun j z hj hz=>hn (j+1) z (by omega) (by simpa using hz)) (by simpa using h)
theorem findI_lt {α:Type} {p:α→Bool}:∀ {l:List α} {m:Nat},findI p l m=-1∨∃ k x,l[k]?=some x∧p x=true∧findI p l m=((m+k:Nat):Int)
 | [],_=>.inl rfl
 | y::l,m=>by
  rw [findI]
  split
  · exact .inr ⟨0,y,rfl,by assumption,rfl⟩
  rcases findI_lt (p:=p) (l:=l) (m:=m+1) with h|⟨k,x,h1,h2,h3⟩
  · exact .inl h
  exact .inr ⟨k+1,x,by simpa using h1,h2,by rw [h3];omega⟩
theorem getD_at {α:Type} {d:α} {l:List α} {k:Nat} (h:k<l.length):l[k]?=some (l[k]?.getD d):=by rw [List.getElem?_eq_getElem h];rfl
section
open Go.RowKit
variable {P:Program} {ops:Array Oper} {o:Oper} {σ:St} {q:Bool}
theorem Cn {α:Type} {f:α→List T} {l:List α} {x:Operand} {t:TypeId} {A0:A} {k:Nat} (ho:o.op=.call { callee:=.builtin .len,args:=#[x],argTypes:=#[t] }) (hg:Grd ops o σ q) (hd:o.dst.all (fun d=>Nat.blt d σ.n)=true)
 (hx:Get σ q x A0) (hs:Sq σ A0 k (l.map f)) {e:TypeId} (hu:P.underlying t=some (.slice e)):Op1 P ops o σ (σ.put o.dst (q,.a (.one (.t (.v (.int .i64 l.length)))))):=by
 have:=R_len ho hg hd hx hs hu
 rwa [List.length_map] at this
variable {w0:Base} {Q:Exit→St→Prop} {n:Nat} {sl:List (Nat×(Bool×S))} {rs:List (Nat×R)} {ls:List Oper}
theorem A3 {d i:Nat} {t:TypeId} {cs:List T} {ag:Bool} {m:Nat} (ht:tyB P t ag m=true) (h:AWl P w0 ops Q ls ⟨n,(d,(true,.a (mkA ag ((cs.take m).map .t))))::sl,rs⟩) (ho:o.op=.load t (.tmp i):=by exact rfl) (hx:look sl i=some (true,.a (.one (.t (.ad cs)))):=by exact rfl) (hn:Nat.ble m cs.length=true:=by exact rfl) (h1:(ag||Nat.beq m 1)=true:=by exact rfl) (hg:o.guard=none:=by exact rfl) (hd:o.dst.all (fun d=>Nat.blt d n)=true:=by exact rfl) (he:o.dst=some d:=by exact rfl):AWl P w0 ops Q (o::ls) ⟨n,sl,rs⟩:=Ac (Bl ho (.no hg) hd (.tm hx) ht hn h1) he h
theorem Br {P:Program} {w0:Base} {Q:Exit→St→Prop} {ops:Array Oper} {o:Oper} {l:List Oper} {n:Nat} {sl:List (Nat×(Bool×S))} {rs:List (Nat×R)} {d:Nat} {f:FuncId} {xs:List Operand} {tys:Array TypeId} {ins:List V0} {out:V} (hf:FnT P f ins out) (h:AWl P w0 ops Q l ⟨n,(d,(true,inS out))::sl,rs⟩) (ho:o.op=.call { callee:=.value (.func f),args:=xs.toArray,argTypes:=tys }:=by exact rfl) (hg:o.guard=none:=by exact rfl) (hd:o.dst.all (fun d=>Nat.blt d n)=true:=by exact rfl) (ha:Args ⟨n,sl,rs⟩ true xs ins:=by repeat first|exact .nil|refine .cons (.tm rfl) rfl ?_|refine .cons (.const rfl) rfl ?_) (he:o.dst=some d:=by exact rfl):AWl P w0 ops Q (o::l) ⟨n,sl,rs⟩:=Ac (Bo hf.fr ho (.no hg) hd ha) he h
theorem Da {P:Program} {w0:Base} {Q:Exit→St→Prop} {ops:Array Oper} {o:Oper} {l:List Oper} {n:Nat} {sl:List (Nat×(Bool×S))} {rs:List (Nat×R)} {d i:Nat} {j g:Nat} {b:Bool} {x:A}  (h:AWl P w0 ops Q l ⟨n,(d,(b,.a (x)))::sl,rs⟩) (ho:o.op=.move (.tmp i):=by exact rfl) (hg:o.guard=some (j,true):=by exact rfl) (hj:(ops[j]?).bind (·.dst)=some g:=by exact rfl) (hb:look sl g=some (true,.a (.one (.t (.v (.bool b))))):=by exact rfl) (hgn:Nat.blt g n=true:=by exact rfl) (hx:look sl i=some (true,.a x):=by exact rfl) (hd:o.dst.all (fun d=>Nat.blt d n)=true:=by exact rfl) (he:o.dst=some d:=by exact rfl):AWl P w0 ops Q (o::l) ⟨n,sl,rs⟩:=Ac (Bh ho (.yes1 hg hj hb hgn) hd (.tmp hx fun _=>rfl)) he h
theorem AWl.ly {P:Program} {w0:Base} {Q:Exit→St→Prop} {ops:Array Oper} {o:Oper} {l:List Oper} {n:Nat} {sl:List (Nat×(Bool×S))} {rs:List (Nat×R)} {d i:Nat} {j g:Nat} {b:Bool} {t:TypeId} {cs:List T} {ag:Bool} {m:Nat} (ht:tyB P t ag m=true) (h:AWl P w0 ops Q l ⟨n,(d,(b,.a (mkA ag ((cs.take m).map .t))))::sl,rs⟩) (ho:o.op=.load t (.tmp i):=by exact rfl) (hg:o.guard=some (j,true):=by exact rfl) (hj:(ops[j]?).bind (·.dst)=some g:=by exact rfl) (hb:look sl g=some (true,.a (.one (.t (.v (.bool b))))):=by exact rfl) (hgn:Nat.blt g n=true:=by exact rfl) (hx:look sl i=some (b,.a (.one (.t (.ad cs)))):=by exact rfl) (hn:Nat.ble m cs.length=true:=by exact rfl) (h1:(ag||Nat.beq m 1)=true:=by exact rfl) (hd:o.dst.all (fun d=>Nat.blt d n)=true:=by exact rfl) (he:o.dst=some d:=by exact rfl):AWl P w0 ops Q (o::l) ⟨n,sl,rs⟩:=Ac (Bl ho (.yes1 hg hj hb hgn) hd (.tmp hx id) ht hn h1) he h
theorem AWl.fy {P:Program} {w0:Base} {Q:Exit→St→Prop} {ops:Array Oper} {o:Oper} {l:List Oper} {n:Nat} {sl:List (Nat×(Bool×S))} {rs:List (Nat×R)} {d i:Nat} {j g:Nat} {b:Bool} {t:TypeId} {k off:Nat} {cs:List T} (hf:fldB P t k off=true) (h:AWl P w0 ops Q l ⟨n,(d,(b,.a (.one (.t (.ad (cs.drop off))))))::sl,rs⟩) (ho:o.op=.fieldAddr t (.tmp i) k:=by exact rfl) (hg:o.guard=some (j,true):=by exact rfl) (hj:(ops[j]?).bind (·.dst)=some g:=by exact rfl) (hb:look sl g=some (true,.a (.one (.t (.v (.bool b))))):=by exact rfl) (hgn:Nat.blt g n=true:=by exact rfl) (hx:look sl i=some (true,.a (.one (.t (.ad cs)))):=by exact rfl) (hd:o.dst.all (fun d=>Nat.blt d n)=true:=by exact rfl) (he:o.dst=some d:=by exact rfl):AWl P w0 ops Q (o::l) ⟨n,sl,rs⟩:=Ac (Bc ho (.yes1 hg hj hb hgn) hd (.tmp hx fun _=>rfl) hf) he h
theorem Co {P:Program} {w0:Base} {Q:Exit→St→Prop} {ops:Array Oper} {o:Oper} {l:List Oper} {n:Nat} {sl:List (Nat×(Bool×S))} {rs:List (Nat×R)} {d i:Nat} {j g:Nat} {b:Bool} {x:A}  (h:AWl P w0 ops Q l ⟨n,(d,(!b,.a (x)))::sl,rs⟩) (ho:o.op=.move (.tmp i):=by exact rfl) (hg:o.guard=some (j,false):=by exact rfl) (hj:(ops[j]?).bind (·.dst)=some g:=by exact rfl) (hb:look sl g=some (true,.a (.one (.t (.v (.bool b))))):=by exact rfl) (hgn:Nat.blt g n=true:=by exact rfl) (hx:look sl i=some (true,.a x):=by exact rfl) (hd:o.dst.all (fun d=>Nat.blt d n)=true:=by exact rfl) (he:o.dst=some d:=by exact rfl):AWl P w0 ops Q (o::l) ⟨n,sl,rs⟩:=Ac (Bh ho (.not1 hg hj hb hgn) hd (.tmp hx fun _=>rfl)) he h
theorem AWl.lw {P:Program} {w0:Base} {Q:Exit→St→Prop} {ops:Array Oper} {o:Oper} {l:List Oper} {n:Nat} {sl:List (Nat×(Bool×S))} {rs:List (Nat×R)} {d i:Nat} {j g:Nat} {b:Bool} {t:TypeId} {cs:List T} {ag:Bool} {m:Nat} (ht:tyB P t ag m=true) (h:AWl P w0 ops Q l ⟨n,(d,(!b,.a (mkA ag ((cs.take m).map .t))))::sl,rs⟩) (ho:o.op=.load t (.tmp i):=by exact rfl) (hg:o.guard=some (j,false):=by exact rfl) (hj:(ops[j]?).bind (·.dst)=some g:=by exact rfl) (hb:look sl g=some (true,.a (.one (.t (.v (.bool b))))):=by exact rfl) (hgn:Nat.blt g n=true:=by exact rfl) (hx:look sl i=some (!b,.a (.one (.t (.ad cs)))):=by exact rfl) (hn:Nat.ble m cs.length=true:=by exact rfl) (h1:(ag||Nat.beq m 1)=true:=by exact rfl) (hd:o.dst.all (fun d=>Nat.blt d n)=true:=by exact rfl) (he:o.dst=some d:=by exact rfl):AWl P w0 ops Q (o::l) ⟨n,sl,rs⟩:=Ac (Bl ho (.not1 hg hj hb hgn) hd (.tmp hx id) ht hn h1) he h
theorem AWl.fw {P:Program} {w0:Base} {Q:Exit→St→Prop} {ops:Array Oper} {o:Oper} {l:List Oper} {n:Nat} {sl:List (Nat×(Bool×S))} {rs:List (Nat×R)} {d i:Nat} {j g:Nat} {b:Bool} {t:TypeId} {k off:Nat} {cs:List T} (hf:fldB P t k off=true) (h:AWl P w0 ops Q l ⟨n,(d,(!b,.a (.one (.t (.ad (cs.drop off))))))::sl,rs⟩) (ho:o.op=.fieldAddr t (.tmp i) k:=by exact rfl) (hg:o.guard=some (j,false):=by exact rfl) (hj:(ops[j]?).bind (·.dst)=some g:=by exact rfl) (hb:look sl g=some (true,.a (.one (.t (.v (.bool b))))):=by exact rfl) (hgn:Nat.blt g n=true:=by exact rfl) (hx:look sl i=some (true,.a (.one (.t (.ad cs)))):=by exact rfl) (hd:o.dst.all (fun d=>Nat.blt d n)=true:=by exact rfl) (he:o.dst=some d:=by exact rfl):AWl P w0 ops Q (o::l) ⟨n,sl,rs⟩:=Ac (Bc ho (.not1 hg hj hb hgn) hd (.tmp hx fun _=>rfl) hf) he h
theorem C1 {P:Program} {w0:Base} {Q:Exit→St→Prop} {ops:Array Oper} {o:Oper} {l:List Oper} {n:Nat} {sl:List (Nat×(Bool×S))} {rs:List (Nat×R)} {d i:Nat} {j:Nat} {b b':Bool}  (h:AWl P w0 ops Q l ⟨n,(d,(true,.a (.one (.t (.v (.bool (b&&b')))))))::sl,rs⟩) (ho:o.op=.pick (.tmp i) (.tmp j) (.const (.bool false)):=by exact rfl) (hg:o.guard=none:=by exact rfl) (hx:look sl i=some (true,.a (.one (.t (.v (.bool b))))):=by exact rfl) (hy:look sl j=some (b,.a (.one (.t (.v (.bool b'))))):=by exact rfl) (hd:o.dst.all (fun d=>Nat.blt d n)=true:=by exact rfl) (he:o.dst=some d:=by exact rfl):AWl P w0 ops Q (o::l) ⟨n,sl,rs⟩:=Ac (R_and ho (.no hg) hd (.tm hx) (.tmp hy id)) he h
theorem Ci {P:Program} {w0:Base} {Q:Exit→St→Prop} {ops:Array Oper} {o:Oper} {l:List Oper} {n:Nat} {sl:List (Nat×(Bool×S))} {rs:List (Nat×R)} {d i:Nat} {j:Nat} {b b':Bool}  (h:AWl P w0 ops Q l ⟨n,(d,(true,.a (.one (.t (.v (.bool (b||b')))))))::sl,rs⟩) (ho:o.op=.pick (.tmp i) (.const (.bool true)) (.tmp j):=by exact rfl) (hg:o.guard=none:=by exact rfl) (hx:look sl i=some (true,.a (.one (.t (.v (.bool b))))):=by exact rfl) (hy:look sl j=some (!b,.a (.one (.t (.v (.bool b'))))):=by exact rfl) (hd:o.dst.all (fun d=>Nat.blt d n)=true:=by exact rfl) (he:o.dst=some d:=by exact rfl):AWl P w0 ops Q (o::l) ⟨n,sl,rs⟩:=Ac (R_or ho (.no hg) hd (.tm hx) (.tmp hy id)) he h
theorem Cg {P:Program} {w0:Base} {Q:Exit→St→Prop} {ops:Array Oper} {o:Oper} {l:List Oper} {n:Nat} {sl:List (Nat×(Bool×S))} {rs:List (Nat×R)} {d i:Nat} {t:TypeId} {b:Bool}  (h:AWl P w0 ops Q l ⟨n,(d,(true,.a (.one (.t (.v (.bool !b))))))::sl,rs⟩) (ho:o.op=.unOp .not t (.tmp i):=by exact rfl) (hg:o.guard=none:=by exact rfl) (hx:look sl i=some (true,.a (.one (.t (.v (.bool b))))):=by exact rfl) (hd:o.dst.all (fun d=>Nat.blt d n)=true:=by exact rfl) (he:o.dst=some d:=by exact rfl):AWl P w0 ops Q (o::l) ⟨n,sl,rs⟩:=Ac (Dq ho (.no hg) hd (.tm hx)) he h
theorem Ck {P:Program} {w0:Base} {Q:Exit→St→Prop} {ops:Array Oper} {o:Oper} {l:List Oper} {n:Nat} {sl:List (Nat×(Bool×S))} {rs:List (Nat×R)} {d i:Nat} {t t':TypeId} {k:IntKind} {c m:Int}  (h:AWl P w0 ops Q l ⟨n,(d,(true,.a (.one (.t (.v (.bool (decide (c=m))))))))::sl,rs⟩) (ho:o.op=.binOp .eql t (.tmp i) (.const (.int k m)) t':=by exact rfl) (hg:o.guard=none:=by exact rfl) (hx:look sl i=some (true,.a (.one (.t (.v (.int k c))))):=by exact rfl) (hc:(Value.int k m).oneCell'=true:=by exact rfl) (hd:o.dst.all (fun d=>Nat.blt d n)=true:=by exact rfl) (he:o.dst=some d:=by exact rfl):AWl P w0 ops Q (o::l) ⟨n,sl,rs⟩:=Ac (R_eq ho (.no hg) hd (.tm hx) (.const hc)) he h
theorem AWl.nc {P:Program} {w0:Base} {Q:Exit→St→Prop} {ops:Array Oper} {o:Oper} {l:List Oper} {n:Nat} {sl:List (Nat×(Bool×S))} {rs:List (Nat×R)} {d i:Nat} {t t':TypeId} {k:IntKind} {c m:Int}  (h:AWl P w0 ops Q l ⟨n,(d,(true,.a (.one (.t (.v (.bool (!decide (c=m))))))))::sl,rs⟩) (ho:o.op=.binOp .neq t (.tmp i) (.const (.int k m)) t':=by exact rfl) (hg:o.guard=none:=by exact rfl) (hx:look sl i=some (true,.a (.one (.t (.v (.int k c))))):=by exact rfl) (hc:(Value.int k m).oneCell'=true:=by exact rfl) (hd:o.dst.all (fun d=>Nat.blt d n)=true:=by exact rfl) (he:o.dst=some d:=by exact rfl):AWl P w0 ops Q (o::l) ⟨n,sl,rs⟩:=Ac (R_ne ho (.no hg) hd (.tm hx) (.const hc)) he h
theorem AWl.lc {P:Program} {w0:Base} {Q:Exit→St→Prop} {ops:Array Oper} {o:Oper} {l:List Oper} {n:Nat} {sl:List (Nat×(Bool×S))} {rs:List (Nat×R)} {d i:Nat} {t t':TypeId} {k:IntKind} {c m:Int}  (h:AWl P w0 ops Q l ⟨n,(d,(true,.a (.one (.t (.v (.bool (decide (c<m))))))))::sl,rs⟩) (ho:o.op=.binOp .lss t (.tmp i) (.const (.int k m)) t':=by exact rfl) (hg:o.guard=none:=by exact rfl) (hx:look sl i=some (true,.a (.one (.t (.v (.int k c))))):=by exact rfl) (hc:(Value.int k m).oneCell'=true:=by exact rfl) (hd:o.dst.all (fun d=>Nat.blt d n)=true:=by exact rfl) (he:o.dst=some d:=by exact rfl):AWl P w0 ops Q (o::l) ⟨n,sl,rs⟩:=Ac (R_lt ho (.no hg) hd (.tm hx) (.const hc)) he h
theorem Db {P:Program} {w0:Base} {Q:Exit→St→Prop} {ops:Array Oper} {o:Oper} {l:List Oper} {n:Nat} {sl:List (Nat×(Bool×S))} {rs:List (Nat×R)} {d i:Nat} {t t':TypeId} {k:IntKind} {c m:Int}  (h:AWl P w0 ops Q l ⟨n,(d,(true,.a (.one (.t (.v (.bool (decide (m<c))))))))::sl,rs⟩) (ho:o.op=.binOp .gtr t (.tmp i) (.const (.int k m)) t':=by exact rfl) (hg:o.guard=none:=by exact rfl) (hx:look sl i=some (true,.a (.one (.t (.v (.int k c))))):=by exact rfl) (hc:(Value.int k m).oneCell'=true:=by exact rfl) (hd:o.dst.all (fun d=>Nat.blt d n)=true:=by exact rfl) (he:o.dst=some d:=by exact rfl):AWl P w0 ops Q (o::l) ⟨n,sl,rs⟩:=Ac (R_gt ho (.no hg) hd (.tm hx) (.const hc)) he h
theorem AWl.gd {P:Program} {w0:Base} {Q:Exit→St→Prop} {ops:Array Oper} {o:Oper} {l:List Oper} {n:Nat} {sl:List (Nat×(Bool×S))} {rs:List (Nat×R)} {d i:Nat} {t t':TypeId} {k:IntKind} {c m:Int}  (h:AWl P w0 ops Q l ⟨n,(d,(true,.a (.one (.t (.v (.bool (decide (m≤c))))))))::sl,rs⟩) (ho:o.op=.binOp .geq t (.tmp i) (.const (.int k m)) t':=by exact rfl) (hg:o.guard=none:=by exact rfl) (hx:look sl i=some (true,.a (.one (.t (.v (.int k c))))):=by exact rfl) (hc:(Value.int k m).oneCell'=true:=by exact rfl) (hd:o.dst.all (fun d=>Nat.blt d n)=true:=by exact rfl) (he:o.dst=some d:=by exact rfl):AWl P w0 ops Q (o::l) ⟨n,sl,rs⟩:=Ac (R_ge ho (.no hg) hd (.tm hx) (.const hc)) he h
theorem Cy {P:Program} {w0:Base} {Q:Exit→St→Prop} {ops:Array Oper} {o:Oper} {l:List Oper} {n:Nat} {sl:List (Nat×(Bool×S))} {rs:List (Nat×R)} {d i:Nat} {t t':TypeId} {c m:Int}  (h:AWl P w0 ops Q l ⟨n,(d,(true,.a (.one (.t (.v (.int .i64 (c-m)))))))::sl,rs⟩) (ho:o.op=.binOp .sub t (.tmp i) (.const (.int .i64 m)) t':=by exact rfl) (hg:o.guard=none:=by exact rfl) (hx:look sl i=some (true,.a (.one (.t (.v (.int .i64 c))))):=by exact rfl) (hb:-9223372036854775808≤c-m∧c-m≤9223372036854775807:=by omega) (hd:o.dst.all (fun d=>Nat.blt d n)=true:=by exact rfl) (he:o.dst=some d:=by exact rfl):AWl P w0 ops Q (o::l) ⟨n,sl,rs⟩:=Ac (Dl ho (.no hg) hd (.tm hx) (.const rfl) fun _=>hb) he h
theorem Ai {d i:Nat} {id p:Nat} {t:TypeId} {cs:List E} {ag:Bool} {m:Nat} (ht:tyB P t ag m=true) (h:AWl P w0 ops Q ls ⟨n,(d,(true,.a (mkA ag ((cs.drop p).take m))))::sl,rs⟩) (ho:o.op=.load t (.tmp i):=by exact rfl) (hx:look sl i=some (true,.a (.one (.pp id p))):=by exact rfl) (hs:look rs id=some (.box cs):=by exact rfl) (hn:Nat.ble (p+m) cs.length=true:=by exact rfl) (h1:(ag||Nat.beq m 1)=true:=by exact rfl) (hg:o.guard=none:=by exact rfl) (hd:o.dst.all (fun d=>Nat.blt d n)=true:=by exact rfl) (he:o.dst=some d:=by exact rfl):AWl P w0 ops Q (o::ls) ⟨n,sl,rs⟩:=Ac (Bm ho (.no hg) hd (.tm hx) hs ht hn h1) he h
theorem Bz {d i:Nat} {t:TypeId} {j off:Nat} {cs:List T} (hf:fldB P t j off=true) (h:AWl P w0 ops Q ls ⟨n,(d,(true,.a (.one (.t (.ad (cs.drop off))))))::sl,rs⟩) (ho:o.op=.fieldAddr t (.tmp i) j:=by exact rfl) (hx:look sl i=some (true,.a (.one (.t (.ad cs)))):=by exact rfl) (hg:o.guard=none:=by exact rfl) (hd:o.dst.all (fun d=>Nat.blt d n)=true:=by exact rfl) (he:o.dst=some d:=by exact rfl):AWl P w0 ops Q (o::ls) ⟨n,sl,rs⟩:=Ac (Bc ho (.no hg) hd (.tm hx) hf) he h
theorem A8 {d i:Nat} {id p:Nat} {t:TypeId} {j off:Nat} (hf:fldB P t j off=true) (h:AWl P w0 ops Q ls ⟨n,(d,(true,.a (.one (.pp id (p+off)))))::sl,rs⟩) (ho:o.op=.fieldAddr t (.tmp i) j:=by exact rfl) (hx:look sl i=some (true,.a (.one (.pp id p))):=by exact rfl) (hg:o.guard=none:=by exact rfl) (hd:o.dst.all (fun d=>Nat.blt d n)=true:=by exact rfl) (he:o.dst=some d:=by exact rfl):AWl P w0 ops Q (o::ls) ⟨n,sl,rs⟩:=Ac (Bk ho (.no hg) hd (.tm hx) hf) he h
theorem Bs {d i:Nat} {t t':TypeId} {c m:Int}  (h:AWl P w0 ops Q ls ⟨n,(d,(true,.a (.one (.t (.v (.int .i64 (c+m)))))))::sl,rs⟩) (ho:o.op=.binOp .add t (.tmp i) (.const (.int .i64 m)) t':=by exact rfl) (hx:look sl i=some (true,.a (.one (.t (.v (.int .i64 c))))):=by exact rfl) (hb:-9223372036854775808≤c+m∧c+m≤9223372036854775807:=by omega) (hg:o.guard=none:=by exact rfl) (hd:o.dst.all (fun d=>Nat.blt d n)=true:=by exact rfl) (he:o.dst=some d:=by exact rfl):AWl P w0 ops Q (o::ls) ⟨n,sl,rs⟩:=Ac (C5 ho (.no hg) hd (.tm hx) (.const rfl) fun _=>hb) he h
theorem AWl.lt {d i:Nat} {j:Nat} {t t':TypeId} {k:IntKind} {c m:Int}  (h:AWl P w0 ops Q ls ⟨n,(d,(true,.a (.one (.t (.v (.bool (decide (c<m))))))))::sl,rs⟩) (ho:o.op=.binOp .lss t (.tmp i) (.tmp j) t':=by exact rfl) (hx:look sl i=some (true,.a (.one (.t (.v (.int k c))))):=by exact rfl) (hy:look sl j=some (true,.a (.one (.t (.v (.int k m))))):=by exact rfl) (hg:o.guard=none:=by exact rfl) (hd:o.dst.all (fun d=>Nat.blt d n)=true:=by exact rfl) (he:o.dst=some d:=by exact rfl):AWl P w0 ops Q (o::ls) ⟨n,sl,rs⟩:=Ac (R_lt ho (.no hg) hd (.tm hx) (.tm hy)) he h
theorem AWl.eq {d i:Nat} {j:Nat} {t t':TypeId} {k:IntKind} {c m:Int}  (h:AWl P w0 ops Q ls ⟨n,(d,(true,.a (.one (.t (.v (.bool (decide (c=m))))))))::sl,rs⟩) (ho:o.op=.binOp .eql t (.tmp i) (.tmp j) t':=by exact rfl) (hx:look sl i=some (true,.a (.one (.t (.v (.int k c))))):=by exact rfl) (hy:look sl j=some (true,.a (.one (.t (.v (.int k m))))):=by exact rfl) (hg:o.guard=none:=by exact rfl) (hd:o.dst.all (fun d=>Nat.blt d n)=true:=by exact rfl) (he:o.dst=some d:=by exact rfl):AWl P w0 ops Q (o::ls) ⟨n,sl,rs⟩:=Ac (R_eq ho (.no hg) hd (.tm hx) (.tm hy)) he h
theorem Bu {d i:Nat} {α:Type} {f:α→List T} {a:List α} {t:TypeId} {A0:A} {k:Nat} {e:TypeId} (hs:Sq ⟨n,sl,rs⟩ A0 k (a.map f)) (hu:P.underlying t=some (.slice e)) (h:AWl P w0 ops Q ls ⟨n,(d,(true,.a (.one (.t (.v (.int .i64 a.length))))))::sl,rs⟩) (ho:o.op=.call { callee:=.builtin .len,args:=#[.tmp i],argTypes:=#[t] }:=by exact rfl) (hx:look sl i=some (true,.a A0):=by exact rfl) (hg:o.guard=none:=by exact rfl) (hd:o.dst.all (fun d=>Nat.blt d n)=true:=by exact rfl) (he:o.dst=some d:=by exact rfl):AWl P w0 ops Q (o::ls) ⟨n,sl,rs⟩:=Ac (Cn ho (.no hg) hd (.tm hx) hs hu) he h
theorem An {id p i j:Nat} {t:TypeId} {cs:List E} {A0:A} {ag:Bool} {m:Nat} (ht:tyB P t ag m=true) (h:AWl P w0 ops Q ls ⟨n,sl,setR rs id (.box (setC cs p (cellsA A0)))⟩) (ho:o.op=.store t (.tmp i) (.tmp j):=by exact rfl) (hg:o.guard=none:=by exact rfl) (hdn:o.dst=none:=by exact rfl) (hx:look sl i=some (true,.a (.one (.pp id p))):=by exact rfl) (hy:look sl j=some (true,.a A0):=by exact rfl) (hs:look rs id=some (.box cs):=by exact rfl) (he:(cellsA A0).all E.cell1=true:=by exact rfl) (hl:Nat.beq (cellsA A0).length m=true:=by exact rfl) (hn:Nat.ble (p+m) cs.length=true:=by exact rfl) (hv1:nvB id sl rs=true:=by kernel_rfl) (hv2:(cellsA A0).all (E.nv id)=true:=by exact rfl):AWl P w0 ops Q (o::ls) ⟨n,sl,rs⟩:=AWl.chgb (R_store_pb (σ:=⟨n,sl,rs⟩) ho hg hdn (.tm hx) (.tm hy) hs ht he hl hn hv1 hv2) h
end
end Go.Q
namespace Go.Proofs.YtdhojcaoljhbiaaGreatDoor
open Go.RowKit Go.Q
theorem ty3:tyB Tryz.prog 3 false 1=true:=by kernel_rfl
theorem in3:inZ Tryz.prog 3=some (some (.int .i64 0),1,8):=by kernel_rfl
theorem ty4:tyB Tryz.prog 4 false 1=true:=by kernel_rfl
theorem ty5:tyB Tryz.prog 5 false 1=true:=by kernel_rfl
theorem in5:inZ Tryz.prog 5=some (some (.int .u8 0),1,1):=by kernel_rfl
theorem ty9:tyB Tryz.prog 9 false 1=true:=by kernel_rfl
theorem in9:inZ Tryz.prog 9=some (some (.string .empty),1,16):=by kernel_rfl
theorem Ch:tyB Tryz.prog 24 false 1=true:=by kernel_rfl
theorem Be:tyB Tryz.prog 26 true 2=true:=by kernel_rfl
theorem C9:inZ Tryz.prog 26=some (some (.agg #[.int .i64 0,.slice none 0 0]),2,32):=by kernel_rfl
theorem st26:stB Tryz.prog 26=true:=by kernel_rfl
theorem Dj:fldB Tryz.prog 26 0 0=true:=by kernel_rfl
theorem fp26_0:(match Tryz.prog.underlying 26 with|some (.struct fs)=>(match fs[0]? with|some f=>Nat.beq f.offset 0&&(match Tryz.prog.info? f.type with|some i=>Nat.beq i.size 1|none=>false)|none=>false)|_=>false)=true:=by kernel_rfl
theorem Bn:fldB Tryz.prog 26 1 1=true:=by kernel_rfl
theorem fp26_1:(match Tryz.prog.underlying 26 with|some (.struct fs)=>(match fs[1]? with|some f=>Nat.beq f.offset 1&&(match Tryz.prog.info? f.type with|some i=>Nat.beq i.size 1|none=>false)|none=>false)|_=>false)=true:=by kernel_rfl
theorem Dm:tyB Tryz.prog 34 false 1=true:=by kernel_rfl
theorem C6:tyB Tryz.prog 35 false 1=true:=by kernel_rfl
theorem A9:tyB Tryz.prog 37 true 2=true:=by kernel_rfl
theorem Cj:inZ Tryz.prog 37=some (some (.agg #[.slice none 0 0,.slice none 0 0]),2,48):=by kernel_rfl
theorem st37:stB Tryz.prog 37=true:=by kernel_rfl
theorem Cu:fldB Tryz.prog 37 0 0=true:=by kernel_rfl
theorem fp37_0:(match Tryz.prog.underlying 37 with|some (.struct fs)=>(match fs[0]? with|some f=>Nat.beq f.offset 0&&(match Tryz.prog.info? f.type with|some i=>Nat.beq i.size 1|none=>false)|none=>false)|_=>false)=true:=by kernel_rfl
theorem Ca:fldB Tryz.prog 37 1 1=true:=by kernel_rfl
theorem fp37_1:(match Tryz.prog.underlying 37 with|some (.struct fs)=>(match fs[1]? with|some f=>Nat.beq f.offset 1&&(match Tryz.prog.info? f.type with|some i=>Nat.beq i.size 1|none=>false)|none=>false)|_=>false)=true:=by kernel_rfl
theorem Ct:tyB Tryz.prog 66 false 1=true:=by kernel_rfl
theorem Cf:tyB Tryz.prog 68 true 1=true:=by kernel_rfl
theorem Dk:inZ Tryz.prog 68=some (some (.agg #[.slice none 0 0]),1,24):=by kernel_rfl
theorem st68:stB Tryz.prog 68=true:=by kernel_rfl
theorem Bv:fldB Tryz.prog 68 0 0=true:=by kernel_rfl
theorem fp68_0:(match Tryz.prog.underlying 68 with|some (.struct fs)=>(match fs[0]? with|some f=>Nat.beq f.offset 0&&(match Tryz.prog.info? f.type with|some i=>Nat.beq i.size 1|none=>false)|none=>false)|_=>false)=true:=by kernel_rfl
theorem Ba:tyB Tryz.prog 101 true 4=true:=by kernel_rfl
theorem C0:inZ Tryz.prog 101=some (some (.agg #[.int .i64 0,.int .i64 0,.int .i64 0,.int .i64 0]),4,32):=by kernel_rfl
theorem st101:stB Tryz.prog 101=true:=by kernel_rfl
theorem eqS101 (x0:Int) (x1:Int) (x2:Int) (x3:Int) (y0:Int) (y1:Int) (y2:Int) (y3:Int) (w:World):(binOp .eql 101 (.agg (List.toArray [.int .i64 x0,.int .i64 x1,.int .i64 x2,.int .i64 x3])) (.agg (List.toArray [.int .i64 y0,.int .i64 y1,.int .i64 y2,.int .i64 y3]))).run Tryz.prog w=.ok (.bool ((decide (x0=y0)&&decide (x1=y1)&&decide (x2=y2)&&decide (x3=y3)))) w:=by
 have hs:Tryz.prog.stoodInHeld 101=false:=by kernel_rfl
 simp [go_sem,hs,Tryz.underlying101]
 repeat' split
 all_goals simp [*]
theorem neS101 (x0:Int) (x1:Int) (x2:Int) (x3:Int) (y0:Int) (y1:Int) (y2:Int) (y3:Int) (w:World):(binOp .neq 101 (.agg (List.toArray [.int .i64 x0,.int .i64 x1,.int .i64 x2,.int .i64 x3])) (.agg (List.toArray [.int .i64 y0,.int .i64 y1,.int .i64 y2,.int .i64 y3]))).run Tryz.prog w=.ok (.bool (!(decide (x0=y0)&&decide (x1=y1)&&decide (x2=y2)&&decide (x3=y3)))) w:=by
 have hs:Tryz.prog.stoodInHeld 101=false:=by kernel_rfl
 simp [go_sem,hs,Tryz.underlying101]
 repeat' split
 all_goals simp [*]
theorem Cx:fldB Tryz.prog 101 0 0=true:=by kernel_rfl
theorem fp101_0:(match Tryz.prog.underlying 101 with|some (.struct fs)=>(match fs[0]? with|some f=>Nat.beq f.offset 0&&(match Tryz.prog.info? f.type with|some i=>Nat.beq i.size 1|none=>false)|none=>false)|_=>false)=true:=by kernel_rfl
theorem fl101_1:fldB Tryz.prog 101 1 1=true:=by kernel_rfl
theorem fp101_1:(match Tryz.prog.underlying 101 with|some (.struct fs)=>(match fs[1]? with|some f=>Nat.beq f.offset 1&&(match Tryz.prog.info? f.type with|some i=>Nat.beq i.size 1|none=>false)|none=>false)|_=>false)=true:=by kernel_rfl
theorem fl101_2:fldB Tryz.prog 101 2 2=true:=by kernel_rfl
theorem fp101_2:(match Tryz.prog.underlying 101 with|some (.struct fs)=>(match fs[2]? with|some f=>Nat.beq f.offset 2&&(match Tryz.prog.info? f.type with|some i=>Nat.beq i.size 1|none=>false)|none=>false)|_=>false)=true:=by kernel_rfl
theorem fl101_3:fldB Tryz.prog 101 3 3=true:=by kernel_rfl
theorem fp101_3:(match Tryz.prog.underlying 101 with|some (.struct fs)=>(match fs[3]? with|some f=>Nat.beq f.offset 3&&(match Tryz.prog.info? f.type with|some i=>Nat.beq i.size 1|none=>false)|none=>false)|_=>false)=true:=by kernel_rfl
theorem Dc:tyB Tryz.prog 162 true 5=true:=by kernel_rfl
theorem Cz:inZ Tryz.prog 162=some (some (.agg #[.bool false,.int .i64 0,.int .i64 0,.int .i64 0,.int .i64 0]),5,40):=by kernel_rfl
theorem st162:stB Tryz.prog 162=true:=by kernel_rfl
theorem fl162_0:fldB Tryz.prog 162 0 0=true:=by kernel_rfl
theorem fp162_0:(match Tryz.prog.underlying 162 with|some (.struct fs)=>(match fs[0]? with|some f=>Nat.beq f.offset 0&&(match Tryz.prog.info? f.type with|some i=>Nat.beq i.size 1|none=>false)|none=>false)|_=>false)=true:=by kernel_rfl
theorem fl162_1:fldB Tryz.prog 162 1 1=true:=by kernel_rfl
theorem fp162_1:(match Tryz.prog.underlying 162 with|some (.struct fs)=>(match fs[1]? with|some f=>Nat.beq f.offset 1&&(match Tryz.prog.info? f.type with|some i=>Nat.beq i.size 4|none=>false)|none=>false)|_=>false)=true:=by kernel_rfl
end Go.Proofs.YtdhojcaoljhbiaaGreatDoor
namespace Go.Proofs.YtdhojcaoljhbiaaGreatDoor
open Go.RowKit Go.Q Go.D
end Go.Proofs.YtdhojcaoljhbiaaGreatDoor
namespace Go.Q
open Go.RowKit Go.ChangeShapes Go.WideShapes Go.Deep Go.D
def OpensT {α:Type} (c:α→List T) (P:Program) (t:TypeId):Prop:=
 ∀ {H:Type} {enc:TypeId×Value→H} {w:World} {base:Nat} {spare:Nat→Bool} {held:Bool} {fuel:Nat} {cs:List Value} {x:DataW H×List MemPlace},
  DataW.trod enc P w base spare held fuel t cs=some x→∃ (a:α) (F:List Nat),Cs false w (c a) cs F
theorem Cs_one {o:Bool} {w:World} {t:T} {v:Value} {F:List Nat} (h:C o w t v F):Cs o w [t] [v] F:=by
 unfold Cs
 exact⟨v,[],F,[],rfl,h,by unfold Cs;exact⟨rfl,rfl⟩,by simp⟩
theorem Cs_one_inv {o:Bool} {w:World} {t:T} {v:Value} {F:List Nat} (h:Cs o w [t] [v] F):C o w t v F:=by
 simp only [Cs] at h
 obtain⟨c,cr,G1,G2,h1,h2,⟨rfl,rfl⟩,rfl⟩:=h
 cases h1
 simpa using h2
theorem rws_build {α:Type} {c:α→List T} {w:World} {b k:Nat} (hc:∀ a,(c a).length=k):∀ (l:List α) (css:List (List Value)) (Fs:List (List Nat)) (off:Nat),css.length=l.length→Fs.length=l.length→
 (∀ (i:Nat) (x:α) (cs:List Value) (f:List Nat),l[i]?=some x→css[i]?=some cs→Fs[i]?=some f→Cs false w (c x) cs f)→
 (∀ (i:Nat) (cs:List Value) (j:Nat) (u:Value),css[i]?=some cs→cs[j]?=some u→w.cell? ⟨b,off+i*k+j,none⟩=some u)→Rws false w b k off (l.map c) Fs.flatten
 | [],css,Fs,off,h1,h2,h3,h4=>by
  have:Fs=[]:=List.eq_nil_of_length_eq_zero (by simpa using h2)
  subst this
  simp only [List.map_nil,List.flatten_nil]
  unfold Rws
  rfl
 | a::l,css,Fs,off,h1,h2,h3,h4=>by
  match css,Fs,h1,h2 with
  | cs::css,f::Fs,h1,h2=>
   have ih:=rws_build hc l css Fs (off+k) (by simpa using h1) (by simpa using h2) (fun i x cs' f' hx hcs hf=>h3 (i+1) x cs' f' (by simpa using hx) (by simpa using hcs) (by simpa using hf)) (fun i cs' j u hcs hu=>by
    have:=h4 (i+1) cs' j u (by simpa using hcs) hu
    rwa [show off+(i+1)*k+j=off+k+i*k+j by rw [Nat.succ_mul];omega] at this)
   rw [List.map_cons,List.flatten_cons]
   unfold Rws
   refine⟨f,Fs.flatten,hc a,Ms.of (h3 0 a cs f rfl rfl rfl) fun j u hj=>?_,ih,rfl⟩
   have:=h4 0 cs j u rfl hj
   simpa using this
theorem opensTSlice {α:Type} {c:α→List T} {k:Nat} {P:Program} {t e:TypeId} (ht:P.underlying t=some (.slice e)) (hk:P.cellsOf e=k) (hpos:0<k) (hc:∀ a,(c a).length=k) (he:OpensT c P e):OpensT (fun (l:List α)=>[T.sl k (l.map c)]) P t:=by
 intro H enc w base spare held fuel cs x h
 rcases open_slice ht h with ⟨rfl,_⟩|⟨a,len,cap,m,n,D,Pl,rfl,hb,hl,hm,hmm,_,hi⟩
 · refine⟨[],[],Cs_one ?_⟩
   unfold C
   exact⟨none,0,0,rfl,rfl,Nat.le_refl _,Nat.zero_le _,.inl ⟨rfl,rfl,fun h=>by cases h⟩⟩
 have hlm:len≤m:=by rw [hmm];split<;>omega
 have key:∀ q,q≤len→∃ (css:List (List Value)) (l:List α) (Fs:List (List Nat)),css.length=q∧l.length=q∧Fs.length=q∧
  (∀ (i:Nat) (x:α) (cs:List Value) (f:List Nat),l[i]?=some x→css[i]?=some cs→Fs[i]?=some f→Cs false w (c x) cs f)∧
  (∀ (i:Nat) (cs:List Value),css[i]?=some cs→w.cells? base (a.add (i*P.cellsOf e)) (P.cellsOf e)=some cs):=by
  intro q
  induction q with
  | zero=>intro _;exact⟨[],[],[],rfl,rfl,rfl,by simp,by simp⟩
  | succ q ih=>
   intro hq
   obtain⟨css,l,Fs,h1,h2,h3,h4,h5⟩:=ih (by omega)
   obtain⟨cs',hc,htr⟩:=hi q (by omega)
   obtain⟨y,f,hr⟩:=he htr
   refine⟨css++[cs'],l++[y],Fs++[f],by simp [h1],by simp [h2],by simp [h3],fun i x cs f' hx hcs hf=>?_,fun i cs hcs=>?_⟩
   · rcases Nat.lt_trichotomy i q with hlt|rfl|hgt
     · rw [List.getElem?_append_left (by omega)] at hx hcs hf
       exact h4 i x cs f' hx hcs hf
     · rw [List.getElem?_append_right (by omega),h2] at hx
       rw [List.getElem?_append_right (by omega),h1] at hcs
       rw [List.getElem?_append_right (by omega),h3] at hf
       simp at hx hcs hf
       subst hx;subst hcs;subst hf;exact hr
     rw [List.getElem?_eq_none (by simp;omega)] at hx
     cases hx
   rcases Nat.lt_trichotomy i q with hlt|rfl|hgt
   · rw [List.getElem?_append_left (by omega)] at hcs
     exact h5 i cs hcs
   · rw [List.getElem?_append_right (by omega),h1] at hcs
     simp at hcs
     subst hcs;exact hc
   rw [List.getElem?_eq_none (by simp;omega)] at hcs
   cases hcs
 obtain⟨css,l,Fs,h1,h2,h3,h4,h5⟩:=key len (Nat.le_refl _)
 by_cases h0:len=0
 · refine⟨l,[],Cs_one ?_⟩
   unfold C
   exact⟨some a,len,cap,rfl,by simpa using h2,hl,hm,.inl ⟨h0,rfl,fun h=>by cases h⟩⟩
 obtain⟨b,off,spot⟩:=a
 obtain⟨_,hlen0,hat0⟩:=World.cells?_some (h5 0 _ (List.getElem?_eq_getElem (by omega)))
 have c0:=hat0 0 (by omega)
 rw [List.getElem?_eq_getElem (by omega)] at c0
 have hlt:b<w.heap.size:=by
  have:=World.block_lt_of_cell? w _ c0
  simpa [Addr.add] using this
 have hspot:spot=none:=by
  have:=World.cell?_spot c0
  simpa [Addr.add] using this
 subst hspot
 refine⟨l,b::Fs.flatten,Cs_one ?_⟩
 unfold C
 refine⟨some ⟨b,off,none⟩,len,cap,rfl,by simpa using h2,hl,hm,.inr ⟨b,off,Fs.flatten,rfl,rfl,hlt,(by simp),rws_build hc l css Fs off (by omega) (by omega) h4 fun i cs j u hcs hu=>?_⟩⟩
 obtain⟨_,hlen',hat⟩:=World.cells?_some (h5 i cs hcs)
 have hj:j<cs.length:=(List.getElem?_eq_some_iff.1 hu).1
 have:=hat j (by omega)
 rw [hu] at this
 rw [←this,←hk]
 congr 1
 unfold Addr.add
 split<;>split<;>simp_all<;>omega
theorem OpensT.vl {α:Type} {c:α→List T} {P:Program} {t:TypeId} {v:Value} {H:Type} {enc:TypeId×Value→H} {w:World} {base:Nat} {spare:Nat→Bool} {held:Bool} {d:DataW H} {p:List MemPlace} (h:OpensT c P t)
 (hv:DataW.Trod enc P w base spare held t v d p):∃ (a:α) (F:List Nat),Cs false w (c a) v.cells.toList F:=by
 obtain⟨fuel,hf⟩:=hv
 exact h hf
end Go.Q
namespace Go.Q
open Go.RowKit Go.ChangeShapes Go.WideShapes Go.Deep Go.D
def cByte (n:Fin 256):List T:=[.v (.int .u8 (n.val:Int))]
theorem opensTByte {P:Program} {t:TypeId} (ht:P.underlying t=some (.int .u8)):OpensT cByte P t:=by
 intro H enc w base spare held fuel cs x h
 obtain⟨n,rfl,_,hw⟩:=DataW.trod_int ht h
 have hr:0≤n∧n<256:=by
  simp [Lit.wf,IntKind.min,IntKind.max] at hw
  have h1:IntKind.u8.bits=8:=rfl
  simp [IntKind.signed,h1] at hw
  omega
 obtain⟨k,rfl⟩:∃ k:Nat,n=(k:Int):=⟨n.toNat,by omega⟩
 exact⟨⟨k,by omega⟩,[],Cs_one (by unfold C;exact⟨rfl,rfl,rfl⟩)⟩
theorem byR_fin (l:List (Fin 256)):byR (l.map fun n=>(n.val:Int))=l.map cByte:=by
 unfold byR;rw [List.map_map];rfl
theorem C_fin {w:World} {l:List (Fin 256)} {v:Value} {F:List Nat} (h:C false w (.sl 1 (l.map cByte)) v F):C false w (.sl 1 (byR (l.map fun n=>(n.val:Int)))) v F:=by rw [byR_fin];exact h
theorem fin_range (l:List (Fin 256)):∀ n∈l.map (fun n=>(n.val:Int)),0≤n∧n<256:=fun n hn=>by
 obtain⟨k,_,rfl⟩:=List.mem_map.1 hn
 have:=k.isLt
 omega
end Go.Q
namespace Go.Proofs.YtdhojcaoljhbiaaGreatDoor
open Go.RowKit Go.Q Go.D
theorem lawsbig (bs:List Int):FnT Tryz.prog 5 [.one (.sl 1 (byR bs))] (.a (.one (.v (.bool (decide (1048576<bs.length)))))):=by
 refine Bb Tryz.func5 U (by kernel_rfl) Tryz.ntmps5 U fun hlen w0=>?_
 try simp [cPair,cToken,cExpr,cEdge,cGraph,cStep,cWalk,cChange,cBatch,cHistory,cPositions,cAutomaton,cProductStep,cPathAtom,cConjunction,cView,cDelta,cRegistered,cRegistry] at hlen
 refine Af (Aj ?_);refine Aa (Af (Ab ?_));refine Bu (.t) Tryz.underlying22 ?_;refine Db ?_;refine Ah ?_;refine Aa (Ap (By U U ?_))
 simp [byR];omega
end Go.Proofs.YtdhojcaoljhbiaaGreatDoor
namespace Go.Q
def eqB {α β:Type} (p:α→β→Bool):List α→List β→Bool
 | [],[]=>true
 | x::l,y::r=>p x y&&eqB p l r
 | _,_=>false
theorem eqB_len {α β:Type} {p:α→β→Bool}:∀ {l:List α} {r:List β},l.length≠r.length→eqB p l r=false
 | [],[],h=>absurd rfl h
 | [],_::_,_=>rfl
 | _::_,[],_=>rfl
 | x::l,y::r,h=>by rw [eqB,eqB_len (fun e=>h (by simp [e])),Bool.and_false]
theorem eqB_drop {α β:Type} {p:α→β→Bool} {l:List α} {r:List β} {k:Nat} {x:α} {y:β} (hx:l[k]?=some x) (hy:r[k]?=some y):eqB p (l.drop k) (r.drop k)=(p x y&&eqB p (l.drop (k+1)) (r.drop (k+1))):=by
 obtain⟨h1,rfl⟩:=List.getElem?_eq_some_iff.1 hx
 obtain⟨h2,rfl⟩:=List.getElem?_eq_some_iff.1 hy
 rw [List.drop_eq_getElem_cons h1,List.drop_eq_getElem_cons h2,eqB]
theorem eqB_end {α β:Type} {p:α→β→Bool} {l:List α} {r:List β} {k:Nat} (h1:l.length≤k) (h2:r.length≤k):eqB p (l.drop k) (r.drop k)=true:=by
 rw [List.drop_eq_nil_of_le h1,List.drop_eq_nil_of_le h2,eqB]
theorem eqB_eq {α:Type} [DecidableEq α]:∀ (l r:List α),eqB (fun x y=>decide (x=y)) l r=decide (l=r)
 | [],[]=>by simp [eqB]
 | [],_::_=>by simp [eqB]
 | _::_,[]=>by simp [eqB]
 | x::l,y::r=>by rw [eqB,eqB_eq l r];by_cases h:x=y<;>simp [h]
theorem findI_mem {α:Type} [DecidableEq α] (v:α):∀ (l:List α) (m:Nat),decide (0≤findI (fun x=>decide (v=x)) l m)=decide (v∈l)
 | [],m=>by simp [findI]
 | x::l,m=>by
  rw [findI]
  by_cases h:v=x
  · subst h;simp
  rw [if_neg (by simpa using h),findI_mem v l (m+1)];simp [h]
end Go.Q
namespace Go.Proofs.YtdhojcaoljhbiaaGreatDoor
open Go.RowKit Go.Q Go.D
theorem slicesEqualInt (l r:List Int):FnT Tryz.prog 73 [.one (.sl 1 (l.map cInt)),.one (.sl 1 (r.map cInt))] (.a (.one (.v (.bool (decide (l=r)))))):=by
 refine Bb Tryz.func73 U (by kernel_rfl) Tryz.ntmps73 U fun hlen w0=>?_
 try simp [cPair,cToken,cExpr,cEdge,cGraph,cStep,cWalk,cChange,cBatch,cHistory,cPositions,cAutomaton,cProductStep,cPathAtom,cConjunction,cView,cDelta,cRegistered,cRegistry] at hlen
 refine Af (Aj ?_);refine Aa (Ae (Af (Ab ?_)));refine Bu (.t) Tryz.underlying34 ?_;refine Ab ?_;refine Bu (.t) Tryz.underlying34 ?_;refine Ac (R_ne U (.no U) U (.tm U) (.tm U)) U ?_;refine Aa (Al (.tm U) (fun h10=>?_) (fun h10=>?_))
 · try simp at h10
   refine Af (Aj ?_);refine Aa (Ap (By U U ?_))
   congr 1;symm;exact decide_eq_false fun e=>h10 (by rw [e])
 try simp at h10
 refine Am (Ae (Af (Ab ?_)));refine Bu (.t) Tryz.underlying34 ?_;refine Ac (Bh U (.no U) U (.const U)) U ?_;refine Aa (AW.block (C8 (β:=Nat) (fun x=>x≤l.length∧∀ i,i<x→l[i]?=r[i]?) (fun x=>⟨_,[(13,(true,.a (.one (.t (.v (.int .i64 x)))))),(0,_),(1,_),(12,_)],[]⟩) (fun x=>l.length-x) (0) ⟨Nat.zero_le _,by simp⟩ (A6 U ⟨U,U,U,U,Y⟩ trivial) ?_));intro k hk
 obtain⟨hk,he⟩:=hk
 refine Af (AWl.lt ?_);refine Aa (Ae (Al (.tm U) (fun h14=>?_) (fun h14=>?_)))
 · try simp at h14
   obtain⟨x,hx⟩:∃ x,l[k]?=some x:=⟨_,List.getElem?_eq_getElem h14⟩
   obtain⟨y,hy⟩:∃ y,r[k]?=some y:=⟨_,List.getElem?_eq_getElem (by omega)⟩
   refine Am (Ae (AW.block (Af (Ab ?_))));refine Ah ?_;refine Aa (Ae (Cv 9 (nthB [[],[],[0,1],[0,1,2],[],[],[4,5],[4,5,6],[0,1,2,3,4,5,6,7]]) (by kernel_rfl) (by kernel_rfl) (by kernel_rfl) ?_));refine Bp ?_;refine Bp ?_;refine DrawC.s (fun _ hs=>(by exact Aw U (.no U) (Ag hs U) (hs.tm U) (hs.tm U) Tryz.underlying34 ty3 (fun _=>⟨by omega,(by exact A5 (by assumption))⟩))) ?_;refine Cd ty3 ?_;refine Bp ?_;refine Bp ?_;refine DrawC.s (fun _ hs=>(by exact Aw U (.no U) (Ag hs U) (hs.tm U) (hs.tm U) Tryz.underlying34 ty3 (fun _=>⟨by omega,(by exact A5 (by assumption))⟩))) ?_;refine Cd ty3 ?_;refine DrawC.s (fun _ hs=>R_ne U (.no U) (Ag hs U) (hs.tm U) (hs.tm U)) ?_;refine Cm U U ?_;refine Aa (Al (.tm U) (fun h24=>?_) (fun h24=>?_))
   · try simp at h24
     refine Ae (Ar (Av [0,1,5,12,13] []) ?_);refine Ad (Aj ?_);refine Aa (Ap (By U U ?_))
     congr 1;symm;exact decide_eq_false fun e=>by rw [e] at hx;rw [hy] at hx;cases hx;simp at h24
   try simp at h24
   have hxy:x=y:=by first|exact h24|exact Tint.ext_iff'.2 (by simpa [and_assoc] using h24)
   refine Am (Ar (Av [0,1,5,12,13] []) ?_);refine Ad (Bs ?_);refine Ab ?_;refine Aa ?_;refine Round.next (k+1) ⟨by omega,fun i hi=>by rcases Nat.lt_or_eq_of_le (Nat.le_of_lt_succ hi) with h|rfl;exact he i h;rw [hx,hy,hxy]⟩ (by omega) (A6 rfl ⟨rfl,rfl,rfl,rfl,Y⟩ trivial)
 try simp at h14
 refine Bt (Af (Aj ?_));refine Aa (Ap (By U U ?_))
 congr 1;symm;exact decide_eq_true (eq_of_getElem? (by omega) fun i hi=>he i (by omega))
theorem slicesEqualEdge (l r:List TEdge):FnT Tryz.prog 87 [.one (.sl 4 (l.map cEdge)),.one (.sl 4 (r.map cEdge))] (.a (.one (.v (.bool (decide (l=r)))))):=by
 refine Bb Tryz.func87 U (by kernel_rfl) Tryz.ntmps87 U fun hlen w0=>?_
 try simp [cPair,cToken,cExpr,cEdge,cGraph,cStep,cWalk,cChange,cBatch,cHistory,cPositions,cAutomaton,cProductStep,cPathAtom,cConjunction,cView,cDelta,cRegistered,cRegistry] at hlen
 refine Af (Aj ?_);refine Aa (Ae (Af (Ab ?_)));refine Bu (.t) Tryz.underlying35 ?_;refine Ab ?_;refine Bu (.t) Tryz.underlying35 ?_;refine Ac (R_ne U (.no U) U (.tm U) (.tm U)) U ?_;refine Aa (Al (.tm U) (fun h10=>?_) (fun h10=>?_))
 · try simp at h10
   refine Af (Aj ?_);refine Aa (Ap (By U U ?_))
   congr 1;symm;exact decide_eq_false fun e=>h10 (by rw [e])
 try simp at h10
 refine Am (Ae (Af (Ab ?_)));refine Bu (.t) Tryz.underlying35 ?_;refine Ac (Bh U (.no U) U (.const U)) U ?_;refine Aa (AW.block (C8 (β:=Nat) (fun x=>x≤l.length∧∀ i,i<x→l[i]?=r[i]?) (fun x=>⟨_,[(13,(true,.a (.one (.t (.v (.int .i64 x)))))),(0,_),(1,_),(12,_)],[]⟩) (fun x=>l.length-x) (0) ⟨Nat.zero_le _,by simp⟩ (A6 U ⟨U,U,U,U,Y⟩ trivial) ?_));intro k hk
 obtain⟨hk,he⟩:=hk
 refine Af (AWl.lt ?_);refine Aa (Ae (Al (.tm U) (fun h14=>?_) (fun h14=>?_)))
 · try simp at h14
   obtain⟨x,hx⟩:∃ x,l[k]?=some x:=⟨_,List.getElem?_eq_getElem h14⟩
   obtain⟨y,hy⟩:∃ y,r[k]?=some y:=⟨_,List.getElem?_eq_getElem (by omega)⟩
   refine Am (Ae (AW.block (Af (Ab ?_))));refine Ah ?_;refine Aa (Ae (Cv 9 (nthB [[],[],[0,1],[0,1,2],[],[],[4,5],[4,5,6],[0,1,2,3,4,5,6,7]]) (by kernel_rfl) (by kernel_rfl) (by kernel_rfl) ?_));refine Bp ?_;refine Bp ?_;refine DrawC.s (fun _ hs=>(by exact Aw U (.no U) (Ag hs U) (hs.tm U) (hs.tm U) Tryz.underlying35 Ba (fun _=>⟨by omega,(by exact A5 (by assumption))⟩))) ?_;refine Cd Ba ?_;refine Bp ?_;refine Bp ?_;refine DrawC.s (fun _ hs=>(by exact Aw U (.no U) (Ag hs U) (hs.tm U) (hs.tm U) Tryz.underlying35 Ba (fun _=>⟨by omega,(by exact A5 (by assumption))⟩))) ?_;refine Cd Ba ?_;refine DrawC.s (fun _ hs=>R_eqs U (.no U) (Ag hs U) (hs.tm U) (hs.tm U) U U (by kernel_rfl) (neS101 _ _ _ _ _ _ _ _)) ?_;refine Cm U U ?_;refine Aa (Al (.tm U) (fun h24=>?_) (fun h24=>?_))
   · try simp at h24
     refine Ae (Ar (Av [0,1,5,12,13] []) ?_);refine Ad (Aj ?_);refine Aa (Ap (By U U ?_))
     congr 1;symm;exact decide_eq_false fun e=>by rw [e] at hx;rw [hy] at hx;cases hx;simp at h24
   try simp at h24
   have hxy:x=y:=by first|exact h24|exact TEdge.ext_iff'.2 (by simpa [and_assoc] using h24)
   refine Am (Ar (Av [0,1,5,12,13] []) ?_);refine Ad (Bs ?_);refine Ab ?_;refine Aa ?_;refine Round.next (k+1) ⟨by omega,fun i hi=>by rcases Nat.lt_or_eq_of_le (Nat.le_of_lt_succ hi) with h|rfl;exact he i h;rw [hx,hy,hxy]⟩ (by omega) (A6 rfl ⟨rfl,rfl,rfl,rfl,Y⟩ trivial)
 try simp at h14
 refine Bt (Af (Aj ?_));refine Aa (Ap (By U U ?_))
 congr 1;symm;exact decide_eq_true (eq_of_getElem? (by omega) fun i hi=>he i (by omega))
theorem slicesIndexEdge (l:List TEdge) (v:TEdge):FnT Tryz.prog 174 [.one (.sl 4 (l.map cEdge)),.agg (cEdge v)] (.a (.one (.v (.int .i64 (findI (fun x=>decide (v=x)) l 0))))):=by
 refine Bb Tryz.func174 U (by kernel_rfl) Tryz.ntmps174 U fun hlen w0=>?_
 try simp [cPair,cToken,cExpr,cEdge,cGraph,cStep,cWalk,cChange,cBatch,cHistory,cPositions,cAutomaton,cProductStep,cPathAtom,cConjunction,cView,cDelta,cRegistered,cRegistry] at hlen
 refine Af (Ac (Bx U U U (.tm U) (ts:=_) (by rfl)) U ?_);refine Aj ?_;refine Aa (Ae (Af (Ab ?_)));refine Bu (.t) Tryz.underlying35 ?_;refine Ac (Bh U (.no U) U (.const U)) U ?_;refine Aa (AW.block (C8 (β:=Nat) (fun x=>x≤(l).length∧∀ j y,j<x→(l)[j]?=some y→(fun x=>!decide (v=x)) y=true) (fun x=>⟨_,[(8,(true,.a (.one (.t (.v (.int .i64 (x:Nat))))))),(0,_),(3,_),(7,_)],[]⟩) (fun x=>(l).length-x) (0) ⟨Nat.zero_le _,fun j y hj=>absurd hj (Nat.not_lt_zero j)⟩ (A6 U ⟨U,U,U,U,Y⟩ trivial) ?_));intro k hk;refine Af (AWl.lt ?_);refine Aa (Ae (Al (.tm U) (fun hlt=>?_) (fun hlt=>?_)))
 · try simp at hlt
   obtain⟨x,hx⟩:∃ ξ,(l)[k]?=some ξ:=⟨_,List.getElem?_eq_getElem (by exact hlt)⟩
   refine Am (Ae (AW.block (Af (Ab ?_))));refine Ah ?_;refine Aa (Ae (Cv 6 (nthB [[],[],[],[1,2],[1,2,3],[0,1,2,3,4]]) (by kernel_rfl) (by kernel_rfl) (by kernel_rfl) ?_));refine Cd Ba ?_;refine Bp ?_;refine Bp ?_;refine DrawC.s (fun _ hs=>(by exact Aw U (.no U) (Ag hs U) (hs.tm U) (hs.tm U) Tryz.underlying35 Ba (fun _=>⟨by omega,(by exact A5 (by assumption))⟩))) ?_;refine Cd Ba ?_;refine DrawC.s (fun _ hs=>R_eqs U (.no U) (Ag hs U) (hs.tm U) (hs.tm U) U U (by kernel_rfl) (eqS101 _ _ _ _ _ _ _ _)) ?_;refine Cm U U ?_;refine Aa (Al (.tm U) (fun h16=>?_) (fun h16=>?_))
   · try simp at h16
     refine Ae (Ar (Av [0,3,5,7,8] []) ?_);refine Ad (Ab ?_);refine Ah ?_;refine Aa (Ap (By U U ?_))
     rw [findI_at (k:=k) hk.2 hx (by grind [TEdge.ext_iff'])];simp
   try simp at h16
   refine Am (Ar (Av [0,3,5,7,8] []) ?_);refine Ad (Bs ?_);refine Ab ?_;refine Aa ?_;refine Round.next (k+1) ⟨by omega,each_succ hk.2 hx (by grind [TEdge.ext_iff'])⟩ (by omega) (A6 rfl ⟨rfl,rfl,rfl,rfl,Y⟩ trivial)
 try simp at hlt
 refine Bt (Af (Aj ?_));refine Aa (Ap (By U U ?_))
 rw [findI_none hk.2 (by omega)]
theorem slicesContainsEdge (l:List TEdge) (v:TEdge):FnT Tryz.prog 127 [.one (.sl 4 (l.map cEdge)),.agg (cEdge v)] (.a (.one (.v (.bool (decide (v∈l)))))):=by
 refine Bb Tryz.func127 U (by kernel_rfl) Tryz.ntmps127 U fun hlen w0=>?_
 try simp [cPair,cToken,cExpr,cEdge,cGraph,cStep,cWalk,cChange,cBatch,cHistory,cPositions,cAutomaton,cProductStep,cPathAtom,cConjunction,cView,cDelta,cRegistered,cRegistry] at hlen
 refine Af (Ac (Bx U U U (.tm U) (ts:=_) (by rfl)) U ?_);refine Aj ?_;refine Aa (Af (Ab ?_));refine A3 Ba ?_;refine Br (slicesIndexEdge _ _) ?_;refine AWl.gd ?_;refine Ah ?_;refine Aa (Ap (By U U ?_))
 rw [findI_mem]
theorem IndexFuncEdge (l:List TEdge) (f:FuncId) (caps:List T) (p:TEdge→Bool) (hp:∀ e,FrT Tryz.prog f ([.agg (cEdge e)]++caps.map .one) (.a (.one (.v (.bool (p e)))))):FnT Tryz.prog 221 [.one (.sl 4 (l.map cEdge)),.one (.fn (.func f) [] caps)] (.a (.one (.v (.int .i64 (findI p l 0))))):=by
 refine Bb Tryz.func221 U (by kernel_rfl) Tryz.ntmps221 U fun hlen w0=>?_
 try simp [cPair,cToken,cExpr,cEdge,cGraph,cStep,cWalk,cChange,cBatch,cHistory,cPositions,cAutomaton,cProductStep,cPathAtom,cConjunction,cView,cDelta,cRegistered,cRegistry] at hlen
 refine Af (Aj ?_);refine Aa (Ae (Af (Ab ?_)));refine Bu (.t) Tryz.underlying35 ?_;refine Ac (Bh U (.no U) U (.const U)) U ?_;refine Aa (AW.block (C8 (β:=Nat) (fun x=>x≤(l).length∧∀ j y,j<x→(l)[j]?=some y→(fun e=>!p e) y=true) (fun x=>⟨_,[(8,(true,.a (.one (.t (.v (.int .i64 (x:Nat))))))),(0,_),(1,_),(7,_)],[]⟩) (fun x=>(l).length-x) (0) ⟨Nat.zero_le _,fun j y hj=>absurd hj (Nat.not_lt_zero j)⟩ (A6 U ⟨U,U,U,U,Y⟩ trivial) ?_));intro k hk;refine Af (AWl.lt ?_);refine Aa (Ae (Al (.tm U) (fun hlt=>?_) (fun hlt=>?_)))
 · try simp at hlt
   obtain⟨x,hx⟩:∃ ξ,(l)[k]?=some ξ:=⟨_,List.getElem?_eq_getElem (by exact hlt)⟩
   refine Am (Ae (AW.block (Af (Ab ?_))));refine Ah ?_;refine Aa (Af (Ab ?_));refine Ab ?_;refine Ab ?_;refine Ac ((Aw U (.no U) U (.tm U) (.tm U) Tryz.underlying35 Ba (fun _=>⟨by omega,(by exact A5 (by assumption))⟩))) U ?_;refine A3 Ba ?_;refine Ac (R_callv U (.no U) U (.tm U) (.cons (.tm U) U .nil) (hp _)) U ?_;refine Aa (Al (.tm U) (fun h16=>?_) (fun h16=>?_))
   · try simp at h16
     refine Ae (Ar (Av [0,1,5,7,8] []) ?_);refine Ad (Ab ?_);refine Ah ?_;refine Aa (Ap (By U U ?_))
     rw [findI_at (k:=k) hk.2 hx h16];simp
   try simp at h16
   refine Am (Ar (Av [0,1,5,7,8] []) ?_);refine Ad (Bs ?_);refine Ab ?_;refine Aa ?_;refine Round.next (k+1) ⟨by omega,each_succ hk.2 hx (by simp [h16])⟩ (by omega) (A6 rfl ⟨rfl,rfl,rfl,rfl,Y⟩ trivial)
 try simp at hlt
 refine Bt (Af (Aj ?_));refine Aa (Ap (By U U ?_))
 rw [findI_none hk.2 (by omega)]
theorem EqualFuncGraph (l r:List TGraph) (f:FuncId) (caps:List T) (p:TGraph→TGraph→Bool) (hp:∀ x y,FrT Tryz.prog f ([.agg (cGraph x),.agg (cGraph y)]++caps.map .one) (.a (.one (.v (.bool (p x y)))))):FnT Tryz.prog 41 [.one (.sl 2 (l.map cGraph)),.one (.sl 2 (r.map cGraph)),.one (.fn (.func f) [] caps)] (.a (.one (.v (.bool (eqB p l r))))):=by
 refine Bb Tryz.func41 U (by kernel_rfl) Tryz.ntmps41 U fun hlen w0=>?_
 try simp [cPair,cToken,cExpr,cEdge,cGraph,cStep,cWalk,cChange,cBatch,cHistory,cPositions,cAutomaton,cProductStep,cPathAtom,cConjunction,cView,cDelta,cRegistered,cRegistry] at hlen
 refine Af (Aj ?_);refine Aa (Ae (Af (Ab ?_)));refine Bu (.t) Tryz.underlying24 ?_;refine Ab ?_;refine Bu (.t) Tryz.underlying24 ?_;refine Ac (R_ne U (.no U) U (.tm U) (.tm U)) U ?_;refine Aa (Al (.tm U) (fun h14=>?_) (fun h14=>?_))
 · try simp at h14
   refine Af (Aj ?_);refine Aa (Ap (By U U ?_))
   rw [eqB_len (by omega)]
 try simp at h14
 refine Am (Ae (Af (Ab ?_)));refine Bu (.t) Tryz.underlying24 ?_;refine Ac (Bh U (.no U) U (.const U)) U ?_;refine Aa (AW.block (C8 (β:=Nat) (fun x=>x≤l.length∧eqB p l r=eqB p (l.drop x) (r.drop x)) (fun x=>⟨_,[(17,(true,.a (.one (.t (.v (.int .i64 x)))))),(1,_),(2,_),(15,_),(16,_)],[]⟩) (fun x=>l.length-x) (0) ⟨Nat.zero_le _,U⟩ (A6 U ⟨U,U,U,U,U,Y⟩ trivial) ?_));intro k hk
 obtain⟨hk,he⟩:=hk
 refine Af (AWl.lt ?_);refine Aa (Ae (Al (.tm U) (fun hlt=>?_) (fun hlt=>?_)))
 · try simp at hlt
   obtain⟨x,hx⟩:∃ x,l[k]?=some x:=⟨_,List.getElem?_eq_getElem hlt⟩
   obtain⟨y,hy⟩:∃ y,r[k]?=some y:=⟨_,List.getElem?_eq_getElem (by omega)⟩
   rw [eqB_drop hx hy] at he
   refine Am (Ae (AW.block (Af (Ab ?_))));refine Ac ((Aw U (.no U) U (.tm U) (.tm U) Tryz.underlying24 A9 (fun _=>⟨by omega,(by exact A5 (by assumption))⟩))) U ?_;refine A3 A9 ?_;refine Au (Az 8 U U U Cj U U U) U ?_;refine Ah ?_;refine An A9 ?_;refine Aa (Af (Ab ?_));refine Ab ?_;refine Ac ((Aw U (.no U) U (.tm U) (.tm U) Tryz.underlying24 A9 (fun _=>⟨by omega,(by exact A5 (by assumption))⟩))) U ?_;refine A3 A9 ?_;refine Au (Az 9 U U U Cj U U U) U ?_;refine An A9 ?_;refine Aa (Ae (Ar (Av [1,2,7,8,9,15,16,17] [8,9]) ?_));refine Ad (Ab ?_);refine Ai A9 ?_;refine Ai A9 ?_;refine Ac (R_callv U (.no U) U (.tm U) (.cons (.tm U) U (.cons (.tm U) U .nil)) (hp _ _)) U ?_;refine Cg ?_;refine Aa (Al (.tm U) (fun h30=>?_) (fun h30=>?_))
   · try simp at h30
     refine Af (Aj ?_);refine Aa (Ap (By U U ?_))
     rw [he];simp [h30]
   try simp at h30
   refine Am (Ad (Bs ?_));refine Ab ?_;refine Aa ?_;refine Round.next (k+1) ⟨by omega,by rw [he];simp [h30]⟩ (by omega) (A6 rfl ⟨rfl,rfl,rfl,rfl,rfl,Y⟩ trivial)
 try simp at hlt
 refine Bt (Af (Aj ?_));refine Aa (Ap (By U U ?_))
 rw [he,eqB_end (by omega) (by omega)]
end Go.Proofs.YtdhojcaoljhbiaaGreatDoor
