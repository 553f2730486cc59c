import Derived.Test.YtdhojcaoljhbiaaGreatDoorB107xk
import Derived.Test.YtdhojcaoljhbiaaGreatDoorAbsJxk
import Derived.Test.YtdhojcaoljhbiaaGreatDoorAbsKxk
import Derived.Laws.Cover3
import Derived.Shelf.Bits.Mul64
import Derived.Shelf.Abstract
import Derived.Ground.NamesProg
import Derived.Test.YtdhojcaoljhbiaaGreatDoorB106xk
import Derived.Test.YtdhojcaoljhbiaaGreatDoorB08xk
import Derived.Test.YtdhojcaoljhbiaaGreatDoorPvxk
import Derived.Lib.Join
import Derived.Lib.ItoaNum
import Derived.Shelf.Strings.OnBuilder
import Derived.Shelf.Strconv.Itoa3
import Derived.Test.YtdhojcaoljhbiaaGreatDoorB26xk
import Derived.Lib.SplitLaws
import Derived.Lib.Atoi
set_option linter.unusedVariables false
set_option linter.unusedSimpArgs false
set_option maxHeartbeats 1000000
set_option maxRecDepth 100000
namespace Go.Q
open Go.D
theorem range_app {α:Type} (k:Nat) (c:α→List T) (F:Nat→List α) (y:α) {n i:Nat}:((List.range n).map fun x=>[T.sl k ((F x).map c)]).set i [T.sl k ((F i).map c++[c y])]=(List.range n).map fun x=>[T.sl k ((F x++if x=i then [y] else []).map c)]:=by
 rw [range_set]
 congr 1
 funext x
 by_cases h:x=i
 · subst h;simp
 simp [h]
theorem arcs_step {l:List TEdge} {k:Nat} {e:TEdge} (h:l[k]?=some e) (h1:0≤e.From) (h2:0≤e.To) (x:Nat):(arcsL (l.take k) x++if x=e.From.toNat then [⟨⟨e.ID,false⟩,reads e false,e.To⟩] else [])++(if x=e.To.toNat then [⟨⟨e.ID,true⟩,reads e true,e.From⟩] else [])=arcsL (l.take (k+1)) x:=by
 rw [arcsL_at h,arcsOf,List.append_assoc]
 have e1:(x=e.From.toNat)↔(e.From=(x:Int)):=by omega
 have e2:(x=e.To.toNat)↔(e.To=(x:Int)):=by omega
 simp only [e1,e2]
end Go.Q
namespace Go.Proofs.YtdhojcaoljhbiaaGreatDoor
open Go.RowKit Go.Q Go.D
theorem implarcs (g:TGraph) (hg:validG g=true):FnT Tryz.prog 231 [.agg (cGraph g)] (.a (.one (.sl 1 ((arcsV g).map cArcS)))):=by
 refine Ay Tryz.func231 U (by kernel_rfl) Tryz.ntmps231 U fun hlen w0=>?_
 try simp [cPair,cEdge,cGraph] at hlen
 have hG:=validG_len hg
 refine Ae (Ag (B9 U U U (.tm U) (ts:=_) (by rfl)) U ?_);refine Ak ?_;refine By (i:=2) 20001 1 U U ?_;refine Aa (Ae (A7 Cv ?_));refine Aq Ca ?_;refine Bc (.t) Tryz.underlying34 ?_;refine A6 (R_makeSlice 9 U U U (.tm U) Tryz.underlying245 in247 U U U U (by omega)) U ?_;refine Bt (Le.nilRow (id:=9) 4 U) ?_;refine Ah ?_;refine Aa (Ac (Ae (A7 Dr ?_)));refine Aq ty35 ?_;refine Bc (.t) Tryz.underlying35 ?_;refine Ag (Az U (.no U) U (.const U)) U ?_
 refine Aa (AW.block (Bj (fun (k:Nat)=>(k≤g.Edges.length)∧True) (fun (k:Nat)=>⟨_,[(13,(true,.a (.one (.t (.v (.int .i64 (k:Nat))))))),(3,(true,.a (.one (.rf 9)))),(2,_),(11,_),(12,_)],[(9,.row 1 ((List.range g.Values.length).map fun (x:Nat)=>[T.sl 4 ((arcsL (g.Edges.take k) x).map cArc)]))]⟩) (fun (k:Nat)=>g.Edges.length-k) (0) ⟨Nat.zero_le _,Y⟩ (Ar U ⟨U,U,U,U,U,Y⟩ ⟨congrArg (fun r=>some (R.row 1 r)) (by apply List.ext_getElem<;>simp [arcsL]),Y⟩) ?_))
 rintro k ⟨hk,he⟩
 refine Ae (AWl.lt ?_);refine Aa (Ac (Ai (.tm U) (fun h14=>?_) (fun h14=>?_)))
 · try simp at h14
   obtain⟨e,he1⟩:∃ ξ,g.Edges[k]?=some ξ:=⟨_,List.getElem?_eq_getElem (by omega)⟩
   have hE:=validG_edge hg he1
   have hL:∀ x:Int,(arcsL (g.Edges.take k) x).length≤24:=fun x=>Nat.le_trans (arcsL_len _ x) (by simp;omega)
   have hL1:=hL (e.From.toNat:Nat)
   obtain⟨F1,hF1⟩:∃ F:Nat→List TArc,F=fun (x:Nat)=>arcsL (g.Edges.take k) x++if x=e.From.toNat then [(⟨⟨e.ID,false⟩,reads e false,e.To⟩:TArc)] else []:=⟨_,rfl⟩
   have hL2:(F1 e.To.toNat).length≤25:=by (rw [hF1];have:=hL (e.To.toNat:Nat);dsimp only;rw [List.length_append];split<;>simp only [List.length_cons,List.length_nil]<;>omega)
   refine Aj (Ac (AW.block (Ae (Ag (An U (.no U) U (.tm U) (.tm U) Tryz.underlying35 ty101 (fun _=>⟨by omega,Ao he1⟩)) U ?_))));refine Aq ty101 ?_;refine A6 (Bo 5 U U U in101 U U U) U ?_;refine A4 ty101 ?_;refine Aa (Ac (Am (σ':=⟨_,[(2,_),(3,_),(5,_),(11,_),(12,_),(13,_)],[(9,.row 1 ((List.range g.Values.length).map fun (x:Nat)=>[T.sl 4 ((arcsL (g.Edges.take k) x).map cArc)])),(5,.box [.t (.v (.int .i64 e.ID)),.t (.v (.int .i64 e.From)),.t (.v (.int .i64 e.To)),.t (.v (.int .i64 e.Label))])]⟩) Bm ?_));refine AW.takeR (id:=9) (i:=e.From.toNat) (p:=0) 241 242 U (range_get _ (by omega)) U (fun _=>rfl) (fun _=>rfl) fun c24=>?_
   refine AW.drawA 17 (nthB [[],[],[1],[],[],[4],[3,4,5],[3,4,5,6],[],[8],[8,9],[],[11],[],[13],[8,9,10,11,12,13,14],[8,9,10,11,12,13,14,15],[3,4,5,6,7,8,9,10,11,12,13,14,15,16]]) 241 34 (.row 4 ((arcsL (g.Edges.take k) (e.From.toNat:Nat)).map cArc++[cArc ⟨⟨e.ID,false⟩,reads e false,e.To⟩])) (true,.a (.one (.rf 241))) ⟨_,[(2,_),(3,_),(5,_),(11,_),(12,_),(13,_)],[(9,_),(5,_)]⟩ (by kernel_rfl) (by kernel_rfl) (by kernel_rfl) Bk Bk U U ?_;refine DrawG.mv ?_;refine DrawG.s (fun _ hs=>(by exact Av U (.no U) (Af hs U) (hs.tm U) fl101_1)) ?_;refine DrawG.s (fun _ hs=>(by exact Ax U (.no U) (Af hs U) (hs.tm U) (hs.res _ _ U) ty3 U U)) ?_;refine DrawG.mv ?_;refine DrawG.s (fun _ hs=>(by exact Av U (.no U) (Af hs U) (hs.tm U) fl101_1)) ?_;refine DrawG.s (fun _ hs=>(by exact Ax U (.no U) (Af hs U) (hs.tm U) (hs.res _ _ U) ty3 U U)) ?_
   refine DrawG.s (fun _ hs=>(by exact Be U (.no U) (Af hs U) (hs.tm U) (hs.res _ _ U) (hs.tm U) Tryz.underlying245 ty247 (fun _=>⟨by omega,set_at _ (range_get _ (by omega))⟩))) ?_;refine DrawG.s (fun _ hs=>(by exact Bx U (.no U) (Af hs U) (hs.tm U) (hs.res _ _ U) (set_at _ (range_get _ (by omega))) ty247 U U)) ?_;refine DrawG.s (fun _ hs=>(by exact Av U (.no U) (Af hs U) (hs.tm U) fl101_0)) ?_;refine DrawG.s (fun _ hs=>(by exact Ax U (.no U) (Af hs U) (hs.tm U) (hs.res _ _ U) ty3 U U)) ?_;refine DrawG.s (fun _ hs=>Bd (ps:=[(0,.tmp 26)]) U U (Af hs U) in249 U U st249 (.cons (hs.tm U) U U fp249_0 .nil) U) ?_;refine DrawG.s (fun _ hs=>(by exact Ax U (.no U) (Af hs U) (hs.tm U) (hs.res _ _ U) ty101 U U)) ?_;refine DrawG.s (fun _ hs=>A3 (FnT.fr (implreads _ _ (by omega))) U (.no U) (Af hs U) (.cons (hs.tm U) (readA_sup hs U) (.cons (.const U) (readA_sup hs U) .nil))) ?_
   refine DrawG.s (fun _ hs=>(by exact Av U (.no U) (Af hs U) (hs.tm U) fl101_2)) ?_;refine DrawG.s (fun _ hs=>(by exact Ax U (.no U) (Af hs U) (hs.tm U) (hs.res _ _ U) ty3 U U)) ?_;refine DrawG.s (fun _ hs=>Bd (ps:=[(0,.tmp 27),(1,.tmp 29),(2,.tmp 31)]) U U (Af hs U) in251 U U st251 (.cons (hs.tm U) U U fp251_0 (.cons (hs.tm U) U U fp251_1 (.cons (hs.tm U) U U fp251_2 .nil))) U) ?_;refine DrawG.s (fun _ hs=>Di (xs:=[.tmp 32]) (rows:=[cArc ⟨⟨e.ID,false⟩,reads e false,e.To⟩]) U U (Af hs U) (.cons (hs.tm U) U U .nil) Tryz.underlying247 in251 U U (U)) ?_
   refine DrawG.fin U (FinA.mk U U (fun σ' hs=>R_append_hd (id:=241) (hid:=242) U U (Af hs U) (hs.tm U) (hs.res _ _ U) (hs.res _ _ U) (hs.tm U) (by exact .t) (by rfl) Tryz.underlying247 in251 U (by (simp only [List.length_map,List.length_append,List.length_cons,List.length_nil,chunk];omega)) (by (unfold maxLen;simp only [List.length_map,List.length_append,List.length_cons,List.length_nil,chunk];omega))) U ?_);refine Bt (As [2,3,5,11,12,13,17,19,34] [9,5,241]) ?_;refine Ag ((Be U (.no U) U (.tm U) U (.tm U) Tryz.underlying245 ty247 (fun _=>⟨by omega,set_at _ (range_get _ (by omega))⟩))) U ?_;refine C3 (Dc U U U (.tm U) U (.tm U) U (set_at _ (range_get _ (by omega))) ty247 U U U U) ?_
   refine Aa (Am (σ':=⟨_,[(2,_),(3,_),(5,_),(11,_),(12,_),(13,_)],[(9,.row 1 ((List.range g.Values.length).map fun (x:Nat)=>[T.sl 4 ((F1 x).map cArc)])),(5,.box [.t (.v (.int .i64 e.ID)),.t (.v (.int .i64 e.From)),.t (.v (.int .i64 e.To)),.t (.v (.int .i64 e.Label))])]⟩) (Ar U ⟨U,U,U,U,U,U,Y⟩ ⟨congrArg (fun r=>some (R.row 1 r)) (by simp only [List.set_set];refine (range_app 4 cArc _ _).trans ?_;rw [hF1]),U,Y⟩) ?_);refine AW.takeR (id:=9) (i:=e.To.toNat) (p:=0) 431 432 U (range_get _ (by omega)) U (fun _=>rfl) (fun _=>rfl) fun c43=>?_
   refine AW.drawA 17 (nthB [[],[],[1],[],[],[4],[3,4,5],[3,4,5,6],[],[8],[8,9],[],[11],[],[13],[8,9,10,11,12,13,14],[8,9,10,11,12,13,14,15],[3,4,5,6,7,8,9,10,11,12,13,14,15,16]]) 431 53 (.row 4 ((F1 e.To.toNat).map cArc++[cArc ⟨⟨e.ID,true⟩,reads e true,e.From⟩])) (true,.a (.one (.rf 431))) ⟨_,[(2,_),(3,_),(5,_),(11,_),(12,_),(13,_)],[(9,_),(5,_)]⟩ (by kernel_rfl) (by kernel_rfl) (by kernel_rfl) Bk Bk U U ?_;refine DrawG.mv ?_;refine DrawG.s (fun _ hs=>(by exact Av U (.no U) (Af hs U) (hs.tm U) fl101_2)) ?_;refine DrawG.s (fun _ hs=>(by exact Ax U (.no U) (Af hs U) (hs.tm U) (hs.res _ _ U) ty3 U U)) ?_;refine DrawG.mv ?_;refine DrawG.s (fun _ hs=>(by exact Av U (.no U) (Af hs U) (hs.tm U) fl101_2)) ?_;refine DrawG.s (fun _ hs=>(by exact Ax U (.no U) (Af hs U) (hs.tm U) (hs.res _ _ U) ty3 U U)) ?_
   refine DrawG.s (fun _ hs=>(by exact Be U (.no U) (Af hs U) (hs.tm U) (hs.res _ _ U) (hs.tm U) Tryz.underlying245 ty247 (fun _=>⟨by omega,set_at _ (range_get _ (by omega))⟩))) ?_;refine DrawG.s (fun _ hs=>(by exact Bx U (.no U) (Af hs U) (hs.tm U) (hs.res _ _ U) (set_at _ (range_get _ (by omega))) ty247 U U)) ?_;refine DrawG.s (fun _ hs=>(by exact Av U (.no U) (Af hs U) (hs.tm U) fl101_0)) ?_;refine DrawG.s (fun _ hs=>(by exact Ax U (.no U) (Af hs U) (hs.tm U) (hs.res _ _ U) ty3 U U)) ?_;refine DrawG.s (fun _ hs=>Bd (ps:=[(0,.tmp 45),(1,.const (.bool true))]) U U (Af hs U) in249 U U st249 (.cons (hs.tm U) U U fp249_0 (.cons (.const U) U U fp249_1 .nil)) U) ?_;refine DrawG.s (fun _ hs=>(by exact Ax U (.no U) (Af hs U) (hs.tm U) (hs.res _ _ U) ty101 U U)) ?_
   refine DrawG.s (fun _ hs=>A3 (FnT.fr (implreads _ _ (by omega))) U (.no U) (Af hs U) (.cons (hs.tm U) (readA_sup hs U) (.cons (.const U) (readA_sup hs U) .nil))) ?_;refine DrawG.s (fun _ hs=>(by exact Av U (.no U) (Af hs U) (hs.tm U) fl101_1)) ?_;refine DrawG.s (fun _ hs=>(by exact Ax U (.no U) (Af hs U) (hs.tm U) (hs.res _ _ U) ty3 U U)) ?_;refine DrawG.s (fun _ hs=>Bd (ps:=[(0,.tmp 46),(1,.tmp 48),(2,.tmp 50)]) U U (Af hs U) in251 U U st251 (.cons (hs.tm U) U U fp251_0 (.cons (hs.tm U) U U fp251_1 (.cons (hs.tm U) U U fp251_2 .nil))) U) ?_;refine DrawG.s (fun _ hs=>Di (xs:=[.tmp 51]) (rows:=[cArc ⟨⟨e.ID,true⟩,reads e true,e.From⟩]) U U (Af hs U) (.cons (hs.tm U) U U .nil) Tryz.underlying247 in251 U U (U)) ?_
   refine DrawG.fin U (FinA.mk U U (fun σ' hs=>R_append_hd (id:=431) (hid:=432) U U (Af hs U) (hs.tm U) (hs.res _ _ U) (hs.res _ _ U) (hs.tm U) (by exact .t) (by rfl) Tryz.underlying247 in251 U (by (simp [chunk];omega)) (by (unfold maxLen;simp [chunk];omega))) U ?_);refine Bt (As [2,3,5,11,12,13,36,38,53] [9,5,431]) ?_;refine Ag ((Be U (.no U) U (.tm U) U (.tm U) Tryz.underlying245 ty247 (fun _=>⟨by omega,set_at _ (range_get _ (by omega))⟩))) U ?_;refine C3 (Dc U U U (.tm U) U (.tm U) U (set_at _ (range_get _ (by omega))) ty247 U U U U) ?_;refine Aa (Ad (A8 ?_));refine Ab ?_;refine Aa ?_
   repeat (with_reducible refine Au ?_)
   refine Round1.next (k+1) ⟨by omega,Y⟩ (by omega) (Ar rfl ⟨rfl,rfl,rfl,rfl,rfl,Y⟩ ⟨congrArg (fun r=>some (R.row 1 r)) (by simp only [List.set_set];refine (range_app 4 cArc _ _).trans ?_;rw [hF1];congr 1;funext x;rw [arcs_step he1 hE.1 hE.2.2.1]),Y⟩)
 try simp at h14
 refine Ba (Ae (Ab ?_));refine Ah ?_;refine Aa (Al (Res.one U (.tmp U .nil) U ?_))
 unfold arcsV;rw [List.map_map,List.take_of_length_le (by omega)];rfl
end Go.Proofs.YtdhojcaoljhbiaaGreatDoor
namespace Go.Q
open Go.RowKit
section
variable {P:Program}
theorem Op1.le {ops:Array Oper} {o:Oper} {σ σ' σ2:St} (h:Op1 P ops o σ σ2) (hs:Sup σ' σ2):Op1 P ops o σ σ':=fun w0 a w hr K Q' hK=>h w0 a w hr K Q' fun a' w' hr'=>hK a' w' (Rel.of_look hr' hs.n.symm (fun t x h=>hs.slots t x h) (fun t x h=>hs.res t x h))
def FinS (P:Program) (w0:Base) (Q:Exit→St→Prop) (M e:Nat) (B:Nat→List Nat) (l:List Oper) (n:Nat) (sl:List (Nat×(Bool×S))) (rs:List (Nat×R)) (outs:List Out):Prop:=
 delS (outs.map (·.1)) sl=sl∧outB B ⟨n,sl,rs⟩ outs=true∧∃ σA σ1 σF,(∀ o,l[M]?=some o→Op1 P l.toArray o (stL (fun _=>true) 0 outs ⟨n,sl,rs⟩) σA)∧(∀ o,l[M]?=some o→Op1 P l.toArray o (stL (fun j=>!(Nat.beq j e)) 0 outs ⟨n,sl,rs⟩) σ1)∧
 (∀ o,l[e]?=some o→Op1 P l.toArray o σ1 σF)∧Sup σF σA∧AWl P w0 l.toArray Q (l.drop (M+1)) σF
theorem FinS.mk {w0:Base} {Q:Exit→St→Prop} {M e:Nat} {B:Nat→List Nat} {l:List Oper} {n:Nat} {sl:List (Nat×(Bool×S))} {rs:List (Nat×R)} {outs:List Out} {oM oE:Oper} {σA σ1 σE:St} (σF:St) (hd:delS (outs.map (·.1)) sl=sl) (hU:outB B ⟨n,sl,rs⟩ outs=true) (hM:l[M]?=some oM) (hE:l[e]?=some oE)
 (hA:Op1 P l.toArray oM (stL (fun _=>true) 0 outs ⟨n,sl,rs⟩) σA) (h1:Op1 P l.toArray oM (stL (fun j=>!(Nat.beq j e)) 0 outs ⟨n,sl,rs⟩) σ1) (hEE:Op1 P l.toArray oE σ1 σE) (hF:Sup σF σA) (hF2:Sup σF σE) (hfin:AWl P w0 l.toArray Q (l.drop (M+1)) σF):FinS P w0 Q M e B l n sl rs outs:=
 ⟨hd,hU,σA,σ1,σF,fun o h=>by rw [hM] at h;cases h;exact hA,fun o h=>by rw [hM] at h;cases h;exact h1,fun o h=>by rw [hE] at h;cases h;exact hEE.le hF2,hF,hfin⟩
end
end Go.Q
namespace Go.Q
open Go.RowKit
section
variable {P:Program}
def EndQ (σt:St):Exit→St→Prop
 | .normal,σ=>Le σ σt
 | _,_=>False
theorem EndQ.run {ops:Array Oper} {o:Oper} {σ σt:St} (h:∀ w0,AWl P w0 ops (EndQ σt) [o] σ) {w0:Base} {a:Act} {w:World} (hr:Rel w0 σ a w) (K:Act→World→Prop) (Q:Exit→Act→World→Prop) (hK:∀ a' w',Rel w0 σt a' w'→K a' w') :
 if Region.wanted o (yielded ops a.tmps) then o.wp P a w K Q else K (a.put o.dst undef) w:=by
 have h1:=h w0 a w hr
 unfold wpList at h1
 have hN:∀ a' w',wpList P ops (lift w0 (EndQ σt)) [] a' w'→K a' w':=fun a' w' h=>by
  obtain⟨σ',h2,h3⟩:=h
  exact hK a' w' (h2 w0 a' w' h3)
 have hF:∀ e a' w',e≠Exit.normal→lift w0 (EndQ σt) e a' w'→False:=fun e a' w' he h=>by
  obtain⟨σ',h2,h3⟩:=h
  cases e<;>first|exact he rfl|exact h2
 have hL:LetsOut (lift w0 (EndQ σt))→False:=fun ⟨a',w',h⟩=>hF _ a' w' (by simp) h
 split
 · rename_i hw
   rw [if_pos hw] at h1
   rcases h1 with h1|⟨_,h1⟩
   · unfold Oper.wp at *
     generalize (execOp a.eval o).run P w=r at *
     cases r with
     | ok n w'=>
      cases n<;>simp only [Oper.upon] at h1 ⊢<;>
       first
        | exact hN _ _ h1
        | exact Calls.mono h1 (fun e w'' he=>by cases e<;>first|exact hN _ _ he|exact (hL he).elim|exact (hF _ _ _ (by simp) he).elim)
        | exact Rows.mono h1 (fun _ _ he=>hN _ _ he)
     | halt x w'=>cases x<;>simp only [Oper.upon] at h1 ⊢<;>first|exact h1.elim|exact (hF _ _ _ (by simp) h1).elim
   exact (hL h1).elim
 rename_i hw
 rw [if_neg hw] at h1
 exact hN _ _ h1
theorem Bg {P:Program} {w0:Base} {ops:Array Oper} {σ s:St} {sl:List (Nat×(Bool×S))} {rs:List (Nat×R)} (ks js:List Nat) (h:SelL σ.slots ks sl:=by (repeat (apply SelL.cons;exact rfl));exact .nil) (h':SelL σ.res js rs:=by (repeat (apply SelL.cons;exact rfl));exact .nil) (e:s=⟨σ.n,sl,rs⟩:=by exact rfl):AWl P w0 ops (EndQ s) [] σ:=Aa (by subst e;exact As ks js h h')
def dagB (l:List Oper) (N:Nat) (ms:List (List Nat)) (es:List (Nat×Nat×Nat)) (k:Nat):Bool:=
 (List.range ms.length).all (fun a=>match ms[a]? with
  | none=>false
  | some m=>((List.range N).all (fun i=>memN m i||(match l[i]? with
   | none=>false
   | some o=>!((deps o).all (memN m))||es.any (fun e=>Nat.beq e.1 a&&Nat.beq e.2.1 i&&(match ms[e.2.2]? with
    | none=>false
    | some m'=>(List.range N).all fun j=>memN m' j == (Nat.beq j i||memN m j))))))&&
   (Nat.beq a k||(List.range N).any (fun i=>!(memN m i))))&&
 (match ms with|[]::_=>true|_=>false)
theorem AW.dag {w0:Base} {Q:Exit→St→Prop} {σ:St} {id:Nat} {l:List Oper} (N k:Nat) (ms:List (List Nat)) (es:List (Nat×Nat×Nat)) (st:Nat→St) (hm:P.follows .mixedOrders=true) (hB:planC l.toArray N=true) (hP:dagB l N ms es k=true)
 (hes:∀ e∈es,∀ o,l[e.2.1]?=some o→∀ w0,AWl P w0 l.toArray (EndQ (st e.2.2)) [o] (st e.1)) (hσ:Le σ (st 0)) (hfin:AWl P w0 l.toArray Q (l.drop N) (st k)):AW P w0 (.region id l.toArray true) Q σ:=by
 intro a w hr;refine wp_region_any hm ?_
 simp only [dagB,Bool.and_eq_true] at hP
 obtain⟨hP,hms⟩:=hP
 have hms0:ms[0]?=some []:=by
  match ms,hms with
  | []::_,_=>rfl
 have hlN:N≤l.length:=by
  have hB':=hB
  simp only [planC,Bool.and_eq_true,decide_eq_true_eq] at hB'
  simpa using hB'.1.1.1
 have hdep:∀ i o,i<N→l[i]?=some o→∀ j∈deps o,j<N:=fun i o hi ho j hj=>by
  have hB':=hB
  simp only [planC,Bool.and_eq_true,decide_eq_true_eq] at hB'
  have:=List.all_eq_true.1 hB'.1.1.2 i (List.mem_range.2 hi)
  have ho':l.toArray[i]?=some o:=by simpa using ho
  rw [ho'] at this
  have:=List.all_eq_true.1 this j hj
  simp only [decide_eq_true_eq] at this
  omega
 have hat:∀ (b:Nat) (m:List Nat),ms[b]?=some m→((∀ i,i<N→memN m i=false→∀ o,l[i]?=some o→(∀ j∈deps o,memN m j=true)→∃ e∈es,e.1=b∧e.2.1=i∧∃ m',ms[e.2.2]?=some m'∧∀ j,j<N→memN m' j=(Nat.beq j i||memN m j))∧((∀ i,i<N→memN m i=true)→b=k)):=by
  intro b m hb
  have:=List.all_eq_true.1 hP b (List.mem_range.2 (List.getElem?_eq_some_iff.1 hb).1)
  rw [hb] at this
  simp only [Bool.and_eq_true] at this
  refine⟨fun i hi hu o ho hd=>?_,fun hall=>?_⟩
  · have:=List.all_eq_true.1 this.1 i (List.mem_range.2 hi)
    rw [hu,Bool.false_or,ho] at this
    simp only [Bool.or_eq_true,Bool.not_eq_true'] at this
    rcases this with h|h
    · rw [List.all_eq_true.2 hd] at h;cases h
    obtain⟨e,he,h⟩:=List.any_eq_true.1 h
    simp only [Bool.and_eq_true] at h
    obtain⟨⟨h1,h2⟩,h3⟩:=h
    refine⟨e,he,Nat.eq_of_beq_eq_true h1,Nat.eq_of_beq_eq_true h2,?_⟩
    split at h3
    · cases h3
    rename_i m' hm'
    exact⟨m',hm',fun j hj=>by simpa using List.all_eq_true.1 h3 j (List.mem_range.2 hj)⟩
  have h2:=this.2
  simp only [Bool.or_eq_true] at h2
  rcases h2 with h|h
  · exact Nat.eq_of_beq_eq_true h
  obtain⟨i,hi,h⟩:=List.any_eq_true.1 h
  rw [hall i (List.mem_range.1 hi)] at h;cases h
 have H:=wpAny_inv (P:=P) (Q:=lift w0 Q) (J:=fun listed a w=>∃ b m,ms[b]?=some m∧(∀ j,j<N→memN m j=listed.getD j false)∧Rel w0 (st b) a w) hB (fun i o hi ho listed a w inv hd hu hJ=>?_) (fun listed a w hall hJ=>?_)
  (unl N (Array.replicate l.toArray.size false)) (Array.replicate l.toArray.size false) a { w with drawn:=w.drawn+1 } rfl
  ⟨by simp,fun j oj _ hl=>(by rw [getD_replicate_false] at hl;cases hl),fun t _ ht=>getD_in (by simpa using ht) (getD_replicate_false _ _)⟩ ?_
 · have hu:unl N (Array.replicate l.toArray.size false)=N:=by
    unfold unl
    rw [List.countP_eq_length.2 (fun j _=>by rw [getD_replicate_false];rfl),List.length_range]
   rw [hu,show N+(l.toArray.size-N)=l.toArray.size by simp;omega] at H
   exact H
 · obtain⟨b,m,hb,hmj,hr⟩:=hJ
   have ho0:l[i]?=some o:=by simpa using ho
   obtain⟨e,he,rfl,rfl,m',hm',hj'⟩:=(hat b m hb).1 i hi (by rw [hmj i hi];exact hu) o ho0 fun j hj=>by rw [hmj j (hdep i o hi ho0 j hj)];exact hd j hj
   intro K Q' hK;refine EndQ.run (hes e he o ho0) hr K Q' fun a' w' hr'=>hK a' w' ⟨e.2.2,m',hm',fun j hj=>?_,hr'⟩
   rw [hj' j hj,hmj j hj]
   by_cases ej:j=e.2.1
   · subst ej
     have:e.2.1<listed.size:=by rw [inv.size];simp;omega
     simp [this,Nat.beq_refl]
   rw [beq_false ej,Bool.false_or,getD_set_ne false (fun h=>ej h.symm)]
 · obtain⟨b,m,hb,hmj,hr⟩:=hJ
   have:=(hat b m hb).2 fun i hi=>by rw [hmj i hi];exact hall i hi
   subst this;exact hfin a w hr
 refine⟨0,[],hms0,fun j _=>by rw [getD_replicate_false];rfl,?_⟩
 obtain⟨I,hI⟩:=hσ w0 a w hr
 exact⟨I,hI.later (Ext.refl w).drawn⟩
structure Dag (P:Program) (l:List Oper) (acc:List (Nat×St)) (es:List (Nat×Nat×Nat)) (Fin:(Nat→St)→Prop):Prop where
 pf:∃ st:Nat→St,(∀ k σ,look acc k=some σ→st k=σ)∧(∀ e∈es,∀ o,l[e.2.1]?=some o→∀ w0,AWl P w0 l.toArray (EndQ (st e.2.2)) [o] (st e.1))∧Fin st
variable {l:List Oper} {acc:List (Nat×St)} {es:List (Nat×Nat×Nat)} {Fin:(Nat→St)→Prop}
theorem Bv {a i b:Nat} {σ σ':St} {o:Oper} (ha:look acc a=some σ) (ho:l[i]?=some o) (hb:look acc b=none) (hE:∀ w0,AWl P w0 l.toArray (EndQ σ') [o] σ) (h:Dag P l ((b,σ')::acc) es Fin):Dag P l acc ((a,i,b)::es) Fin:=by
 obtain⟨st,h1,h2,h3⟩:=h.pf
 have hne:b≠a:=fun e=>by subst e;rw [hb] at ha;cases ha
 have h1':∀ k σ,look acc k=some σ→st k=σ:=fun k σ hk=>h1 k σ (by
  rw [look_cons,if_neg (fun e=>?_)]
  · exact hk
  subst e;rw [hb] at hk;cases hk)
 refine⟨st,h1',fun e he o' ho' w0=>?_,h3⟩
 rcases List.mem_cons.1 he with rfl|he
 · simp only at ho' ⊢
   rw [ho] at ho';cases ho'
   rw [h1' a σ ha,h1 b σ' (by rw [look_cons,if_pos rfl])]
   exact hE w0
 exact h2 e he o' ho' w0
theorem Bs {a i b:Nat} {σ σ':St} {o:Oper} (ha:look acc a=some σ) (ho:l[i]?=some o) (hb:look acc b=some σ') (hE:∀ w0,AWl P w0 l.toArray (EndQ σ') [o] σ) (h:Dag P l acc es Fin):Dag P l acc ((a,i,b)::es) Fin:=by
 obtain⟨st,h1,h2,h3⟩:=h.pf
 refine⟨st,h1,fun e he o' ho' w0=>?_,h3⟩
 rcases List.mem_cons.1 he with rfl|he
 · simp only at ho' ⊢
   rw [ho] at ho';cases ho'
   rw [h1 a σ ha,h1 b σ' hb]
   exact hE w0
 exact h2 e he o' ho' w0
theorem Dag.fin {w0:Base} {Q:Exit→St→Prop} {N k:Nat} {σ:St} (hk:look acc k=some σ) (h:AWl P w0 l.toArray Q (l.drop N) σ):Dag P l acc [] (fun st=>AWl P w0 l.toArray Q (l.drop N) (st k)):=
 ⟨fun i=>(look acc i).getD ⟨0,[],[]⟩,fun i σ' hi=>by simp [hi],fun e he=>(by cases he),by simpa [hk] using h⟩
theorem AW.dagn {w0:Base} {Q:Exit→St→Prop} {σ:St} {id:Nat} (N k:Nat) (ms:List (List Nat)) (es:List (Nat×Nat×Nat)) (hm:P.follows .mixedOrders=true) (hB:planC l.toArray N=true) (hP:dagB l N ms es k=true)
 (h:Dag P l [(0,σ)] es (fun st=>AWl P w0 l.toArray Q (l.drop N) (st k))):AW P w0 (.region id l.toArray true) Q σ:=by
 obtain⟨st,h1,h2,h3⟩:=h.pf
 exact AW.dag N k ms es st hm hB hP h2 (by rw [h1 0 σ U];exact Le.refl _) h3
end
end Go.Q
set_option maxHeartbeats 1000000
set_option maxRecDepth 100000
namespace Go.Q
open Go.D
end Go.Q
namespace Go.Proofs.YtdhojcaoljhbiaaGreatDoor
open Go.RowKit Go.Q Go.D
end Go.Proofs.YtdhojcaoljhbiaaGreatDoor
set_option maxHeartbeats 1000000
set_option maxRecDepth 100000
namespace Go.Q
open Go.D
def negs (out:List Int):Nat:=(out.filter fun x=>decide (x<0)).length
theorem negs_cons (x:Int) (l:List Int):negs (x::l)=(if x<0 then 1 else 0)+negs l:=by
 unfold negs
 rw [List.filter_cons]
 split<;>simp_all<;>omega
theorem negs_set {v:Int} (hv:0≤v):∀ {out:List Int} {k:Nat} {x:Int},out[k]?=some x→x<0→negs (out.set k v)+1=negs out
 | [],_,_,h,_=>by simp at h
 | y::l,0,x,h,hx=>by
  simp at h
  subst h
  rw [List.set_cons_zero,negs_cons,negs_cons,if_neg (by omega),if_pos hx]
  omega
 | y::l,k+1,x,h,hx=>by
  rw [List.set_cons_succ,negs_cons,negs_cons]
  have:=negs_set hv (out:=l) (k:=k) (by simpa using h) hx
  omega
theorem negs_le (out:List Int):negs out≤out.length:=List.length_filter_le _ _
def atI (out:List Int) (k:Int):Int:=out[k.toNat]?.getD 0
theorem atI_get {out:List Int} {k:Int} (h:k.toNat<out.length):out[k.toNat]?=some (atI out k):=by
 unfold atI;rw [List.getElem?_eq_getElem h];rfl
def rlx (q:Int) (st:List Int×List Int) (k:Int):List Int×List Int:=if atI st.1 k<0 then (st.1.set k.toNat (atI st.1 q+1),st.2++[k]) else st
def relax (q:Int) (l:List Int) (st:List Int×List Int):List Int×List Int:=l.foldl (rlx q) st
def bfs (nx:Nat→List Int):Nat→List Int→List Int→List Int
 | 0,out,_=>out
 | _+1,out,[]=>out
 | f+1,out,q::r=>bfs nx f (relax q (nx q.toNat) (out,r)).1 (relax q (nx q.toNat) (out,r)).2
structure BfsI (N:Nat) (out qu:List Int):Prop where
 len:out.length=N
 mem:∀ q∈qu,0≤q∧q<N
 val:∀ v∈out,-1≤v∧v+negs out≤N
theorem BfsI.rlx {N:Nat} {out qu:List Int} {q k:Int} (h:BfsI N out qu) (hq:0≤q∧q<N) (hk:0≤k∧k<N):BfsI N (rlx q (out,qu) k).1 (rlx q (out,qu) k).2∧negs (Go.Q.rlx q (out,qu) k).1+(Go.Q.rlx q (out,qu) k).2.length=negs out+qu.length∧negs (Go.Q.rlx q (out,qu) k).1≤negs out:=by
 unfold Go.Q.rlx
 dsimp only
 split
 · rename_i hneg
   have hkl:k.toNat<out.length:=by rw [h.len];omega
   have hql:q.toNat<out.length:=by rw [h.len];omega
   have hvq:=h.val _ (List.mem_of_getElem? (atI_get hql))
   have hn:=negs_set (v:=atI out q+1) (by omega) (atI_get hkl) hneg
   refine⟨⟨by simpa using h.len,fun x hx=>?_,fun v hv=>?_⟩,?_,?_⟩
   · rcases List.mem_append.1 hx with hx|hx
     · exact h.mem x hx
     rw [List.mem_singleton] at hx;subst hx;exact hk
   · show -1≤v∧v+(negs (out.set k.toNat (atI out q+1)):Int)≤N
     rcases List.mem_or_eq_of_mem_set hv with hv|rfl
     · have:=h.val v hv;omega
     omega
   · show negs (out.set k.toNat (atI out q+1))+(qu++[k]).length=_
     simp;omega
   show negs (out.set k.toNat (atI out q+1))≤_
   omega
 exact⟨h,rfl,Nat.le_refl _⟩
theorem BfsI.relax {N:Nat} {q:Int} (hq:0≤q∧q<N):∀ {l:List Int} {st:List Int×List Int},BfsI N st.1 st.2→(∀ k∈l,0≤k∧k<N)→BfsI N (relax q l st).1 (relax q l st).2∧negs (Go.Q.relax q l st).1+(Go.Q.relax q l st).2.length=negs st.1+st.2.length∧negs (Go.Q.relax q l st).1≤negs st.1
 | [],st,h,_=>⟨h,rfl,Nat.le_refl _⟩
 | k::l,st,h,hl=>by
  have e:Go.Q.relax q (k::l) st=Go.Q.relax q l (Go.Q.rlx q st k):=rfl
  have h1:BfsI N (Go.Q.rlx q st k).1 (Go.Q.rlx q st k).2∧negs (Go.Q.rlx q st k).1+(Go.Q.rlx q st k).2.length=negs st.1+st.2.length∧negs (Go.Q.rlx q st k).1≤negs st.1:=h.rlx (k:=k) hq (hl k (by simp))
  obtain⟨h1,h2,h3⟩:=h1
  obtain⟨g1,g2,g3⟩:=BfsI.relax hq (l:=l) h1 fun k hk=>hl k (by simp [hk])
  rw [e]
  exact⟨g1,by omega,by omega⟩
theorem BfsI.tail {N:Nat} {out qu:List Int} {q:Int} (h:BfsI N out (q::qu)):BfsI N out qu:=⟨h.len,fun x hx=>h.mem x (by simp [hx]),h.val⟩
def zeroAll (from_:List Int) (out:List Int):List Int:=from_.foldl (fun out i=>out.set i.toNat 0) out
def spreadOf (nx:Nat→List Int) (N:Nat) (from_:List Int):List Int:=bfs nx (2*N+from_.length+1) (zeroAll from_ (List.replicate N (-1))) from_
theorem zeroAll_len:∀ (l out:List Int),(zeroAll l out).length=out.length
 | [],_=>rfl
 | k::l,out=>(zeroAll_len l _).trans (by simp)
theorem bfs_nil {nx:Nat→List Int} {f:Nat} {out:List Int} (h:0<f):bfs nx f out []=out:=by
 match f,h with
 | f+1,_=>rfl
theorem rlx_pre (q:Int) (out pre r:List Int) (k:Int):rlx q (out,pre++r) k=((rlx q (out,r) k).1,pre++(rlx q (out,r) k).2):=by
 unfold rlx;dsimp only
 split<;>simp
theorem relax_pre (q:Int):∀ (l out pre r:List Int),relax q l (out,pre++r)=((relax q l (out,r)).1,pre++(relax q l (out,r)).2)
 | [],_,_,_=>rfl
 | k::l,out,pre,r=>by
  have e:∀ st,relax q (k::l) st=relax q l (rlx q st k):=fun _=>rfl
  rw [e,e,rlx_pre,relax_pre q l]
def BfsAt (nx:Nat→List Int) (res out qu:List Int) (i:Nat):Prop:=∃ f,negs out+(qu.length-i)<f∧bfs nx f out (qu.drop i)=res
theorem BfsAt.next {nx:Nat→List Int} {N:Nat} {res out qu:List Int} {i:Nat} {q:Int} (h:BfsAt nx res out qu i) (hI:BfsI N out qu) (hq:qu[i]?=some q) (hn:∀ k∈nx q.toNat,0≤k∧k<N):BfsAt nx res (relax q (nx q.toNat) (out,qu)).1 (relax q (nx q.toNat) (out,qu)).2 (i+1):=by
 obtain⟨f,hf,e⟩:=h
 have hil:=(List.getElem?_eq_some_iff.1 hq).1
 have hd:qu.drop i=q::qu.drop (i+1):=by
  rw [List.drop_eq_getElem_cons hil,(List.getElem?_eq_some_iff.1 hq).2]
 obtain⟨f',rfl⟩:∃ f',f=f'+1:=⟨f-1,by omega⟩
 rw [hd,bfs] at e
 have hr:=BfsI.relax (N:=N) (hI.mem q (List.mem_of_getElem? hq)) (l:=nx q.toNat) (st:=(out,qu)) hI hn
 have e2:qu=qu.take (i+1)++qu.drop (i+1):=(List.take_append_drop _ _).symm
 have e3:=relax_pre q (nx q.toNat) out (qu.take (i+1)) (qu.drop (i+1))
 rw [←e2] at e3
 refine⟨f',?_,?_⟩
 · have h1:=hr.2.1
   have h2:i+1≤(relax q (nx q.toNat) (out,qu)).2.length:=by rw [e3];simp;omega
   dsimp only at h1
   omega
 rw [e3]
 dsimp only
 rw [List.drop_left' (by rw [List.length_take];omega)]
 exact e
theorem BfsAt.done {nx:Nat→List Int} {res out qu:List Int} {i:Nat} (h:BfsAt nx res out qu i) (hi:qu.length≤i):out=res:=by
 obtain⟨f,hf,e⟩:=h
 rw [List.drop_eq_nil_of_le hi,bfs_nil (by omega)] at e
 exact e
theorem BfsAt.start {nx:Nat→List Int} {N:Nat} {l:List Int}:BfsAt nx (spreadOf nx N l) (zeroAll l (List.replicate N (-1))) l 0:=by
 refine⟨2*N+l.length+1,?_,rfl⟩
 have:=negs_le (zeroAll l (List.replicate N (-1)))
 rw [zeroAll_len] at this
 simp at this
 omega
end Go.Q
namespace Go.Proofs.YtdhojcaoljhbiaaGreatDoor
open Go.RowKit Go.Q Go.D
end Go.Proofs.YtdhojcaoljhbiaaGreatDoor
set_option maxHeartbeats 1000000
set_option maxRecDepth 100000
namespace Go.Q
open Go.D
end Go.Q
namespace Go.Proofs.YtdhojcaoljhbiaaGreatDoor
open Go.RowKit Go.Q Go.D
theorem implcopyInts (l:List Int) (hz:l.length≤1073741824):FnT Tryz.prog 53 [.one (.sl 1 (l.map cInt))] (.a (.one (.sl 1 (l.map cInt)))):=by
 refine Ay Tryz.func53 U (by kernel_rfl) Tryz.ntmps53 U fun hlen w0=>?_
 try simp [cPair,cEdge,cGraph] at hlen
 refine Ae (Ak ?_);refine By (i:=2) 20001 1 U U ?_;refine Aa (Ae (A6 (Ce 3 U U U Tryz.underlying34 ty3 U) U ?_));refine Ab ?_;refine Bu (B7 U U U (.tm U) U (.tm U) (by exact .t) (by exact isV_map (fun _=>rfl) _) Tryz.underlying34 in3 U (by (simp [chunk];omega)) (by (unfold maxLen;simp [chunk];omega))) U ?_;refine Bt (As [0,2,5] [20001,3]) ?_;refine Ah ?_;refine Aa (Al (Res.one U (.tmp U .nil) U ?_))
 rfl
end Go.Proofs.YtdhojcaoljhbiaaGreatDoor
namespace Go.Q
open Go.RowKit
section
variable {P:Program} {ops:Array Oper} {o:Oper} {σ:St} {q:Bool}
theorem R_conv {t t':TypeId} {x:Operand} {k0 k:IntKind} {n m:Int} (ho:o.op=.convert t t' x) (hg:Grd ops o σ q) (hd:o.dst.all (fun d=>Nat.blt d σ.n)=true) (hx:Get σ q x (.one (.t (.v (.int k0 n))))) (hu0:(P.underlying t).isSome=true) (hu:P.underlying t'=some (.int k)) (hm:q=true→k.wrap n=m) :
 Op1 P ops o σ (σ.put o.dst (q,.a (.one (.t (.v (.int k m)))))):=
 .val hg hd fun I w0 a w hr hq=>by
  have hv:=hx.int hr hq
  obtain⟨u0,hu0⟩:=Option.isSome_iff_exists.1 hu0
  exact⟨_,by simp [execOp,ho,hv,Go.convert,run_underlying hu0,run_underlying hu,Conv.intToInt,hm hq],VS_v _⟩
end
end Go.Q
set_option maxHeartbeats 1000000
set_option maxRecDepth 100000
namespace Go.Q
open Go.D
end Go.Q
namespace Go.Proofs.YtdhojcaoljhbiaaGreatDoor
open Go.RowKit Go.Q Go.D
end Go.Proofs.YtdhojcaoljhbiaaGreatDoor
namespace Go.Q
open Go.RowKit
section
variable {P:Program}
theorem AW.join {w0:Base} {Q:Exit→St→Prop} {σ:St} {x y:Code} (σJ:St) (h:AW P w0 x (ThenQ (fun σ'=>Le σ' σJ) Q) σ) (h2:AW P w0 y Q σJ):AW P w0 (.seq x y) Q σ:=fun a w hr=>by
 refine wp_seq (Code.wp_mono ?_ (h a w hr))
 rintro e a' w' ⟨σ',h3,h4⟩
 cases e with
 | normal=>exact h2 a' w' (h3 w0 a' w' h4)
 | exit id=>exact⟨σ',h3,h4⟩
 | goto l=>exact⟨σ',h3,h4⟩
 | ret=>exact⟨σ',h3,h4⟩
 | panic c=>exact⟨σ',h3,h4⟩
 | outgrown=>exact⟨σ',h3,h4⟩
structure MixD (P:Program) (l:List Oper) (n:Nat) (sl:List (Nat×(Bool×S))) (rs:List (Nat×R)) (outs:List Out) (acc:List (Nat×St)) (todo:List (Nat×List Nat)) (es:List (Nat×Nat×Nat)) (Fin:(Nat→St)→Prop):Prop where
 pf:∃ st:Nat→St,(∀ k σ,look acc k=some σ→st k=σ)∧(∀ p∈todo,Le (stL (memN p.2) 0 outs ⟨n,sl,rs⟩) (st p.1))∧(∀ e∈es,∀ o,l[e.2.1]?=some o→∀ w0,AWl P w0 l.toArray (EndQ (st e.2.2)) [o] (st e.1))∧Fin st
variable {l:List Oper} {n:Nat} {sl:List (Nat×(Bool×S))} {rs:List (Nat×R)} {outs:List Out} {acc:List (Nat×St)} {todo:List (Nat×List Nat)} {es:List (Nat×Nat×Nat)} {Fin:(Nat→St)→Prop}
theorem MixD.add {b:Nat} {S:List Nat} (σ':St) (hb:look acc b=none) (hle:Le (stL (memN S) 0 outs ⟨n,sl,rs⟩) σ') (h:MixD P l n sl rs outs ((b,σ')::acc) todo es Fin):MixD P l n sl rs outs acc ((b,S)::todo) es Fin:=by
 obtain⟨st,h1,h2,h3⟩:=h.pf
 have h1':∀ k σ,look acc k=some σ→st k=σ:=fun k σ hk=>h1 k σ (by
  rw [look_cons,if_neg (fun e=>?_)]
  · exact hk
  subst e;rw [hb] at hk;cases hk)
 refine⟨st,h1',fun p hp=>?_,h3⟩
 rcases List.mem_cons.1 hp with rfl|hp
 · show Le _ (st b)
   rw [h1 b σ' (by rw [look_cons,if_pos rfl])]
   exact hle
 exact h2 p hp
theorem MixD.go (h:Dag P l acc es Fin):MixD P l n sl rs outs acc [] es Fin:=by
 obtain⟨st,h1,h2,h3⟩:=h.pf
 exact⟨st,h1,fun p hp=>(by cases hp),h2,h3⟩
def FinX (P:Program) (w0:Base) (Q:Exit→St→Prop) (N k:Nat) (B:Nat→List Nat) (es:List (Nat×Nat×Nat)) (todo:List (Nat×List Nat)) (l:List Oper) (n:Nat) (sl:List (Nat×(Bool×S))) (rs:List (Nat×R)) (outs:List Out):Prop:=
 delS (outs.map (·.1)) sl=sl∧outB B ⟨n,sl,rs⟩ outs=true∧MixD P l n sl rs outs [] todo es (fun st=>AWl P w0 l.toArray Q (l.drop N) (st k))
theorem FinX.mk {w0:Base} {Q:Exit→St→Prop} {N k:Nat} {B:Nat→List Nat} (hd:delS (outs.map (·.1)) sl=sl) (hU:outB B ⟨n,sl,rs⟩ outs=true) (h:MixD P l n sl rs outs [] todo es (fun st=>AWl P w0 l.toArray Q (l.drop N) (st k))):FinX P w0 Q N k B es todo l n sl rs outs:=⟨hd,hU,h⟩
end
end Go.Q
set_option maxHeartbeats 1000000
set_option maxRecDepth 100000
namespace Go.Q
open Go.D
theorem apAt_eq {l:List TPair} {k:Nat} {x:TPair} (h:l[k]?=some x):apAt l k=(okP x&&!(decide (0<k)&&!(pless (l[k-1]?.getD default) x))):=by
 unfold apAt;rw [h]
theorem arePairs_all {l:List TPair} {k:Nat} (h:∀ j,j<k→apAt l j=true) (hk:l.length≤k):arePairs l=true:=by
 unfold arePairs
 rw [List.all_eq_true]
 exact fun j hj=>h j (by have:=List.mem_range.1 hj;omega)
theorem arePairs_not {l:List TPair} {k:Nat} (h:apAt l k=false) (hk:k<l.length):arePairs l=false:=by
 unfold arePairs
 rw [List.all_eq_false]
 exact⟨k,List.mem_range.2 hk,by rw [h];simp⟩
end Go.Q
namespace Go.Proofs.YtdhojcaoljhbiaaGreatDoor
open Go.RowKit Go.Q Go.D
theorem implcompareInts (x y:Int):FnT Tryz.prog 267 [.one (.v (.int .i64 x)),.one (.v (.int .i64 y))] (.a (.one (.v (.int .i64 (cmpI x y))))):=by
 refine Ay Tryz.func267 U (by kernel_rfl) Tryz.ntmps267 U fun hlen w0=>?_
 try simp [cPair,cEdge,cGraph] at hlen
 refine Ae (Ak ?_);refine Aa (Ac (AW.block (Ae (Ab ?_))));refine Ab ?_;refine AWl.lt ?_;refine Ah ?_;refine Aa (Ai (.tm U) (fun h5=>?_) (fun h5=>?_))
 · try simp at h5
   refine Ae (Ak ?_);refine Aa (Al (Bb U U ?_))
   unfold cmpI;rw [if_pos h5]
 try simp at h5
 refine Ae (Ab ?_);refine Ab ?_;refine Ag (R_gt U (.no U) U (.tm U) (.tm U)) U ?_;refine Ah ?_;refine Aa (Ai (.tm U) (fun h9=>?_) (fun h9=>?_))
 · try simp at h9
   refine Ac (Am (As [0,1,4] []) ?_);refine Ad (Ak ?_);refine Aa (Al (Bb U U ?_))
   unfold cmpI;rw [if_neg (by omega),if_pos h9]
 try simp at h9
 refine Aj (Ac (Am (As [0,1,4] []) ?_));refine Ad (Ak ?_);refine Aa (Al (Bb U U ?_))
 unfold cmpI;rw [if_neg (by omega),if_neg (by omega)]
theorem implcomparePairs (x y:TPair):FnT Tryz.prog 254 [.agg (cPair x),.agg (cPair y)] (.a (.one (.v (.int .i64 (cmpP x y))))):=by
 refine Ay Tryz.func254 U (by kernel_rfl) Tryz.ntmps254 U fun hlen w0=>?_
 try simp [cPair,cEdge,cGraph] at hlen
 refine Ae (Ag (B9 U U U (.tm U) (ts:=_) (by rfl)) U ?_);refine Ag (B9 U U U (.tm U) (ts:=_) (by rfl)) U ?_;refine Ak ?_;refine Aa (Ac (Ae (A7 fl97_0 ?_)));refine Aq ty3 ?_;refine A7 fl97_0 ?_;refine Aq ty3 ?_;refine Ag (R_ne U (.no U) U (.tm U) (.tm U)) U ?_;refine Aa (Ai (.tm U) (fun h9=>?_) (fun h9=>?_))
 · try simp at h9
   refine Ae (A7 fl97_0 ?_);refine Aq ty3 ?_;refine A7 fl97_0 ?_;refine Aq ty3 ?_;refine Bl (implcompareInts _ _) ?_;refine Ah ?_;refine Aa (Al (Bb U U ?_))
   unfold cmpP;rw [if_pos h9]
 try simp at h9
 refine Aj (Ae (A7 fl97_1 ?_));refine Aq ty3 ?_;refine A7 fl97_1 ?_;refine Aq ty3 ?_;refine Bl (implcompareInts _ _) ?_;refine Ah ?_;refine Aa (Al (Bb U U ?_))
 unfold cmpP;rw [if_neg (by simp [h9])]
theorem specArePairs (l:List TPair):FnT Tryz.prog 141 [.one (.sl 2 (l.map cPair))] (.a (.one (.v (.bool (arePairs l))))):=by
 refine Ay Tryz.func141 U (by kernel_rfl) Tryz.ntmps141 U fun hlen w0=>?_
 try simp [cPair,cEdge,cGraph] at hlen
 refine Ae (Ak ?_);refine Aa (Ac (Ae (Ak ?_)));refine Aa (AW.block (Bj (fun (k:Nat)=>(k≤l.length∧∀ j,j<k→apAt l j=true)∧True) (fun (k:Nat)=>⟨_,[(3,(true,.a (.one (.t (.v (.int .i64 (k:Nat))))))),(0,_)],[]⟩) (fun (k:Nat)=>l.length-k) (0) ⟨⟨Nat.zero_le _,fun j hj=>absurd hj (Nat.not_lt_zero j)⟩,Y⟩ (Ar U ⟨U,U,Y⟩ trivial) ?_))
 rintro k ⟨hk,he⟩
 refine Ac (Ae (Ab ?_));refine Ab ?_;refine Bc (.t) Tryz.underlying89 ?_;refine AWl.lt ?_;refine Aa (Ai (.tm U) (fun h7=>?_) (fun h7=>?_))
 · try simp at h7
   obtain⟨x,hx⟩:∃ ξ,l[k]?=some ξ:=⟨_,List.getElem?_eq_getElem (by omega)⟩
   refine Aj (Ac (AW.block (Ac (Bq 33 (nthB [[],[],[0,1],[0,1,2],[0,1,2,3],[0,1,2,3,4],[0,1,2,3,4,5],[0,1,2,3,4,5,6],[0,1,2,3,4,5,6,7],[0,1,2,3,4,5,6,7],[0,1,2,3,4,5,6,7,8,9],[0,1,2,3,4,5,6,7,8,9,10],[0,1,2,3,4,5,6,7,8,9,10,11],[0,1,2,3,4,5,6,7,8,9,10,11,12],[0,1,2,3,4,5,6,7,8,9,10,11,12,13],[0,1,2,3,4,5,6,7,8,9,10,11,12,13,14],[0,1,2,3,4,5,6,7,8,9,10,11,12,13,14,15],[0,1,2,3,4,5,6,7,8,9,10,11,12,13,14,15,16],[0,1,2,3,4,5,6,7,8,9,10,11,12,13,14,15,16,17],[0,1,2,3,4,5,6,7,8,9,10,11,12,13,14,15,16,17,18],[0,1,2,3,4,5,6,7,8,9,10,11,12,13,14,15,16,17,18,19],[0,1,2,3,4,5,6,7,8,9,10,11,12,13,14,15,16,17,18,19],[0,1,2,3,4,5,6,7,8,9,10,11,12,13,14,15,16,17,18,19,21],[0,1,2,3,4,5,6,7,8,9,10,11,12,13,14,15,16,17,18,19,20,21,22],[0,1,2,3,4,5,6,7,8,9,10,11,12,13,14,15,16,17,18,19,20,21,22,23],[0,1,2,3,4,5,6,7,8,9,10,11,12,13,14,15,16,17,18,19],[0,1,2,3,4,5,6,7,8,9,10,11,12,13,14,15,16,17,18,19],[0,1,2,3,4,5,6,7,8,9,10,11,12,13,14,15,16,17,18,19,25,26],[0,1,2,3,4,5,6,7,8,9,10,11,12,13,14,15,16,17,18,19,25,26,27],[0,1,2,3,4,5,6,7,8,9,10,11,12,13,14,15,16,17,18,19,20,21,22,23,24,25,26,27,28],[0,1,2,3,4,5,6,7,8,9,10,11,12,13,14,15,16,17,18,19,20,21,22,23,24,25,26,27,28,29],[0,1,2,3,4,5,6,7,8,9,10,11,12,13,14,15,16,17,18,19,20,21,22,23,24,25,26,27,28,29,30],[0,1,2,3,4,5,6,7,8,9,10,11,12,13,14,15,16,17,18,19,20,21,22,23,24,25,26,27,28,29,30,31]]) (by kernel_rfl) (by kernel_rfl) (by kernel_rfl) ?_))))
   refine Ap ?_;refine Ap ?_;refine DrawC.s (fun _ hs=>(by exact An U (.no U) (Af hs U) (hs.tm U) (hs.tm U) Tryz.underlying89 Cj (fun _=>⟨by omega,(Ao hx)⟩))) ?_;refine Cb fl97_0 ?_;refine A5 ty3 ?_;refine DrawC.s (fun _ hs=>A3 (FnT.fr (specl1In _ _ _)) U (.no U) (Af hs U) (.cons (hs.tm U) (readA_sup hs U) (.cons (.const U) (readA_sup hs U) (.cons (.const U) (readA_sup hs U) .nil)))) ?_;refine DrawC.s (fun _ hs=>Cy U (.no U) (Af hs U) (hs.tm U)) ?_;refine Ap ?_;refine DrawC.s (fun _ hs=>Az U (by exact hs.n1) (Af hs U) (hs.tm U)) ?_;refine DrawC.s (fun _ hs=>Az U (by exact hs.n1) (Af hs U) (hs.tm U)) ?_;refine DrawC.s (fun _ hs=>(by exact An U (by exact hs.n1) (Af hs U) (hs.ti U) (hs.ti U) Tryz.underlying89 Cj (fun hq=>by (try simp at hq);exact⟨by omega,(Ao hx)⟩))) ?_;refine DrawC.s (fun _ hs=>(by exact Cq U (by exact hs.n1) (Af hs U) (hs.ti U) fl97_1)) ?_
   refine DrawC.s (fun _ hs=>(by exact Bw U (by exact hs.n1) (Af hs U) (hs.ti U) ty3 U U)) ?_;refine DrawC.s (fun _ hs=>A3 (FnT.fr (specl1In _ _ _)) U (by exact hs.n1) (Af hs U) (.cons (hs.ti U) (readA_sup hs U) (.cons (.const U) (readA_sup hs U) (.cons (.const U) (readA_sup hs U) .nil)))) ?_;refine DrawC.s (fun _ hs=>Cy U (by exact hs.n1) (Af hs U) (hs.ti U)) ?_;refine DrawC.s (fun _ hs=>R_or U (.no U) (Af hs U) (hs.tm U) (hs.ti U)) ?_;refine Ap ?_;refine DrawC.s (fun _ hs=>Az U (by exact hs.n1) (Af hs U) (hs.tm U)) ?_;refine DrawC.s (fun _ hs=>R_gt U (by exact hs.n1) (Af hs U) (hs.ti U) (.const U)) ?_;refine DrawC.s (fun _ hs=>Az U (by exact hs.n1) (Af hs U) (hs.ti U)) ?_;refine DrawC.s (fun _ hs=>Az U (by exact .yes U U (hs.slots _ _ U) (by rw [hs.n];rfl)) (Af hs U) (hs.tm U)) ?_
   refine DrawC.s (fun _ hs=>Az U (by exact .yes U U (hs.slots _ _ U) (by rw [hs.n];rfl)) (Af hs U) (hs.tm U)) ?_;refine DrawC.s (fun _ hs=>Dy U (by exact .yes U U (hs.slots _ _ U) (by rw [hs.n];rfl)) (Af hs U) (hs.ti U) (.const U) (fun hq=>by first|omega|(simp at hq;omega))) ?_;refine DrawC.s (fun _ hs=>(by exact An U (by exact .yes U U (hs.slots _ _ U) (by rw [hs.n];rfl)) (Af hs U) (hs.ti U) (hs.ti U) Tryz.underlying89 Cj (fun hq=>by simp at hq;exact⟨by omega,Ao (l:=l) (x:=l[((k:Int)-1).toNat]?.getD default) (getD_at (by omega))⟩))) ?_;refine DrawC.s (fun _ hs=>(by exact Bw U (by exact .yes U U (hs.slots _ _ U) (by rw [hs.n];rfl)) (Af hs U) (hs.ti U) Cj U U)) ?_;refine DrawC.s (fun _ hs=>Az U (by exact .yes U U (hs.slots _ _ U) (by rw [hs.n];rfl)) (Af hs U) (hs.tm U)) ?_;refine DrawC.s (fun _ hs=>Az U (by exact .yes U U (hs.slots _ _ U) (by rw [hs.n];rfl)) (Af hs U) (hs.tm U)) ?_
   refine DrawC.s (fun _ hs=>(by exact An U (by exact .yes U U (hs.slots _ _ U) (by rw [hs.n];rfl)) (Af hs U) (hs.ti U) (hs.ti U) Tryz.underlying89 Cj (fun hq=>by (try simp at hq);exact⟨by omega,(Ao hx)⟩))) ?_;refine DrawC.s (fun _ hs=>(by exact Bw U (by exact .yes U U (hs.slots _ _ U) (by rw [hs.n];rfl)) (Af hs U) (hs.ti U) Cj U U)) ?_;refine DrawC.s (fun _ hs=>Dw U (by exact .yes U U (hs.slots _ _ U) (by rw [hs.n];rfl)) (Af hs U) (.cons (hs.ti U) (readA_sup hs U) (.cons (hs.ti U) (readA_sup hs U) .nil)) fun hq=>FnT.fr (specl15Less (l[((k:Int)-1).toNat]?.getD default) x)) ?_;refine DrawC.s (fun _ hs=>Cy U (by exact .yes U U (hs.slots _ _ U) (by rw [hs.n];rfl)) (Af hs U) (hs.ti U)) ?_;refine DrawC.s (fun _ hs=>R_and U (by exact hs.n1) (Af hs U) (hs.ti U) (hs.ti U)) ?_;refine DrawC.s (fun _ hs=>R_or U (.no U) (Af hs U) (hs.tm U) (hs.ti U)) ?_;refine Bi U U ?_
   refine Aa (Ai (.tm U) (fun h42=>?_) (fun h42=>?_))
   · try simp at h42
     refine Ac (Am (As [0,3] []) ?_);refine Ad (Ak ?_);refine Aa (Al (Bb U U ?_))
     rw [arePairs_not (k:=k) (by rw [apAt_eq hx];unfold okP;rw [show k-1=((k:Int)-1).toNat by omega];simp at h42 ⊢;grind) (by omega)]
   try simp at h42
   refine Aj (Am (As [0,3] []) ?_);refine Ad (Ab ?_);refine A8 ?_;refine Ah ?_;refine Aa ?_
   repeat (with_reducible refine Au ?_)
   refine Round1.next (k+1) ⟨⟨by omega,fun j hj=>by rcases Nat.lt_or_eq_of_le (Nat.le_of_lt_succ hj) with h|h;exact hk.2 j h;(subst h;rw [apAt_eq hx];unfold okP;rw [show j-1=((j:Int)-1).toNat by omega];simp at h42 ⊢;grind)⟩,Y⟩ (by omega) (Ar rfl ⟨rfl,rfl,Y⟩ trivial)
 try simp at h7
 refine Ba (Ae (Ak ?_));refine Aa (Al (Bb U U ?_))
 rw [arePairs_all hk.2 (by omega)]
theorem implArePairs (l:List TPair):FnT Tryz.prog 234 [.one (.sl 2 (l.map cPair))] (.a (.one (.v (.bool (arePairs l))))):=by
 refine Ay Tryz.func234 U (by kernel_rfl) Tryz.ntmps234 U fun hlen w0=>?_
 try simp [cPair,cEdge,cGraph] at hlen
 refine Ae (Ak ?_);refine Aa (Ac (Ae (Ab ?_)));refine Bc (.t) Tryz.underlying89 ?_;refine Ag (Az U (.no U) U (.const U)) U ?_;refine Aa (AW.block (Bj (fun (k:Nat)=>(k≤l.length∧∀ j,j<k→apAt l j=true)∧True) (fun (k:Nat)=>⟨_,[(7,(true,.a (.one (.t (.v (.int .i64 (k:Nat))))))),(0,_),(5,_),(6,_)],[]⟩) (fun (k:Nat)=>l.length-k) (0) ⟨⟨Nat.zero_le _,fun j hj=>absurd hj (Nat.not_lt_zero j)⟩,Y⟩ (Ar U ⟨U,U,U,U,Y⟩ trivial) ?_))
 rintro k ⟨hk,he⟩
 refine Ae (AWl.lt ?_);refine Aa (Ac (Ai (.tm U) (fun h8=>?_) (fun h8=>?_)))
 · try simp at h8
   obtain⟨x,hx⟩:∃ ξ,l[k]?=some ξ:=⟨_,List.getElem?_eq_getElem (by omega)⟩
   refine Aj (Ac (AW.block (Ae (Ab ?_))));refine Ag (An U (.no U) U (.tm U) (.tm U) Tryz.underlying89 Cj (fun _=>⟨by omega,(Ao hx)⟩)) U ?_;refine Aq Cj ?_;refine A6 (Bo 4 U U U Du U U U) U ?_;refine Ah ?_;refine A4 Cj ?_
   refine Aa (Ac (Bq 24 (nthB [[],[0],[0,1],[0,1,2],[0,1,2,3],[0,1,2,3,4],[0,1,2,3,4,5],[0,1,2,3,4,5,6],[0,1,2,3,4,5,6,7],[0,1,2,3,4,5,6,7,8],[0,1,2,3,4,5,6,7,8,9],[0,1,2,3,4,5,6,7,8,9,10],[0,1,2,3,4,5,6,7,8,9,10,11],[0,1,2,3,4,5,6,7,8,9,10,11,12],[0,1,2,3,4,5,6,7,8,9,10,11,12,13],[0,1,2,3,4,5,6,7,8,9,10,11,12,13],[0,1,2,3,4,5,6,7,8,9,10,11,12,13,15],[0,1,2,3,4,5,6,7,8,9,10,11,12,13,14,15,16],[0,1,2,3,4,5,6,7,8,9,10,11,12,13,14,15,16,17],[0,1,2,3,4,5,6,7,8,9,10,11,12,13],[0,1,2,3,4,5,6,7,8,9,10,11,12,13,14,15,16,17,18,19],[0,1,2,3,4,5,6,7,8,9,10,11,12,13,14,15,16,17,18,19,20],[0,1,2,3,4,5,6,7,8,9,10,11,12,13,14,15,16,17,18,19,20,21],[0,1,2,3,4,5,6,7,8,9,10,11,12,13,14,15,16,17,18,19,20,21,22]]) (by kernel_rfl) (by kernel_rfl) (by kernel_rfl) ?_));refine DrawC.s (fun _ hs=>(by exact Av U (.no U) (Af hs U) (hs.tm U) fl97_0)) ?_
   refine DrawC.s (fun _ hs=>(by exact Ax U (.no U) (Af hs U) (hs.tm U) (hs.res _ _ U) ty3 U U)) ?_;refine DrawC.s (fun _ hs=>A3 (FnT.fr (implwithin _ _ _)) U (.no U) (Af hs U) (.cons (hs.tm U) (readA_sup hs U) (.cons (.const U) (readA_sup hs U) (.cons (.const U) (readA_sup hs U) .nil)))) ?_;refine DrawC.s (fun _ hs=>Cy U (.no U) (Af hs U) (hs.tm U)) ?_;refine Ap ?_;refine DrawC.s (fun _ hs=>(by exact Av U (by exact hs.n1) (Af hs U) (hs.tm U) fl97_1)) ?_;refine DrawC.s (fun _ hs=>(by exact Ax U (by exact hs.n1) (Af hs U) (hs.ti U) (hs.res _ _ U) ty3 U U)) ?_;refine DrawC.s (fun _ hs=>A3 (FnT.fr (implwithin _ _ _)) U (by exact hs.n1) (Af hs U) (.cons (hs.ti U) (readA_sup hs U) (.cons (.const U) (readA_sup hs U) (.cons (.const U) (readA_sup hs U) .nil)))) ?_;refine DrawC.s (fun _ hs=>Cy U (by exact hs.n1) (Af hs U) (hs.ti U)) ?_
   refine DrawC.s (fun _ hs=>R_or U (.no U) (Af hs U) (hs.tm U) (hs.ti U)) ?_;refine Ap ?_;refine DrawC.s (fun _ hs=>Az U (by exact hs.n1) (Af hs U) (hs.tm U)) ?_;refine DrawC.s (fun _ hs=>R_gt U (by exact hs.n1) (Af hs U) (hs.ti U) (.const U)) ?_;refine DrawC.s (fun _ hs=>Az U (by exact hs.n1) (Af hs U) (hs.ti U)) ?_;refine DrawC.s (fun _ hs=>Az U (by exact .yes U U (hs.slots _ _ U) (by rw [hs.n];rfl)) (Af hs U) (hs.tm U)) ?_;refine DrawC.s (fun _ hs=>Az U (by exact .yes U U (hs.slots _ _ U) (by rw [hs.n];rfl)) (Af hs U) (hs.tm U)) ?_;refine DrawC.s (fun _ hs=>Dy U (by exact .yes U U (hs.slots _ _ U) (by rw [hs.n];rfl)) (Af hs U) (hs.ti U) (.const U) (fun hq=>by first|omega|(simp at hq;omega))) ?_
   refine DrawC.s (fun _ hs=>(by exact An U (by exact .yes U U (hs.slots _ _ U) (by rw [hs.n];rfl)) (Af hs U) (hs.ti U) (hs.ti U) Tryz.underlying89 Cj (fun hq=>by simp at hq;exact⟨by omega,Ao (l:=l) (x:=l[((k:Int)-1).toNat]?.getD default) (getD_at (by omega))⟩))) ?_;refine DrawC.s (fun _ hs=>(by exact Bw U (by exact .yes U U (hs.slots _ _ U) (by rw [hs.n];rfl)) (Af hs U) (hs.ti U) Cj U U)) ?_;refine DrawC.s (fun _ hs=>(by exact Ax U (by exact .yes U U (hs.slots _ _ U) (by rw [hs.n];rfl)) (Af hs U) (hs.tm U) (hs.res _ _ U) Cj U U)) ?_;refine DrawC.s (fun _ hs=>Dw U (by exact .yes U U (hs.slots _ _ U) (by rw [hs.n];rfl)) (Af hs U) (.cons (hs.ti U) (readA_sup hs U) (.cons (hs.ti U) (readA_sup hs U) .nil)) fun hq=>FnT.fr (implcomparePairs (l[((k:Int)-1).toNat]?.getD default) x)) ?_
   refine DrawC.s (fun _ hs=>R_ge U (by exact .yes U U (hs.slots _ _ U) (by rw [hs.n];rfl)) (Af hs U) (hs.ti U) (.const U)) ?_;refine DrawC.s (fun _ hs=>R_and U (by exact hs.n1) (Af hs U) (hs.ti U) (hs.ti U)) ?_;refine DrawC.s (fun _ hs=>R_or U (.no U) (Af hs U) (hs.tm U) (hs.ti U)) ?_;refine Bi U U ?_;refine Aa (Ai (.tm U) (fun h35=>?_) (fun h35=>?_))
   · try simp at h35
     refine Ac (Am (As [0,3,4,5,6,7] [4]) ?_);refine Ad (Ak ?_);refine Aa (Al (Bb U U ?_))
     rw [arePairs_not (k:=k) (by rw [apAt_eq hx,←cmpP_ge];unfold okP;rw [show k-1=((k:Int)-1).toNat by omega];simp at h35 ⊢;grind) (by omega)]
   try simp at h35
   refine Aj (Am (As [0,3,4,5,6,7] [4]) ?_);refine Ad (A8 ?_);refine Ab ?_;refine Aa ?_
   repeat (with_reducible refine Au ?_)
   refine Round1.next (k+1) ⟨⟨by omega,fun j hj=>by rcases Nat.lt_or_eq_of_le (Nat.le_of_lt_succ hj) with h|h;exact hk.2 j h;(subst h;rw [apAt_eq hx,←cmpP_ge];unfold okP;rw [show j-1=((j:Int)-1).toNat by omega];simp at h35 ⊢;grind)⟩,Y⟩ (by omega) (Ar rfl ⟨rfl,rfl,rfl,rfl,Y⟩ trivial)
 try simp at h8
 refine Ba (Ae (Ak ?_));refine Aa (Al (Bb U U ?_))
 rw [arePairs_all hk.2 (by omega)]
end Go.Proofs.YtdhojcaoljhbiaaGreatDoor
set_option maxHeartbeats 1000000
set_option maxRecDepth 100000
namespace Go.Q
open Go.D
def bs (l:List UInt8):ByteArray:=⟨l.toArray⟩
theorem bs_append (l m:List UInt8):bs l++bs m=bs (l++m):=by
 apply ByteArray.ext
 rw [ByteArray.data_append]
 simp [bs]
theorem bs_nil_append (O:ByteArray):bs []++O=O:=by
 apply ByteArray.ext
 rw [ByteArray.data_append]
 simp [bs]
theorem bs_size (l:List UInt8):(bs l).size=l.length:=by simp [bs,ByteArray.size]
theorem bs_list (l:List UInt8):(bs l).data.toList=l:=by simp [bs]
theorem bs_inj {l m:List UInt8} (h:bs l=bs m):l=m:=by rw [←bs_list l,←bs_list m,h]
def numS (n:Int):List UInt8:=Lib.decDigits n.toNat
theorem dig_small {n:Nat} (h:n<10):Lib.decDigits n=[UInt8.ofNat (48+n)]:=by rw [Lib.decDigits,dif_pos h]
theorem dig_more {n:Nat} (h:10≤n):Lib.decDigits n=Lib.decDigits (n / 10)++[UInt8.ofNat (48+n%10)]:=by rw [Lib.decDigits,dif_neg (by omega)]
theorem dig_len {n:Nat} (h:n<100):1≤(Lib.decDigits n).length∧(Lib.decDigits n).length≤2:=by
 by_cases h1:n<10
 · rw [dig_small h1];simp
 rw [dig_more (by omega),dig_small (by omega)];simp
theorem numS_len {n:Int} (h:n<100):1≤(numS n).length∧(numS n).length≤2:=dig_len (by omega)
def restD (n:Nat):List UInt8:=if n=0 then [] else Lib.decDigits n
theorem restD_step {n:Nat} (h:n≠0):restD n=restD (n / 10)++[UInt8.ofNat (48+n%10)]:=by
 unfold restD
 rw [if_neg h]
 by_cases h1:n<10
 · rw [dig_small h1,if_pos (by omega),Nat.mod_eq_of_lt h1];rfl
 rw [dig_more (by omega),if_neg (by omega)]
def joinL (sep:List UInt8) (xs:List (List UInt8)):List UInt8:=Lib.join xs sep
theorem joinL_nil (sep:List UInt8):joinL sep []=[]:=rfl
theorem joinL_len {sep:List UInt8} {b:Nat} {α:Type} {f:α→List UInt8}:∀ {l:List α},(∀ x∈l,(f x).length≤b)→(joinL sep (l.map f)).length≤l.length*(b+sep.length)
 | [],_=>by simp [joinL_nil]
 | x::l,h=>by
  have h1:=h x (by simp)
  have h2:∀ (r:List α),(∀ x∈r,(f x).length≤b)→(Lib.joinTail sep (r.map f)).length≤r.length*(b+sep.length):=by
   intro r
   induction r with
   | nil=>intro _;simp [Lib.joinTail]
   | cons y r ih=>
    intro hr
    have h3:=hr y (by simp)
    have h4:=ih fun z hz=>hr z (by simp [hz])
    simp only [Lib.joinTail,List.map_cons,List.flatten_cons,List.length_append,List.length_cons] at h4 ⊢
    rw [Nat.succ_mul];omega
  have h5:=h2 l fun z hz=>h z (by simp [hz])
  unfold joinL
  rw [List.map_cons,Lib.join_cons,List.length_append,List.length_cons,Nat.succ_mul]
  omega
def cStr (s:List UInt8):List T:=[.v (.string (bs s))]
end Go.Q
set_option maxHeartbeats 1000000
set_option maxRecDepth 100000
namespace Go.Q
open Go.D
def letNames:List (List UInt8):=[[97],[97,45],[98],[98,45],[99],[99,45],[48],[49],[50]]
def letS (k:Int):List UInt8:=letNames[k.toNat]?.getD []
theorem letS_len (k:Int):(letS k).length≤2:=by
 unfold letS
 by_cases h:k.toNat<9
 · have h9:k.toNat=0∨k.toNat=1∨k.toNat=2∨k.toNat=3∨k.toNat=4∨k.toNat=5∨k.toNat=6∨k.toNat=7∨k.toNat=8:=by omega
   rcases h9 with e|e|e|e|e|e|e|e|e<;>rw [e]<;>decide
 rw [List.getElem?_eq_none (by simp [letNames];omega)];simp
theorem letS_get {k:Int} (h0:0≤k) (h8:k≤8):(letNames.map cStr)[k.toNat]?=some (cStr (letS k)):=by
 have hk:k.toNat<letNames.length:=by simp [letNames];omega
 rw [List.getElem?_map,List.getElem?_eq_getElem hk]
 unfold letS
 rw [List.getElem?_eq_getElem hk];rfl
end Go.Q
set_option maxHeartbeats 1000000
set_option maxRecDepth 100000
namespace Go.Proofs.YtdhojcaoljhbiaaGreatDoor
open Go.RowKit Go.Q Go.D Go.Shelf
def Tryz.lays171_ren:Go.Shelf.Ren:=⟨fun|171=>105|243=>142|246=>189|283=>235|284=>236|285=>237|286=>238|129=>163|317=>256|318=>257|319=>258|320=>259|337=>268|338=>269|n=>n,fun|3=>3|9=>9|2=>2|4=>4|171=>253|0=>0|53=>197|37=>22|5=>5|173=>255|212=>275|51=>195|20=>20|213=>276|46=>158|232=>295|233=>296|n=>n,fun|17=>3|18=>6|19=>7|n=>n⟩
theorem Tryz.lays171:Go.Proofs.Lays.n171 Tryz.prog Tryz.lays171_ren:={
 mixed:=by kernel_rfl
 f129:=Tryz.func163.trans (congrArg some (by kernel_rfl))
 f171:=Tryz.func105.trans (congrArg some (by kernel_rfl))
 f243:=Tryz.func142.trans (congrArg some (by kernel_rfl))
 f246:=Tryz.func189.trans (congrArg some (by kernel_rfl))
 f283:=Tryz.func235.trans (congrArg some (by kernel_rfl))
 f284:=Tryz.func236.trans (congrArg some (by kernel_rfl))
 f285:=Tryz.func237.trans (congrArg some (by kernel_rfl))
 f286:=Tryz.func238.trans (congrArg some (by kernel_rfl))
 f317:=Tryz.func256.trans (congrArg some (by kernel_rfl))
 f318:=Tryz.func257.trans (congrArg some (by kernel_rfl))
 f319:=Tryz.func258.trans (congrArg some (by kernel_rfl))
 f320:=Tryz.func259.trans (congrArg some (by kernel_rfl))
 f337:=Tryz.func268.trans (congrArg some (by kernel_rfl))
 f338:=Tryz.func269.trans (congrArg some (by kernel_rfl))
 t0:=Tryz.underlying0
 a0:=Tryz.isAgg0
 z0:=Tryz.sizeOf0
 v0:=Tryz.zeroValue0
 t2:=Tryz.underlying2
 a2:=Tryz.isAgg2
 z2:=Tryz.sizeOf2
 v2:=Tryz.zeroValue2
 t3:=Tryz.underlying3
 a3:=Tryz.isAgg3
 z3:=Tryz.sizeOf3
 v3:=Tryz.zeroValue3
 t4:=Tryz.underlying4
 a4:=Tryz.isAgg4
 z4:=Tryz.sizeOf4
 v4:=Tryz.zeroValue4
 t5:=Tryz.underlying5
 a5:=Tryz.isAgg5
 z5:=Tryz.sizeOf5
 v5:=Tryz.zeroValue5
 t9:=Tryz.underlying9
 a9:=Tryz.isAgg9
 z9:=Tryz.sizeOf9
 v9:=Tryz.zeroValue9
 t20:=Tryz.underlying20
 a20:=Tryz.isAgg20
 z20:=Tryz.sizeOf20
 v20:=Tryz.zeroValue20
 t37:=Tryz.underlying22
 a37:=Tryz.isAgg22
 z37:=Tryz.sizeOf22
 v37:=Tryz.zeroValue22
 t46:=Tryz.underlying158
 a46:=Tryz.isAgg158
 z46:=Tryz.sizeOf158
 v46:=Tryz.zeroValue158
 t51:=Tryz.underlying195
 a51:=Tryz.isAgg195
 z51:=Tryz.sizeOf195
 v51:=Tryz.zeroValue195
 t53:=Tryz.underlying197
 a53:=Tryz.isAgg197
 z53:=Tryz.sizeOf197
 v53:=Tryz.zeroValue197
 t171:=Tryz.underlying253
 a171:=Tryz.isAgg253
 z171:=Tryz.sizeOf253
 v171:=Tryz.zeroValue253
 t173:=Tryz.underlying255
 a173:=Tryz.isAgg255
 z173:=Tryz.sizeOf255
 v173:=Tryz.zeroValue255
 t212:=Tryz.underlying275
 a212:=Tryz.isAgg275
 z212:=Tryz.sizeOf275
 v212:=Tryz.zeroValue275
 t213:=Tryz.underlying276
 a213:=Tryz.isAgg276
 z213:=Tryz.sizeOf276
 t232:=Tryz.underlying295
 a232:=Tryz.isAgg295
 z232:=Tryz.sizeOf295
 v232:=Tryz.zeroValue295
 t233:=Tryz.underlying296
 a233:=Tryz.isAgg296
 z233:=Tryz.sizeOf296
 v233:=Tryz.zeroValue296
 g17:=by kernel_rfl
 g18:=by kernel_rfl
 g19:=by kernel_rfl }
theorem strconvItoa (n:Int) (h0:0≤n) (h1:n<100):FnT Tryz.prog 105 [.one (.v (.int .i64 n))] (.a (.one (.v (.string (bs (numS n)))))):=by
 refine⟨⟨_,Tryz.func105,by kernel_rfl,by kernel_rfl⟩,fun w vs F hG hv=>?_⟩
 obtain⟨v1,vr,G1,G2,rfl,g1,⟨rfl,rfl⟩,rfl⟩:=hv
 simp only [V0r,C] at g1
 obtain⟨rfl,rfl,_⟩:=g1
 have hcon:=Any.strconv_Itoa_small Tryz.lays171 n.toNat (by omega) w
 change Calls Tryz.prog 105 _ _ _ at hcon
 rw [Int.toNat_of_nonneg h0] at hcon
 refine hcon.mono ?_
 rintro e w' ⟨rfl,rfl⟩
 refine⟨_,[],rfl,?_,List.nodup_nil,by simp,Ext.refl _⟩
 simp [Vr,V0r,C]
 exact⟨rfl,rfl⟩
def Tryz.lays156_ren:Go.Shelf.Ren:=⟨fun|156=>62|165=>107|166=>108|169=>109|240=>144|241=>145|276=>191|277=>192|n=>n,fun|31=>102|9=>9|3=>3|4=>4|0=>0|20=>20|72=>147|76=>151|70=>145|37=>22|75=>150|127=>182|164=>214|5=>5|80=>153|n=>n,fun|n=>n⟩
theorem Tryz.lays156:Go.Proofs.Lays.n156 Tryz.prog Tryz.lays156_ren:={
 mixed:=by kernel_rfl
 f156:=Tryz.func62.trans (congrArg some (by kernel_rfl))
 f165:=Tryz.func107.trans (congrArg some (by kernel_rfl))
 f166:=Tryz.func108.trans (congrArg some (by kernel_rfl))
 f169:=Tryz.func109.trans (congrArg some (by kernel_rfl))
 f240:=Tryz.func144.trans (congrArg some (by kernel_rfl))
 f241:=Tryz.func145.trans (congrArg some (by kernel_rfl))
 f276:=Tryz.func191.trans (congrArg some (by kernel_rfl))
 f277:=Tryz.func192.trans (congrArg some (by kernel_rfl))
 t0:=Tryz.underlying0
 a0:=Tryz.isAgg0
 z0:=Tryz.sizeOf0
 v0:=Tryz.zeroValue0
 t3:=Tryz.underlying3
 a3:=Tryz.isAgg3
 z3:=Tryz.sizeOf3
 v3:=Tryz.zeroValue3
 t4:=Tryz.underlying4
 a4:=Tryz.isAgg4
 z4:=Tryz.sizeOf4
 v4:=Tryz.zeroValue4
 t9:=Tryz.underlying9
 a9:=Tryz.isAgg9
 z9:=Tryz.sizeOf9
 v9:=Tryz.zeroValue9
 t20:=Tryz.underlying20
 a20:=Tryz.isAgg20
 z20:=Tryz.sizeOf20
 v20:=Tryz.zeroValue20
 t31:=Tryz.underlying102
 a31:=Tryz.isAgg102
 z31:=Tryz.sizeOf102
 v31:=Tryz.zeroValue102
 t37:=Tryz.underlying22
 a37:=Tryz.isAgg22
 z37:=Tryz.sizeOf22
 v37:=Tryz.zeroValue22
 t70:=Tryz.underlying145
 a70:=Tryz.isAgg145
 z70:=Tryz.sizeOf145
 v70:=Tryz.zeroValue145
 t72:=Tryz.underlying147
 a72:=Tryz.isAgg147
 z72:=Tryz.sizeOf147
 v72:=Tryz.zeroValue147
 t75:=Tryz.underlying150
 a75:=Tryz.isAgg150
 z75:=Tryz.sizeOf150
 v75:=Tryz.zeroValue150
 t76:=Tryz.underlying151
 a76:=Tryz.isAgg151
 z76:=Tryz.sizeOf151
 v76:=Tryz.zeroValue151
 t127:=Tryz.underlying182
 a127:=Tryz.isAgg182
 z127:=Tryz.sizeOf182
 v127:=Tryz.zeroValue182
 t164:=Tryz.underlying214
 a164:=Tryz.isAgg214
 z164:=Tryz.sizeOf214
 v164:=Tryz.zeroValue214 }
theorem joinExtra:Builder.Extra Tryz.prog Tryz.lays156_ren where
 sizeBuilder:=by kernel_rfl
 liesBuilder:=by kernel_rfl
 t5:=Tryz.lays171.t5
 a5:=Tryz.lays171.a5
 z5:=Tryz.lays171.z5
 v5:=Tryz.lays171.v5
 infoByte:=by kernel_rfl
 cellsByte:=by kernel_rfl
 sizeByte:=by kernel_rfl
 neB5:=by decide
theorem stringsJoin (xs:List (List UInt8)) (sep:List UInt8) (hz:(joinL sep xs).length≤140737488355328) (hn:xs.length≤1099511627776):FnT Tryz.prog 62 [.one (.sl 1 (xs.map cStr)),.one (.v (.string (bs sep)))] (.a (.one (.v (.string (bs (joinL sep xs)))))):=by
 refine⟨⟨_,Tryz.func62,by kernel_rfl,by kernel_rfl⟩,fun w vs F hG hv=>?_⟩
 obtain⟨v1,vr,G1,G2,rfl,g1,⟨v2,vr2,G3,G4,rfl,g2,⟨rfl,rfl⟩,rfl⟩,rfl⟩:=hv
 simp only [V0r,C] at g1 g2
 obtain⟨rfl,rfl,_⟩:=g2
 obtain⟨a,len,cap,rfl,e1,e2,e3,e4⟩:=g1
 have hmap:(xs.map bs).map (·.data.toList)=xs:=by
  rw [List.map_map]
  conv=>rhs;rw [←List.map_id xs]
  exact List.map_congr_left fun x _=>bs_list x
 rcases e4 with ⟨rfl,_,_⟩|⟨b,off,G,rfl,_,hb,_,hR⟩
 · have hx:xs=[]:=by cases xs with|nil=>rfl|cons _ _=>simp at e1
   subst hx
   have hcon:=Any.strings_Join_none Tryz.lays156 joinExtra a cap (bs sep) w
   change Calls Tryz.prog 62 _ _ _ at hcon
   refine hcon.mono ?_
   rintro e w' ⟨rfl,rfl⟩
   refine⟨_,[],rfl,?_,List.nodup_nil,by simp,Ext.refl _⟩
   simp [Vr,V0r,C]
   exact⟨rfl,rfl⟩
 have hlen:xs.length=len:=by simpa using e1
 subst hlen
 have hcells:∀ (j:Nat) x,(xs.map bs)[j]?=some x→w.cell? ⟨b,off+j,none⟩=some (.string x):=fun j x hj=>by
  have hj2:(xs.map cStr)[j]?=some [.v (.string x)]:=by
   rw [List.getElem?_map] at hj ⊢
   cases hx:xs[j]? with
   | none=>rw [hx] at hj;cases hj
   | some y=>rw [hx] at hj;cases hj;rfl
  obtain⟨G',hM,_⟩:=hR.get hj2
  simp only [Ms,C] at hM
  obtain⟨c,_,_,hc,⟨rfl,_⟩,_⟩:=hM
  rw [Nat.mul_one] at hc
  exact hc
 have hcon:=Any.strings_Join Tryz.lays156 joinExtra b off cap (xs.map bs) (bs sep) w hcells hb (by rw [List.length_map];omega) (by rw [List.length_map];exact e2) (by rw [hmap,bs_list];exact hz)
 rw [hmap,bs_list,List.length_map] at hcon
 change Calls Tryz.prog 62 _ _ _ at hcon
 refine hcon.mono ?_
 rintro e w' ⟨rfl,hB⟩
 refine⟨_,[],rfl,?_,List.nodup_nil,by simp,(Ext.refl w).trans' hB.os hB.tape hB.output hB.size hB.block⟩
 simp [Vr,V0r,C]
 exact⟨rfl,rfl⟩
end Go.Proofs.YtdhojcaoljhbiaaGreatDoor
set_option maxHeartbeats 1000000
set_option maxRecDepth 100000
namespace Go.Q
open Go.D
def tokS (t:TToken):List UInt8:=
 if t.Kind=1 then [33] else if t.Kind=2 then [40,41] else if t.Kind=3 then letS t.Letter else if t.Kind=4 then [46] else if t.Kind=5 then [124] else if t.Kind=6 then [42]
 else [123]++numS t.Low++[44]++numS t.High++[125]
theorem depth_ar:∀ {l:List TToken} {d:Int},depthGo d l=true→∀ t∈l,0≤arity t
 | [],_,_=>fun t ht=>by cases ht
 | x::r,d,h=>by
  rw [depthGo] at h
  split at h
  · cases h
  rename_i hc
  intro t ht
  rcases List.mem_cons.1 ht with rfl|ht
  · omega
  exact depth_ar h t ht
theorem valid_toks {e:TExpr} (h:isValidExpr e=true):e.Tokens.length≤24∧∀ t∈e.Tokens,0≤arity t:=by
 unfold isValidExpr isExpr at h
 simp only [Bool.and_eq_true,decide_eq_true_eq] at h
 exact⟨h.1,depth_ar h.2⟩
theorem tok_rep {t:TToken} (h:0≤arity t) (h1:t.Kind≠1) (h2:t.Kind≠2) (h3:t.Kind≠3) (h4:t.Kind≠4) (h5:t.Kind≠5) (h6:t.Kind≠6):(0≤t.Low∧t.Low≤3)∧0≤t.High∧t.High≤3:=by
 unfold arity at h
 rw [if_neg (by omega),if_neg h3,if_neg (by omega),if_neg h6] at h
 split at h
 · split at h
   · rename_i hc
     simp only [inB,Bool.and_eq_true,decide_eq_true_eq] at hc
     omega
   omega
 omega
theorem tok_let {t:TToken} (h:0≤arity t) (h3:t.Kind=3):0≤t.Letter∧t.Letter≤8:=by
 unfold arity at h
 rw [if_neg (by omega),if_pos h3] at h
 split at h
 · rename_i hc
   simp only [inB,Bool.and_eq_true,decide_eq_true_eq] at hc
   omega
 omega
theorem tokS_len {t:TToken} (h:0≤arity t):(tokS t).length≤8:=by
 unfold tokS
 split
 · simp
 split
 · simp
 split
 · have:=letS_len t.Letter;omega
 split
 · simp
 split
 · simp
 split
 · simp
 have hr:=tok_rep h (by assumption) (by assumption) (by assumption) (by assumption) (by assumption) (by assumption)
 have a1:=numS_len (n:=t.Low) (by omega)
 have a2:=numS_len (n:=t.High) (by omega)
 simp only [List.length_append,List.length_cons,List.length_nil]
 omega
def fmtExpr (e:TExpr):List UInt8:=if isValidExpr e=true then joinL [32] (e.Tokens.map tokS) else []
theorem fmtExpr_len (e:TExpr):(fmtExpr e).length≤216:=by
 unfold fmtExpr
 split
 · rename_i h
   have hv:=valid_toks h
   have:=joinL_len (sep:=[32]) (b:=8) (f:=tokS) (l:=e.Tokens) fun t ht=>tokS_len (hv.2 t ht)
   simp at this;omega
 simp
def fmtAtom (x:TPathAtom):List UInt8:=numS x.From++[58]++numS x.To++[32]++fmtExpr x.Expr
def fmtConj (q:TConjunction):List UInt8:=if validConj q=true then joinL [59] (q.Atoms.map fmtAtom) else []
theorem conj_mem {q:TConjunction} (h:validConj q=true):q.Atoms.length≤4∧(1≤q.VariableCount∧q.VariableCount≤4)∧∀ x∈q.Atoms,((0≤x.From∧x.From<q.VariableCount)∧0≤x.To∧x.To<q.VariableCount)∧isValidExpr x.Expr=true:=by
 unfold validConj inB at h
 simp only [Bool.and_eq_true,decide_eq_true_eq] at h
 refine⟨by omega,by omega,fun x hx=>?_⟩
 have h1:=List.all_eq_true.1 h.1.2 x hx
 refine⟨atomOk_r h1,?_⟩
 unfold atomOk at h1
 simp only [Bool.and_eq_true] at h1
 exact h1.2
theorem fmtAtom_len {x:TPathAtom} (h1:x.From<100) (h2:x.To<100):(fmtAtom x).length≤222:=by
 have a1:=numS_len h1
 have a2:=numS_len h2
 have a3:=fmtExpr_len x.Expr
 unfold fmtAtom
 simp only [List.length_append,List.length_cons,List.length_nil]
 omega
end Go.Q
set_option maxHeartbeats 1000000
set_option maxRecDepth 100000
namespace Go.Q
open Go.D
def itoS (n:Int):List UInt8:=Lib.itoa n
theorem itoS_num {n:Int} (h:0≤n):itoS n=numS n:=by unfold itoS numS Lib.itoa;rw [if_neg (by omega)]
theorem dig_le:∀ (k u:Nat),1≤k→(u<10^k↔(Lib.decDigits u).length≤k)
 | 0,_,h=>by omega
 | k+1,u,_=>by
  by_cases h:u<10
  · rw [dig_small h]
    have:10^(k+1)=10^k*10:=by rw [Nat.pow_succ]
    have h1:1≤10^k:=Nat.one_le_pow _ _ (by decide)
    simp;omega
  rw [dig_more (by omega),List.length_append,List.length_singleton,Nat.pow_succ]
  by_cases hk:k=0
  · subst hk
    rw [Nat.pow_zero]
    have h1:1≤(Lib.decDigits (u / 10)).length:=by
     by_cases h2:u / 10<10
     · rw [dig_small h2];simp
     rw [dig_more (by omega)];simp
    omega
  have:=dig_le k (u / 10) (by omega)
  omega
theorem dig_ne (u:Nat):Lib.decDigits u≠[]:=by
 by_cases h:u<10
 · rw [dig_small h];simp
 rw [dig_more (by omega)];simp
def isDg (b:UInt8):Bool:=decide (48≤b.toNat)&&decide (b.toNat≤57)
def accN (l:List UInt8):Nat:=l.foldl (fun n b=>if isDg b=true then n*10+(b.toNat-48) else n) 0
def cntD (l:List UInt8):Nat:=l.countP isDg
theorem accN_snoc (l:List UInt8) (b:UInt8):accN (l++[b])=if isDg b=true then accN l*10+(b.toNat-48) else accN l:=by unfold accN;rw [List.foldl_append];rfl
theorem dg_of {d:Nat} (h:d<10):isDg (UInt8.ofNat (48+d))=true∧(UInt8.ofNat (48+d)).toNat-48=d:=by
 have e:(UInt8.ofNat (48+d)).toNat=48+d:=by rw [UInt8.toNat_ofNat'];omega
 unfold isDg
 rw [e]
 constructor
 · simp;omega
 omega
theorem dig_all:∀ (k u:Nat),u<k→(Lib.decDigits u).all isDg=true
 | 0,_,h=>by omega
 | k+1,u,h=>by
  by_cases h1:u<10
  · rw [dig_small h1];simpa using (dg_of h1).1
  rw [dig_more (by omega),List.all_append,dig_all k (u / 10) (by omega)]
  simpa using (dg_of (Nat.mod_lt u (by decide))).1
theorem accN_dig:∀ (k u:Nat),u<k→accN (Lib.decDigits u)=u
 | 0,_,h=>by omega
 | k+1,u,h=>by
  by_cases h1:u<10
  · rw [dig_small h1]
    have:=accN_snoc [] (UInt8.ofNat (48+u))
    rw [List.nil_append,if_pos (dg_of h1).1,(dg_of h1).2] at this
    rw [this];simp [accN]
  have hm:=dg_of (Nat.mod_lt u (show 0<10 by decide))
  rw [dig_more (by omega),accN_snoc,accN_dig k (u / 10) (by omega),if_pos hm.1,hm.2]
  omega
theorem cntD_dig (u:Nat):cntD (Lib.decDigits u)=(Lib.decDigits u).length:=by
 unfold cntD
 rw [List.countP_eq_length]
 exact List.all_eq_true.1 (dig_all (u+1) u (by omega))
theorem dig_head {u:Nat}:(Lib.decDigits u).head?≠some 45:=by
 intro h
 have:=List.all_eq_true.1 (dig_all (u+1) u (by omega)) 45 (List.mem_of_mem_head? h)
 exact absurd this (by decide)
def sgnN (l:List UInt8):Int:=if l.head?=some 45 then -(accN l:Int) else accN l
theorem sgn_itoS (n:Int):sgnN (itoS n)=n∧cntD (itoS n)=(Lib.decDigits n.natAbs).length:=by
 unfold sgnN itoS Lib.itoa
 by_cases h:n<0
 · rw [if_pos h]
   have e1:accN (45::Lib.decDigits n.natAbs)=accN (Lib.decDigits n.natAbs):=by
    unfold accN
    rw [List.foldl_cons,if_neg (by decide)]
   have e2:cntD (45::Lib.decDigits n.natAbs)=cntD (Lib.decDigits n.natAbs):=by
    unfold cntD
    rw [List.countP_cons_of_neg (by decide)]
   rw [List.head?_cons,if_pos rfl,e1,e2,accN_dig (n.natAbs+1) _ (by omega),cntD_dig]
   exact⟨by omega,rfl⟩
 rw [if_neg h,if_neg dig_head,accN_dig (n.toNat+1) _ (by omega),cntD_dig]
 exact⟨by omega,by rw [show n.natAbs=n.toNat by omega]⟩
def parseI (l:List UInt8):Int×Bool:=if cntD l≤9∧l.length≤10∧itoS (sgnN l)=l then (sgnN l,true) else (0,false)
theorem parseI_of {l:List UInt8} {n:Int} (h:itoS n=l):parseI l=if -999999999≤n∧n≤999999999 then (n,true) else (0,false):=by
 obtain⟨h1,h2⟩:=sgn_itoS n
 rw [h] at h1 h2
 have h3:=dig_le 9 n.natAbs (by decide)
 unfold parseI
 rw [h1,h2]
 by_cases hb:-999999999≤n∧n≤999999999
 · have h4:(Lib.decDigits n.natAbs).length≤9:=h3.1 (by omega)
   have h5:l.length≤10:=by
    rw [←h]
    unfold itoS Lib.itoa
    split
    · rw [List.length_cons];omega
    rw [show n.toNat=n.natAbs by omega];omega
   rw [if_pos ⟨h4,h5,h⟩,if_pos hb]
 rw [if_neg (fun hh=>hb (by have:=h3.2 hh.1;omega)),if_neg hb]
theorem parseI_no {l:List UInt8} (h:∀ n,itoS n≠l):parseI l=(0,false):=by
 unfold parseI
 rw [if_neg (fun hh=>h _ hh.2.2)]
theorem parseI_get {l:List UInt8} {n:Int} (h:parseI l=(n,true)):itoS n=l∧ -999999999≤n∧n≤999999999:=by
 unfold parseI at h
 split at h
 · rename_i hc
   obtain⟨h1,h2,h3⟩:=hc
   cases h
   refine⟨h3,?_⟩
   have h4:=(sgn_itoS (sgnN l)).2
   rw [h3] at h4
   have h5:=(dig_le 9 (sgnN l).natAbs (by decide)).2 (by omega)
   omega
 cases h
def splitL (c:UInt8):List UInt8→List (List UInt8)
 | []=>[[]]
 | b::l=>if b=c then []::splitL c l else (b::(splitL c l).headD [])::(splitL c l).tail
theorem splitL_ne (c:UInt8) (l:List UInt8):splitL c l≠[]:=by
 cases l with
 | nil=>simp [splitL]
 | cons b l=>unfold splitL;split<;>simp
theorem splitL_no {c:UInt8}:∀ {l:List UInt8},c∉l→splitL c l=[l]
 | [],_=>rfl
 | b::l,h=>by
  unfold splitL
  rw [if_neg (fun e=>h (by simp [e])),splitL_no fun hm=>h (by simp [hm])]
  rfl
theorem splitL_hit {c:UInt8} {r:List UInt8}:∀ {l:List UInt8},c∉l→splitL c (l++c::r)=l::splitL c r
 | [],_=>by rw [List.nil_append,splitL,if_pos rfl]
 | b::l,h=>by
  rw [List.cons_append,splitL,if_neg (fun e=>h (by simp [e])),splitL_hit fun hm=>h (by simp [hm])]
  rfl
theorem splitL_len (c:UInt8):∀ l:List UInt8,(splitL c l).length=l.count c+1
 | []=>rfl
 | b::l=>by
  unfold splitL
  have ih:=splitL_len c l
  split
  · rename_i h;subst h;rw [List.length_cons,ih,List.count_cons_self]
  rename_i h
  rw [List.length_cons,List.length_tail,ih,List.count_cons_of_ne (by simpa using h)];omega
theorem splitL_join (c:UInt8):∀ l:List UInt8,joinL [c] (splitL c l)=l
 | []=>rfl
 | b::l=>by
  have ih:=splitL_join c l
  unfold splitL
  obtain⟨x,r,hx⟩:∃ x r,splitL c l=x::r:=by
   cases h:splitL c l with
   | nil=>exact absurd h (splitL_ne c l)
   | cons x r=>exact⟨x,r,rfl⟩
  rw [hx] at ih ⊢
  unfold joinL at ih ⊢
  rw [Lib.join_cons] at ih
  split
  · rename_i h;subst h
    rw [Lib.join_cons,←ih]
    simp [Lib.joinTail]
  rw [Lib.join_cons]
  simp only [List.headD_cons,List.tail_cons,List.cons_append]
  rw [ih]
theorem splitL_mem {c:UInt8}:∀ {l x:List UInt8},x∈splitL c l→c∉x∧x.length≤l.length
 | [],x,h=>by
  simp [splitL] at h
  subst h;simp
 | b::l,x,h=>by
  unfold splitL at h
  split at h
  · rcases List.mem_cons.1 h with rfl|h
    · simp
    have:=splitL_mem h
    exact⟨this.1,by simp;omega⟩
  rename_i hb
  obtain⟨y,r,hx⟩:∃ x r,splitL c l=x::r:=by
   cases h':splitL c l with
   | nil=>exact absurd h' (splitL_ne c l)
   | cons x r=>exact⟨x,r,rfl⟩
  rw [hx] at h
  rcases List.mem_cons.1 h with rfl|h
  · have:=splitL_mem (c:=c) (l:=l) (x:=y) (by rw [hx];simp)
    refine⟨fun hm=>?_,by simp;exact this.2⟩
    rcases List.mem_cons.1 hm with e|hm
    · exact hb e.symm
    exact this.1 hm
  have:=splitL_mem (c:=c) (l:=l) (x:=x) (by rw [hx];simp;exact .inr (by simpa using h))
  exact⟨this.1,by simp;omega⟩
theorem cut_step {c b:UInt8} {l:List UInt8} {O:List (List UInt8)} {F i:Nat} (hb:l[i]?=some b) (hi:F≤i∧i≤l.length∧c∉(l.take i).drop F∧O.length≤i) (hbe:b=c) (he:splitL c l=O++splitL c (l.drop F)) :
 splitL c l=(O++[(l.take i).drop F])++splitL c (l.drop (i+1)):=by
 subst hbe
 have hl:=(List.getElem?_eq_some_iff.1 hb).1
 have e:l.drop F=(l.take i).drop F++b::l.drop (i+1):=by
  conv=>lhs;rw [←List.take_append_drop i l]
  rw [List.drop_append,List.length_take,show F-min i l.length=0 by omega,List.drop_zero,List.drop_eq_getElem_cons hl,(List.getElem?_eq_some_iff.1 hb).2]
 rw [he,e,splitL_hit hi.2.2.1]
 simp
theorem cut_keep {c b:UInt8} {l:List UInt8} {O:List (List UInt8)} {F i:Nat} (hb:l[i]?=some b) (hi:F≤i∧i≤l.length∧c∉(l.take i).drop F∧O.length≤i) (hbe:b≠c):c∉(l.take (i+1)).drop F:=by
 have hl:=(List.getElem?_eq_some_iff.1 hb).1
 rw [List.take_add_one,hb,List.drop_append,List.length_take]
 intro h
 rcases List.mem_append.1 h with h|h
 · exact hi.2.2.1 h
 rw [show F-min i l.length=0 by omega] at h
 simp at h
 exact hbe h.symm
theorem split_eq (c:UInt8):∀ (k:Nat) (s:ByteArray),s.data.toList.count c=k→Lib.splitB (bs [c]) 0 k s=(splitL c s.data.toList).map bs:=by
 intro k
 induction k with
 | zero=>
  intro s h
  rw [Lib.splitB_zero,splitL_no (List.count_eq_zero.1 h)]
  simp [bs]
 | succ k ih=>
  intro s h
  have hmem:c∈s.data.toList:=List.count_pos_iff.1 (by omega)
  rcases Lib.indexB_cases s (bs [c]) with h1|⟨i,h1,h2⟩
  · exfalso
    have h3:Lib.index s.data.toList [c]=-1:=by
     have e:Lib.indexB s (bs [c])=Lib.index s.data.toList (bs [c]).data.toList:=rfl
     rw [bs_list] at e;rw [←e];exact h1
    rw [Lib.index_one] at h3
    obtain⟨j,hj⟩:=List.getElem?_of_mem hmem
    exact Lib.indexByte_none h3 j hj
  have h3:Lib.index s.data.toList [c]=i:=by
   have e:Lib.indexB s (bs [c])=Lib.index s.data.toList (bs [c]).data.toList:=rfl
   rw [bs_list] at e;rw [←e];exact h1
  rw [Lib.index_one] at h3
  obtain⟨h4,h5⟩:=Lib.indexByte_some h3
  have hi:=(List.getElem?_eq_some_iff.1 h4).1
  have hsp:s.data.toList=s.data.toList.take i++c::s.data.toList.drop (i+1):=by
   conv=>lhs;rw [←List.take_append_drop i s.data.toList]
   rw [List.drop_eq_getElem_cons hi,(List.getElem?_eq_some_iff.1 h4).2]
  have hno:c∉s.data.toList.take i:=fun hm=>by
   obtain⟨j,hj⟩:=List.getElem?_of_mem hm
   have hj2:=(List.getElem?_eq_some_iff.1 hj).1
   rw [List.length_take] at hj2
   rw [List.getElem?_take_of_lt (by omega)] at hj
   exact h5 j (by omega) hj
  rw [Lib.splitB_hit _ _ _ _ _ h1,Nat.add_zero,bs_size,List.length_singleton]
  have e1:s.extract 0 i=bs (s.data.toList.take i):=by
   apply ByteArray.ext
   rw [ByteArray.data_extract]
   apply Array.ext'
   simp [bs]
  have e2:(s.extract (i+1) s.size).data.toList=s.data.toList.drop (i+1):=by
   rw [ByteArray.data_extract,Array.toList_extract,List.extract_eq_take_drop]
   rw [List.take_of_length_le (by rw [List.length_drop,Array.length_toList];exact Nat.le_refl _)]
  have hc:(s.data.toList.drop (i+1)).count c=k:=by
   rw [hsp,List.count_append,List.count_cons_self,List.count_eq_zero.2 hno] at h
   omega
  rw [ih _ (by rw [e2];exact hc),e2,e1]
  conv=>rhs;rw [hsp,splitL_hit hno]
  rfl
theorem split_joinL {c:UInt8}:∀ (xs:List (List UInt8)),xs≠[]→(∀ x∈xs,c∉x)→splitL c (joinL [c] xs)=xs:=by
 intro xs
 induction xs with
 | nil=>intro h _;exact absurd rfl h
 | cons x r ih=>
  intro _ h
  cases r with
  | nil=>unfold joinL;rw [Lib.join_one];exact splitL_no (h x (by simp))
  | cons y r=>
   have e:joinL [c] (x::y::r)=x++c::joinL [c] (y::r):=by
    unfold joinL
    rw [Lib.join_cons,Lib.join_cons]
    simp [Lib.joinTail]
   rw [e,splitL_hit (h x (by simp)),ih (by simp) fun z hz=>h z (by simp [hz])]
theorem bs_get (l:List UInt8) (n:Nat):(bs l)[n]?=l[n]?:=by
 show (bs l).data[n]?=l[n]?
 simp [bs]
theorem bs_extract (l:List UInt8) (n m:Nat):(bs l).extract n m=bs ((l.take m).drop n):=by
 apply ByteArray.ext
 rw [ByteArray.data_extract]
 apply Array.ext'
 rw [Array.toList_extract,List.extract_eq_take_drop,bs_list]
 simp only [bs]
 rw [List.drop_take]
end Go.Q
