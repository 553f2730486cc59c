import Derived.Test.YtbecibmlbiebeaaGreatB14xa
import Derived.Test.YtbecibmlbiebeaaGreatAbsJxa
set_option linter.unusedVariables false
set_option linter.unusedSimpArgs false
set_option maxHeartbeats 1000000
set_option maxRecDepth 100000
namespace Go.Q
open Go.D
theorem range_app {α:Type} (k:Nat) (c:α→List T) (F:Nat→List α) (y:α) {n i:Nat}:((List.range n).map fun x=>[T.sl k ((F x).map c)]).set i [T.sl k ((F i).map c++[c y])]=(List.range n).map fun x=>[T.sl k ((F x++if x=i then [y] else []).map c)]:=by
 rw [range_set]
 congr 1
 funext x
 by_cases h:x=i
 · subst h;simp
 · simp [h]
theorem arcs_step {l:List TEdge} {k:Nat} {e:TEdge} (h:l[k]?=some e) (h1:0≤e.From) (h2:0≤e.To) (x:Nat):(arcsL (l.take k) x++if x=e.From.toNat then [⟨⟨e.ID,false⟩,reads e false,e.To⟩] else [])++(if x=e.To.toNat then [⟨⟨e.ID,true⟩,reads e true,e.From⟩] else [])=arcsL (l.take (k+1)) x:=by
 rw [arcsL_at h,arcsOf,List.append_assoc]
 have e1:(x=e.From.toNat)↔(e.From=(x:Int)):=by omega
 have e2:(x=e.To.toNat)↔(e.To=(x:Int)):=by omega
 simp only [e1,e2]
def nxN (g:TGraph) (a:TAutomaton) (i:Nat):List Int:=nextsOf g a ((i / a.Accept.length:Nat):Int) ((i%a.Accept.length:Nat):Int)
def rowAt (nx:Nat→List Int) (p:Nat) (l:List Int) (i:Nat):List Int:=if i<p then nx i else if i=p then l else []
theorem rowAt_app (nx:Nat→List Int) (p:Nat) (l:List Int) (y:Int) (i:Nat):rowAt nx p l i++(if i=p then [y] else [])=rowAt nx p (l++[y]) i:=by
 unfold rowAt
 by_cases h:i<p
 · rw [if_pos h,if_pos h,if_neg (by omega),List.append_nil]
 · rw [if_neg h,if_neg h]
   by_cases e:i=p
   · simp [e]
   · simp [e]
theorem rowAt_next (nx:Nat→List Int) (p:Nat) (i:Nat):rowAt nx p (nx p) i=rowAt nx (p+1) [] i:=by
 unfold rowAt
 by_cases h:i<p
 · rw [if_pos h,if_pos (by omega)]
 · rw [if_neg h]
   by_cases e:i=p
   · subst e;simp
   · rw [if_neg e,if_neg (by omega)];simp
def nvRows (g:TGraph) (a:TAutomaton) (p:Nat) (l:List Int):List (List T):=(List.range (a.Accept.length*g.Values.length)).map fun (i:Nat)=>[T.sl 1 ((rowAt (nxN g a) p l i).map cInt)]
theorem nvRows_self {g:TGraph} {a:TAutomaton} {p:Nat} (l:List Int) (h:p<a.Accept.length*g.Values.length):(nvRows g a p l)[p]?=some [T.sl 1 (l.map cInt)]:=by
 unfold nvRows
 rw [range_get _ h]
 unfold rowAt
 rw [if_neg (by omega),if_pos rfl]
theorem nvRows_app {g:TGraph} {a:TAutomaton} {p:Nat} (l:List Int) (y:Int):(nvRows g a p l).set p [T.sl 1 (l.map cInt++[cInt y])]=nvRows g a p (l++[y]):=by
 have h:=range_app 1 cInt (rowAt (nxN g a) p l) y (n:=a.Accept.length*g.Values.length) (i:=p)
 rw [show rowAt (nxN g a) p l p=l by unfold rowAt;rw [if_neg (by omega),if_pos rfl]] at h
 unfold nvRows
 rw [h]
 congr 1
 funext i
 rw [rowAt_app]
theorem nvRows_zero (g:TGraph) (a:TAutomaton):List.replicate (a.Accept.length*g.Values.length) [T.sl 1 []]=nvRows g a 0 []:=by
 unfold nvRows rowAt
 apply List.ext_getElem<;>simp
theorem div_idx {x s n:Nat} (h:s<n):(x*n+s) / n=x∧(x*n+s)%n=s:=by
 constructor
 · rw [Nat.mul_comm,Nat.mul_add_div (by omega),Nat.div_eq_of_lt h,Nat.add_zero]
 · rw [Nat.mul_comm,Nat.mul_add_mod,Nat.mod_eq_of_lt h]
theorem nxN_at (g:TGraph) (a:TAutomaton) {x s:Nat} (h:s<a.Accept.length):nxN g a (x*a.Accept.length+s)=nextsOf g a x s:=by
 unfold nxN
 rw [(div_idx h).1,(div_idx h).2]
theorem nvRows_next (g:TGraph) (a:TAutomaton) {x s:Nat} (h:s<a.Accept.length):nvRows g a (x*a.Accept.length+s) (nextsOf g a x s)=nvRows g a (x*a.Accept.length+(s+1)) []:=by
 unfold nvRows
 congr 1
 funext i
 rw [←nxN_at g a h,rowAt_next]
 rfl
theorem nvRows_end (g:TGraph) (a:TAutomaton) {p:Nat} (h:a.Accept.length*g.Values.length≤p):nvRows g a p []=((List.range (a.Accept.length*g.Values.length)).map (nxN g a)).map cIntS:=by
 unfold nvRows
 rw [List.map_map]
 apply List.map_congr_left;intro i hi
 have:=List.mem_range.1 hi
 unfold rowAt
 rw [if_pos (by omega)]
 rfl
theorem idx_lt {x s n V:Nat} (hx:x<V) (hs:s<n):x*n+s<n*V:=by
 calc x*n+s<x*n+n:=by omega
  _=(x+1)*n:=by rw [Nat.succ_mul]
  _≤V*n:=Nat.mul_le_mul_right _ hx
  _=n*V:=Nat.mul_comm _ _
theorem flatMap_at {α β:Type} (f:α→List β) {l:List α} {j:Nat} {y:α} (h:l[j]?=some y):(l.take (j+1)).flatMap f=(l.take j).flatMap f++f y:=by
 rw [take_at h,List.flatMap_append];simp
theorem vertN_at {a:TAutomaton} {s v:Int} {y:TArc} {u t:Nat} (h:(bitsN (aft1 a s v y.letter))[u]?=some t):(vertN a s v y)[u]?=some (y.to*a.Accept.length+t):=by
 unfold vertN
 rw [List.getElem?_map,h];rfl
theorem vertN_len (a:TAutomaton) (s v:Int) (y:TArc):(vertN a s v y).length=(bitsN (aft1 a s v y.letter)).length:=by unfold vertN;simp
def nextsV (g:TGraph) (a:TAutomaton):List (List Int):=(List.range (a.Accept.length*g.Values.length)).map (nxN g a)
theorem flatMap_len {α β:Type} {f:α→List β} {b:Nat} (h:∀ x,(f x).length≤b):∀ l:List α,(l.flatMap f).length≤l.length*b
 | []=>by simp
 | x::l=>by
  rw [List.flatMap_cons,List.length_append,List.length_cons,Nat.succ_mul]
  have:=h x
  have:=flatMap_len h l
  omega
end Go.Q
namespace Go.Proofs.YtbecibmlbiebeaaGreat
open Go.RowKit Go.Q Go.D
theorem implarcs (g:TGraph) (hg:validG g=true):FnT Tryz.prog 150 [.agg (cGraph g)] (.a (.one (.sl 1 ((arcsV g).map cArcS)))):=by
 refine Ba Tryz.func150 U (by kernel_rfl) Tryz.ntmps150 U fun hlen w0=>?_
 try simp [cEdge,cGraph,cAutomaton] at hlen
 have hG:=validG_len hg
 refine Ah (Ab (Bm U U U (.tm U) (ts:=_) (by rfl)) U ?_);refine Av ?_;refine Bw (i:=2) 20001 1 U U ?_;refine Aa (Ah (Ab (Ao U (.no U) U (.tm U) Ck) U ?_));refine Ab (Ap U (.no U) U (.tm U) By U U) U ?_;refine Ab (Bd U (.no U) U (.tm U) (by exact .t) Tryz.underlying40) U ?_;refine Bh (R_makeSlice 9 U U U (.tm U) Tryz.underlying104 in175 U U U U (by omega)) U ?_;refine Bq (Le.nilRow (id:=9) 4 U) ?_;refine Ak ?_;refine Aa (Af (Ah (Ab (Ao U (.no U) U (.tm U) Ct) U ?_)));refine Ab (Ap U (.no U) U (.tm U) ty43 U U) U ?_;refine Ab (Bd U (.no U) U (.tm U) (by exact .t) Tryz.underlying43) U ?_;refine Ab (Ar U (.no U) U (.const U)) U ?_
 refine Aa (AW.block (Bs (fun (k:Nat)=>(k≤g.Edges.length)∧True) (fun (k:Nat)=>⟨_,[(13,(true,.a (.one (.t (.v (.int .i64 (k:Nat))))))),(3,(true,.a (.one (.rf 9)))),(2,_),(11,_),(12,_)],[(9,.row 1 ((List.range g.Values.length).map fun (x:Nat)=>[T.sl 4 ((arcsL (g.Edges.take k) x).map cArc)]))]⟩) (fun (k:Nat)=>g.Edges.length-k) (0) ⟨Nat.zero_le _,Y⟩ (An U ⟨U,U,U,U,U,Y⟩ ⟨congrArg (fun r=>some (R.row 1 r)) (by apply List.ext_getElem<;>simp [arcsL]),Y⟩) ?_))
 rintro k ⟨hk,he⟩
 refine Ah (Ab (Bz U (.no U) U (.tm U) (.tm U)) U ?_);refine Aa (Af (Aq (.tm U) (fun h14=>?_) (fun h14=>?_)))
 · try simp at h14
   obtain⟨e,he1⟩:∃ ξ,g.Edges[k]?=some ξ:=⟨_,List.getElem?_eq_getElem (by omega)⟩
   have hE:=validG_edge hg he1
   have hL:∀ x:Int,(arcsL (g.Edges.take k) x).length≤24:=fun x=>Nat.le_trans (arcsL_len _ x) (by simp;omega)
   have hL1:=hL (e.From.toNat:Nat)
   obtain⟨F1,hF1⟩:∃ F:Nat→List TArc,F=fun (x:Nat)=>arcsL (g.Edges.take k) x++if x=e.From.toNat then [(⟨⟨e.ID,false⟩,reads e false,e.To⟩:TArc)] else []:=⟨_,rfl⟩
   have hL2:(F1 e.To.toNat).length≤25:=by (rw [hF1];have:=hL (e.To.toNat:Nat);dsimp only;rw [List.length_append];split<;>simp only [List.length_cons,List.length_nil]<;>omega)
   refine As (Af (AW.block (Ah (Ab (Aw U (.no U) U (.tm U) (.tm U) Tryz.underlying43 C3 (fun _=>⟨by omega,Ax he1⟩)) U ?_))));refine Ab (Ap U (.no U) U (.tm U) C3 U U) U ?_;refine Bh (Bl 5 U U U in201 U U U) U ?_;refine A5 (Au U U U (.tm U) (.tm U) U C3 U U U (by kernel_rfl) U) ?_;refine Aa (Af (A4 (σ':=⟨_,[(2,_),(3,_),(5,_),(11,_),(12,_),(13,_)],[(9,.row 1 ((List.range g.Values.length).map fun (x:Nat)=>[T.sl 4 ((arcsL (g.Edges.take k) x).map cArc)])),(5,.box [.t (.v (.int .i64 e.ID)),.t (.v (.int .i64 e.From)),.t (.v (.int .i64 e.To)),.t (.v (.int .i64 e.Label))])]⟩) Ai ?_));refine AW.takeR (id:=9) (i:=e.From.toNat) (p:=0) 241 242 U (range_get _ (by omega)) U (fun _=>rfl) (fun _=>rfl) fun c24=>?_
   refine AW.drawA 17 (nthB [[],[],[1],[],[],[4],[3,4,5],[3,4,5,6],[],[8],[8,9],[],[11],[],[13],[8,9,10,11,12,13,14],[8,9,10,11,12,13,14,15],[3,4,5,6,7,8,9,10,11,12,13,14,15,16]]) 241 34 (.row 4 ((arcsL (g.Edges.take k) (e.From.toNat:Nat)).map cArc++[cArc ⟨⟨e.ID,false⟩,reads e false,e.To⟩])) (true,.a (.one (.rf 241))) ⟨_,[(2,_),(3,_),(5,_),(11,_),(12,_),(13,_)],[(9,_),(5,_)]⟩ (by kernel_rfl) (by kernel_rfl) (by kernel_rfl) A8 A8 U U ?_;refine Bg U U (Aj U fun σ' hs=>Ar U (.no U) (Ag hs U) (.tm (hs.slots _ _ U))) ?_;refine Bg U U (Aj U fun σ' hs=>(by exact Am U (.no U) (Ag hs U) (.tm (hs.slots _ _ U)) fl201_1)) ?_;refine Bg U U (Aj U fun σ' hs=>(by exact Al U (.no U) (Ag hs U) (.tm (hs.slots _ _ U)) (hs.res _ _ U) ty3 U U)) ?_;refine Bg U U (Aj U fun σ' hs=>Ar U (.no U) (Ag hs U) (.tm (hs.slots _ _ U))) ?_
   refine Bg U U (Aj U fun σ' hs=>(by exact Am U (.no U) (Ag hs U) (.tm (hs.slots _ _ U)) fl201_1)) ?_;refine Bg U U (Aj U fun σ' hs=>(by exact Al U (.no U) (Ag hs U) (.tm (hs.slots _ _ U)) (hs.res _ _ U) ty3 U U)) ?_;refine Bg U U (Aj U fun σ' hs=>(by exact A9 U (.no U) (Ag hs U) (.tm (hs.slots _ _ U)) (hs.res _ _ U) (.tm (hs.slots _ _ U)) Tryz.underlying104 ty175 (fun _=>⟨by omega,set_at _ (range_get _ (by omega))⟩))) ?_;refine Bg U U (Aj U fun σ' hs=>(by exact Bv U (.no U) (Ag hs U) (.tm (hs.slots _ _ U)) (hs.res _ _ U) (set_at _ (range_get _ (by omega))) ty175 U U)) ?_;refine Bg U U (Aj U fun σ' hs=>(by exact Am U (.no U) (Ag hs U) (.tm (hs.slots _ _ U)) De)) ?_;refine Bg U U (Aj U fun σ' hs=>(by exact Al U (.no U) (Ag hs U) (.tm (hs.slots _ _ U)) (hs.res _ _ U) ty3 U U)) ?_
   refine Bg U U (Aj U fun σ' hs=>Bo (ps:=[(0,.tmp 26)]) U U (Ag hs U) in75 U U st75 (.cons (.tm (hs.slots _ _ U)) U U fp75_0 .nil) U) ?_;refine Bg U U (Aj U fun σ' hs=>(by exact Al U (.no U) (Ag hs U) (.tm (hs.slots _ _ U)) (hs.res _ _ U) C3 U U)) ?_;refine Bg U U (Aj U fun σ' hs=>A6 (FnT.fr (implreads _ _ (by omega))) U (.no U) (Ag hs U) (.cons (.tm (hs.slots _ _ U)) (readA_sup hs U) (.cons (.const U) (readA_sup hs U) .nil))) ?_;refine Bg U U (Aj U fun σ' hs=>(by exact Am U (.no U) (Ag hs U) (.tm (hs.slots _ _ U)) fl201_2)) ?_;refine Bg U U (Aj U fun σ' hs=>(by exact Al U (.no U) (Ag hs U) (.tm (hs.slots _ _ U)) (hs.res _ _ U) ty3 U U)) ?_;refine Bg U U (Aj U fun σ' hs=>Bo (ps:=[(0,.tmp 27),(1,.tmp 29),(2,.tmp 31)]) U U (Ag hs U) in178 U U st178 (.cons (.tm (hs.slots _ _ U)) U U fp178_0 (.cons (.tm (hs.slots _ _ U)) U U fp178_1 (.cons (.tm (hs.slots _ _ U)) U U fp178_2 .nil))) U) ?_
   refine Bg U U (Aj U fun σ' hs=>B6 (xs:=[.tmp 32]) (rows:=[cArc ⟨⟨e.ID,false⟩,reads e false,e.To⟩]) U U (Ag hs U) (.cons (.tm (hs.slots _ _ U)) U U .nil) Tryz.underlying175 in178 U U (U)) ?_;refine DrawG.fin U (FinA.mk U U (fun σ' hs=>R_append_hd (id:=241) (hid:=242) U U (Ag hs U) (.tm (hs.slots _ _ U)) (hs.res _ _ U) (hs.res _ _ U) (.tm (hs.slots _ _ U)) (by exact .t) (by rfl) Tryz.underlying175 in178 U (by (simp only [List.length_map,List.length_append,List.length_cons,List.length_nil,chunk];omega)) (by (unfold maxLen;simp only [List.length_map,List.length_append,List.length_cons,List.length_nil,chunk];omega))) U ?_);refine Bq (σ':=⟨_,[(2,_),(3,_),(5,_),(11,_),(12,_),(13,_),(17,_),(19,_),(34,_)],[(9,_),(5,_),(241,_)]⟩) Ai ?_;refine Ab ((A9 U (.no U) U (.tm U) U (.tm U) Tryz.underlying104 ty175 (fun _=>⟨by omega,set_at _ (range_get _ (by omega))⟩))) U ?_
   refine Ci (Cm U U U (.tm U) U (.tm U) U (set_at _ (range_get _ (by omega))) ty175 U U U U) ?_;refine Aa (A4 (σ':=⟨_,[(2,_),(3,_),(5,_),(11,_),(12,_),(13,_)],[(9,.row 1 ((List.range g.Values.length).map fun (x:Nat)=>[T.sl 4 ((F1 x).map cArc)])),(5,.box [.t (.v (.int .i64 e.ID)),.t (.v (.int .i64 e.From)),.t (.v (.int .i64 e.To)),.t (.v (.int .i64 e.Label))])]⟩) (An U ⟨U,U,U,U,U,U,Y⟩ ⟨congrArg (fun r=>some (R.row 1 r)) (by simp only [List.set_set];refine (range_app 4 cArc _ _).trans ?_;rw [hF1]),U,Y⟩) ?_);refine AW.takeR (id:=9) (i:=e.To.toNat) (p:=0) 431 432 U (range_get _ (by omega)) U (fun _=>rfl) (fun _=>rfl) fun c43=>?_
   refine AW.drawA 17 (nthB [[],[],[1],[],[],[4],[3,4,5],[3,4,5,6],[],[8],[8,9],[],[11],[],[13],[8,9,10,11,12,13,14],[8,9,10,11,12,13,14,15],[3,4,5,6,7,8,9,10,11,12,13,14,15,16]]) 431 53 (.row 4 ((F1 e.To.toNat).map cArc++[cArc ⟨⟨e.ID,true⟩,reads e true,e.From⟩])) (true,.a (.one (.rf 431))) ⟨_,[(2,_),(3,_),(5,_),(11,_),(12,_),(13,_)],[(9,_),(5,_)]⟩ (by kernel_rfl) (by kernel_rfl) (by kernel_rfl) A8 A8 U U ?_;refine Bg U U (Aj U fun σ' hs=>Ar U (.no U) (Ag hs U) (.tm (hs.slots _ _ U))) ?_;refine Bg U U (Aj U fun σ' hs=>(by exact Am U (.no U) (Ag hs U) (.tm (hs.slots _ _ U)) fl201_2)) ?_;refine Bg U U (Aj U fun σ' hs=>(by exact Al U (.no U) (Ag hs U) (.tm (hs.slots _ _ U)) (hs.res _ _ U) ty3 U U)) ?_;refine Bg U U (Aj U fun σ' hs=>Ar U (.no U) (Ag hs U) (.tm (hs.slots _ _ U))) ?_;refine Bg U U (Aj U fun σ' hs=>(by exact Am U (.no U) (Ag hs U) (.tm (hs.slots _ _ U)) fl201_2)) ?_
   refine Bg U U (Aj U fun σ' hs=>(by exact Al U (.no U) (Ag hs U) (.tm (hs.slots _ _ U)) (hs.res _ _ U) ty3 U U)) ?_;refine Bg U U (Aj U fun σ' hs=>(by exact A9 U (.no U) (Ag hs U) (.tm (hs.slots _ _ U)) (hs.res _ _ U) (.tm (hs.slots _ _ U)) Tryz.underlying104 ty175 (fun _=>⟨by omega,set_at _ (range_get _ (by omega))⟩))) ?_;refine Bg U U (Aj U fun σ' hs=>(by exact Bv U (.no U) (Ag hs U) (.tm (hs.slots _ _ U)) (hs.res _ _ U) (set_at _ (range_get _ (by omega))) ty175 U U)) ?_;refine Bg U U (Aj U fun σ' hs=>(by exact Am U (.no U) (Ag hs U) (.tm (hs.slots _ _ U)) De)) ?_;refine Bg U U (Aj U fun σ' hs=>(by exact Al U (.no U) (Ag hs U) (.tm (hs.slots _ _ U)) (hs.res _ _ U) ty3 U U)) ?_;refine Bg U U (Aj U fun σ' hs=>Bo (ps:=[(0,.tmp 45),(1,.const (.bool true))]) U U (Ag hs U) in75 U U st75 (.cons (.tm (hs.slots _ _ U)) U U fp75_0 (.cons (.const U) U U fp75_1 .nil)) U) ?_
   refine Bg U U (Aj U fun σ' hs=>(by exact Al U (.no U) (Ag hs U) (.tm (hs.slots _ _ U)) (hs.res _ _ U) C3 U U)) ?_;refine Bg U U (Aj U fun σ' hs=>A6 (FnT.fr (implreads _ _ (by omega))) U (.no U) (Ag hs U) (.cons (.tm (hs.slots _ _ U)) (readA_sup hs U) (.cons (.const U) (readA_sup hs U) .nil))) ?_;refine Bg U U (Aj U fun σ' hs=>(by exact Am U (.no U) (Ag hs U) (.tm (hs.slots _ _ U)) fl201_1)) ?_;refine Bg U U (Aj U fun σ' hs=>(by exact Al U (.no U) (Ag hs U) (.tm (hs.slots _ _ U)) (hs.res _ _ U) ty3 U U)) ?_;refine Bg U U (Aj U fun σ' hs=>Bo (ps:=[(0,.tmp 46),(1,.tmp 48),(2,.tmp 50)]) U U (Ag hs U) in178 U U st178 (.cons (.tm (hs.slots _ _ U)) U U fp178_0 (.cons (.tm (hs.slots _ _ U)) U U fp178_1 (.cons (.tm (hs.slots _ _ U)) U U fp178_2 .nil))) U) ?_
   refine Bg U U (Aj U fun σ' hs=>B6 (xs:=[.tmp 51]) (rows:=[cArc ⟨⟨e.ID,true⟩,reads e true,e.From⟩]) U U (Ag hs U) (.cons (.tm (hs.slots _ _ U)) U U .nil) Tryz.underlying175 in178 U U (U)) ?_;refine DrawG.fin U (FinA.mk U U (fun σ' hs=>R_append_hd (id:=431) (hid:=432) U U (Ag hs U) (.tm (hs.slots _ _ U)) (hs.res _ _ U) (hs.res _ _ U) (.tm (hs.slots _ _ U)) (by exact .t) (by rfl) Tryz.underlying175 in178 U (by (simp [chunk];omega)) (by (unfold maxLen;simp [chunk];omega))) U ?_);refine Bq (σ':=⟨_,[(2,_),(3,_),(5,_),(11,_),(12,_),(13,_),(36,_),(38,_),(53,_)],[(9,_),(5,_),(431,_)]⟩) Ai ?_;refine Ab ((A9 U (.no U) U (.tm U) U (.tm U) Tryz.underlying104 ty175 (fun _=>⟨by omega,set_at _ (range_get _ (by omega))⟩))) U ?_;refine Ci (Cm U U U (.tm U) U (.tm U) U (set_at _ (range_get _ (by omega))) ty175 U U U U) ?_;refine Aa (Ae (Ab (Be U (.no U) U (.tm U) (.const U) (fun _=>by omega)) U ?_))
   refine Ac ?_;refine Aa ?_
   repeat (with_reducible refine Az ?_)
   refine Round1.next (k+1) ⟨by omega,Y⟩ (by omega) (An rfl ⟨rfl,rfl,rfl,rfl,rfl,Y⟩ ⟨congrArg (fun r=>some (R.row 1 r)) (by simp only [List.set_set];refine (range_app 4 cArc _ _).trans ?_;rw [hF1];congr 1;funext x;rw [arcs_step he1 hE.1 hE.2.2.1]),Y⟩)
 · try simp at h14
   refine Bf (Ah (Ac ?_));refine Ak ?_;refine Aa (A3 (Res.one U (.tmp U .nil) U ?_))
   unfold arcsV;rw [List.map_map,List.take_of_length_le (by omega)];rfl
theorem implnextVertices (g:TGraph) (a:TAutomaton) (ha:validA a=true) (hg:validG g=true):FnT Tryz.prog 94 [.agg (cGraph g),.agg (cAutomaton a)] (.a (.one (.sl 1 ((nextsV g a).map cIntS)))):=by
 refine Ba Tryz.func94 U (by kernel_rfl) Tryz.ntmps94 U fun hlen w0=>?_
 try simp [cEdge,cGraph,cAutomaton] at hlen
 have hA:=validA_len ha
 have hP:=pow_le_12 ha
 have hG:=validG_len hg
 have hnv:(a.Accept.length:Int)*(g.Values.length:Int)≤60∧0≤(a.Accept.length:Int)*(g.Values.length:Int):=⟨Int.le_trans (Int.mul_le_mul (show (a.Accept.length:Int)≤12 by omega) (show (g.Values.length:Int)≤5 by omega) (by omega) (by omega)) (by omega),Int.mul_nonneg (by omega) (by omega)⟩
 have hav:(arcsV g).length=g.Values.length:=by simp [arcsV]
 refine Ah (Ab (Bm U U U (.tm U) (ts:=_) (by rfl)) U ?_);refine Ab (Bm U U U (.tm U) (ts:=_) (by rfl)) U ?_;refine Av ?_;refine Bw (i:=4) 20001 1 U U ?_;refine Aa (Ah (Ab (Ao U (.no U) U (.tm U) Cw) U ?_));refine Ab (Ap U (.no U) U (.tm U) Dc U U) U ?_;refine Ab (Bd U (.no U) U (.tm U) (by exact .t) Tryz.underlying33) U ?_;refine Ak ?_;refine Aa (Ah (Ac ?_));refine Ab (Ao U (.no U) U (.tm U) Ck) U ?_;refine Ab (Ap U (.no U) U (.tm U) By U U) U ?_;refine Ab (Bd U (.no U) U (.tm U) (by exact .t) Tryz.underlying40) U ?_;refine Ab (Dd U (.no U) U (.tm U) (.tm U) (fun _=>by omega)) U ?_;refine Bh (R_makeSlice 22 U U U (.tm U) Tryz.underlying34 in40 U U U U (by omega)) U ?_;refine Bq (Le.nilRow (id:=22) 1 U) ?_;refine Ak ?_;refine Aa (Af (Af (A4 (σ':=⟨_,[(0,_),(1,_),(2,_),(3,_),(4,_),(5,_),(6,_)],[(20001,_),(22,_)]⟩) Ai ?_)));refine Ae (Ab (Ap U (.no U) U (.tm U) Bu U U) U ?_)
 refine Ab (A6 (FnT.fr (implarcs g hg)) U (.no U) U (.cons (.tm U) U .nil)) U ?_;refine Ab (Bd U (.no U) U (.tm U) (by exact .t) Tryz.underlying104) U ?_;refine Ab (Ar U (.no U) U (.const U)) U ?_;refine Aa (AW.block (Bs (fun (x:Nat)=>(x≤g.Values.length)∧True) (fun (x:Nat)=>⟨_,[(26,(true,.a (.one (.t (.v (.int .i64 (x:Nat))))))),(6,(true,.a (.one (.rf 22)))),(2,_),(3,_),(4,_),(5,_),(24,_),(25,_)],[(22,.row 1 (nvRows g a (x*a.Accept.length) []))]⟩) (fun (x:Nat)=>g.Values.length-x) (0) ⟨Nat.zero_le _,Y⟩ (An U ⟨U,U,U,U,U,U,U,U,Y⟩ ⟨(by (refine congrArg (fun r=>some (R.row 1 r)) ?_;first|(rw [←Int.natCast_mul,Int.toNat_natCast,nvRows_zero g a,Nat.zero_mul];done)|(simp;done))),Y⟩) ?_))
 rintro x ⟨hk,he⟩
 refine Ah (Ab (Bz U (.no U) U (.tm U) (.tm U)) U ?_);refine Aa (Af (Aq (.tm U) (fun h27=>?_) (fun h27=>?_)))
 · try simp at h27
   obtain⟨v,hv0⟩:∃ ξ,g.Values[x]?=some ξ:=⟨_,List.getElem?_eq_getElem (by omega)⟩
   have hv:=validG_val hg hv0
   have hx1:(arcsV g)[x]?=some (arcsAt g x):=by (unfold arcsV;exact range_get _ (by omega))
   refine As (Af (AW.block (Ah (Ac ?_))));refine Ab (Aw U (.no U) U (.tm U) (.tm U) Tryz.underlying104 ty175 (fun _=>⟨by omega,(by exact Ax hx1)⟩)) U ?_;refine Ab (Ap U (.no U) U (.tm U) ty175 U U) U ?_;refine Ak ?_;refine Ak ?_;refine Aa (Ah (Av ?_));refine Aa (AW.block (Bs (fun (s:Nat)=>(s≤a.Accept.length)∧True) (fun (s:Nat)=>⟨_,[(9,(true,.a (.one (.t (.v (.int .i64 (s:Nat))))))),(6,(true,.a (.one (.rf 22)))),(2,_),(3,_),(4,_),(5,_),(7,_),(8,_),(24,_),(25,_),(26,_)],[(22,.row 1 (nvRows g a (x*a.Accept.length+s) []))]⟩) (fun (s:Nat)=>a.Accept.length-s) (0) ⟨Nat.zero_le _,Y⟩ (An U ⟨U,U,U,U,U,U,U,U,U,U,U,Y⟩ ⟨(by rfl),Y⟩) ?_))
   rintro s ⟨hk1,he1⟩
   refine Af (Ah (Ac ?_));refine Ac ?_;refine Ab (Bz U (.no U) U (.tm U) (.tm U)) U ?_;refine Aa (Aq (.tm U) (fun h33=>?_) (fun h33=>?_))
   · try simp at h33
     have hpi:((x:Int)*(a.Accept.length:Int)+(s:Int)).toNat=x*a.Accept.length+s:=by (rw [←Int.natCast_mul];omega)
     have hpl:=idx_lt (x:=x) (s:=s) (n:=a.Accept.length) (V:=g.Values.length) (by omega) (by omega)
     have hpb:(x:Int)*(a.Accept.length:Int)≤60∧0≤(x:Int)*(a.Accept.length:Int):=⟨Int.le_trans (Int.mul_le_mul (show (x:Int)≤5 by omega) (show (a.Accept.length:Int)≤12 by omega) (by omega) (by omega)) (by omega),Int.mul_nonneg (by omega) (by omega)⟩
     have hsp:=pow_12 ha (x:=s) (by omega)
     have hal:(arcsAt g x).length≤24:=Nat.le_trans (arcsL_len _ _) (by omega)
     have hnx:nextsOf g a x s=(arcsAt g x).flatMap (vertN a s v):=by (unfold nextsOf;rw [Int.toNat_natCast,hv0];rfl)
     refine As (Af (AW.block (Ah (Ac ?_))));refine Ab (Bd U (.no U) U (.tm U) (by exact .t) Tryz.underlying175) U ?_;refine Ab (Ar U (.no U) U (.const U)) U ?_;refine Aa (AW.block (Bs (fun (j:Nat)=>(j≤(arcsAt g x).length)∧True) (fun (j:Nat)=>⟨_,[(38,(true,.a (.one (.t (.v (.int .i64 (j:Nat))))))),(6,(true,.a (.one (.rf 22)))),(2,_),(3,_),(4,_),(5,_),(7,_),(8,_),(9,_),(24,_),(25,_),(26,_),(36,_),(37,_)],[(22,.row 1 (nvRows g a (x*a.Accept.length+s) (((arcsAt g x).take j).flatMap (vertN a s v))))]⟩) (fun (j:Nat)=>(arcsAt g x).length-j) (0) ⟨Nat.zero_le _,Y⟩ (An U ⟨U,U,U,U,U,U,U,U,U,U,U,U,U,U,Y⟩ ⟨(by rfl),Y⟩) ?_))
     rintro j ⟨hk2,he2⟩
     refine Ah (Ab (Bz U (.no U) U (.tm U) (.tm U)) U ?_);refine Aa (Af (Aq (.tm U) (fun h39=>?_) (fun h39=>?_)))
     · try simp at h39
       obtain⟨y,hy⟩:∃ ξ,(arcsAt g x)[j]?=some ξ:=⟨_,List.getElem?_eq_getElem (by omega)⟩
       have hyo:=arcsAt_ok hg hy
       have haft:FnT Tryz.prog 155 [.agg (cAutomaton a),.one (.v (.int .i64 ((2^s:Nat):Int))),.one (.v (.int .i64 v)),.one (.v (.int .i64 y.letter))] (.a (.one (.v (.int .i64 (aft1 a s v y.letter:Nat))))):=by (have:=implafter a ha (2^s) (Nat.pow_lt_pow_right (by omega) (by omega)) v y.letter hv (by omega);rwa [aftS_pow a v y.letter (by omega)] at this)
       have hafl:=aft1_lt ha (s:=(s:Int)) (v:=v) (k:=y.letter) hv (by omega) (by omega)
       have hbl:=bitsI_le (aft1 a s v y.letter)
       have hbe:=bitsI_len (aft1 a s v y.letter)
       have hyb:y.to*(a.Accept.length:Int)≤60∧0≤y.to*(a.Accept.length:Int):=⟨Int.le_trans (Int.mul_le_mul (show y.to≤5 by omega) (show (a.Accept.length:Int)≤12 by omega) (by omega) (by omega)) (by omega),Int.mul_nonneg (by omega) (by omega)⟩
       have hfl:(((arcsAt g x).take j).flatMap (vertN a s v)).length≤24*64:=Nat.le_trans (flatMap_len (b:=64) (fun y=>by rw [vertN_len];exact bits_len _) _) (Nat.mul_le_mul_right _ (by simp;omega))
       refine As (Af (AW.block (Ah (Ab (Aw U (.no U) U (.tm U) (.tm U) Tryz.underlying175 ty178 (fun _=>⟨by omega,(by exact Ax hy)⟩)) U ?_))));refine Ab (Ap U (.no U) U (.tm U) ty178 U U) U ?_;refine Bh (Bl 11 U U U in178 U U U) U ?_;refine A5 (Au U U U (.tm U) (.tm U) U ty178 U U U (by kernel_rfl) U) ?_;refine Aa (Af (B9 14 (nthB [[],[],[1],[],[3],[],[3,4,5],[3,4,5,6],[],[8],[0,1,2,3,4,5,6,7,8,9],[0,1,2,3,4,5,6,7,8,9,10],[0,1,2,3,4,5,6,7,8,9,10,11],[]]) (by kernel_rfl) (by kernel_rfl) (by kernel_rfl) ?_));refine Ad U U U (Aj U fun σ' hs=>(by exact Ap U (.no U) (Ag hs U) (.tm (hs.slots _ _ U)) Br U U)) ?_;refine Ad U U U (Aj U fun σ' hs=>Ar U (.no U) (Ag hs U) (.tm (hs.slots _ _ U))) ?_;refine Ad U U U (Aj U fun σ' hs=>R_shlN U (.no U) (Ag hs U) (.const U) (.tm (hs.slots _ _ U)) (fun _=>by omega)) ?_
       refine Ad U U U (Aj U fun σ' hs=>(by exact Ao U (.no U) (Ag hs U) (.tm (hs.slots _ _ U)) Ck)) ?_;refine Ad U U U (Aj U fun σ' hs=>(by exact Ap U (.no U) (Ag hs U) (.tm (hs.slots _ _ U)) By U U)) ?_;refine Ad U U U (Aj U fun σ' hs=>Ar U (.no U) (Ag hs U) (.tm (hs.slots _ _ U))) ?_;refine Ad U U U (Aj U fun σ' hs=>(by exact Aw U (.no U) (Ag hs U) (.tm (hs.slots _ _ U)) (.tm (hs.slots _ _ U)) Tryz.underlying40 ty3 (fun _=>⟨by omega,(by exact Ax hv0)⟩))) ?_;refine Ad U U U (Aj U fun σ' hs=>(by exact Ap U (.no U) (Ag hs U) (.tm (hs.slots _ _ U)) ty3 U U)) ?_;refine Ad U U U (Aj U fun σ' hs=>(by exact Am U (.no U) (Ag hs U) (.tm (hs.slots _ _ U)) fl178_1)) ?_;refine Ad U U U (Aj U fun σ' hs=>(by exact Al U (.no U) (Ag hs U) (.tm (hs.slots _ _ U)) (hs.res _ _ U) ty3 U U)) ?_
       refine Ad U U U (Aj U fun σ' hs=>A6 (FnT.fr (haft)) U (.no U) (Ag hs U) (.cons (.tm (hs.slots _ _ U)) (readA_sup hs U) (.cons (.tm (hs.slots _ _ U)) (readA_sup hs U) (.cons (.tm (hs.slots _ _ U)) (readA_sup hs U) (.cons (.tm (hs.slots _ _ U)) (readA_sup hs U) .nil))))) ?_;refine Ad U U U (Aj U fun σ' hs=>A6 (FnT.fr (implmembers (aft1 a s v y.letter) (by omega))) U (.no U) (Ag hs U) (.cons (.tm (hs.slots _ _ U)) (readA_sup hs U) .nil)) ?_;refine Ad U U U (Aj U fun σ' hs=>(by exact Bd U (.no U) (Ag hs U) (.tm (hs.slots _ _ U)) (by exact .t) Tryz.underlying40)) ?_;refine Ad U U U (Aj U fun σ' hs=>Ar U (.no U) (Ag hs U) (.const U)) ?_;refine Bx U U ?_
       refine Aa (AW.block (Bs (fun (u:Nat)=>(u≤(bitsI (aft1 a s v y.letter)).length)∧True) (fun (u:Nat)=>⟨_,[(55,(true,.a (.one (.t (.v (.int .i64 (u:Nat))))))),(6,(true,.a (.one (.rf 22)))),(2,_),(3,_),(4,_),(5,_),(7,_),(8,_),(9,_),(11,_),(24,_),(25,_),(26,_),(36,_),(37,_),(38,_),(53,_),(54,_)],[(22,.row 1 (nvRows g a (x*a.Accept.length+s) (((arcsAt g x).take j).flatMap (vertN a s v)++(vertN a s v y).take u))),(11,.box [.t (.v (.int .i64 y.step.Edge)),.t (.v (.bool y.step.Inverse)),.t (.v (.int .i64 y.letter)),.t (.v (.int .i64 y.to))])]⟩) (fun (u:Nat)=>(bitsI (aft1 a s v y.letter)).length-u) (0) ⟨Nat.zero_le _,Y⟩ (An U ⟨U,U,U,U,U,U,U,U,U,U,U,U,U,U,U,U,U,U,Y⟩ ⟨(by (refine congrArg (fun r=>some (R.row 1 r)) ?_;first|(rw [←Int.natCast_mul,Int.toNat_natCast,nvRows_zero g a,Nat.zero_mul];done)|(simp;done))),U,Y⟩) ?_))
       rintro u ⟨hk3,he3⟩
       refine Ah (Ab (Bz U (.no U) U (.tm U) (.tm U)) U ?_);refine Aa (Af (Aq (.tm U) (fun h56=>?_) (fun h56=>?_)))
       · try simp at h56
         obtain⟨z,hz⟩:∃ ξ,(bitsI (aft1 a s v y.letter))[u]?=some ξ:=⟨_,List.getElem?_eq_getElem (by omega)⟩
         obtain⟨t,rfl,ht⟩:=bitsI_at hz
         have htn:=bits_lt hafl (List.mem_of_getElem? ht)
         have hvn:=vertN_at (s:=(s:Int)) (v:=v) ht
         have hll3:((vertN a s v y).take u).length≤64:=by (have:=vertN_len a s v y;rw [List.length_take];omega)
         have hll:(((arcsAt g x).take j).flatMap (vertN a s v)++(vertN a s v y).take u).length≤2000:=by (have:=vertN_len a s v y;rw [List.length_append,List.length_take];omega)
         refine As (Af (AW.block (Ah (Ab (Aw U (.no U) U (.tm U) (.tm U) Tryz.underlying40 ty3 (fun _=>⟨by omega,(by exact Ax hz)⟩)) U ?_))));refine Ab (Ap U (.no U) U (.tm U) ty3 U U) U ?_;refine Ak ?_;refine Aa (A4 (σ':=⟨_,[(2,_),(3,_),(4,_),(5,_),(6,_),(7,_),(8,_),(9,_),(11,_),(13,_),(24,_),(25,_),(26,_),(36,_),(37,_),(38,_),(53,_),(54,_),(55,_)],[(22,.row 1 (nvRows g a (x*a.Accept.length+s) (((arcsAt g x).take j).flatMap (vertN a s v)++(vertN a s v y).take u))),(11,.box [.t (.v (.int .i64 y.step.Edge)),.t (.v (.bool y.step.Inverse)),.t (.v (.int .i64 y.letter)),.t (.v (.int .i64 y.to))])]⟩) Ai ?_);refine AW.takeR (id:=22) (i:=((x:Int)*(a.Accept.length:Int)+(s:Int)).toNat) (p:=0) 721 722 U (by rw [hpi];exact nvRows_self _ hpl) U (fun _=>rfl) (fun _=>rfl) fun c72=>?_
         refine AW.drawA 21 (nthB [[],[],[],[1,2],[],[1,2,3,4],[],[],[],[7,8],[],[7,8,9,10],[6,7,8,9,10,11],[6,7,8,9,10,11,12],[],[14],[],[14,15,16],[],[14,15,16,17,18],[14,15,16,17,18,19],[6,7,8,9,10,11,12,13,14,15,16,17,18,19,20]]) 721 80 (.row 1 ((((arcsAt g x).take j).flatMap (vertN a s v)++(vertN a s v y).take u).map cInt++[cInt (y.to*(a.Accept.length:Int)+(t:Int))])) (true,.a (.one (.rf 721))) ⟨_,[(2,_),(3,_),(4,_),(5,_),(6,_),(7,_),(8,_),(9,_),(11,_),(13,_),(24,_),(25,_),(26,_),(36,_),(37,_),(38,_),(53,_),(54,_),(55,_)],[(22,_),(11,_)]⟩ (by kernel_rfl) (by kernel_rfl) (by kernel_rfl) A8 A8 U U ?_;refine Bg U U (Aj U fun σ' hs=>Ar U (.no U) (Ag hs U) (.tm (hs.slots _ _ U))) ?_;refine Bg U U (Aj U fun σ' hs=>Ar U (.no U) (Ag hs U) (.tm (hs.slots _ _ U))) ?_;refine Bg U U (Aj U fun σ' hs=>Ar U (.no U) (Ag hs U) (.tm (hs.slots _ _ U))) ?_
         refine Bg U U (Aj U fun σ' hs=>Dd U (.no U) (Ag hs U) (.tm (hs.slots _ _ U)) (.tm (hs.slots _ _ U)) (fun _=>by omega)) ?_;refine Bg U U (Aj U fun σ' hs=>Ar U (.no U) (Ag hs U) (.tm (hs.slots _ _ U))) ?_;refine Bg U U (Aj U fun σ' hs=>Be U (.no U) (Ag hs U) (.tm (hs.slots _ _ U)) (.tm (hs.slots _ _ U)) (fun _=>by omega)) ?_;refine Bg U U (Aj U fun σ' hs=>Ar U (.no U) (Ag hs U) (.tm (hs.slots _ _ U))) ?_;refine Bg U U (Aj U fun σ' hs=>Ar U (.no U) (Ag hs U) (.tm (hs.slots _ _ U))) ?_;refine Bg U U (Aj U fun σ' hs=>Ar U (.no U) (Ag hs U) (.tm (hs.slots _ _ U))) ?_;refine Bg U U (Aj U fun σ' hs=>Dd U (.no U) (Ag hs U) (.tm (hs.slots _ _ U)) (.tm (hs.slots _ _ U)) (fun _=>by omega)) ?_;refine Bg U U (Aj U fun σ' hs=>Ar U (.no U) (Ag hs U) (.tm (hs.slots _ _ U))) ?_
         refine Bg U U (Aj U fun σ' hs=>Be U (.no U) (Ag hs U) (.tm (hs.slots _ _ U)) (.tm (hs.slots _ _ U)) (fun _=>by omega)) ?_;refine Bg U U (Aj U fun σ' hs=>(by exact A9 U (.no U) (Ag hs U) (.tm (hs.slots _ _ U)) (hs.res _ _ U) (.tm (hs.slots _ _ U)) Tryz.underlying34 By (fun _=>⟨by omega,set_at _ (by rw [hpi];exact nvRows_self _ hpl)⟩))) ?_;refine Bg U U (Aj U fun σ' hs=>(by exact Bv U (.no U) (Ag hs U) (.tm (hs.slots _ _ U)) (hs.res _ _ U) (set_at _ (by rw [hpi];exact nvRows_self _ hpl)) By U U)) ?_;refine Bg U U (Aj U fun σ' hs=>(by exact Am U (.no U) (Ag hs U) (.tm (hs.slots _ _ U)) fl178_2)) ?_;refine Bg U U (Aj U fun σ' hs=>(by exact Al U (.no U) (Ag hs U) (.tm (hs.slots _ _ U)) (hs.res _ _ U) ty3 U U)) ?_;refine Bg U U (Aj U fun σ' hs=>Ar U (.no U) (Ag hs U) (.tm (hs.slots _ _ U))) ?_
         refine Bg U U (Aj U fun σ' hs=>Dd U (.no U) (Ag hs U) (.tm (hs.slots _ _ U)) (.tm (hs.slots _ _ U)) (fun _=>by omega)) ?_;refine Bg U U (Aj U fun σ' hs=>Ar U (.no U) (Ag hs U) (.tm (hs.slots _ _ U))) ?_;refine Bg U U (Aj U fun σ' hs=>Be U (.no U) (Ag hs U) (.tm (hs.slots _ _ U)) (.tm (hs.slots _ _ U)) (fun _=>by omega)) ?_;refine Bg U U (Aj U fun σ' hs=>B6 (xs:=[.tmp 78]) (rows:=[cInt (y.to*(a.Accept.length:Int)+(t:Int))]) U U (Ag hs U) (.cons (.tm (hs.slots _ _ U)) U U .nil) Tryz.underlying40 in3 U U (U)) ?_
         refine DrawG.fin U (FinA.mk U U (fun σ' hs=>R_append_hd (id:=721) (hid:=722) U U (Ag hs U) (.tm (hs.slots _ _ U)) (hs.res _ _ U) (hs.res _ _ U) (.tm (hs.slots _ _ U)) (by exact .t) (by rfl) Tryz.underlying40 in3 U (by (simp only [List.length_map,List.length_append,List.length_cons,List.length_nil,chunk];omega)) (by (unfold maxLen;simp only [List.length_map,List.length_append,List.length_cons,List.length_nil,chunk];omega))) U ?_);refine Bq (σ':=⟨_,[(2,_),(3,_),(4,_),(5,_),(6,_),(7,_),(8,_),(9,_),(11,_),(13,_),(24,_),(25,_),(26,_),(36,_),(37,_),(38,_),(53,_),(54,_),(55,_),(59,_),(64,_),(80,_)],[(22,_),(11,_),(721,_)]⟩) Ai ?_;refine Ab (by exact A9 U (.no U) U (.tm U) U (.tm U) Tryz.underlying34 By (fun _=>⟨by omega,set_at _ (by rw [hpi];exact nvRows_self _ hpl)⟩)) U ?_;refine Ci (Cm U U U (.tm U) U (.tm U) U (set_at _ (by rw [hpi];exact nvRows_self _ hpl)) By U U U U) ?_
         refine Aa (Ae (Ab (Be U (.no U) U (.tm U) (.const U) (fun _=>by omega)) U ?_));refine Ac ?_;refine Aa ?_
         repeat (with_reducible refine Az ?_)
         refine Round1.next (u+1) ⟨by omega,Y⟩ (by omega) (An rfl ⟨rfl,rfl,rfl,rfl,rfl,rfl,rfl,rfl,rfl,rfl,rfl,rfl,rfl,rfl,rfl,rfl,rfl,rfl,Y⟩ ⟨(by refine congrArg (fun r=>some (R.row 1 r)) ?_;first|(simp only [List.set_set];rw [hpi];refine (nvRows_app _ _).trans ?_;rw [take_at hvn,List.append_assoc];done)|(rw [flatMap_at _ hy,List.take_of_length_le (l:=vertN a s v y) (by rw [vertN_len];omega)];done)|(rw [List.take_of_length_le (by omega),←hnx];exact nvRows_next g a (by omega))|(rw [Nat.succ_mul,show s=a.Accept.length by omega];done)),(by rfl),Y⟩)
       · try simp at h56
         refine Bf (Ae (Ab (Be U (.no U) U (.tm U) (.const U) (fun _=>by omega)) U ?_));refine Ac ?_;refine Aa ?_
         repeat (with_reducible refine Az ?_)
         refine Round1.next (j+1) ⟨by omega,Y⟩ (by omega) (An rfl ⟨rfl,rfl,rfl,rfl,rfl,rfl,rfl,rfl,rfl,rfl,rfl,rfl,rfl,rfl,Y⟩ ⟨(by refine congrArg (fun r=>some (R.row 1 r)) ?_;first|(simp only [List.set_set];rw [hpi];refine (nvRows_app _ _).trans ?_;rw [take_at hvn,List.append_assoc];done)|(rw [flatMap_at _ hy,List.take_of_length_le (l:=vertN a s v y) (by rw [vertN_len];omega)];done)|(rw [List.take_of_length_le (by omega),←hnx];exact nvRows_next g a (by omega))|(rw [Nat.succ_mul,show s=a.Accept.length by omega];done)),Y⟩)
     · try simp at h39
       refine Bf (Ae (Ac ?_));refine Ab (Be U (.no U) U (.tm U) (.const U) (fun _=>by omega)) U ?_;refine Ak ?_;refine Aa ?_
       repeat (with_reducible refine Az ?_)
       refine Round1.next (s+1) ⟨by omega,Y⟩ (by omega) (An rfl ⟨rfl,rfl,rfl,rfl,rfl,rfl,rfl,rfl,rfl,rfl,rfl,Y⟩ ⟨(by refine congrArg (fun r=>some (R.row 1 r)) ?_;first|(simp only [List.set_set];rw [hpi];refine (nvRows_app _ _).trans ?_;rw [take_at hvn,List.append_assoc];done)|(rw [flatMap_at _ hy,List.take_of_length_le (l:=vertN a s v y) (by rw [vertN_len];omega)];done)|(rw [List.take_of_length_le (by omega),←hnx];exact nvRows_next g a (by omega))|(rw [Nat.succ_mul,show s=a.Accept.length by omega];done)),Y⟩)
   · try simp at h33
     refine Bf (Ae (Ab (Be U (.no U) U (.tm U) (.const U) (fun _=>by omega)) U ?_));refine Ac ?_;refine Aa ?_
     repeat (with_reducible refine Az ?_)
     refine Round1.next (x+1) ⟨by omega,Y⟩ (by omega) (An rfl ⟨rfl,rfl,rfl,rfl,rfl,rfl,rfl,rfl,Y⟩ ⟨(by refine congrArg (fun r=>some (R.row 1 r)) ?_;first|(simp only [List.set_set];rw [hpi];refine (nvRows_app _ _).trans ?_;rw [take_at hvn,List.append_assoc];done)|(rw [flatMap_at _ hy,List.take_of_length_le (l:=vertN a s v y) (by rw [vertN_len];omega)];done)|(rw [List.take_of_length_le (by omega),←hnx];exact nvRows_next g a (by omega))|(rw [Nat.succ_mul,show s=a.Accept.length by omega];done)),Y⟩)
 · try simp at h27
   refine Bf (Ah (Ac ?_));refine Ak ?_;refine Aa (A3 (Res.one U (.tmp U .nil) U ?_))
   rw [nvRows_end g a (by rw [Nat.mul_comm];exact Nat.mul_le_mul_right _ (by omega))];rfl
end Go.Proofs.YtbecibmlbiebeaaGreat
