import Derived.Test.YtbecibmlbiebeaaGreatB14xb
import Derived.Test.YtbecibmlbiebeaaGreatB05xb
set_option linter.unusedVariables false
set_option linter.unusedSimpArgs false
set_option maxHeartbeats 1000000
set_option maxRecDepth 100000
namespace Go.Q
open Go.D
theorem range_app {α:Type} (k:Nat) (c:α→List T) (F:Nat→List α) (y:α) {n i:Nat}:((List.range n).map fun x=>[T.sl k ((F x).map c)]).set i [T.sl k ((F i).map c++[c y])]=(List.range n).map fun x=>[T.sl k ((F x++if x=i then [y] else []).map c)]:=by
 rw [range_set]
 congr 1
 funext x
 by_cases h:x=i
 · subst h;simp
 simp [h]
theorem arcs_step {l:List TEdge} {k:Nat} {e:TEdge} (h:l[k]?=some e) (h1:0≤e.From) (h2:0≤e.To) (x:Nat):(arcsL (l.take k) x++if x=e.From.toNat then [⟨⟨e.ID,false⟩,reads e false,e.To⟩] else [])++(if x=e.To.toNat then [⟨⟨e.ID,true⟩,reads e true,e.From⟩] else [])=arcsL (l.take (k+1)) x:=by
 rw [arcsL_at h,arcsOf,List.append_assoc]
 have e1:(x=e.From.toNat)↔(e.From=(x:Int)):=by omega
 have e2:(x=e.To.toNat)↔(e.To=(x:Int)):=by omega
 simp only [e1,e2]
def nxN (g:TGraph) (a:TAutomaton) (i:Nat):List Int:=nextsOf g a ((i / a.Accept.length:Nat):Int) ((i%a.Accept.length:Nat):Int)
def rowAt (nx:Nat→List Int) (p:Nat) (l:List Int) (i:Nat):List Int:=if i<p then nx i else if i=p then l else []
theorem rowAt_app (nx:Nat→List Int) (p:Nat) (l:List Int) (y:Int) (i:Nat):rowAt nx p l i++(if i=p then [y] else [])=rowAt nx p (l++[y]) i:=by
 unfold rowAt
 by_cases h:i<p
 · rw [if_pos h,if_pos h,if_neg (by omega),List.append_nil]
 rw [if_neg h,if_neg h]
 by_cases e:i=p
 · simp [e]
 simp [e]
theorem rowAt_next (nx:Nat→List Int) (p:Nat) (i:Nat):rowAt nx p (nx p) i=rowAt nx (p+1) [] i:=by
 unfold rowAt
 by_cases h:i<p
 · rw [if_pos h,if_pos (by omega)]
 rw [if_neg h]
 by_cases e:i=p
 · subst e;simp
 rw [if_neg e,if_neg (by omega)];simp
def nvRows (g:TGraph) (a:TAutomaton) (p:Nat) (l:List Int):List (List T):=(List.range (a.Accept.length*g.Values.length)).map fun (i:Nat)=>[T.sl 1 ((rowAt (nxN g a) p l i).map cInt)]
theorem nvRows_self {g:TGraph} {a:TAutomaton} {p:Nat} (l:List Int) (h:p<a.Accept.length*g.Values.length):(nvRows g a p l)[p]?=some [T.sl 1 (l.map cInt)]:=by
 unfold nvRows
 rw [range_get _ h]
 unfold rowAt
 rw [if_neg (by omega),if_pos rfl]
theorem nvRows_app {g:TGraph} {a:TAutomaton} {p:Nat} (l:List Int) (y:Int):(nvRows g a p l).set p [T.sl 1 (l.map cInt++[cInt y])]=nvRows g a p (l++[y]):=by
 have h:=range_app 1 cInt (rowAt (nxN g a) p l) y (n:=a.Accept.length*g.Values.length) (i:=p)
 rw [show rowAt (nxN g a) p l p=l by unfold rowAt;rw [if_neg (by omega),if_pos rfl]] at h
 unfold nvRows
 rw [h]
 congr 1
 funext i
 rw [rowAt_app]
theorem nvRows_zero (g:TGraph) (a:TAutomaton):List.replicate (a.Accept.length*g.Values.length) [T.sl 1 []]=nvRows g a 0 []:=by
 unfold nvRows rowAt
 apply List.ext_getElem<;>simp
theorem div_idx {x s n:Nat} (h:s<n):(x*n+s) / n=x∧(x*n+s)%n=s:=by
 constructor
 · rw [Nat.mul_comm,Nat.mul_add_div (by omega),Nat.div_eq_of_lt h,Nat.add_zero]
 rw [Nat.mul_comm,Nat.mul_add_mod,Nat.mod_eq_of_lt h]
theorem nxN_at (g:TGraph) (a:TAutomaton) {x s:Nat} (h:s<a.Accept.length):nxN g a (x*a.Accept.length+s)=nextsOf g a x s:=by
 unfold nxN
 rw [(div_idx h).1,(div_idx h).2]
theorem nvRows_next (g:TGraph) (a:TAutomaton) {x s:Nat} (h:s<a.Accept.length):nvRows g a (x*a.Accept.length+s) (nextsOf g a x s)=nvRows g a (x*a.Accept.length+(s+1)) []:=by
 unfold nvRows
 congr 1
 funext i
 rw [←nxN_at g a h,rowAt_next]
 rfl
theorem nvRows_end (g:TGraph) (a:TAutomaton) {p:Nat} (h:a.Accept.length*g.Values.length≤p):nvRows g a p []=((List.range (a.Accept.length*g.Values.length)).map (nxN g a)).map cIntS:=by
 unfold nvRows
 rw [List.map_map]
 apply List.map_congr_left;intro i hi
 have:=List.mem_range.1 hi
 unfold rowAt
 rw [if_pos (by omega)]
 rfl
theorem idx_lt {x s n V:Nat} (hx:x<V) (hs:s<n):x*n+s<n*V:=by
 calc x*n+s<x*n+n:=by omega
  _=(x+1)*n:=by rw [Nat.succ_mul]
  _≤V*n:=Nat.mul_le_mul_right _ hx
  _=n*V:=Nat.mul_comm _ _
theorem flatMap_at {α β:Type} (f:α→List β) {l:List α} {j:Nat} {y:α} (h:l[j]?=some y):(l.take (j+1)).flatMap f=(l.take j).flatMap f++f y:=by
 rw [take_at h,List.flatMap_append];simp
theorem vertN_at {a:TAutomaton} {s v:Int} {y:TArc} {u t:Nat} (h:(bitsN (aft1 a s v y.letter))[u]?=some t):(vertN a s v y)[u]?=some (y.to*a.Accept.length+t):=by
 unfold vertN
 rw [List.getElem?_map,h];rfl
theorem vertN_len (a:TAutomaton) (s v:Int) (y:TArc):(vertN a s v y).length=(bitsN (aft1 a s v y.letter)).length:=by unfold vertN;simp
def nextsV (g:TGraph) (a:TAutomaton):List (List Int):=(List.range (a.Accept.length*g.Values.length)).map (nxN g a)
theorem flatMap_len {α β:Type} {f:α→List β} {b:Nat} (h:∀ x,(f x).length≤b):∀ l:List α,(l.flatMap f).length≤l.length*b
 | []=>by simp
 | x::l=>by
  rw [List.flatMap_cons,List.length_append,List.length_cons,Nat.succ_mul]
  have:=h x
  have:=flatMap_len h l
  omega
end Go.Q
namespace Go.Proofs.YtbecibmlbiebeaaGreat
open Go.RowKit Go.Q Go.D
theorem implarcs (g:TGraph) (hg:validG g=true):FnT Tryz.prog 150 [.agg (cGraph g)] (.a (.one (.sl 1 ((arcsV g).map cArcS)))):=by
 refine A7 Tryz.func150 U (by kernel_rfl) Tryz.ntmps150 U fun hlen w0=>?_
 try simp [cEdge,cGraph,cAutomaton] at hlen
 have hG:=validG_len hg
 refine Af (Ad (Bm U U U (.tm U) (ts:=_) (by rfl)) U ?_);refine Ak ?_;refine Cb (i:=2) 20001 1 U U ?_;refine Aa (Af (Bg Cl ?_));refine Aq Bz ?_;refine Be (.t) Tryz.underlying40 ?_;refine A6 (R_makeSlice 9 U U U (.tm U) Tryz.underlying104 in175 U U U U (by omega)) U ?_;refine Bq (Le.nilRow (id:=9) 4 U) ?_;refine Ag ?_;refine Aa (Ae (Af (Bg Cw ?_)));refine Aq ty43 ?_;refine Be (.t) Tryz.underlying43 ?_;refine Ad (Bh U (.no U) U (.const U)) U ?_
 refine Aa (AW.block (By (fun (k:Nat)=>(k≤g.Edges.length)∧True) (fun (k:Nat)=>⟨_,[(13,(true,.a (.one (.t (.v (.int .i64 (k:Nat))))))),(3,(true,.a (.one (.rf 9)))),(2,_),(11,_),(12,_)],[(9,.row 1 ((List.range g.Values.length).map fun (x:Nat)=>[T.sl 4 ((arcsL (g.Edges.take k) x).map cArc)]))]⟩) (fun (k:Nat)=>g.Edges.length-k) (0) ⟨Nat.zero_le _,Y⟩ (Ap U ⟨U,U,U,U,U,Y⟩ ⟨congrArg (fun r=>some (R.row 1 r)) (by apply List.ext_getElem<;>simp [arcsL]),Y⟩) ?_))
 rintro k ⟨hk,he⟩
 refine Af (AWl.lt ?_);refine Aa (Ae (Ai (.tm U) (fun h14=>?_) (fun h14=>?_)))
 · try simp at h14
   obtain⟨e,he1⟩:∃ ξ,g.Edges[k]?=some ξ:=⟨_,List.getElem?_eq_getElem (by omega)⟩
   have hE:=validG_edge hg he1
   have hL:∀ x:Int,(arcsL (g.Edges.take k) x).length≤24:=fun x=>Nat.le_trans (arcsL_len _ x) (by simp;omega)
   have hL1:=hL (e.From.toNat:Nat)
   obtain⟨F1,hF1⟩:∃ F:Nat→List TArc,F=fun (x:Nat)=>arcsL (g.Edges.take k) x++if x=e.From.toNat then [(⟨⟨e.ID,false⟩,reads e false,e.To⟩:TArc)] else []:=⟨_,rfl⟩
   have hL2:(F1 e.To.toNat).length≤25:=by (rw [hF1];have:=hL (e.To.toNat:Nat);dsimp only;rw [List.length_append];split<;>simp only [List.length_cons,List.length_nil]<;>omega)
   refine Aj (Ae (AW.block (Af (Ad (As U (.no U) U (.tm U) (.tm U) Tryz.underlying43 De (fun _=>⟨by omega,Al he1⟩)) U ?_))));refine Aq De ?_;refine A6 (Bi 5 U U U in201 U U U) U ?_;refine Az De ?_;refine Aa (Ae (Ar (σ':=⟨_,[(2,_),(3,_),(5,_),(11,_),(12,_),(13,_)],[(9,.row 1 ((List.range g.Values.length).map fun (x:Nat)=>[T.sl 4 ((arcsL (g.Edges.take k) x).map cArc)])),(5,.box [.t (.v (.int .i64 e.ID)),.t (.v (.int .i64 e.From)),.t (.v (.int .i64 e.To)),.t (.v (.int .i64 e.Label))])]⟩) A4 ?_));refine AW.takeR (id:=9) (i:=e.From.toNat) (p:=0) 241 242 U (range_get _ (by omega)) U (fun _=>rfl) (fun _=>rfl) fun c24=>?_
   refine AW.drawA 17 (nthB [[],[],[1],[],[],[4],[3,4,5],[3,4,5,6],[],[8],[8,9],[],[11],[],[13],[8,9,10,11,12,13,14],[8,9,10,11,12,13,14,15],[3,4,5,6,7,8,9,10,11,12,13,14,15,16]]) 241 34 (.row 4 ((arcsL (g.Edges.take k) (e.From.toNat:Nat)).map cArc++[cArc ⟨⟨e.ID,false⟩,reads e false,e.To⟩])) (true,.a (.one (.rf 241))) ⟨_,[(2,_),(3,_),(5,_),(11,_),(12,_),(13,_)],[(9,_),(5,_)]⟩ (by kernel_rfl) (by kernel_rfl) (by kernel_rfl) A5 A5 U U ?_;refine Cp ?_;refine DrawG.s (fun _ hs=>(by exact Ba U (.no U) (Ah hs U) (hs.tm U) fl201_1)) ?_;refine DrawG.s (fun _ hs=>(by exact Bk U (.no U) (Ah hs U) (hs.tm U) (hs.res _ _ U) ty3 U U)) ?_;refine Cp ?_;refine DrawG.s (fun _ hs=>(by exact Ba U (.no U) (Ah hs U) (hs.tm U) fl201_1)) ?_;refine DrawG.s (fun _ hs=>(by exact Bk U (.no U) (Ah hs U) (hs.tm U) (hs.res _ _ U) ty3 U U)) ?_
   refine DrawG.s (fun _ hs=>(by exact Ax U (.no U) (Ah hs U) (hs.tm U) (hs.res _ _ U) (hs.tm U) Tryz.underlying104 ty175 (fun _=>⟨by omega,set_at _ (range_get _ (by omega))⟩))) ?_;refine DrawG.s (fun _ hs=>(by exact Bu U (.no U) (Ah hs U) (hs.tm U) (hs.res _ _ U) (set_at _ (range_get _ (by omega))) ty175 U U)) ?_;refine DrawG.s (fun _ hs=>(by exact Ba U (.no U) (Ah hs U) (hs.tm U) Ds)) ?_;refine DrawG.s (fun _ hs=>(by exact Bk U (.no U) (Ah hs U) (hs.tm U) (hs.res _ _ U) ty3 U U)) ?_;refine DrawG.s (fun _ hs=>Bo (ps:=[(0,.tmp 26)]) U U (Ah hs U) in75 U U st75 (.cons (hs.tm U) U U fp75_0 .nil) U) ?_;refine DrawG.s (fun _ hs=>(by exact Bk U (.no U) (Ah hs U) (hs.tm U) (hs.res _ _ U) De U U)) ?_;refine DrawG.s (fun _ hs=>Bc (FnT.fr (implreads _ _ (by omega))) U (.no U) (Ah hs U) (.cons (hs.tm U) (readA_sup hs U) (.cons (.const U) (readA_sup hs U) .nil))) ?_
   refine DrawG.s (fun _ hs=>(by exact Ba U (.no U) (Ah hs U) (hs.tm U) fl201_2)) ?_;refine DrawG.s (fun _ hs=>(by exact Bk U (.no U) (Ah hs U) (hs.tm U) (hs.res _ _ U) ty3 U U)) ?_;refine DrawG.s (fun _ hs=>Bo (ps:=[(0,.tmp 27),(1,.tmp 29),(2,.tmp 31)]) U U (Ah hs U) in178 U U st178 (.cons (hs.tm U) U U fp178_0 (.cons (hs.tm U) U U fp178_1 (.cons (hs.tm U) U U fp178_2 .nil))) U) ?_;refine DrawG.s (fun _ hs=>B7 (xs:=[.tmp 32]) (rows:=[cArc ⟨⟨e.ID,false⟩,reads e false,e.To⟩]) U U (Ah hs U) (.cons (hs.tm U) U U .nil) Tryz.underlying175 in178 U U (U)) ?_
   refine DrawG.fin U (FinA.mk U U (fun σ' hs=>R_append_hd (id:=241) (hid:=242) U U (Ah hs U) (hs.tm U) (hs.res _ _ U) (hs.res _ _ U) (hs.tm U) (by exact .t) (by rfl) Tryz.underlying175 in178 U (by (simp only [List.length_map,List.length_append,List.length_cons,List.length_nil,chunk];omega)) (by (unfold maxLen;simp only [List.length_map,List.length_append,List.length_cons,List.length_nil,chunk];omega))) U ?_);refine Bq (Av [2,3,5,11,12,13,17,19,34] [9,5,241]) ?_;refine Ad ((Ax U (.no U) U (.tm U) U (.tm U) Tryz.underlying104 ty175 (fun _=>⟨by omega,set_at _ (range_get _ (by omega))⟩))) U ?_;refine Ch (Cn U U U (.tm U) U (.tm U) U (set_at _ (range_get _ (by omega))) ty175 U U U U) ?_
   refine Aa (Ar (σ':=⟨_,[(2,_),(3,_),(5,_),(11,_),(12,_),(13,_)],[(9,.row 1 ((List.range g.Values.length).map fun (x:Nat)=>[T.sl 4 ((F1 x).map cArc)])),(5,.box [.t (.v (.int .i64 e.ID)),.t (.v (.int .i64 e.From)),.t (.v (.int .i64 e.To)),.t (.v (.int .i64 e.Label))])]⟩) (Ap U ⟨U,U,U,U,U,U,Y⟩ ⟨congrArg (fun r=>some (R.row 1 r)) (by simp only [List.set_set];refine (range_app 4 cArc _ _).trans ?_;rw [hF1]),U,Y⟩) ?_);refine AW.takeR (id:=9) (i:=e.To.toNat) (p:=0) 431 432 U (range_get _ (by omega)) U (fun _=>rfl) (fun _=>rfl) fun c43=>?_
   refine AW.drawA 17 (nthB [[],[],[1],[],[],[4],[3,4,5],[3,4,5,6],[],[8],[8,9],[],[11],[],[13],[8,9,10,11,12,13,14],[8,9,10,11,12,13,14,15],[3,4,5,6,7,8,9,10,11,12,13,14,15,16]]) 431 53 (.row 4 ((F1 e.To.toNat).map cArc++[cArc ⟨⟨e.ID,true⟩,reads e true,e.From⟩])) (true,.a (.one (.rf 431))) ⟨_,[(2,_),(3,_),(5,_),(11,_),(12,_),(13,_)],[(9,_),(5,_)]⟩ (by kernel_rfl) (by kernel_rfl) (by kernel_rfl) A5 A5 U U ?_;refine Cp ?_;refine DrawG.s (fun _ hs=>(by exact Ba U (.no U) (Ah hs U) (hs.tm U) fl201_2)) ?_;refine DrawG.s (fun _ hs=>(by exact Bk U (.no U) (Ah hs U) (hs.tm U) (hs.res _ _ U) ty3 U U)) ?_;refine Cp ?_;refine DrawG.s (fun _ hs=>(by exact Ba U (.no U) (Ah hs U) (hs.tm U) fl201_2)) ?_;refine DrawG.s (fun _ hs=>(by exact Bk U (.no U) (Ah hs U) (hs.tm U) (hs.res _ _ U) ty3 U U)) ?_
   refine DrawG.s (fun _ hs=>(by exact Ax U (.no U) (Ah hs U) (hs.tm U) (hs.res _ _ U) (hs.tm U) Tryz.underlying104 ty175 (fun _=>⟨by omega,set_at _ (range_get _ (by omega))⟩))) ?_;refine DrawG.s (fun _ hs=>(by exact Bu U (.no U) (Ah hs U) (hs.tm U) (hs.res _ _ U) (set_at _ (range_get _ (by omega))) ty175 U U)) ?_;refine DrawG.s (fun _ hs=>(by exact Ba U (.no U) (Ah hs U) (hs.tm U) Ds)) ?_;refine DrawG.s (fun _ hs=>(by exact Bk U (.no U) (Ah hs U) (hs.tm U) (hs.res _ _ U) ty3 U U)) ?_;refine DrawG.s (fun _ hs=>Bo (ps:=[(0,.tmp 45),(1,.const (.bool true))]) U U (Ah hs U) in75 U U st75 (.cons (hs.tm U) U U fp75_0 (.cons (.const U) U U fp75_1 .nil)) U) ?_;refine DrawG.s (fun _ hs=>(by exact Bk U (.no U) (Ah hs U) (hs.tm U) (hs.res _ _ U) De U U)) ?_
   refine DrawG.s (fun _ hs=>Bc (FnT.fr (implreads _ _ (by omega))) U (.no U) (Ah hs U) (.cons (hs.tm U) (readA_sup hs U) (.cons (.const U) (readA_sup hs U) .nil))) ?_;refine DrawG.s (fun _ hs=>(by exact Ba U (.no U) (Ah hs U) (hs.tm U) fl201_1)) ?_;refine DrawG.s (fun _ hs=>(by exact Bk U (.no U) (Ah hs U) (hs.tm U) (hs.res _ _ U) ty3 U U)) ?_;refine DrawG.s (fun _ hs=>Bo (ps:=[(0,.tmp 46),(1,.tmp 48),(2,.tmp 50)]) U U (Ah hs U) in178 U U st178 (.cons (hs.tm U) U U fp178_0 (.cons (hs.tm U) U U fp178_1 (.cons (hs.tm U) U U fp178_2 .nil))) U) ?_;refine DrawG.s (fun _ hs=>B7 (xs:=[.tmp 51]) (rows:=[cArc ⟨⟨e.ID,true⟩,reads e true,e.From⟩]) U U (Ah hs U) (.cons (hs.tm U) U U .nil) Tryz.underlying175 in178 U U (U)) ?_
   refine DrawG.fin U (FinA.mk U U (fun σ' hs=>R_append_hd (id:=431) (hid:=432) U U (Ah hs U) (hs.tm U) (hs.res _ _ U) (hs.res _ _ U) (hs.tm U) (by exact .t) (by rfl) Tryz.underlying175 in178 U (by (simp [chunk];omega)) (by (unfold maxLen;simp [chunk];omega))) U ?_);refine Bq (Av [2,3,5,11,12,13,36,38,53] [9,5,431]) ?_;refine Ad ((Ax U (.no U) U (.tm U) U (.tm U) Tryz.underlying104 ty175 (fun _=>⟨by omega,set_at _ (range_get _ (by omega))⟩))) U ?_;refine Ch (Cn U U U (.tm U) U (.tm U) U (set_at _ (range_get _ (by omega))) ty175 U U U U) ?_;refine Aa (Ac (A8 ?_));refine Ab ?_;refine Aa ?_
   repeat (with_reducible refine Au ?_)
   refine Round1.next (k+1) ⟨by omega,Y⟩ (by omega) (Ap rfl ⟨rfl,rfl,rfl,rfl,rfl,Y⟩ ⟨congrArg (fun r=>some (R.row 1 r)) (by simp only [List.set_set];refine (range_app 4 cArc _ _).trans ?_;rw [hF1];congr 1;funext x;rw [arcs_step he1 hE.1 hE.2.2.1]),Y⟩)
 try simp at h14
 refine Bb (Af (Ab ?_));refine Ag ?_;refine Aa (Am (Res.one U (.tmp U .nil) U ?_))
 unfold arcsV;rw [List.map_map,List.take_of_length_le (by omega)];rfl
theorem implnextVertices (g:TGraph) (a:TAutomaton) (ha:validA a=true) (hg:validG g=true):FnT Tryz.prog 94 [.agg (cGraph g),.agg (cAutomaton a)] (.a (.one (.sl 1 ((nextsV g a).map cIntS)))):=by
 refine A7 Tryz.func94 U (by kernel_rfl) Tryz.ntmps94 U fun hlen w0=>?_
 try simp [cEdge,cGraph,cAutomaton] at hlen
 have hA:=validA_len ha
 have hP:=pow_le_12 ha
 have hG:=validG_len hg
 have hnv:(a.Accept.length:Int)*(g.Values.length:Int)≤60∧0≤(a.Accept.length:Int)*(g.Values.length:Int):=⟨Int.le_trans (Int.mul_le_mul (show (a.Accept.length:Int)≤12 by omega) (show (g.Values.length:Int)≤5 by omega) (by omega) (by omega)) (by omega),Int.mul_nonneg (by omega) (by omega)⟩
 have hav:(arcsV g).length=g.Values.length:=by simp [arcsV]
 refine Af (Ad (Bm U U U (.tm U) (ts:=_) (by rfl)) U ?_);refine Ad (Bm U U U (.tm U) (ts:=_) (by rfl)) U ?_;refine Ak ?_;refine Cb (i:=4) 20001 1 U U ?_;refine Aa (Af (Bg C0 ?_));refine Aq ty33 ?_;refine Be (.t) Tryz.underlying33 ?_;refine Ag ?_;refine Aa (Af (Ab ?_));refine Bg Cl ?_;refine Aq Bz ?_;refine Be (.t) Tryz.underlying40 ?_;refine Ad (Dn U (.no U) U (.tm U) (.tm U) (fun _=>by omega)) U ?_;refine A6 (R_makeSlice 22 U U U (.tm U) Tryz.underlying34 in40 U U U U (by omega)) U ?_;refine Bq (Le.nilRow (id:=22) 1 U) ?_;refine Ag ?_;refine Aa (Ae (Ae (Ar (Av [0,1,2,3,4,5,6] [20001,22]) ?_)));refine Ac (Aq Bx ?_);refine Bv (implarcs g hg) ?_;refine Be (.t) Tryz.underlying104 ?_;refine Ad (Bh U (.no U) U (.const U)) U ?_
 refine Aa (AW.block (By (fun (x:Nat)=>(x≤g.Values.length)∧True) (fun (x:Nat)=>⟨_,[(26,(true,.a (.one (.t (.v (.int .i64 (x:Nat))))))),(6,(true,.a (.one (.rf 22)))),(2,_),(3,_),(4,_),(5,_),(24,_),(25,_)],[(22,.row 1 (nvRows g a (x*a.Accept.length) []))]⟩) (fun (x:Nat)=>g.Values.length-x) (0) ⟨Nat.zero_le _,Y⟩ (Ap U ⟨U,U,U,U,U,U,U,U,Y⟩ ⟨(by (refine congrArg (fun r=>some (R.row 1 r)) ?_;first|(rw [←Int.natCast_mul,Int.toNat_natCast,nvRows_zero g a,Nat.zero_mul];done)|(simp;done))),Y⟩) ?_))
 rintro x ⟨hk,he⟩
 refine Af (AWl.lt ?_);refine Aa (Ae (Ai (.tm U) (fun h27=>?_) (fun h27=>?_)))
 · try simp at h27
   obtain⟨v,hv0⟩:∃ ξ,g.Values[x]?=some ξ:=⟨_,List.getElem?_eq_getElem (by omega)⟩
   have hv:=validG_val hg hv0
   have hx1:(arcsV g)[x]?=some (arcsAt g x):=by (unfold arcsV;exact range_get _ (by omega))
   refine Aj (Ae (AW.block (Af (Ab ?_))));refine Ad (As U (.no U) U (.tm U) (.tm U) Tryz.underlying104 ty175 (fun _=>⟨by omega,(by exact Al hx1)⟩)) U ?_;refine Aq ty175 ?_;refine Ag ?_;refine Ag ?_;refine Aa (Af (Ak ?_));refine Aa (AW.block (By (fun (s:Nat)=>(s≤a.Accept.length)∧True) (fun (s:Nat)=>⟨_,[(9,(true,.a (.one (.t (.v (.int .i64 (s:Nat))))))),(6,(true,.a (.one (.rf 22)))),(2,_),(3,_),(4,_),(5,_),(7,_),(8,_),(24,_),(25,_),(26,_)],[(22,.row 1 (nvRows g a (x*a.Accept.length+s) []))]⟩) (fun (s:Nat)=>a.Accept.length-s) (0) ⟨Nat.zero_le _,Y⟩ (Ap U ⟨U,U,U,U,U,U,U,U,U,U,U,Y⟩ ⟨(by rfl),Y⟩) ?_))
   rintro s ⟨hk1,he1⟩
   refine Ae (Af (Ab ?_));refine Ab ?_;refine AWl.lt ?_;refine Aa (Ai (.tm U) (fun h33=>?_) (fun h33=>?_))
   · try simp at h33
     have hpi:((x:Int)*(a.Accept.length:Int)+(s:Int)).toNat=x*a.Accept.length+s:=by (rw [←Int.natCast_mul];omega)
     have hpl:=idx_lt (x:=x) (s:=s) (n:=a.Accept.length) (V:=g.Values.length) (by omega) (by omega)
     have hpb:(x:Int)*(a.Accept.length:Int)≤60∧0≤(x:Int)*(a.Accept.length:Int):=⟨Int.le_trans (Int.mul_le_mul (show (x:Int)≤5 by omega) (show (a.Accept.length:Int)≤12 by omega) (by omega) (by omega)) (by omega),Int.mul_nonneg (by omega) (by omega)⟩
     have hsp:=pow_12 ha (x:=s) (by omega)
     have hal:(arcsAt g x).length≤24:=Nat.le_trans (arcsL_len _ _) (by omega)
     have hnx:nextsOf g a x s=(arcsAt g x).flatMap (vertN a s v):=by (unfold nextsOf;rw [Int.toNat_natCast,hv0];rfl)
     refine Aj (Ae (AW.block (Af (Ab ?_))));refine Be (.t) Tryz.underlying175 ?_;refine Ad (Bh U (.no U) U (.const U)) U ?_;refine Aa (AW.block (By (fun (j:Nat)=>(j≤(arcsAt g x).length)∧True) (fun (j:Nat)=>⟨_,[(38,(true,.a (.one (.t (.v (.int .i64 (j:Nat))))))),(6,(true,.a (.one (.rf 22)))),(2,_),(3,_),(4,_),(5,_),(7,_),(8,_),(9,_),(24,_),(25,_),(26,_),(36,_),(37,_)],[(22,.row 1 (nvRows g a (x*a.Accept.length+s) (((arcsAt g x).take j).flatMap (vertN a s v))))]⟩) (fun (j:Nat)=>(arcsAt g x).length-j) (0) ⟨Nat.zero_le _,Y⟩ (Ap U ⟨U,U,U,U,U,U,U,U,U,U,U,U,U,U,Y⟩ ⟨(by rfl),Y⟩) ?_))
     rintro j ⟨hk2,he2⟩
     refine Af (AWl.lt ?_);refine Aa (Ae (Ai (.tm U) (fun h39=>?_) (fun h39=>?_)))
     · try simp at h39
       obtain⟨y,hy⟩:∃ ξ,(arcsAt g x)[j]?=some ξ:=⟨_,List.getElem?_eq_getElem (by omega)⟩
       have hyo:=arcsAt_ok hg hy
       have haft:FnT Tryz.prog 155 [.agg (cAutomaton a),.one (.v (.int .i64 ((2^s:Nat):Int))),.one (.v (.int .i64 v)),.one (.v (.int .i64 y.letter))] (.a (.one (.v (.int .i64 (aft1 a s v y.letter:Nat))))):=by (have:=implafter a ha (2^s) (Nat.pow_lt_pow_right (by omega) (by omega)) v y.letter hv (by omega);rwa [aftS_pow a v y.letter (by omega)] at this)
       have hafl:=aft1_lt ha (s:=(s:Int)) (v:=v) (k:=y.letter) hv (by omega) (by omega)
       have hbl:=bitsI_le (aft1 a s v y.letter)
       have hbe:=bitsI_len (aft1 a s v y.letter)
       have hyb:y.to*(a.Accept.length:Int)≤60∧0≤y.to*(a.Accept.length:Int):=⟨Int.le_trans (Int.mul_le_mul (show y.to≤5 by omega) (show (a.Accept.length:Int)≤12 by omega) (by omega) (by omega)) (by omega),Int.mul_nonneg (by omega) (by omega)⟩
       have hfl:(((arcsAt g x).take j).flatMap (vertN a s v)).length≤24*64:=Nat.le_trans (flatMap_len (b:=64) (fun y=>by rw [vertN_len];exact bits_len _) _) (Nat.mul_le_mul_right _ (by simp;omega))
       refine Aj (Ae (AW.block (Af (Ad (As U (.no U) U (.tm U) (.tm U) Tryz.underlying175 ty178 (fun _=>⟨by omega,(by exact Al hy)⟩)) U ?_))));refine Aq ty178 ?_;refine A6 (Bi 11 U U U in178 U U U) U ?_;refine Az ty178 ?_;refine Aa (Ae (B8 14 (nthB [[],[],[1],[],[3],[],[3,4,5],[3,4,5,6],[],[8],[0,1,2,3,4,5,6,7,8,9],[0,1,2,3,4,5,6,7,8,9,10],[0,1,2,3,4,5,6,7,8,9,10,11],[]]) (by kernel_rfl) (by kernel_rfl) (by kernel_rfl) ?_));refine Bj Bt ?_;refine Aw ?_;refine DrawC.s (fun _ hs=>R_shlN U (.no U) (Ah hs U) (.const U) (hs.tm U) (fun _=>by omega)) ?_;refine B9 Cl ?_;refine Bj Bz ?_;refine Aw ?_;refine DrawC.s (fun _ hs=>(by exact As U (.no U) (Ah hs U) (hs.tm U) (hs.tm U) Tryz.underlying40 ty3 (fun _=>⟨by omega,(by exact Al hv0)⟩))) ?_;refine Bj ty3 ?_;refine DrawC.s (fun _ hs=>(by exact Ba U (.no U) (Ah hs U) (hs.tm U) fl178_1)) ?_
       refine DrawC.s (fun _ hs=>(by exact Bk U (.no U) (Ah hs U) (hs.tm U) (hs.res _ _ U) ty3 U U)) ?_;refine DrawC.s (fun _ hs=>Bc (FnT.fr (haft)) U (.no U) (Ah hs U) (.cons (hs.tm U) (readA_sup hs U) (.cons (hs.tm U) (readA_sup hs U) (.cons (hs.tm U) (readA_sup hs U) (.cons (hs.tm U) (readA_sup hs U) .nil))))) ?_;refine DrawC.s (fun _ hs=>Bc (FnT.fr (implmembers (aft1 a s v y.letter) (by omega))) U (.no U) (Ah hs U) (.cons (hs.tm U) (readA_sup hs U) .nil)) ?_;refine DrawC.s (fun _ hs=>(by exact Dp U (.no U) (Ah hs U) (hs.tm U) (by exact .t) Tryz.underlying40)) ?_;refine DrawC.s (fun _ hs=>Bh U (.no U) (Ah hs U) (.const U)) ?_;refine DrawC.fin U U ?_
       refine Aa (AW.block (By (fun (u:Nat)=>(u≤(bitsI (aft1 a s v y.letter)).length)∧True) (fun (u:Nat)=>⟨_,[(55,(true,.a (.one (.t (.v (.int .i64 (u:Nat))))))),(6,(true,.a (.one (.rf 22)))),(2,_),(3,_),(4,_),(5,_),(7,_),(8,_),(9,_),(11,_),(24,_),(25,_),(26,_),(36,_),(37,_),(38,_),(53,_),(54,_)],[(22,.row 1 (nvRows g a (x*a.Accept.length+s) (((arcsAt g x).take j).flatMap (vertN a s v)++(vertN a s v y).take u))),(11,.box [.t (.v (.int .i64 y.step.Edge)),.t (.v (.bool y.step.Inverse)),.t (.v (.int .i64 y.letter)),.t (.v (.int .i64 y.to))])]⟩) (fun (u:Nat)=>(bitsI (aft1 a s v y.letter)).length-u) (0) ⟨Nat.zero_le _,Y⟩ (Ap U ⟨U,U,U,U,U,U,U,U,U,U,U,U,U,U,U,U,U,U,Y⟩ ⟨(by (refine congrArg (fun r=>some (R.row 1 r)) ?_;first|(rw [←Int.natCast_mul,Int.toNat_natCast,nvRows_zero g a,Nat.zero_mul];done)|(simp;done))),U,Y⟩) ?_))
       rintro u ⟨hk3,he3⟩
       refine Af (AWl.lt ?_);refine Aa (Ae (Ai (.tm U) (fun h56=>?_) (fun h56=>?_)))
       · try simp at h56
         obtain⟨z,hz⟩:∃ ξ,(bitsI (aft1 a s v y.letter))[u]?=some ξ:=⟨_,List.getElem?_eq_getElem (by omega)⟩
         obtain⟨t,rfl,ht⟩:=bitsI_at hz
         have htn:=bits_lt hafl (List.mem_of_getElem? ht)
         have hvn:=vertN_at (s:=(s:Int)) (v:=v) ht
         have hll3:((vertN a s v y).take u).length≤64:=by (have:=vertN_len a s v y;rw [List.length_take];omega)
         have hll:(((arcsAt g x).take j).flatMap (vertN a s v)++(vertN a s v y).take u).length≤2000:=by (have:=vertN_len a s v y;rw [List.length_append,List.length_take];omega)
         refine Aj (Ae (AW.block (Af (Ad (As U (.no U) U (.tm U) (.tm U) Tryz.underlying40 ty3 (fun _=>⟨by omega,(by exact Al hz)⟩)) U ?_))));refine Aq ty3 ?_;refine Ag ?_;refine Aa (Ar (σ':=⟨_,[(2,_),(3,_),(4,_),(5,_),(6,_),(7,_),(8,_),(9,_),(11,_),(13,_),(24,_),(25,_),(26,_),(36,_),(37,_),(38,_),(53,_),(54,_),(55,_)],[(22,.row 1 (nvRows g a (x*a.Accept.length+s) (((arcsAt g x).take j).flatMap (vertN a s v)++(vertN a s v y).take u))),(11,.box [.t (.v (.int .i64 y.step.Edge)),.t (.v (.bool y.step.Inverse)),.t (.v (.int .i64 y.letter)),.t (.v (.int .i64 y.to))])]⟩) A4 ?_);refine AW.takeR (id:=22) (i:=((x:Int)*(a.Accept.length:Int)+(s:Int)).toNat) (p:=0) 721 722 U (by rw [hpi];exact nvRows_self _ hpl) U (fun _=>rfl) (fun _=>rfl) fun c72=>?_
         refine AW.drawA 21 (nthB [[],[],[],[1,2],[],[1,2,3,4],[],[],[],[7,8],[],[7,8,9,10],[6,7,8,9,10,11],[6,7,8,9,10,11,12],[],[14],[],[14,15,16],[],[14,15,16,17,18],[14,15,16,17,18,19],[6,7,8,9,10,11,12,13,14,15,16,17,18,19,20]]) 721 80 (.row 1 ((((arcsAt g x).take j).flatMap (vertN a s v)++(vertN a s v y).take u).map cInt++[cInt (y.to*(a.Accept.length:Int)+(t:Int))])) (true,.a (.one (.rf 721))) ⟨_,[(2,_),(3,_),(4,_),(5,_),(6,_),(7,_),(8,_),(9,_),(11,_),(13,_),(24,_),(25,_),(26,_),(36,_),(37,_),(38,_),(53,_),(54,_),(55,_)],[(22,_),(11,_)]⟩ (by kernel_rfl) (by kernel_rfl) (by kernel_rfl) A5 A5 U U ?_;refine Cp ?_;refine Cp ?_;refine Cp ?_;refine DrawG.s (fun _ hs=>Dn U (.no U) (Ah hs U) (hs.tm U) (hs.tm U) (fun _=>by omega)) ?_;refine Cp ?_;refine DrawG.s (fun _ hs=>C7 U (.no U) (Ah hs U) (hs.tm U) (hs.tm U) (fun _=>by omega)) ?_;refine Cp ?_;refine Cp ?_;refine Cp ?_
         refine DrawG.s (fun _ hs=>Dn U (.no U) (Ah hs U) (hs.tm U) (hs.tm U) (fun _=>by omega)) ?_;refine Cp ?_;refine DrawG.s (fun _ hs=>C7 U (.no U) (Ah hs U) (hs.tm U) (hs.tm U) (fun _=>by omega)) ?_;refine DrawG.s (fun _ hs=>(by exact Ax U (.no U) (Ah hs U) (hs.tm U) (hs.res _ _ U) (hs.tm U) Tryz.underlying34 Bz (fun _=>⟨by omega,set_at _ (by rw [hpi];exact nvRows_self _ hpl)⟩))) ?_;refine DrawG.s (fun _ hs=>(by exact Bu U (.no U) (Ah hs U) (hs.tm U) (hs.res _ _ U) (set_at _ (by rw [hpi];exact nvRows_self _ hpl)) Bz U U)) ?_;refine DrawG.s (fun _ hs=>(by exact Ba U (.no U) (Ah hs U) (hs.tm U) fl178_2)) ?_;refine DrawG.s (fun _ hs=>(by exact Bk U (.no U) (Ah hs U) (hs.tm U) (hs.res _ _ U) ty3 U U)) ?_;refine Cp ?_;refine DrawG.s (fun _ hs=>Dn U (.no U) (Ah hs U) (hs.tm U) (hs.tm U) (fun _=>by omega)) ?_;refine Cp ?_
         refine DrawG.s (fun _ hs=>C7 U (.no U) (Ah hs U) (hs.tm U) (hs.tm U) (fun _=>by omega)) ?_;refine DrawG.s (fun _ hs=>B7 (xs:=[.tmp 78]) (rows:=[cInt (y.to*(a.Accept.length:Int)+(t:Int))]) U U (Ah hs U) (.cons (hs.tm U) U U .nil) Tryz.underlying40 in3 U U (U)) ?_;refine DrawG.fin U (FinA.mk U U (fun σ' hs=>R_append_hd (id:=721) (hid:=722) U U (Ah hs U) (hs.tm U) (hs.res _ _ U) (hs.res _ _ U) (hs.tm U) (by exact .t) (by rfl) Tryz.underlying40 in3 U (by (simp only [List.length_map,List.length_append,List.length_cons,List.length_nil,chunk];omega)) (by (unfold maxLen;simp only [List.length_map,List.length_append,List.length_cons,List.length_nil,chunk];omega))) U ?_);refine Bq (Av [2,3,4,5,6,7,8,9,11,13,24,25,26,36,37,38,53,54,55,59,64,80] [22,11,721]) ?_
         refine Ad (by exact Ax U (.no U) U (.tm U) U (.tm U) Tryz.underlying34 Bz (fun _=>⟨by omega,set_at _ (by rw [hpi];exact nvRows_self _ hpl)⟩)) U ?_;refine Ch (Cn U U U (.tm U) U (.tm U) U (set_at _ (by rw [hpi];exact nvRows_self _ hpl)) Bz U U U U) ?_;refine Aa (Ac (A8 ?_));refine Ab ?_;refine Aa ?_
         repeat (with_reducible refine Au ?_)
         refine Round1.next (u+1) ⟨by omega,Y⟩ (by omega) (Ap rfl ⟨rfl,rfl,rfl,rfl,rfl,rfl,rfl,rfl,rfl,rfl,rfl,rfl,rfl,rfl,rfl,rfl,rfl,rfl,Y⟩ ⟨(by refine congrArg (fun r=>some (R.row 1 r)) ?_;first|(simp only [List.set_set];rw [hpi];refine (nvRows_app _ _).trans ?_;rw [take_at hvn,List.append_assoc];done)|(rw [flatMap_at _ hy,List.take_of_length_le (l:=vertN a s v y) (by rw [vertN_len];omega)];done)|(rw [List.take_of_length_le (by omega),←hnx];exact nvRows_next g a (by omega))|(rw [Nat.succ_mul,show s=a.Accept.length by omega];done)),(by rfl),Y⟩)
       try simp at h56
       refine Bb (Ac (A8 ?_));refine Ab ?_;refine Aa ?_
       repeat (with_reducible refine Au ?_)
       refine Round1.next (j+1) ⟨by omega,Y⟩ (by omega) (Ap rfl ⟨rfl,rfl,rfl,rfl,rfl,rfl,rfl,rfl,rfl,rfl,rfl,rfl,rfl,rfl,Y⟩ ⟨(by refine congrArg (fun r=>some (R.row 1 r)) ?_;first|(simp only [List.set_set];rw [hpi];refine (nvRows_app _ _).trans ?_;rw [take_at hvn,List.append_assoc];done)|(rw [flatMap_at _ hy,List.take_of_length_le (l:=vertN a s v y) (by rw [vertN_len];omega)];done)|(rw [List.take_of_length_le (by omega),←hnx];exact nvRows_next g a (by omega))|(rw [Nat.succ_mul,show s=a.Accept.length by omega];done)),Y⟩)
     try simp at h39
     refine Bb (Ac (Ab ?_));refine A8 ?_;refine Ag ?_;refine Aa ?_
     repeat (with_reducible refine Au ?_)
     refine Round1.next (s+1) ⟨by omega,Y⟩ (by omega) (Ap rfl ⟨rfl,rfl,rfl,rfl,rfl,rfl,rfl,rfl,rfl,rfl,rfl,Y⟩ ⟨(by refine congrArg (fun r=>some (R.row 1 r)) ?_;first|(simp only [List.set_set];rw [hpi];refine (nvRows_app _ _).trans ?_;rw [take_at hvn,List.append_assoc];done)|(rw [flatMap_at _ hy,List.take_of_length_le (l:=vertN a s v y) (by rw [vertN_len];omega)];done)|(rw [List.take_of_length_le (by omega),←hnx];exact nvRows_next g a (by omega))|(rw [Nat.succ_mul,show s=a.Accept.length by omega];done)),Y⟩)
   try simp at h33
   refine Bb (Ac (A8 ?_));refine Ab ?_;refine Aa ?_
   repeat (with_reducible refine Au ?_)
   refine Round1.next (x+1) ⟨by omega,Y⟩ (by omega) (Ap rfl ⟨rfl,rfl,rfl,rfl,rfl,rfl,rfl,rfl,Y⟩ ⟨(by refine congrArg (fun r=>some (R.row 1 r)) ?_;first|(simp only [List.set_set];rw [hpi];refine (nvRows_app _ _).trans ?_;rw [take_at hvn,List.append_assoc];done)|(rw [flatMap_at _ hy,List.take_of_length_le (l:=vertN a s v y) (by rw [vertN_len];omega)];done)|(rw [List.take_of_length_le (by omega),←hnx];exact nvRows_next g a (by omega))|(rw [Nat.succ_mul,show s=a.Accept.length by omega];done)),Y⟩)
 try simp at h27
 refine Bb (Af (Ab ?_));refine Ag ?_;refine Aa (Am (Res.one U (.tmp U .nil) U ?_))
 rw [nvRows_end g a (by rw [Nat.mul_comm];exact Nat.mul_le_mul_right _ (by omega))];rfl
end Go.Proofs.YtbecibmlbiebeaaGreat
