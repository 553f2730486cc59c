import Derived.Test.YtbecibmlbiebeaaGreatB05xb
import Derived.Test.YtbecibmlbiebeaaGreatAbsIxb
import Derived.Test.YtbecibmlbiebeaaGreatAbs1xb
import Derived.Maps.AppendAt
import Derived.Laws.Cover3
set_option linter.unusedVariables false
set_option linter.unusedSimpArgs false
set_option maxHeartbeats 1000000
set_option maxRecDepth 100000
namespace Go.Q
open Go.D
def zerT (t:TToken):Bool:=decide (t.Letter=0)&&decide (t.Low=0)&&decide (t.High=0)
def arity (t:TToken):Int:=
 if t.Kind=1∨t.Kind=2 then (if zerT t then 0 else -1)
 else if t.Kind=3 then (if inB t.Letter 0 8&&decide (t.Low=0)&&decide (t.High=0) then 0 else -1)
 else if t.Kind=4∨t.Kind=5 then (if zerT t then 2 else -1)
 else if t.Kind=6 then (if zerT t then 1 else -1)
 else if t.Kind=7 then (if decide (t.Letter=0)&&inB t.High 1 3&&inB t.Low 0 t.High then 1 else -1)
 else -1
def tokOk (t:TToken):Bool:=decide (0≤arity t)
def depthGo:Int→List TToken→Bool
 | d,[]=>decide (d=1)
 | d,t::r=>if arity t<0∨d<arity t then false else depthGo (d-arity t+1) r
def isExpr (l:List TToken):Bool:=depthGo 0 l
theorem depthGo_drop {l:List TToken} {k:Nat} {t:TToken} {d:Int} (h:l[k]?=some t):depthGo d (l.drop k)=if arity t<0∨d<arity t then false else depthGo (d-arity t+1) (l.drop (k+1)):=by
 rw [drop_at h,depthGo]
theorem arity_le (t:TToken):-1≤arity t∧arity t≤2:=by
 unfold arity
 repeat' split
 all_goals omega
end Go.Q
namespace Go.Proofs.YtbecibmlbiebeaaGreat
open Go.RowKit Go.Q Go.D
theorem specl8Arity (t:TToken):FnT Tryz.prog 133 [.agg (cToken t)] (.a (.one (.v (.int .i64 (arity t))))):=by
 refine A7 Tryz.func133 U (by kernel_rfl) Tryz.ntmps133 U fun hlen w0=>?_
 try simp [cToken,cExpr] at hlen
 refine Af (Ad (Bm U U U (.tm U) (ts:=_) (by rfl)) U ?_);refine Ak ?_;refine Aa (Ae (Af (Bg fl88_0 ?_)));refine Aq ty3 ?_;refine Aa (AW.block (Ae (Af (Bs ?_))));refine Ag ?_;refine Aa (Ai (.tm U) (fun h5=>?_) (fun h5=>?_))
 · try simp at h5
   refine Aj (Ai (.tm U) (fun h5=>?_) (fun h5=>?_))
   · try simp at h5
     refine Ae (Af (Bg fl88_1 ?_));refine Aq ty3 ?_;refine AWl.nc ?_;refine Ab ?_;refine Dc fl88_2 ?_;refine Db ty3 ?_;refine Ad (R_ne U (by exact .not1 U U U U) U (.tmp U (by exact id)) (.const U)) U ?_;refine Cx ?_;refine Ab ?_;refine Dc fl88_3 ?_;refine Db ty3 ?_;refine Ad (R_ne U (by exact .not1 U U U U) U (.tmp U (by exact id)) (.const U)) U ?_;refine Cx ?_;refine Aa (Ai (.tm U) (fun h20=>?_) (fun h20=>?_))
     · try simp at h20
       refine Ae (Ar (Av [0,1,2,4,5] []) ?_);refine Ac (Ak ?_);refine Aa (Am (Bp U U ?_))
       unfold arity zerT;grind
     try simp at h20
     refine Aj (Ae (Ar (Av [0,1,2,4,5] []) ?_));refine Ac (Ak ?_);refine Aa (Am (Bp U U ?_))
     unfold arity zerT;grind
   exfalso;(try simp at h5);first|contradiction|omega|simp_all|grind
 try simp at h5
 refine Ac (Bs ?_);refine Ag ?_;refine Aa (Ai (.tm U) (fun h5=>?_) (fun h5=>?_))
 · try simp at h5
   refine Ae (Af (Bg fl88_1 ?_));refine Aq ty3 ?_;refine AWl.nc ?_;refine Ab ?_;refine Dc fl88_2 ?_;refine Db ty3 ?_;refine Ad (R_ne U (by exact .not1 U U U U) U (.tmp U (by exact id)) (.const U)) U ?_;refine Cx ?_;refine Ab ?_;refine Dc fl88_3 ?_;refine Db ty3 ?_;refine Ad (R_ne U (by exact .not1 U U U U) U (.tmp U (by exact id)) (.const U)) U ?_;refine Cx ?_;refine Aa (Ai (.tm U) (fun h20=>?_) (fun h20=>?_))
   · try simp at h20
     refine Ae (Ar (Av [0,1,2,4,5] []) ?_);refine Ac (Ak ?_);refine Aa (Am (Bp U U ?_))
     unfold arity zerT;grind
   try simp at h20
   refine Aj (Ae (Ar (Av [0,1,2,4,5] []) ?_));refine Ac (Ak ?_);refine Aa (Am (Bp U U ?_))
   unfold arity zerT;grind
 try simp at h5
 refine Af (Bs ?_);refine Ag ?_;refine Aa (Ai (.tm U) (fun h21=>?_) (fun h21=>?_))
 · try simp at h21
   refine Ae (Af (Bg fl88_1 ?_));refine Aq ty3 ?_;refine Bv (specl2Letter _) ?_;refine C1 ?_;refine Ab ?_;refine Dc fl88_2 ?_;refine Db ty3 ?_;refine Ad (R_ne U (by exact .not1 U U U U) U (.tmp U (by exact id)) (.const U)) U ?_;refine Cx ?_;refine Ab ?_;refine Dc fl88_3 ?_;refine Db ty3 ?_;refine Ad (R_ne U (by exact .not1 U U U U) U (.tmp U (by exact id)) (.const U)) U ?_;refine Cx ?_;refine Aa (Ai (.tm U) (fun h36=>?_) (fun h36=>?_))
   · try simp at h36
     refine Ae (Ar (Av [0,1,2,4,5] []) ?_);refine Ac (Ak ?_);refine Aa (Am (Bp U U ?_))
     unfold arity zerT;grind
   try simp at h36
   refine Aj (Ae (Ar (Av [0,1,2,4,5] []) ?_));refine Ac (Ak ?_);refine Aa (Am (Bp U U ?_))
   unfold arity zerT;grind
 try simp at h21
 refine Ae (Af (Bs ?_));refine Ag ?_;refine Aa (Ai (.tm U) (fun h37=>?_) (fun h37=>?_))
 · try simp at h37
   refine Aj (Ai (.tm U) (fun h37=>?_) (fun h37=>?_))
   · try simp at h37
     refine Ae (Ae (Ar (Av [0,1,2,4,5,37] []) ?_));refine Ac (Bg fl88_1 ?_);refine Aq ty3 ?_;refine AWl.nc ?_;refine Ab ?_;refine Dc fl88_2 ?_;refine Db ty3 ?_;refine Ad (R_ne U (by exact .not1 U U U U) U (.tmp U (by exact id)) (.const U)) U ?_;refine Cx ?_;refine Ab ?_;refine Dc fl88_3 ?_;refine Db ty3 ?_;refine Ad (R_ne U (by exact .not1 U U U U) U (.tmp U (by exact id)) (.const U)) U ?_;refine Cx ?_;refine Aa (Ai (.tm U) (fun h52=>?_) (fun h52=>?_))
     · try simp at h52
       refine Ae (Ar (Av [0,1,2,4,5,37] []) ?_);refine Ac (Ak ?_);refine Aa (Am (Bp U U ?_))
       unfold arity zerT;grind
     try simp at h52
     refine Aj (Ae (Ar (Av [0,1,2,4,5,37] []) ?_));refine Ac (Ak ?_);refine Aa (Am (Bp U U ?_))
     unfold arity zerT;grind
   exfalso;(try simp at h37);first|contradiction|omega|simp_all|grind
 try simp at h37
 refine Ar (Av [0,1,2,4,5,37] []) ?_;refine Ac (Bs ?_);refine Ag ?_;refine Aa (Ai (.tm U) (fun h37=>?_) (fun h37=>?_))
 · try simp at h37
   refine Ae (Af (Bg fl88_1 ?_));refine Aq ty3 ?_;refine AWl.nc ?_;refine Ab ?_;refine Dc fl88_2 ?_;refine Db ty3 ?_;refine Ad (R_ne U (by exact .not1 U U U U) U (.tmp U (by exact id)) (.const U)) U ?_;refine Cx ?_;refine Ab ?_;refine Dc fl88_3 ?_;refine Db ty3 ?_;refine Ad (R_ne U (by exact .not1 U U U U) U (.tmp U (by exact id)) (.const U)) U ?_;refine Cx ?_;refine Aa (Ai (.tm U) (fun h52=>?_) (fun h52=>?_))
   · try simp at h52
     refine Ae (Ar (Av [0,1,2,4,5,37] []) ?_);refine Ac (Ak ?_);refine Aa (Am (Bp U U ?_))
     unfold arity zerT;grind
   try simp at h52
   refine Aj (Ae (Ar (Av [0,1,2,4,5,37] []) ?_));refine Ac (Ak ?_);refine Aa (Am (Bp U U ?_))
   unfold arity zerT;grind
 try simp at h37
 refine Af (Bs ?_);refine Ag ?_;refine Aa (Ai (.tm U) (fun h53=>?_) (fun h53=>?_))
 · try simp at h53
   refine Ae (Af (Bg fl88_1 ?_));refine Aq ty3 ?_;refine AWl.nc ?_;refine Ab ?_;refine Dc fl88_2 ?_;refine Db ty3 ?_;refine Ad (R_ne U (by exact .not1 U U U U) U (.tmp U (by exact id)) (.const U)) U ?_;refine Cx ?_;refine Ab ?_;refine Dc fl88_3 ?_;refine Db ty3 ?_;refine Ad (R_ne U (by exact .not1 U U U U) U (.tmp U (by exact id)) (.const U)) U ?_;refine Cx ?_;refine Aa (Ai (.tm U) (fun h67=>?_) (fun h67=>?_))
   · try simp at h67
     refine Ae (Ar (Av [0,1,2,4,5,37] []) ?_);refine Ac (Ak ?_);refine Aa (Am (Bp U U ?_))
     unfold arity zerT;grind
   try simp at h67
   refine Aj (Ae (Ar (Av [0,1,2,4,5,37] []) ?_));refine Ac (Ak ?_);refine Aa (Am (Bp U U ?_))
   unfold arity zerT;grind
 try simp at h53
 refine Af (Bs ?_);refine Ag ?_;refine Aa (Ai (.tm U) (fun h68=>?_) (fun h68=>?_))
 · try simp at h68
   refine Ae (Af (Bg fl88_1 ?_));refine Aq ty3 ?_;refine AWl.nc ?_;refine Ab ?_;refine Dc fl88_3 ?_;refine Db ty3 ?_;refine Ad (Bc (FnT.fr (specl1In _ _ _)) U (by exact .not1 U U U U) U (.cons (.tmp U (by exact id)) U (.cons (.const U) U (.cons (.const U) U .nil)))) U ?_;refine Ad (R_not U (by exact .not1 U U U U) U (.tmp U (by exact id))) U ?_;refine Cx ?_;refine Ab ?_;refine Dc fl88_2 ?_;refine Db ty3 ?_;refine Dc fl88_3 ?_;refine Db ty3 ?_;refine Ad (Bc (FnT.fr (specl1In _ _ _)) U (by exact .not1 U U U U) U (.cons (.tmp U (by exact id)) U (.cons (.const U) U (.cons (.tmp U (by exact id)) U .nil)))) U ?_;refine Ad (R_not U (by exact .not1 U U U U) U (.tmp U (by exact id))) U ?_;refine Cx ?_;refine Aa (Ai (.tm U) (fun h86=>?_) (fun h86=>?_))
   · try simp at h86
     refine Ae (Ar (Av [0,1,2,4,5,37] []) ?_);refine Ac (Ak ?_);refine Aa (Am (Bp U U ?_))
     unfold arity zerT;grind
   try simp at h86
   refine Aj (Ae (Ar (Av [0,1,2,4,5,37] []) ?_));refine Ac (Ak ?_);refine Aa (Am (Bp U U ?_))
   unfold arity zerT;grind
 try simp at h68
 refine Aj (Af (Ak ?_));refine Aa (Am (Bp U U ?_))
 unfold arity zerT;grind
theorem specIsExpr (e:TExpr) (hz:e.Tokens.length≤1048576):FnT Tryz.prog 127 [.agg (cExpr e)] (.a (.one (.v (.bool (isExpr e.Tokens))))):=by
 refine A7 Tryz.func127 U (by kernel_rfl) Tryz.ntmps127 U fun hlen w0=>?_
 try simp [cToken,cExpr] at hlen
 refine Af (Ad (Bm U U U (.tm U) (ts:=_) (by rfl)) U ?_);refine Ak ?_;refine Aa (Af (Ak ?_));refine Aa (Ae (Af (Ak ?_)));refine Aa (AW.block (Cz (fun (k:Nat) (d:Int)=>(k≤e.Tokens.length∧0≤d∧d≤k)∧isExpr e.Tokens=depthGo d (e.Tokens.drop k)) (fun (k:Nat) (d:Int)=>⟨_,[(4,(true,.a (.one (.t (.v (.int .i64 (k:Nat))))))),(3,(true,.a (.one (.t (.v (.int .i64 d)))))),(1,_)],[]⟩) (fun (k:Nat) (d:Int)=>e.Tokens.length-k) (0) (0) ⟨by simp,U⟩ (Ap U ⟨U,U,U,Y⟩ trivial) ?_))
 rintro k d ⟨hk,he⟩
 refine Ae (Af (Ab ?_));refine Bg Di ?_;refine Aq ty24 ?_;refine Be (.t) Tryz.underlying24 ?_;refine AWl.lt ?_;refine Aa (Ai (.tm U) (fun hlt=>?_) (fun hlt=>?_))
 · try simp at hlt
   obtain⟨t,hx⟩:∃ t,e.Tokens[k]?=some t:=⟨_,List.getElem?_eq_getElem (by omega)⟩
   rw [depthGo_drop hx] at he
   have ha:=arity_le t
   refine Aj (Ae (AW.block (Af (Bg Di ?_))));refine Aq ty24 ?_;refine Ab ?_;refine Ad ((As U (.no U) U (.tm U) (.tm U) Tryz.underlying24 Co (fun _=>⟨by omega,(by exact Al (by assumption))⟩))) U ?_;refine Aq Co ?_;refine Bv (specl8Arity _) ?_;refine Ag ?_;refine Aa (Ae (Ae (Ar (Av [1,3,4,5] []) ?_)));refine Ac (Ab ?_);refine Du ?_;refine Ab ?_;refine AWl.mw ?_;refine AWl.mw ?_;refine Ad (R_gt U (by exact .not1 U U U U) U (.tmp U (by exact id)) (.tmp U (by exact id))) U ?_;refine Cx ?_;refine Aa (Ai (.tm U) (fun h25=>?_) (fun h25=>?_))
   · try simp at h25
     refine Ae (Ar (Av [1,3,4,5] []) ?_);refine Ac (Ak ?_);refine Aa (Am (Bp U U ?_))
     rw [he,if_pos (by omega)]
   try simp at h25
   refine Aj (Ar (Av [1,3,4,5] []) ?_);refine Ac (Ab ?_);refine Ab ?_;refine Ad (Dx U (.no U) U (.tm U) (.tm U) (fun _=>by omega)) U ?_;refine A8 ?_;refine Ag ?_;refine Aa (Ac (Ab ?_));refine A8 ?_;refine Ag ?_;refine Aa ?_
   repeat (with_reducible refine Au ?_)
   refine Round2.next (k+1) (d-arity t+1) ⟨by omega,by rw [he,if_neg (by omega)]⟩ (by omega) (Ap rfl ⟨rfl,rfl,rfl,Y⟩ trivial)
 try simp at hlt
 refine Bb (Af (Ab ?_));refine Bs ?_;refine Ag ?_;refine Aa (Am (Bp U U ?_))
 rw [he,List.drop_eq_nil_of_le (show e.Tokens.length≤k by omega)];rfl
end Go.Proofs.YtbecibmlbiebeaaGreat
set_option maxHeartbeats 1000000
set_option maxRecDepth 100000
namespace Go.Q
open Go.RowKit Go.D
instance:Flat TToken:=⟨4,true,fun x=>[.int .i64 x.Kind,.int .i64 x.Letter,.int .i64 x.Low,.int .i64 x.High],fun _=>rfl⟩
structure Ptr where
 b:Nat
instance:Flat Ptr:=⟨1,false,fun p=>[.pointer (some ⟨p.b,0,none⟩)],fun _=>rfl⟩
inductive Tr where
 | leaf (t:TToken)
 | un (t:TToken) (x:Tr)
 | bin (t:TToken) (x y:Tr)
def tokC (t:TToken):List Value:=[.int .i64 t.Kind,.int .i64 t.Letter,.int .i64 t.Low,.int .i64 t.High]
def TNode (tn:TypeId) (w:World) (S:Nat→Prop) (t:TToken) (ks:List Ptr) (b:Nat):Prop:=
 S b∧∃ a len c F,Box w b (tokC t++[.slice a len c]) tn∧Sl w a len c ks F∧∀ n∈F,S n
def TreeIn (tn:TypeId) (w:World) (S:Nat→Prop):Tr→Nat→Prop
 | .leaf t,b=>TNode tn w S t [] b
 | .un t x,b=>∃ p,TNode tn w S t [⟨p⟩] b∧TreeIn tn w S x p
 | .bin t x y,b=>∃ p q,TNode tn w S t [⟨p⟩,⟨q⟩] b∧TreeIn tn w S x p∧TreeIn tn w S y q
theorem TNode.congr {tn:TypeId} {w w':World} {S S':Nat→Prop} {t:TToken} {ks:List Ptr} {b:Nat} (h:TNode tn w S t ks b) (hc:∀ n,S n→n<w.heap.size→w'.heap[n]?=w.heap[n]?∧S' n):TNode tn w' S' t ks b:=by
 obtain⟨h0,a,len,c,F,h1,h2,h3⟩:=h
 exact⟨(hc b h0 h1.lt).2,a,len,c,F,(hc b h0 h1.lt).1.trans h1,h2.congr fun n hn=>(hc n (h3 n hn) (h2.lt n hn)).1,fun n hn=>(hc n (h3 n hn) (h2.lt n hn)).2⟩
theorem TreeIn.congr {tn:TypeId} {w w':World} {S S':Nat→Prop} (hc:∀ n,S n→n<w.heap.size→w'.heap[n]?=w.heap[n]?∧S' n):∀ {T:Tr} {b:Nat},TreeIn tn w S T b→TreeIn tn w' S' T b
 | .leaf _,_,h=>TNode.congr h hc
 | .un _ _,_,⟨p,h1,h2⟩=>⟨p,h1.congr hc,TreeIn.congr hc h2⟩
 | .bin _ _ _,_,⟨p,q,h1,h2,h3⟩=>⟨p,q,h1.congr hc,TreeIn.congr hc h2,TreeIn.congr hc h3⟩
theorem TreeIn.mono {tn:TypeId} {w w':World} {S:Nat→Prop} {T:Tr} {b:Nat} (h:TreeIn tn w S T b) (he:Ext w w'):TreeIn tn w' S T b:=h.congr fun _ hn hl=>⟨he.block hl,hn⟩
def nk (k:Int):Nat:=if k=4∨k=5 then 2 else if k=6∨k=7 then 1 else 0
def stepTr (ts:List Tr) (t:TToken):Option (List Tr):=
 if tokOk t=false∨ts.length<nk t.Kind then none
 else match nk t.Kind,ts.drop (ts.length-nk t.Kind) with
  | 0,_=>some (ts++[.leaf t])
  | 1,[x]=>some (ts.take (ts.length-1)++[.un t x])
  | 2,[x,y]=>some (ts.take (ts.length-2)++[.bin t x y])
  | _,_=>none
def runTr:List Tr→List TToken→Option (List Tr)
 | ts,[]=>some ts
 | ts,t::r=>match stepTr ts t with|some ts'=>runTr ts' r|none=>none
def treeM (l:List TToken):Option Tr:=match runTr [] l with|some [x]=>some x|_=>none
def TreePost (tn:TypeId) (w:World) (l:List TToken) (e:Ending) (w':World):Prop:=
 Ext w w'∧match treeM l with
  | none=>e=.returned (.pointer none)
  | some T=>∃ b,e=.returned (.pointer (some ⟨b,0,none⟩))∧TreeIn tn w' (fun n=>w.heap.size≤n) T b
theorem TreePost.none {tn:TypeId} {w w':World} {l:List TToken} (h:Ext w w') (ht:treeM l=none):TreePost tn w l (.returned (.pointer none)) w':=⟨h,by rw [ht]⟩
def MP.empty:MP:=⟨[],fun _ v _=>∃ ad c,v=.slice (some ad) 0 c∧c≤maxLen,fun h _=>h,fun _ h=>h⟩
inductive Stack (tn:TypeId) (w:World) (S:Nat→Prop):List Ptr→List Tr→Prop where
 | nil:Stack tn w S [] []
 | snoc {ps:List Ptr} {ts:List Tr} {p:Ptr} {x:Tr}:Stack tn w S ps ts→TreeIn tn w S x p.b→Stack tn w S (ps++[p]) (ts++[x])
theorem Stack.congr {tn:TypeId} {w w':World} {S S':Nat→Prop} (hc:∀ n,S n→n<w.heap.size→w'.heap[n]?=w.heap[n]?∧S' n) {ps:List Ptr} {ts:List Tr} (h:Stack tn w S ps ts):Stack tn w' S' ps ts:=by
 induction h with
 | nil=>exact .nil
 | snoc _ h ih=>exact .snoc ih (h.congr hc)
theorem Stack.len {tn:TypeId} {w:World} {S:Nat→Prop} {ps:List Ptr} {ts:List Tr} (h:Stack tn w S ps ts):ps.length=ts.length:=by
 induction h with
 | nil=>rfl
 | snoc _ _ ih=>simp [ih]
theorem Stack.grow {tn:TypeId} {w w':World} {m g g':Nat} {ps:List Ptr} {ts:List Tr} (h:Stack tn w (fun b=>m≤b∧b≠g) ps ts) (hg:w.grownBy w' (some g)) (hat:g'=g∨g'=w.heap.size):Stack tn w' (fun b=>m≤b∧b≠g') ps ts:=
 h.congr fun n hn hl=>⟨hg.block n hl (by simpa using hn.2),hn.1,by rcases hat with rfl|rfl;exact hn.2;omega⟩
theorem Ext.own {w0 w w':World} (h:Ext w0 w) {g:Nat} (hg:w.grownBy w' (some g)) (hb:w0.heap.size≤g):Ext w0 w':=
 h.trans' hg.os hg.tape hg.output hg.size fun b hlt=>hg.block b (Nat.lt_of_lt_of_le hlt h.size) (by simp;omega)
theorem Stack.un {tn:TypeId} {w:World} {S:Nat→Prop} {ps:List Ptr} {ts:List Tr} (h:Stack tn w S ps ts) (hn:0<ts.length) :
 ∃ ps' ts' p x,ps=ps'++[p]∧ts=ts'++[x]∧Stack tn w S ps' ts'∧TreeIn tn w S x p.b:=by
 cases h with
 | nil=>simp at hn
 | snoc h1 h2=>exact⟨_,_,_,_,rfl,rfl,h1,h2⟩
end Go.Q
namespace Go.Proofs.YtbecibmlbiebeaaGreat
open Go.RowKit Go.Q Go.D
end Go.Proofs.YtbecibmlbiebeaaGreat
namespace Go.Q
open Go.RowKit Go.D
def Tr.tok:Tr→TToken
 | .leaf t=>t
 | .un t _=>t
 | .bin t _ _=>t
def Tr.kids:Tr→List Tr
 | .leaf _=>[]
 | .un _ x=>[x]
 | .bin _ x y=>[x,y]
def treeCells:Tr→List T
 | .leaf t=>cToken t++[.sl 1 []]
 | .un t x=>cToken t++[.sl 1 [[.ad (treeCells x)]]]
 | .bin t x y=>cToken t++[.sl 1 [[.ad (treeCells x)],[.ad (treeCells y)]]]
def treeV (l:List TToken):T:=match treeM l with|some x=>.ad (treeCells x)|none=>.v (.pointer none)
end Go.Q
namespace Go.Proofs.YtbecibmlbiebeaaGreat
open Go.RowKit Go.Q Go.D
end Go.Proofs.YtbecibmlbiebeaaGreat
set_option maxHeartbeats 1000000
set_option maxRecDepth 100000
namespace Go.Q
open Go.RowKit Go.D
theorem arity_nk {t:TToken} (h:tokOk t=true):arity t=nk t.Kind:=by
 unfold tokOk at h
 unfold arity at h ⊢
 unfold nk
 have h:=of_decide_eq_true h
 repeat' split
 all_goals first|rfl|omega|skip
 all_goals simp_all
theorem nk_cases (k:Int):nk k=0∨nk k=1∨nk k=2:=by
 unfold nk
 split
 · exact .inr (.inr rfl)
 split
 · exact .inr (.inl rfl)
 exact .inl rfl
theorem stepTr_some {ts:List Tr} {t:TToken} (h:tokOk t=true) (hn:nk t.Kind≤ts.length):∃ ts',stepTr ts t=some ts'∧ts'.length=ts.length-nk t.Kind+1:=by
 unfold stepTr
 rw [if_neg (by simp [h];omega)]
 have hl:(ts.drop (ts.length-nk t.Kind)).length=nk t.Kind:=by rw [List.length_drop];omega
 generalize ts.drop (ts.length-nk t.Kind)=r at hl
 have h3:=nk_cases t.Kind
 generalize nk t.Kind=n at *
 match n,r,hl with
 | 0,_,_=>exact⟨_,rfl,by simp⟩
 | 1,[x],_=>exact⟨_,rfl,by simp⟩
 | 2,[x,y],_=>exact⟨_,rfl,by simp⟩
 | n+3,_,_=>omega
theorem depth_run (l:List TToken):∀ ts:List Tr,depthGo ts.length l=match runTr ts l with|some [_]=>true|_=>false:=by
 induction l with
 | nil=>
  intro ts
  match ts with
  | []=>rfl
  | [_]=>rfl
  | _::_::_=>simp [depthGo,runTr];omega
 | cons t r ih=>
  intro ts
  rw [depthGo,runTr]
  by_cases h:tokOk t=true
  · have ha:=arity_nk h
    by_cases hn:nk t.Kind≤ts.length
    · obtain⟨ts',h1,h2⟩:=stepTr_some h hn
      rw [if_neg (by omega),h1]
      have e:(ts.length:Int)-arity t+1=ts'.length:=by omega
      rw [e]
      exact ih ts'
    have:stepTr ts t=none:=by unfold stepTr;rw [if_pos (.inr (by omega))]
    rw [if_pos (.inr (by omega)),this]
  have:stepTr ts t=none:=by unfold stepTr;rw [if_pos (.inl (by simpa using h))]
  have ha:arity t<0:=by simpa [tokOk] using h
  rw [if_pos (.inl ha),this]
theorem isExpr_tree (l:List TToken):isExpr l=(treeM l).isSome:=by
 have h:=depth_run l []
 unfold isExpr treeM
 have e:depthGo 0 l=depthGo ([]:List Tr).length l:=rfl
 rw [e,h]
 cases runTr [] l with
 | none=>rfl
 | some v=>match v with
  | []=>rfl
  | [_]=>rfl
  | _::_::_=>rfl
def isValidExpr (x:TExpr):Bool:=decide (x.Tokens.length≤24)&&isExpr x.Tokens
def toks:Tr→List TToken
 | .leaf t=>[t]
 | .un t x=>toks x++[t]
 | .bin t x y=>toks x++toks y++[t]
def toksL (ts:List Tr):List TToken:=ts.flatMap toks
theorem toksL_append (a b:List Tr):toksL (a++b)=toksL a++toksL b:=by unfold toksL;simp
theorem toksL_one (x:Tr):toksL [x]=toks x:=by simp [toksL]
theorem toks_eq (x:Tr):toks x=toksL x.kids++[x.tok]:=by cases x<;>simp [toks,toksL,Tr.kids,Tr.tok]
theorem toks_pos (x:Tr):0<(toks x).length:=by rw [toks_eq];simp
def good:Tr→Prop
 | .leaf t=>arity t=0
 | .un t x=>arity t=1∧good x
 | .bin t x y=>arity t=2∧good x∧good y
theorem good_arity {x:Tr} (h:good x):arity x.tok=x.kids.length:=by
 cases x with
 | leaf t=>exact h
 | un t x=>exact h.1
 | bin t x y=>exact h.1
theorem good_kids {x:Tr} (h:good x):∀ y∈x.kids,good y:=by
 cases x with
 | leaf t=>intro y hy;cases hy
 | un t x=>intro y hy;simp [Tr.kids] at hy;subst hy;exact h.2
 | bin t x z=>intro y hy;simp [Tr.kids] at hy;rcases hy with rfl|rfl;exact h.2.1;exact h.2.2
theorem stepTr_toks {ts ts':List Tr} {t:TToken} (h:stepTr ts t=some ts') (hg:∀ x∈ts,good x):toksL ts++[t]=toksL ts'∧∀ x∈ts',good x:=by
 unfold stepTr at h
 split at h
 · cases h
 rename_i h0
 have hok:tokOk t=true:=by
  cases hq:tokOk t with
  | true=>rfl
  | false=>exact absurd (.inl hq) h0
 have ha:=arity_nk hok
 have hlen:nk t.Kind≤ts.length:=Nat.le_of_not_lt fun h=>h0 (.inr h)
 have hsp:ts=ts.take (ts.length-nk t.Kind)++ts.drop (ts.length-nk t.Kind):=(List.take_append_drop _ _).symm
 have hgd:∀ x∈ts.drop (ts.length-nk t.Kind),good x:=fun x hx=>hg x (List.mem_of_mem_drop hx)
 have hgt:∀ m,∀ x∈ts.take m,good x:=fun m x hx=>hg x (List.mem_of_mem_take hx)
 generalize hr:ts.drop (ts.length-nk t.Kind)=r at h hsp hgd
 generalize hn:nk t.Kind=n at h hsp ha
 split at h
 · cases h
   refine⟨by rw [toksL_append,toksL_one];rfl,fun x hx=>?_⟩
   rcases List.mem_append.1 hx with hx|hx
   · exact hg x hx
   simp at hx;subst hx;exact ha
 · rename_i x
   cases h
   refine⟨?_,fun y hy=>?_⟩
   · conv=>lhs;rw [hsp]
     rw [toksL_append,toksL_append,toksL_one,toksL_one,List.append_assoc];rfl
   rcases List.mem_append.1 hy with hy|hy
   · exact hgt _ y hy
   simp at hy;subst hy;exact⟨ha,hgd x (by simp)⟩
 · rename_i x z
   cases h
   refine⟨?_,fun y hy=>?_⟩
   · conv=>lhs;rw [hsp]
     rw [toksL_append,toksL_append,toksL_one]
     simp [toksL,toks]
   rcases List.mem_append.1 hy with hy|hy
   · exact hgt _ y hy
   simp at hy;subst hy;exact⟨ha,hgd x (by simp),hgd z (by simp)⟩
 cases h
theorem runTr_toks:∀ {l:List TToken} {ts ts':List Tr},runTr ts l=some ts'→(∀ x∈ts,good x)→toksL ts++l=toksL ts'∧∀ x∈ts',good x
 | [],ts,ts',h,hg=>by simp only [runTr,Option.some.injEq] at h;subst h;simpa using hg
 | t::l,ts,ts',h,hg=>by
  rw [runTr] at h
  split at h
  · rename_i ts1 h1
    obtain⟨g1,g2⟩:=stepTr_toks h1 hg
    obtain⟨k1,k2⟩:=runTr_toks h g2
    exact⟨by rw [←k1,←g1];simp,k2⟩
  cases h
theorem treeM_toks {l:List TToken} {x:Tr} (h:treeM l=some x):toks x=l∧good x:=by
 unfold treeM at h
 split at h
 · rename_i y hy
   cases h
   obtain⟨g1,g2⟩:=runTr_toks hy (by simp)
   rw [toksL_one] at g1
   exact⟨by rw [←g1];simp [toksL],g2 x (by simp)⟩
 cases h
theorem valid_tree {e:TExpr} (h:isValidExpr e=true):∃ x,treeM e.Tokens=some x∧toks x=e.Tokens∧good x∧e.Tokens.length≤24:=by
 unfold isValidExpr at h
 simp only [Bool.and_eq_true,decide_eq_true_eq,isExpr_tree] at h
 obtain⟨x,hx⟩:=Option.isSome_iff_exists.1 h.2
 exact⟨x,hx,(treeM_toks hx).1,(treeM_toks hx).2,h.1⟩
inductive NilB:T→Bool→Prop where
 | ad {cs:List T}:NilB (.ad cs) false
 | nil:NilB (.v (.pointer none)) true
theorem NilB.tree (l:List TToken):NilB (treeV l) (!isExpr l):=by
 rw [isExpr_tree]
 unfold treeV
 cases treeM l with
 | none=>exact .nil
 | some x=>exact .ad
section
variable {P:Program} {ops:Array Oper} {o:Oper} {σ:St} {q:Bool}
theorem NilB.val {I:Ip} {w:World} {x:T} {b:Bool} (h:NilB x b) {v:Value} (hv:VE I w (.t x) v):∃ p,v=.pointer p∧p.isNone=b:=by
 obtain⟨G,h1,_⟩:=hv
 cases h with
 | ad=>simp only [C] at h1;obtain⟨b,off,G',rfl,_⟩:=h1;exact⟨_,rfl,rfl⟩
 | nil=>simp only [C] at h1;exact⟨_,h1.1,rfl⟩
end
theorem take_get {l p:List TToken} {n:Nat} {t:TToken} (h:l.take (n+1)=p++[t]) (hp:p.length=n):l[n]?=some t∧l.take n=p:=by
 have h1:(l.take (n+1))[n]?=some t:=by rw [h,←hp];simp
 rw [List.getElem?_take] at h1
 have h2:l.take n=(l.take (n+1)).take n:=by rw [List.take_take];congr 1;omega
 refine⟨by simpa using h1,?_⟩
 rw [h2,h,←hp];simp
theorem toksL_snoc (ys:List Tr) (y:Tr):toksL (ys++[y])=toksL ys++toksL y.kids++[y.tok]:=by rw [toksL_append,toksL_one,toks_eq,List.append_assoc]
theorem Tr.ind {P:Tr→Prop} (h:∀ x,(∀ y∈x.kids,P y)→P x):∀ x,P x:=by
 intro x
 induction x with
 | leaf t=>exact h _ fun y hy=>by cases hy
 | un t x ih=>exact h _ fun y hy=>by simp [Tr.kids] at hy;subst hy;exact ih
 | bin t x z ih1 ih2=>exact h _ fun y hy=>by simp [Tr.kids] at hy;rcases hy with rfl|rfl;exact ih1;exact ih2
theorem tok_last (x:Tr):(toks x)[(((toks x).length:Int)-1).toNat]?=some x.tok:=by
 have e:(((toks x).length:Int)-1).toNat=(toksL x.kids).length:=by rw [toks_eq];simp
 rw [e,toks_eq];simp
theorem kids_one {x:Tr} (hg:good x) (h:arity x.tok=1):∃ y,x.kids=[y]∧toks x=toks y++[x.tok]∧good y:=by
 rw [good_arity hg] at h
 cases x with
 | leaf t=>simp [Tr.kids] at h
 | un t y=>exact⟨y,rfl,rfl,hg.2⟩
 | bin t y z=>simp [Tr.kids] at h
theorem kids_two {x:Tr} (hg:good x) (h:arity x.tok=2):∃ y z,x.kids=[y,z]∧toks x=toks y++toks z++[x.tok]∧good y∧good z:=by
 rw [good_arity hg] at h
 cases x with
 | leaf t=>simp [Tr.kids] at h
 | un t y=>simp [Tr.kids] at h
 | bin t y z=>exact⟨y,z,rfl,rfl,hg.2.1,hg.2.2⟩
theorem sl_pre {α β:Type} {f:α→β} {a b l:List α} (h:l=a++b):((l.map f).take a.length).drop 0=a.map f:=by subst h;simp
theorem sl_pre2 {α β:Type} {f:α→β} {a b c l:List α} (h:l=a++b++c):((l.map f).take (a.length+b.length)).drop 0=(a++b).map f:=by
 subst h;rw [List.map_append,←List.length_append,List.take_left' (by simp)];rfl
theorem sl_mid {α β:Type} {f:α→β} {a b c l:List α} (h:l=a++b++c):((l.map f).take (a.length+b.length)).drop a.length=b.map f:=by
 subst h;rw [List.map_append,←List.length_append,List.take_left' (by simp),List.map_append,List.drop_left' (by simp)]
theorem kids_le (x:Tr):x.kids.length≤2:=by cases x<;>simp [Tr.kids]
theorem kids_toks {x y:Tr} (h:y∈x.kids):(toks y).length<(toks x).length:=by
 cases x with
 | leaf t=>cases h
 | un t x=>simp [Tr.kids] at h;subst h;simp [toks]
 | bin t x z=>simp [Tr.kids] at h;rcases h with rfl|rfl<;>simp [toks]<;>omega
theorem toksL_ge:∀ ys:List Tr,ys.length≤(toksL ys).length
 | []=>by simp
 | y::ys=>by
  have h1:=toksL_ge ys
  have h2:=toks_pos y
  have e:toksL (y::ys)=toks y++toksL ys:=by simp [toksL]
  rw [e,List.length_append,List.length_cons];omega
theorem start_step {l pre:List TToken} {zs:List Tr} {x:Tr} {k:Int} (h:l.take k.toNat=pre++toksL (zs++[x])) (hk:k=(pre.length:Int)+(toksL (zs++[x])).length) :
 l[(k-1).toNat]?=some x.tok∧l.take (k-1).toNat=pre++toksL (zs++x.kids)∧k-1=(pre.length:Int)+(toksL (zs++x.kids)).length:=by
 have e:toksL (zs++[x])=toksL (zs++x.kids)++[x.tok]:=by rw [toksL_snoc,toksL_append]
 rw [e,List.length_append,List.length_singleton] at hk
 have hn:k.toNat=(k-1).toNat+1:=by omega
 rw [e,←List.append_assoc,hn] at h
 have:=take_get h (by rw [List.length_append];omega)
 exact⟨this.1,this.2,by omega⟩
end Go.Q
namespace Go.Proofs.YtbecibmlbiebeaaGreat
open Go.RowKit Go.Q Go.D
theorem specIsValidExpr (e:TExpr):FnT Tryz.prog 56 [.agg (cExpr e)] (.a (.one (.v (.bool (isValidExpr e))))):=by
 refine A7 Tryz.func56 U (by kernel_rfl) Tryz.ntmps56 U fun hlen w0=>?_
 try simp [cToken,cExpr] at hlen
 refine Af (Ad (Bm U U U (.tm U) (ts:=_) (by rfl)) U ?_);refine Ak ?_;refine Aa (Af (Bg Di ?_));refine Aq ty24 ?_;refine Be (.t) Tryz.underlying24 ?_;refine Ad (R_le U (.no U) U (.tm U) (.const U)) U ?_;refine Ab ?_;refine Ad (Ca U (by exact .yes1 U U U U) U (.tmp U (by exact fun _=>rfl)) Cd U U) U ?_;refine Ad (R_callq U (by exact .yes1 U U U U) U (.cons (.tmp U (by exact id)) U .nil) fun hq=>FnT.fr (specIsExpr _ (by have h24:=of_decide_eq_true hq;omega))) U ?_;refine Ck ?_;refine Ag ?_;refine Aa (Am (Bp U U ?_))
 congr 1;unfold isValidExpr;congr 1;apply decide_eq_decide.2;omega
theorem specl8Start (pre:List TToken) (y:Tr) (hg:good y) (hz:(pre++toks y).length≤1048576):FnT Tryz.prog 128 [.one (.sl 4 ((pre++toks y).map cToken))] (.a (.one (.v (.int .i64 pre.length)))):=by
 refine A7 Tryz.func128 U (by kernel_rfl) Tryz.ntmps128 U fun hlen w0=>?_
 try simp [cToken,cExpr] at hlen
 rw [List.length_append] at hz
 refine Af (Ak ?_);refine Aa (Af (Ak ?_));refine Aa (Af (Ab ?_));refine Be (.t) Tryz.underlying24 ?_;refine Ag ?_;refine Aa (Ae (AW.block (C6 (fun (ys:List Tr) (need:Int) (k:Int)=>(need=ys.length∧k=(pre.length:Int)+(toksL ys).length∧k≤1048576∧∀ x∈ys,good x)∧(pre++toks y).take k.toNat=pre++toksL ys) (fun (ys:List Tr) (need:Int) (k:Int)=>⟨_,[(3,(true,.a (.one (.t (.v (.int .i64 need)))))),(4,(true,.a (.one (.t (.v (.int .i64 k)))))),(0,_),(2,_)],[]⟩) (fun (ys:List Tr) (need:Int) (k:Int)=>k.toNat) ([y]) (1) (((pre++toks y).length:Nat)) ⟨⟨U,by simp [toksL_one],by simp;omega,by simpa using hg⟩,by rw [toksL_one,List.take_of_length_le (by simp;omega)]⟩ (Ap U ⟨U,U,U,U,Y⟩ trivial) ?_)))
 rintro ys need k ⟨hk,he⟩
 refine Ae (Af (Ab ?_));refine AWl.gc ?_;refine Aa (Ai (.tm U) (fun hlt=>?_) (fun hlt=>?_))
 · try simp at hlt
   obtain⟨zs,T0,rfl⟩:∃ zs T0,ys=zs++[T0]:=by rcases List.eq_nil_or_concat ys with h|⟨zs,T0,h⟩;subst h;simp at hk;omega;exact⟨zs,T0,by simpa using h⟩
   have hT:=hk.2.2.2 T0 (by simp)
   have hta:=good_arity hT
   obtain⟨hst1,hst2,hst3⟩:=start_step he hk.2.1
   have hge1:=toksL_ge (zs++[T0])
   have hge2:=toksL_ge (zs++T0.kids)
   rw [List.length_append] at hge2
   refine Aj (AW.block (Af (Ab ?_)));refine C8 ?_;refine Ag ?_;refine Aa (Ac (Ab ?_));refine C8 ?_;refine Ab ?_;refine Ab ?_;refine Ad (As U (.no U) U (.tm U) (.tm U) Tryz.underlying24 Co (fun _=>⟨by omega,Al hst1⟩)) U ?_;refine Aq Co ?_;refine Bv (specl8Arity _) ?_;refine Ad (C7 U (.no U) U (.tm U) (.tm U) (fun _=>by omega)) U ?_;refine Ag ?_;refine Aa ?_
   repeat (with_reducible refine Au ?_)
   refine Round3.next (zs++T0.kids) (need-1+arity T0.tok) (k-1) ⟨by exact⟨by rw [hk.1,hta];simp<;>omega,hst3,by omega,fun x hx=>by rcases List.mem_append.1 hx with h|h;exact hk.2.2.2 x (by simp [h]);exact good_kids hT x h⟩,hst2⟩ (by omega) (Ap rfl ⟨rfl,rfl,rfl,rfl,Y⟩ trivial)
 try simp at hlt
 refine Bb (Af (Ab ?_));refine Ag ?_;refine Aa (Am (Bp U U ?_))
 have:ys=[]:=List.eq_nil_of_length_eq_zero (by omega);subst this;rw [hk.2.1];simp [toksL]
theorem l8Start_at {y:Tr} (hg:good y) {pre:List TToken} (hz:(pre++toks y).length≤1048576):∀ L,L=(pre++toks y).map cToken→FnT Tryz.prog 128 [.one (.sl 4 L)] (.a (.one (.v (.int .i64 pre.length)))):=fun L hL=>by subst hL;exact specl8Start pre y hg hz
end Go.Proofs.YtbecibmlbiebeaaGreat
