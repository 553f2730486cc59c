import Derived.Test.YtdhojcaoljhbiaaGreatB08xs
import Derived.Test.YtdhojcaoljhbiaaGreatAbsDxs
import Derived.Maps.AppendAt
import Derived.Laws.Cover3
set_option linter.unusedVariables false
set_option linter.unusedSimpArgs false
set_option maxHeartbeats 1000000
set_option maxRecDepth 100000
namespace Go.Q
open Go.RowKit Go.D
instance:Flat TToken:=⟨4,true,fun x=>[.int .i64 x.Kind,.int .i64 x.Letter,.int .i64 x.Low,.int .i64 x.High],fun _=>rfl⟩
theorem Sl.atTToken {w:World} {a:Option Addr} {len cap:Nat} {l:List TToken} {F:List Nat} (h:Sl w a len cap l F) {i:Nat} (hi:i<len) :
 ∃ b off x,a=some ⟨b,off,none⟩∧l[i]?=some x∧w.cell? ⟨b,off+i*4,none⟩=some (.int .i64 x.Kind)∧w.cell? ⟨b,off+i*4+1,none⟩=some (.int .i64 x.Letter)∧w.cell? ⟨b,off+i*4+2,none⟩=some (.int .i64 x.Low)∧w.cell? ⟨b,off+i*4+3,none⟩=some (.int .i64 x.High):=by
 obtain⟨b,off,x,ha,hx,hc⟩:=h.flat hi
 exact⟨b,off,x,ha,hx,hc 0 _ rfl,hc 1 _ rfl,hc 2 _ rfl,hc 3 _ rfl⟩
structure Ptr where
 b:Nat
instance:Flat Ptr:=⟨1,false,fun p=>[.pointer (some ⟨p.b,0,none⟩)],fun _=>rfl⟩
inductive Tr where
 | leaf (t:TToken)
 | un (t:TToken) (x:Tr)
 | bin (t:TToken) (x y:Tr)
def tokC (t:TToken):List Value:=[.int .i64 t.Kind,.int .i64 t.Letter,.int .i64 t.Low,.int .i64 t.High]
theorem run_eql_nil {P:Program} (w:World) (t e:TypeId) (a:Option Addr) (l c:Nat) (h:P.underlying t=some (.slice e)):(binOp .eql t (.slice a l c) (.slice none 0 0)).run P w=.ok (.bool a.isNone) w:=by
 simp only [binOp]
 simp [run_equal_slice_nil w t e a l c h]
def TNode (tn:TypeId) (w:World) (S:Nat→Prop) (t:TToken) (ks:List Ptr) (b:Nat):Prop:=
 S b∧∃ a len c F,Box w b (tokC t++[.slice a len c]) tn∧Sl w a len c ks F∧∀ n∈F,S n
def TreeIn (tn:TypeId) (w:World) (S:Nat→Prop):Tr→Nat→Prop
 | .leaf t,b=>TNode tn w S t [] b
 | .un t x,b=>∃ p,TNode tn w S t [⟨p⟩] b∧TreeIn tn w S x p
 | .bin t x y,b=>∃ p q,TNode tn w S t [⟨p⟩,⟨q⟩] b∧TreeIn tn w S x p∧TreeIn tn w S y q
theorem TNode.congr {tn:TypeId} {w w':World} {S S':Nat→Prop} {t:TToken} {ks:List Ptr} {b:Nat} (h:TNode tn w S t ks b) (hc:∀ n,S n→n<w.heap.size→w'.heap[n]?=w.heap[n]?∧S' n):TNode tn w' S' t ks b:=by
 obtain⟨h0,a,len,c,F,h1,h2,h3⟩:=h
 exact⟨(hc b h0 h1.lt).2,a,len,c,F,(hc b h0 h1.lt).1.trans h1,h2.congr fun n hn=>(hc n (h3 n hn) (h2.lt n hn)).1,fun n hn=>(hc n (h3 n hn) (h2.lt n hn)).2⟩
theorem TreeIn.congr {tn:TypeId} {w w':World} {S S':Nat→Prop} (hc:∀ n,S n→n<w.heap.size→w'.heap[n]?=w.heap[n]?∧S' n):∀ {T:Tr} {b:Nat},TreeIn tn w S T b→TreeIn tn w' S' T b
 | .leaf _,_,h=>TNode.congr h hc
 | .un _ _,_,⟨p,h1,h2⟩=>⟨p,h1.congr hc,TreeIn.congr hc h2⟩
 | .bin _ _ _,_,⟨p,q,h1,h2,h3⟩=>⟨p,q,h1.congr hc,TreeIn.congr hc h2,TreeIn.congr hc h3⟩
theorem TreeIn.mono {tn:TypeId} {w w':World} {S:Nat→Prop} {T:Tr} {b:Nat} (h:TreeIn tn w S T b) (he:Ext w w'):TreeIn tn w' S T b:=h.congr fun _ hn hl=>⟨he.block hl,hn⟩
def nk (k:Int):Nat:=if k=4∨k=5 then 2 else if k=6∨k=7 then 1 else 0
def stepTr (ts:List Tr) (t:TToken):Option (List Tr):=
 if tokOk t=false∨ts.length<nk t.Kind then none
 else match nk t.Kind,ts.drop (ts.length-nk t.Kind) with
  | 0,_=>some (ts++[.leaf t])
  | 1,[x]=>some (ts.take (ts.length-1)++[.un t x])
  | 2,[x,y]=>some (ts.take (ts.length-2)++[.bin t x y])
  | _,_=>none
def runTr:List Tr→List TToken→Option (List Tr)
 | ts,[]=>some ts
 | ts,t::r=>match stepTr ts t with|some ts'=>runTr ts' r|none=>none
def treeM (l:List TToken):Option Tr:=match runTr [] l with|some [x]=>some x|_=>none
theorem runTr_drop {ts:List Tr} {l:List TToken} {k:Nat} {t:TToken} (h:l[k]?=some t):runTr ts (l.drop k)=match stepTr ts t with|some ts'=>runTr ts' (l.drop (k+1))|none=>none:=by
 obtain⟨hk,rfl⟩:=List.getElem?_eq_some_iff.1 h
 rw [List.drop_eq_getElem_cons hk,runTr]
def TreePost (tn:TypeId) (w:World) (l:List TToken) (e:Ending) (w':World):Prop:=
 Ext w w'∧match treeM l with
  | none=>e=.returned (.pointer none)
  | some T=>∃ b,e=.returned (.pointer (some ⟨b,0,none⟩))∧TreeIn tn w' (fun n=>w.heap.size≤n) T b
theorem TreePost.none {tn:TypeId} {w w':World} {l:List TToken} (h:Ext w w') (ht:treeM l=none):TreePost tn w l (.returned (.pointer none)) w':=⟨h,by rw [ht]⟩
theorem treeM_none {l:List TToken} {ts:List Tr} {k:Nat} {t:TToken} (h1:runTr [] l=runTr ts (l.drop k)) (h2:runTr ts (l.drop k)=match stepTr ts t with|some ts'=>runTr ts' (l.drop (k+1))|none=>none) (h3:stepTr ts t=none):treeM l=none:=by
 unfold treeM
 rw [h1,h2,h3]
def MP.kidv (t:TToken) (ks:List Ptr) (u:World):MP:=
 ⟨[],fun _ v w=>∃ a l c F,v=.agg #[.int .i64 t.Kind,.int .i64 t.Letter,.int .i64 t.Low,.int .i64 t.High,.slice a l c]∧Sl w a l c ks F∧∀ n∈F,u.heap.size≤n,
  fun ⟨a,l,c,F,h1,h2,h3⟩ he=>⟨a,l,c,F,h1,h2.mono he,h3⟩,fun _ h=>h⟩
def MP.empty:MP:=⟨[],fun _ v _=>∃ ad c,v=.slice (some ad) 0 c∧c≤maxLen,fun h _=>h,fun _ h=>h⟩
def MP.kid (tn:TypeId) (t:TToken) (ks:List Ptr) (u:World):MP:=
 ⟨[],fun _ v w=>∃ b,v=.pointer (some ⟨b,0,none⟩)∧TNode tn w (fun n=>u.heap.size≤n) t ks b,fun ⟨b,h1,h2⟩ he=>⟨b,h1,h2.congr fun _ hn hl=>⟨he.block hl,hn⟩⟩,fun _ h=>h⟩
theorem own_cap {w:World} {base e size g n cap:Nat} {xs:List Value} (h:w.ownsRow base e size (.slice (some ⟨g,0,none⟩) n cap) n xs):n≤cap∧cap≤maxLen∧base≤g∧g<w.heap.size:=by
 rcases h.2 with ⟨h0,_⟩|⟨g',cap',cur,hv,h1,h2,h3,h4,h5⟩
 · simp at h0
 simp only [Value.slice.injEq,Option.some.injEq,Addr.mk.injEq,and_true,true_and] at hv
 obtain⟨rfl,rfl⟩:=hv
 exact⟨h3,h4,h1,(Array.getElem?_eq_some_iff.1 h2).1⟩
theorem own_take {w:World} {base e g n cap:Nat} {ps0 ks:List Ptr} (h:w.ownsRow base e 1 (.slice (some ⟨g,0,none⟩) n cap) n (encs (ps0++ks))) :
 w.ownsRow base e 1 (.slice (some ⟨g,0,none⟩) ps0.length cap) ps0.length (encs ps0):=by
 have hl:=h.1
 rw [encs_length,List.length_append] at hl
 rcases h.2 with ⟨h0,_⟩|⟨g',cap',cur,hv,h1,h2,h3,h4,h5,h6⟩
 · simp at h0
 simp only [Value.slice.injEq,Option.some.injEq,Addr.mk.injEq,and_true,true_and] at hv
 obtain⟨rfl,rfl⟩:=hv
 have hk:Flat.k Ptr=1:=rfl
 rw [hk] at hl
 refine⟨by rw [encs_length,hk],.inr ⟨g,cap,cur,rfl,h1,h2,by omega,h4,h5,?_⟩⟩
 have e1:(cur.toList.take (n*1)).take (ps0.length*1)=(encs (ps0++ks)).take (ps0.length*1):=by rw [h6]
 rw [List.take_take,Nat.min_eq_left (by omega)] at e1
 rw [e1,encs_append]
 have e2:ps0.length*1=(encs ps0).length:=by rw [encs_length,hk]
 rw [e2]
 exact List.take_left
theorem own_sub {w:World} {base e g n cap:Nat} {ps0 ks:List Ptr} (h:w.ownsRow base e 1 (.slice (some ⟨g,0,none⟩) n cap) n (encs (ps0++ks))) :
 Sl w (some ⟨g,ps0.length,none⟩) ks.length (cap-ps0.length) ks (if ks.length=0 then [] else [g]):=by
 have hl:=h.1
 have hc:=own_cap h
 have hk:Flat.k Ptr=1:=rfl
 rw [encs_length,List.length_append,hk] at hl
 refine⟨rfl,by omega,by omega,ks.map Flat.enc,ks.map fun _=>[],by simp,by simp,?_,?_⟩
 · intro i x cs f hx hcs hf
   rw [List.getElem?_map,hx] at hcs hf
   simp at hcs hf
   exact⟨hcs.symm,hf⟩
 by_cases h0:ks.length=0
 · exact .inl ⟨h0,by simp [h0]⟩
 refine .inr ⟨g,ps0.length,rfl,by simp [h0],hc.2.2.2,?_⟩
 intro i cs j u hcs hu
 simp at hcs
 obtain⟨x,hx,rfl⟩:=hcs
 have hil:i<ks.length:=(List.getElem?_eq_some_iff.1 hx).1
 have hx':(ps0++ks)[ps0.length+i]?=some x:=by rw [List.getElem?_append_right (by omega)];simpa using hx
 have:=h.cells (g:=g) rfl _ _ (encs_at (ps0++ks) (ps0.length+i) x j u hx' hu)
 rw [Addr.add_lit] at this
 have hk':Rd.k Ptr=1:=rfl
 rw [hk'] 
 simpa [hk,Nat.add_assoc] using this
inductive Stack (tn:TypeId) (w:World) (S:Nat→Prop):List Ptr→List Tr→Prop where
 | nil:Stack tn w S [] []
 | snoc {ps:List Ptr} {ts:List Tr} {p:Ptr} {x:Tr}:Stack tn w S ps ts→TreeIn tn w S x p.b→Stack tn w S (ps++[p]) (ts++[x])
theorem Stack.congr {tn:TypeId} {w w':World} {S S':Nat→Prop} (hc:∀ n,S n→n<w.heap.size→w'.heap[n]?=w.heap[n]?∧S' n) {ps:List Ptr} {ts:List Tr} (h:Stack tn w S ps ts):Stack tn w' S' ps ts:=by
 induction h with
 | nil=>exact .nil
 | snoc _ h ih=>exact .snoc ih (h.congr hc)
theorem Stack.len {tn:TypeId} {w:World} {S:Nat→Prop} {ps:List Ptr} {ts:List Tr} (h:Stack tn w S ps ts):ps.length=ts.length:=by
 induction h with
 | nil=>rfl
 | snoc _ _ ih=>simp [ih]
theorem Stack.grow {tn:TypeId} {w w':World} {m g g':Nat} {ps:List Ptr} {ts:List Tr} (h:Stack tn w (fun b=>m≤b∧b≠g) ps ts) (hg:w.grownBy w' (some g)) (hat:g'=g∨g'=w.heap.size):Stack tn w' (fun b=>m≤b∧b≠g') ps ts:=
 h.congr fun n hn hl=>⟨hg.block n hl (by simpa using hn.2),hn.1,by rcases hat with rfl|rfl;exact hn.2;omega⟩
theorem own_shape {w:World} {base e size n g c m u:Nat} {v:Value} {xs:List Value} (h:w.ownsRow base e size v (n+1) xs) (hat:v.ownBlock=(Value.slice (some ⟨g,0,none⟩) m c).ownBlock∨v.ownBlock=some u) :
 ∃ g' c',v=.slice (some ⟨g',0,none⟩) (n+1) c'∧(g'=g∨g'=u):=by
 rcases h.2 with ⟨_,h0⟩|⟨g',cap',cur,rfl,_⟩
 · omega
 exact⟨g',cap',rfl,by simpa [Value.ownBlock] using hat⟩
theorem Ext.own {w0 w w':World} (h:Ext w0 w) {g:Nat} (hg:w.grownBy w' (some g)) (hb:w0.heap.size≤g):Ext w0 w':=
 h.trans' hg.os hg.tape hg.output hg.size fun b hlt=>hg.block b (Nat.lt_of_lt_of_le hlt h.size) (by simp;omega)
theorem Stack.un {tn:TypeId} {w:World} {S:Nat→Prop} {ps:List Ptr} {ts:List Tr} (h:Stack tn w S ps ts) (hn:0<ts.length) :
 ∃ ps' ts' p x,ps=ps'++[p]∧ts=ts'++[x]∧Stack tn w S ps' ts'∧TreeIn tn w S x p.b:=by
 cases h with
 | nil=>simp at hn
 | snoc h1 h2=>exact⟨_,_,_,_,rfl,rfl,h1,h2⟩
end Go.Q
namespace Go.Proofs.YtdhojcaoljhbiaaGreat
open Go.RowKit Go.Q Go.D
theorem oldtokenOk (t:TToken) (w:World) (hG:Go.Q.Good w []):Calls Tryz.prog 77 #[.agg #[.int .i64 t.Kind,.int .i64 t.Letter,.int .i64 t.Low,.int .i64 t.High]] w fun e w'=>e=.returned (.bool (tokOk t))∧Ext w w':=by
 have h:=(impltokenOk t).2 w [.agg #[.int .i64 t.Kind,.int .i64 t.Letter,.int .i64 t.Low,.int .i64 t.High]] [] hG ⟨_,[],[],[],rfl,⟨_,rfl,by unfold cToken;simp [Cs,C,Value.oneCell']⟩,⟨rfl,rfl⟩,rfl⟩
 refine h.mono fun e w' ⟨v,F,he,hv,_,_,hx⟩=>?_
 have:v=.bool (tokOk t):=by unfold Vr V0r C at hv;exact hv.1
 subst this
 exact⟨he,hx⟩
theorem Tryz.infoPtr:inZ Tryz.prog 65=some (some (.pointer none),1,8):=by kernel_rfl
theorem slClonePtr {a:Option Addr} {len cap:Nat} {l:List Ptr} {F:List Nat} (w:World) (h:Sl w a len cap l F) (hz:len≤1048576) :
 Calls Tryz.prog 78 #[.slice a len cap] w fun e w'=>∃ v,e=.returned v∧New w w' v l∧Ext w w':=by
 obtain⟨i0,hi,hz0,hz1,hz2⟩:=info_parts Tryz.infoPtr
 have hE:=fun w=>run_eql_nil w 120 65 a len cap Tryz.underlying120
 cases a with
 | none=>
  have e:l=[]:=by
   rcases l with _|⟨x,l⟩
   · rfl
   obtain⟨b,off,y,hy,-⟩:=h.flat (i:=0) (by rw [←h.hlen];simp)
   cases hy
  subst e
  go_enter Tryz.func78,Tryz.ntmps78
  go_wp2
  go_ret
  exact⟨_,rfl,⟨[],Sl.vl ⟨rfl,Nat.le_refl _,Nat.zero_le _,[],[],rfl,rfl,by simp,.inl ⟨rfl,rfl⟩⟩,by simp,List.nodup_nil⟩,Ext.refl w⟩
 | some ad=>
  go_enter Tryz.func78,Tryz.ntmps78
  go_wp2_with (at_builtin;refine wpList_append_copy (α:=Ptr) rfl _ _ 120 rfl 65 i0 (.pointer none) 8 Tryz.underlying120 hi hz0 hz1 hz2 rfl rfl rfl (h.mono ((Ext.refl w).alloc _)) (by omega) ?_)
  intro v w1 hN hx1
  go_wp2
  go_ret
  exact⟨v,rfl,hN.old ((Ext.refl w).alloc _),((Ext.refl w).alloc _).trans hx1⟩
set_option maxHeartbeats 4000000 in
theorem oldtreeOf {x:TExpr} (w:World) (hG:Go.Q.Good w []) {a0:Option Addr} {l0 c0:Nat} {F0:List Nat} (h:Sl w a0 l0 c0 x.Tokens F0) (hz:l0≤1048576) :
 Calls Tryz.prog 35 #[.agg #[.slice a0 l0 c0]] w fun e w'=>TreePost 124 w x.Tokens e w':=by
 obtain⟨i0,hi,hz0,hz1,hz2⟩:=info_parts Tryz.infoPtr
 have hl:=h.le
 have hlen:=hid h.hlen
 go_enter Tryz.func35,Tryz.ntmps35
 go_wp2_with fail
 obtain⟨u,hu,hx,B0⟩:=boxes1 w #[.slice a0 l0 c0] 26
 have hown:(u.alloc (.cells #[] 65)).ownsRow w.heap.size 65 1 (.slice (some ⟨u.heap.size,0,none⟩) 0 0) 0 (encs ([]:List Ptr)):=World.ownsRow_lit u #[] 0 hx.size (by simp [maxLen]) rfl
 have hsz:u.heap.size=w.heap.size+1:=by rw [hu];simp
 rw [hsz] at hown
 rw [←hu]
 clear hu
 go_loopw [3,13] (fun st i wr=>∃ (k:Nat) (ps:List Ptr) (ts:List Tr) (g cap:Nat),k≤l0∧i=.int .i64 k∧st=.slice (some ⟨g,0,none⟩) ps.length cap∧wr.ownsRow w.heap.size 65 1 st ps.length (encs ps)∧
  Stack 124 wr (fun b=>w.heap.size≤b∧b≠g) ps ts∧ps.length≤k∧Ext w wr∧runTr [] x.Tokens=runTr ts (x.Tokens.drop k)) (fun _ i _=>l0-(intOf i).toNat)
 case atStart=>exact⟨0,[],[],_,0,Nat.zero_le _,rfl,rfl,hown,.nil,Nat.le_refl _,hx.alloc _,rfl⟩
 case round=>
  clear hown hx B0
  obtain⟨k,ps,ts,g,cap,hk,rfl,rfl,hown,hst,hps,hx,ht⟩:=hrel
  have HT:=hid ht;clear ht
  by_cases hlt:k<l0
  · obtain⟨b,off,t,rfl,hxk,d0,d1,d2,d3⟩:=(h.mono hx).atTToken hlt
    have HD:=hid (runTr_drop (ts:=ts) hxk);clear hxk
    obtain⟨kd,ka,kb,kc⟩:=t
    simp only at d0 d1 d2 d3
    by_cases k4:kd=4
    case pos=>
     subst k4
     go_wp2_with fail
     obtain⟨u1,hu,hx1,B1⟩:=boxes1 wr #[.int .i64 4,.int .i64 ka,.int .i64 kb,.int .i64 kc] 71
     rw [←hu]
     clear hu;refine (oldtokenOk ⟨4,ka,kb,kc⟩ u1 (hG.ext (hx.trans hx1))).mono ?_
     rintro e w2 ⟨rfl,hx2⟩
     generalize hq:tokOk ⟨4,ka,kb,kc⟩=q
     have Q:=hid hq
     clear hq
     have hx30:=hx1.trans hx2
     cases q
     case false=>
      go_wp2
      go_ret
      exact .none (hx.trans hx30) (treeM_none HT.out HD.out (by simp [stepTr,Q.out]))
     by_cases hn:ps.length<2
     case pos=>
      go_wp2
      go_ret
      exact .none (hx.trans hx30) (treeM_none HT.out HD.out (by rw [hst.len] at hn;simp [stepTr,nk,hn]))
     obtain⟨ps1,ts1,q1,y1,rfl,rfl,hst1,ht1⟩:=hst.un (by rw [←hst.len];omega)
     obtain⟨ps0,ts0,q0,y0,rfl,rfl,hst0,ht0⟩:=hst1.un (by rw [←hst1.len];simp at hn;omega)
     have el:(ps0++[q0]++[q1]).length=ps0.length+2:=by simp
     rw [el] at hown hps hn ⊢
     have HS:Hid (stepTr (ts0++[y0]++[y1]) ⟨4,ka,kb,kc⟩=some (ts0++[.bin ⟨4,ka,kb,kc⟩ y0 y1])):=hid (by simp [stepTr,nk,Q.out])
     rw [List.append_assoc] at hown
     clear hst hst1 hn el
     obtain⟨hcap,hcm,hgb,hgl⟩:=own_cap hown
     have hsub:=own_sub (ps0:=ps0) (ks:=[q0,q1]) hown
     have htk:=own_take (ps0:=ps0) (ks:=[q0,q1]) hown
     have hlt2:ps0.length<1048576:=by omega
     replace B1:=B1.mono hx2
     go_wp2_with fail
     refine wp_region_plan 8 [MP.is (.agg #[.int .i64 4,.int .i64 ka,.int .i64 kb,.int .i64 kc]),MP.is (.slice (some ⟨g,0,none⟩) (ps0.length+2) cap),MP.is (.int .i64 ps0.length),MP.is (.slice (some ⟨g,ps0.length,none⟩) 2 (cap-ps0.length)),MP.new w2 ([q0,q1]:List Ptr),MP.kidv ⟨4,ka,kb,kc⟩ [q0,q1] w2,MP.kid 124 ⟨4,ka,kb,kc⟩ [q0,q1] w2,MP.kid 124 ⟨4,ka,kb,kc⟩ [q0,q1] w2] (by kernel_rfl) (by kernel_rfl) (by kernel_rfl) ?_ ?_
     · refine⟨?_,?_,?_,?_,?_,?_,?_,?_,trivial⟩<;>intro vs w3 hx3 hd K hK<;>simp [deps,fillD,dstAt,Region.binds,Act.put] at hd hK ⊢
       · skip
         have c0:=(B1.mono hx3).at 0 rfl
         have c1:=(B1.mono hx3).at 1 rfl
         have c2:=(B1.mono hx3).at 2 rfl
         have c3:=(B1.mono hx3).at 3 rfl
         go_wp2_with fail
         exact hK _ _ (Ext.refl _) rfl
       · skip
         go_wp2_with fail
         exact hK _ _ (Ext.refl _) rfl
       · skip
         go_wp2_with fail
         exact hK _ _ (Ext.refl _) rfl
       · skip
         have e1:vs 1=.slice (some ⟨g,0,none⟩) (ps0.length+2) cap:=by first|exact hd|exact hd.1|exact hd.2|exact hd.1.1|exact hd.2.1|exact hd.2.2|exact hd.2.2.1|exact hd.2.2.2|exact hd.2.2.2.1|exact hd.2.2.2.2|exact hd.2.2.2.2.1|exact hd.2.2.2.2.2
         have e2:vs 2=.int .i64 ps0.length:=by first|exact hd|exact hd.1|exact hd.2|exact hd.1.1|exact hd.2.1|exact hd.2.2|exact hd.2.2.1|exact hd.2.2.2|exact hd.2.2.2.1|exact hd.2.2.2.2|exact hd.2.2.2.2.1|exact hd.2.2.2.2.2
         simp only [e1,e2] at hK ⊢
         go_wp2_with fail
         exact hK _ _ (Ext.refl _) rfl
       · skip
         have e3:vs 3=.slice (some ⟨g,ps0.length,none⟩) 2 (cap-ps0.length):=by first|exact hd|exact hd.1|exact hd.2|exact hd.1.1|exact hd.2.1|exact hd.2.2|exact hd.2.2.1|exact hd.2.2.2|exact hd.2.2.2.1|exact hd.2.2.2.2|exact hd.2.2.2.2.1|exact hd.2.2.2.2.2
         simp only [e3] at hK ⊢
         go_wp2_with fail
         refine (slClonePtr w3 (hsub.mono (hx30.trans hx3)) (by simp)).mono ?_
         rintro e w4 ⟨v,rfl,hN,hx4⟩
         go_wp2_with fail
         exact hK _ _ hx4 (hN.old hx3)
       · skip
         have e0:vs 0=.agg #[.int .i64 4,.int .i64 ka,.int .i64 kb,.int .i64 kc]:=by first|exact hd|exact hd.1|exact hd.2|exact hd.1.1|exact hd.2.1|exact hd.2.2|exact hd.2.2.1|exact hd.2.2.2|exact hd.2.2.2.1|exact hd.2.2.2.2|exact hd.2.2.2.2.1|exact hd.2.2.2.2.2
         have f4:(MP.new w2 ([q0,q1]:List Ptr)).p vs (vs 4) w3:=by first|exact hd|exact hd.1|exact hd.2|exact hd.1.1|exact hd.2.1|exact hd.2.2|exact hd.2.2.1|exact hd.2.2.2|exact hd.2.2.2.1|exact hd.2.2.2.2|exact hd.2.2.2.2.1|exact hd.2.2.2.2.2
         simp only [e0] at hK ⊢
         obtain⟨F4,hv4,hF4,-⟩:=f4
         obtain⟨ra,rl,rc,e4,s4⟩:=hv4.sl
         simp only [e4] at hK ⊢
         go_wp2_with fail
         exact hK _ _ (Ext.refl _) ⟨ra,rl,rc,F4,rfl,s4,fun n hn=>(hF4 n hn).1⟩
       · skip
         have f5:(MP.kidv ⟨4,ka,kb,kc⟩ [q0,q1] w2).p vs (vs 5) w3:=by first|exact hd|exact hd.1|exact hd.2|exact hd.1.1|exact hd.2.1|exact hd.2.2|exact hd.2.2.1|exact hd.2.2.2|exact hd.2.2.2.1|exact hd.2.2.2.2|exact hd.2.2.2.2.1|exact hd.2.2.2.2.2
         obtain⟨ra,rl,rc,F5,e5,s5,hF5⟩:=f5
         simp only [e5] at hK ⊢
         go_wp2_with fail
         exact hK _ _ ((Ext.refl _).alloc _) ⟨_,rfl,hx3.size,ra,rl,rc,F5,Box.new _ _ _,s5.mono ((Ext.refl _).alloc _),hF5⟩
       skip
       have f6:(MP.kid 124 ⟨4,ka,kb,kc⟩ [q0,q1] w2).p vs (vs 6) w3:=by first|exact hd|exact hd.1|exact hd.2|exact hd.1.1|exact hd.2.1|exact hd.2.2|exact hd.2.2.1|exact hd.2.2.2|exact hd.2.2.2.1|exact hd.2.2.2.2|exact hd.2.2.2.2.1|exact hd.2.2.2.2.2
       obtain⟨bb,e6,hb6⟩:=f6
       simp only [e6] at hK ⊢
       go_wp2_with fail
       exact hK _ _ (Ext.refl _) ⟨bb,rfl,hb6⟩
     intro vs w3 hx31 hd
     obtain⟨bb,e7,hb7⟩:(MP.kid 124 ⟨4,ka,kb,kc⟩ [q0,q1] w2).p vs (vs 7) w3:=hd 7 (by omega)
     simp [fillD,dstAt,Act.put,List.range_succ,e7]
     clear hd
     have hx32:=hx30.trans hx31
     have htk3:=ownsRow_ext htk hx32
     go_wp2_with (at_builtin;refine wpList_append_own_at _ rfl _ _ 120 rfl w.heap.size 65 i0 (.pointer none) 1 8 Tryz.underlying120 hi hz0 hz1 hz2 rfl (by decide) _ _ _ rfl (ownsRow_ext htk3 ((Ext.refl w3).alloc _)) ⟨w3.heap.size,0,none⟩ 1 1 [.pointer (some ⟨bb,0,none⟩)] rfl rfl ?c1 ?c2 ?c3 ?c4 ?c5 ?_)
     case c1=>exact cell_one_new _ _ _
     case c2=>simp;rfl
     case c3=>unfold maxLen;omega
     case c4=>omega
     case c5=>have:=(hx.trans hx32).size;simp;omega
     intro v' w4 hown4 hg4 hnil hat
     obtain⟨g',cap',rfl,hat'⟩:=own_shape hown4 hat
     have hS:∀ n,(w.heap.size≤n∧n≠g)→n<wr.heap.size→w3.heap[n]?=wr.heap[n]?∧(w.heap.size≤n∧n≠g):=fun n hn hl=>⟨hx32.block hl,hn⟩
     have hb2:TNode 124 w3 (fun b=>w.heap.size≤b∧b≠g) ⟨4,ka,kb,kc⟩ [q0,q1] bb:=hb7.congr fun n hn _=>⟨rfl,by have:=hx30.size;have:=hx.size;omega,by have:=hx30.size;omega⟩
     have hstk:Stack 124 w3 (fun b=>w.heap.size≤b∧b≠g) (ps0++[⟨bb⟩]) (ts0++[.bin ⟨4,ka,kb,kc⟩ y0 y1]):=.snoc (hst0.congr hS) (show TreeIn _ _ _ (.bin ⟨4,ka,kb,kc⟩ y0 y1) bb from ⟨_,_,hb2,ht0.congr hS,ht1.congr hS⟩)
     replace hstk:=(hstk.congr (w':=w3.alloc (.cells #[.pointer (some ⟨bb,0,none⟩)] 65)) (S':=fun b=>w.heap.size≤b∧b≠g) fun n hn hl=>⟨((Ext.refl w3).alloc _).block hl,hn⟩).grow hg4 (by simpa using hat')
     have hx4:=((hx.trans hx32).alloc (.cells #[.pointer (some ⟨bb,0,none⟩)] 65)).own hg4 hgb
     go_wp2
     go_roundw
     case rel=>
      refine⟨k+1,ps0++[⟨bb⟩],ts0++[.bin ⟨4,ka,kb,kc⟩ y0 y1],g',cap',by omega,by go_num,by simp,?_,hstk,by simp;omega,hx4,by rw [HT.out,HD.out,HS.out]⟩
      rw [encs_append,show encs [(⟨bb⟩:Ptr)]=[.pointer (some ⟨bb,0,none⟩)] from rfl]
      simpa using hown4
     case measure=>simp [intOf];omega
    by_cases k5:kd=5
    case pos=>
     subst k5
     go_wp2_with fail
     obtain⟨u1,hu,hx1,B1⟩:=boxes1 wr #[.int .i64 5,.int .i64 ka,.int .i64 kb,.int .i64 kc] 71
     rw [←hu]
     clear hu;refine (oldtokenOk ⟨5,ka,kb,kc⟩ u1 (hG.ext (hx.trans hx1))).mono ?_
     rintro e w2 ⟨rfl,hx2⟩
     generalize hq:tokOk ⟨5,ka,kb,kc⟩=q
     have Q:=hid hq
     clear hq
     have hx30:=hx1.trans hx2
     cases q
     case false=>
      go_wp2
      go_ret
      exact .none (hx.trans hx30) (treeM_none HT.out HD.out (by simp [stepTr,Q.out]))
     by_cases hn:ps.length<2
     case pos=>
      go_wp2
      go_ret
      exact .none (hx.trans hx30) (treeM_none HT.out HD.out (by rw [hst.len] at hn;simp [stepTr,nk,hn]))
     obtain⟨ps1,ts1,q1,y1,rfl,rfl,hst1,ht1⟩:=hst.un (by rw [←hst.len];omega)
     obtain⟨ps0,ts0,q0,y0,rfl,rfl,hst0,ht0⟩:=hst1.un (by rw [←hst1.len];simp at hn;omega)
     have el:(ps0++[q0]++[q1]).length=ps0.length+2:=by simp
     rw [el] at hown hps hn ⊢
     have HS:Hid (stepTr (ts0++[y0]++[y1]) ⟨5,ka,kb,kc⟩=some (ts0++[.bin ⟨5,ka,kb,kc⟩ y0 y1])):=hid (by simp [stepTr,nk,Q.out])
     rw [List.append_assoc] at hown
     clear hst hst1 hn el
     obtain⟨hcap,hcm,hgb,hgl⟩:=own_cap hown
     have hsub:=own_sub (ps0:=ps0) (ks:=[q0,q1]) hown
     have htk:=own_take (ps0:=ps0) (ks:=[q0,q1]) hown
     have hlt2:ps0.length<1048576:=by omega
     replace B1:=B1.mono hx2
     go_wp2_with fail
     refine wp_region_plan 8 [MP.is (.agg #[.int .i64 5,.int .i64 ka,.int .i64 kb,.int .i64 kc]),MP.is (.slice (some ⟨g,0,none⟩) (ps0.length+2) cap),MP.is (.int .i64 ps0.length),MP.is (.slice (some ⟨g,ps0.length,none⟩) 2 (cap-ps0.length)),MP.new w2 ([q0,q1]:List Ptr),MP.kidv ⟨5,ka,kb,kc⟩ [q0,q1] w2,MP.kid 124 ⟨5,ka,kb,kc⟩ [q0,q1] w2,MP.kid 124 ⟨5,ka,kb,kc⟩ [q0,q1] w2] (by kernel_rfl) (by kernel_rfl) (by kernel_rfl) ?_ ?_
     · refine⟨?_,?_,?_,?_,?_,?_,?_,?_,trivial⟩<;>intro vs w3 hx3 hd K hK<;>simp [deps,fillD,dstAt,Region.binds,Act.put] at hd hK ⊢
       · skip
         have c0:=(B1.mono hx3).at 0 rfl
         have c1:=(B1.mono hx3).at 1 rfl
         have c2:=(B1.mono hx3).at 2 rfl
         have c3:=(B1.mono hx3).at 3 rfl
         go_wp2_with fail
         exact hK _ _ (Ext.refl _) rfl
       · skip
         go_wp2_with fail
         exact hK _ _ (Ext.refl _) rfl
       · skip
         go_wp2_with fail
         exact hK _ _ (Ext.refl _) rfl
       · skip
         have e1:vs 1=.slice (some ⟨g,0,none⟩) (ps0.length+2) cap:=by first|exact hd|exact hd.1|exact hd.2|exact hd.1.1|exact hd.2.1|exact hd.2.2|exact hd.2.2.1|exact hd.2.2.2|exact hd.2.2.2.1|exact hd.2.2.2.2|exact hd.2.2.2.2.1|exact hd.2.2.2.2.2
         have e2:vs 2=.int .i64 ps0.length:=by first|exact hd|exact hd.1|exact hd.2|exact hd.1.1|exact hd.2.1|exact hd.2.2|exact hd.2.2.1|exact hd.2.2.2|exact hd.2.2.2.1|exact hd.2.2.2.2|exact hd.2.2.2.2.1|exact hd.2.2.2.2.2
         simp only [e1,e2] at hK ⊢
         go_wp2_with fail
         exact hK _ _ (Ext.refl _) rfl
       · skip
         have e3:vs 3=.slice (some ⟨g,ps0.length,none⟩) 2 (cap-ps0.length):=by first|exact hd|exact hd.1|exact hd.2|exact hd.1.1|exact hd.2.1|exact hd.2.2|exact hd.2.2.1|exact hd.2.2.2|exact hd.2.2.2.1|exact hd.2.2.2.2|exact hd.2.2.2.2.1|exact hd.2.2.2.2.2
         simp only [e3] at hK ⊢
         go_wp2_with fail
         refine (slClonePtr w3 (hsub.mono (hx30.trans hx3)) (by simp)).mono ?_
         rintro e w4 ⟨v,rfl,hN,hx4⟩
         go_wp2_with fail
         exact hK _ _ hx4 (hN.old hx3)
       · skip
         have e0:vs 0=.agg #[.int .i64 5,.int .i64 ka,.int .i64 kb,.int .i64 kc]:=by first|exact hd|exact hd.1|exact hd.2|exact hd.1.1|exact hd.2.1|exact hd.2.2|exact hd.2.2.1|exact hd.2.2.2|exact hd.2.2.2.1|exact hd.2.2.2.2|exact hd.2.2.2.2.1|exact hd.2.2.2.2.2
         have f4:(MP.new w2 ([q0,q1]:List Ptr)).p vs (vs 4) w3:=by first|exact hd|exact hd.1|exact hd.2|exact hd.1.1|exact hd.2.1|exact hd.2.2|exact hd.2.2.1|exact hd.2.2.2|exact hd.2.2.2.1|exact hd.2.2.2.2|exact hd.2.2.2.2.1|exact hd.2.2.2.2.2
         simp only [e0] at hK ⊢
         obtain⟨F4,hv4,hF4,-⟩:=f4
         obtain⟨ra,rl,rc,e4,s4⟩:=hv4.sl
         simp only [e4] at hK ⊢
         go_wp2_with fail
         exact hK _ _ (Ext.refl _) ⟨ra,rl,rc,F4,rfl,s4,fun n hn=>(hF4 n hn).1⟩
       · skip
         have f5:(MP.kidv ⟨5,ka,kb,kc⟩ [q0,q1] w2).p vs (vs 5) w3:=by first|exact hd|exact hd.1|exact hd.2|exact hd.1.1|exact hd.2.1|exact hd.2.2|exact hd.2.2.1|exact hd.2.2.2|exact hd.2.2.2.1|exact hd.2.2.2.2|exact hd.2.2.2.2.1|exact hd.2.2.2.2.2
         obtain⟨ra,rl,rc,F5,e5,s5,hF5⟩:=f5
         simp only [e5] at hK ⊢
         go_wp2_with fail
         exact hK _ _ ((Ext.refl _).alloc _) ⟨_,rfl,hx3.size,ra,rl,rc,F5,Box.new _ _ _,s5.mono ((Ext.refl _).alloc _),hF5⟩
       skip
       have f6:(MP.kid 124 ⟨5,ka,kb,kc⟩ [q0,q1] w2).p vs (vs 6) w3:=by first|exact hd|exact hd.1|exact hd.2|exact hd.1.1|exact hd.2.1|exact hd.2.2|exact hd.2.2.1|exact hd.2.2.2|exact hd.2.2.2.1|exact hd.2.2.2.2|exact hd.2.2.2.2.1|exact hd.2.2.2.2.2
       obtain⟨bb,e6,hb6⟩:=f6
       simp only [e6] at hK ⊢
       go_wp2_with fail
       exact hK _ _ (Ext.refl _) ⟨bb,rfl,hb6⟩
     intro vs w3 hx31 hd
     obtain⟨bb,e7,hb7⟩:(MP.kid 124 ⟨5,ka,kb,kc⟩ [q0,q1] w2).p vs (vs 7) w3:=hd 7 (by omega)
     simp [fillD,dstAt,Act.put,List.range_succ,e7]
     clear hd
     have hx32:=hx30.trans hx31
     have htk3:=ownsRow_ext htk hx32
     go_wp2_with (at_builtin;refine wpList_append_own_at _ rfl _ _ 120 rfl w.heap.size 65 i0 (.pointer none) 1 8 Tryz.underlying120 hi hz0 hz1 hz2 rfl (by decide) _ _ _ rfl (ownsRow_ext htk3 ((Ext.refl w3).alloc _)) ⟨w3.heap.size,0,none⟩ 1 1 [.pointer (some ⟨bb,0,none⟩)] rfl rfl ?c1 ?c2 ?c3 ?c4 ?c5 ?_)
     case c1=>exact cell_one_new _ _ _
     case c2=>simp;rfl
     case c3=>unfold maxLen;omega
     case c4=>omega
     case c5=>have:=(hx.trans hx32).size;simp;omega
     intro v' w4 hown4 hg4 hnil hat
     obtain⟨g',cap',rfl,hat'⟩:=own_shape hown4 hat
     have hS:∀ n,(w.heap.size≤n∧n≠g)→n<wr.heap.size→w3.heap[n]?=wr.heap[n]?∧(w.heap.size≤n∧n≠g):=fun n hn hl=>⟨hx32.block hl,hn⟩
     have hb2:TNode 124 w3 (fun b=>w.heap.size≤b∧b≠g) ⟨5,ka,kb,kc⟩ [q0,q1] bb:=hb7.congr fun n hn _=>⟨rfl,by have:=hx30.size;have:=hx.size;omega,by have:=hx30.size;omega⟩
     have hstk:Stack 124 w3 (fun b=>w.heap.size≤b∧b≠g) (ps0++[⟨bb⟩]) (ts0++[.bin ⟨5,ka,kb,kc⟩ y0 y1]):=.snoc (hst0.congr hS) (show TreeIn _ _ _ (.bin ⟨5,ka,kb,kc⟩ y0 y1) bb from ⟨_,_,hb2,ht0.congr hS,ht1.congr hS⟩)
     replace hstk:=(hstk.congr (w':=w3.alloc (.cells #[.pointer (some ⟨bb,0,none⟩)] 65)) (S':=fun b=>w.heap.size≤b∧b≠g) fun n hn hl=>⟨((Ext.refl w3).alloc _).block hl,hn⟩).grow hg4 (by simpa using hat')
     have hx4:=((hx.trans hx32).alloc (.cells #[.pointer (some ⟨bb,0,none⟩)] 65)).own hg4 hgb
     go_wp2
     go_roundw
     case rel=>
      refine⟨k+1,ps0++[⟨bb⟩],ts0++[.bin ⟨5,ka,kb,kc⟩ y0 y1],g',cap',by omega,by go_num,by simp,?_,hstk,by simp;omega,hx4,by rw [HT.out,HD.out,HS.out]⟩
      rw [encs_append,show encs [(⟨bb⟩:Ptr)]=[.pointer (some ⟨bb,0,none⟩)] from rfl]
      simpa using hown4
     case measure=>simp [intOf];omega
    by_cases k6:kd=6
    case pos=>
     subst k6
     go_wp2_with fail
     obtain⟨u1,hu,hx1,B1⟩:=boxes1 wr #[.int .i64 6,.int .i64 ka,.int .i64 kb,.int .i64 kc] 71
     rw [←hu]
     clear hu;refine (oldtokenOk ⟨6,ka,kb,kc⟩ u1 (hG.ext (hx.trans hx1))).mono ?_
     rintro e w2 ⟨rfl,hx2⟩
     generalize hq:tokOk ⟨6,ka,kb,kc⟩=q
     have Q:=hid hq
     clear hq
     have hx30:=hx1.trans hx2
     cases q
     case false=>
      go_wp2
      go_ret
      exact .none (hx.trans hx30) (treeM_none HT.out HD.out (by simp [stepTr,Q.out]))
     by_cases hn:ps.length<1
     case pos=>
      go_wp2
      go_ret
      exact .none (hx.trans hx30) (treeM_none HT.out HD.out (by rw [hst.len] at hn;simp [stepTr,nk,hn]))
     obtain⟨ps0,ts0,q0,y0,rfl,rfl,hst0,ht0⟩:=hst.un (by rw [←hst.len];omega)
     have el:(ps0++[q0]).length=ps0.length+1:=by simp
     rw [el] at hown hps hn ⊢
     have HS:Hid (stepTr (ts0++[y0]) ⟨6,ka,kb,kc⟩=some (ts0++[.un ⟨6,ka,kb,kc⟩ y0])):=hid (by simp [stepTr,nk,Q.out])
     clear hst hn el
     obtain⟨hcap,hcm,hgb,hgl⟩:=own_cap hown
     have hsub:=own_sub (ps0:=ps0) (ks:=[q0]) hown
     have htk:=own_take (ps0:=ps0) (ks:=[q0]) hown
     have hlt2:ps0.length<1048576:=by omega
     replace B1:=B1.mono hx2
     go_wp2_with fail
     refine wp_region_plan 8 [MP.is (.agg #[.int .i64 6,.int .i64 ka,.int .i64 kb,.int .i64 kc]),MP.is (.slice (some ⟨g,0,none⟩) (ps0.length+1) cap),MP.is (.int .i64 ps0.length),MP.is (.slice (some ⟨g,ps0.length,none⟩) 1 (cap-ps0.length)),MP.new w2 ([q0]:List Ptr),MP.kidv ⟨6,ka,kb,kc⟩ [q0] w2,MP.kid 124 ⟨6,ka,kb,kc⟩ [q0] w2,MP.kid 124 ⟨6,ka,kb,kc⟩ [q0] w2] (by kernel_rfl) (by kernel_rfl) (by kernel_rfl) ?_ ?_
     · refine⟨?_,?_,?_,?_,?_,?_,?_,?_,trivial⟩<;>intro vs w3 hx3 hd K hK<;>simp [deps,fillD,dstAt,Region.binds,Act.put] at hd hK ⊢
       · skip
         have c0:=(B1.mono hx3).at 0 rfl
         have c1:=(B1.mono hx3).at 1 rfl
         have c2:=(B1.mono hx3).at 2 rfl
         have c3:=(B1.mono hx3).at 3 rfl
         go_wp2_with fail
         exact hK _ _ (Ext.refl _) rfl
       · skip
         go_wp2_with fail
         exact hK _ _ (Ext.refl _) rfl
       · skip
         go_wp2_with fail
         exact hK _ _ (Ext.refl _) rfl
       · skip
         have e1:vs 1=.slice (some ⟨g,0,none⟩) (ps0.length+1) cap:=by first|exact hd|exact hd.1|exact hd.2|exact hd.1.1|exact hd.2.1|exact hd.2.2|exact hd.2.2.1|exact hd.2.2.2|exact hd.2.2.2.1|exact hd.2.2.2.2|exact hd.2.2.2.2.1|exact hd.2.2.2.2.2
         have e2:vs 2=.int .i64 ps0.length:=by first|exact hd|exact hd.1|exact hd.2|exact hd.1.1|exact hd.2.1|exact hd.2.2|exact hd.2.2.1|exact hd.2.2.2|exact hd.2.2.2.1|exact hd.2.2.2.2|exact hd.2.2.2.2.1|exact hd.2.2.2.2.2
         simp only [e1,e2] at hK ⊢
         go_wp2_with fail
         exact hK _ _ (Ext.refl _) rfl
       · skip
         have e3:vs 3=.slice (some ⟨g,ps0.length,none⟩) 1 (cap-ps0.length):=by first|exact hd|exact hd.1|exact hd.2|exact hd.1.1|exact hd.2.1|exact hd.2.2|exact hd.2.2.1|exact hd.2.2.2|exact hd.2.2.2.1|exact hd.2.2.2.2|exact hd.2.2.2.2.1|exact hd.2.2.2.2.2
         simp only [e3] at hK ⊢
         go_wp2_with fail
         refine (slClonePtr w3 (hsub.mono (hx30.trans hx3)) (by simp)).mono ?_
         rintro e w4 ⟨v,rfl,hN,hx4⟩
         go_wp2_with fail
         exact hK _ _ hx4 (hN.old hx3)
       · skip
         have e0:vs 0=.agg #[.int .i64 6,.int .i64 ka,.int .i64 kb,.int .i64 kc]:=by first|exact hd|exact hd.1|exact hd.2|exact hd.1.1|exact hd.2.1|exact hd.2.2|exact hd.2.2.1|exact hd.2.2.2|exact hd.2.2.2.1|exact hd.2.2.2.2|exact hd.2.2.2.2.1|exact hd.2.2.2.2.2
         have f4:(MP.new w2 ([q0]:List Ptr)).p vs (vs 4) w3:=by first|exact hd|exact hd.1|exact hd.2|exact hd.1.1|exact hd.2.1|exact hd.2.2|exact hd.2.2.1|exact hd.2.2.2|exact hd.2.2.2.1|exact hd.2.2.2.2|exact hd.2.2.2.2.1|exact hd.2.2.2.2.2
         simp only [e0] at hK ⊢
         obtain⟨F4,hv4,hF4,-⟩:=f4
         obtain⟨ra,rl,rc,e4,s4⟩:=hv4.sl
         simp only [e4] at hK ⊢
         go_wp2_with fail
         exact hK _ _ (Ext.refl _) ⟨ra,rl,rc,F4,rfl,s4,fun n hn=>(hF4 n hn).1⟩
       · skip
         have f5:(MP.kidv ⟨6,ka,kb,kc⟩ [q0] w2).p vs (vs 5) w3:=by first|exact hd|exact hd.1|exact hd.2|exact hd.1.1|exact hd.2.1|exact hd.2.2|exact hd.2.2.1|exact hd.2.2.2|exact hd.2.2.2.1|exact hd.2.2.2.2|exact hd.2.2.2.2.1|exact hd.2.2.2.2.2
         obtain⟨ra,rl,rc,F5,e5,s5,hF5⟩:=f5
         simp only [e5] at hK ⊢
         go_wp2_with fail
         exact hK _ _ ((Ext.refl _).alloc _) ⟨_,rfl,hx3.size,ra,rl,rc,F5,Box.new _ _ _,s5.mono ((Ext.refl _).alloc _),hF5⟩
       skip
       have f6:(MP.kid 124 ⟨6,ka,kb,kc⟩ [q0] w2).p vs (vs 6) w3:=by first|exact hd|exact hd.1|exact hd.2|exact hd.1.1|exact hd.2.1|exact hd.2.2|exact hd.2.2.1|exact hd.2.2.2|exact hd.2.2.2.1|exact hd.2.2.2.2|exact hd.2.2.2.2.1|exact hd.2.2.2.2.2
       obtain⟨bb,e6,hb6⟩:=f6
       simp only [e6] at hK ⊢
       go_wp2_with fail
       exact hK _ _ (Ext.refl _) ⟨bb,rfl,hb6⟩
     intro vs w3 hx31 hd
     obtain⟨bb,e7,hb7⟩:(MP.kid 124 ⟨6,ka,kb,kc⟩ [q0] w2).p vs (vs 7) w3:=hd 7 (by omega)
     simp [fillD,dstAt,Act.put,List.range_succ,e7]
     clear hd
     have hx32:=hx30.trans hx31
     have htk3:=ownsRow_ext htk hx32
     go_wp2_with (at_builtin;refine wpList_append_own_at _ rfl _ _ 120 rfl w.heap.size 65 i0 (.pointer none) 1 8 Tryz.underlying120 hi hz0 hz1 hz2 rfl (by decide) _ _ _ rfl (ownsRow_ext htk3 ((Ext.refl w3).alloc _)) ⟨w3.heap.size,0,none⟩ 1 1 [.pointer (some ⟨bb,0,none⟩)] rfl rfl ?c1 ?c2 ?c3 ?c4 ?c5 ?_)
     case c1=>exact cell_one_new _ _ _
     case c2=>simp;rfl
     case c3=>unfold maxLen;omega
     case c4=>omega
     case c5=>have:=(hx.trans hx32).size;simp;omega
     intro v' w4 hown4 hg4 hnil hat
     obtain⟨g',cap',rfl,hat'⟩:=own_shape hown4 hat
     have hS:∀ n,(w.heap.size≤n∧n≠g)→n<wr.heap.size→w3.heap[n]?=wr.heap[n]?∧(w.heap.size≤n∧n≠g):=fun n hn hl=>⟨hx32.block hl,hn⟩
     have hb2:TNode 124 w3 (fun b=>w.heap.size≤b∧b≠g) ⟨6,ka,kb,kc⟩ [q0] bb:=hb7.congr fun n hn _=>⟨rfl,by have:=hx30.size;have:=hx.size;omega,by have:=hx30.size;omega⟩
     have hstk:Stack 124 w3 (fun b=>w.heap.size≤b∧b≠g) (ps0++[⟨bb⟩]) (ts0++[.un ⟨6,ka,kb,kc⟩ y0]):=.snoc (hst0.congr hS) (show TreeIn _ _ _ (.un ⟨6,ka,kb,kc⟩ y0) bb from ⟨_,hb2,ht0.congr hS⟩)
     replace hstk:=(hstk.congr (w':=w3.alloc (.cells #[.pointer (some ⟨bb,0,none⟩)] 65)) (S':=fun b=>w.heap.size≤b∧b≠g) fun n hn hl=>⟨((Ext.refl w3).alloc _).block hl,hn⟩).grow hg4 (by simpa using hat')
     have hx4:=((hx.trans hx32).alloc (.cells #[.pointer (some ⟨bb,0,none⟩)] 65)).own hg4 hgb
     go_wp2
     go_roundw
     case rel=>
      refine⟨k+1,ps0++[⟨bb⟩],ts0++[.un ⟨6,ka,kb,kc⟩ y0],g',cap',by omega,by go_num,by simp,?_,hstk,by simp;omega,hx4,by rw [HT.out,HD.out,HS.out]⟩
      rw [encs_append,show encs [(⟨bb⟩:Ptr)]=[.pointer (some ⟨bb,0,none⟩)] from rfl]
      simpa using hown4
     case measure=>simp [intOf];omega
    by_cases k7:kd=7
    case pos=>
     subst k7
     go_wp2_with fail
     obtain⟨u1,hu,hx1,B1⟩:=boxes1 wr #[.int .i64 7,.int .i64 ka,.int .i64 kb,.int .i64 kc] 71
     rw [←hu]
     clear hu;refine (oldtokenOk ⟨7,ka,kb,kc⟩ u1 (hG.ext (hx.trans hx1))).mono ?_
     rintro e w2 ⟨rfl,hx2⟩
     generalize hq:tokOk ⟨7,ka,kb,kc⟩=q
     have Q:=hid hq
     clear hq
     have hx30:=hx1.trans hx2
     cases q
     case false=>
      go_wp2
      go_ret
      exact .none (hx.trans hx30) (treeM_none HT.out HD.out (by simp [stepTr,Q.out]))
     by_cases hn:ps.length<1
     case pos=>
      go_wp2
      go_ret
      exact .none (hx.trans hx30) (treeM_none HT.out HD.out (by rw [hst.len] at hn;simp [stepTr,nk,hn]))
     obtain⟨ps0,ts0,q0,y0,rfl,rfl,hst0,ht0⟩:=hst.un (by rw [←hst.len];omega)
     have el:(ps0++[q0]).length=ps0.length+1:=by simp
     rw [el] at hown hps hn ⊢
     have HS:Hid (stepTr (ts0++[y0]) ⟨7,ka,kb,kc⟩=some (ts0++[.un ⟨7,ka,kb,kc⟩ y0])):=hid (by simp [stepTr,nk,Q.out])
     clear hst hn el
     obtain⟨hcap,hcm,hgb,hgl⟩:=own_cap hown
     have hsub:=own_sub (ps0:=ps0) (ks:=[q0]) hown
     have htk:=own_take (ps0:=ps0) (ks:=[q0]) hown
     have hlt2:ps0.length<1048576:=by omega
     replace B1:=B1.mono hx2
     go_wp2_with fail
     refine wp_region_plan 8 [MP.is (.agg #[.int .i64 7,.int .i64 ka,.int .i64 kb,.int .i64 kc]),MP.is (.slice (some ⟨g,0,none⟩) (ps0.length+1) cap),MP.is (.int .i64 ps0.length),MP.is (.slice (some ⟨g,ps0.length,none⟩) 1 (cap-ps0.length)),MP.new w2 ([q0]:List Ptr),MP.kidv ⟨7,ka,kb,kc⟩ [q0] w2,MP.kid 124 ⟨7,ka,kb,kc⟩ [q0] w2,MP.kid 124 ⟨7,ka,kb,kc⟩ [q0] w2] (by kernel_rfl) (by kernel_rfl) (by kernel_rfl) ?_ ?_
     · refine⟨?_,?_,?_,?_,?_,?_,?_,?_,trivial⟩<;>intro vs w3 hx3 hd K hK<;>simp [deps,fillD,dstAt,Region.binds,Act.put] at hd hK ⊢
       · skip
         have c0:=(B1.mono hx3).at 0 rfl
         have c1:=(B1.mono hx3).at 1 rfl
         have c2:=(B1.mono hx3).at 2 rfl
         have c3:=(B1.mono hx3).at 3 rfl
         go_wp2_with fail
         exact hK _ _ (Ext.refl _) rfl
       · skip
         go_wp2_with fail
         exact hK _ _ (Ext.refl _) rfl
       · skip
         go_wp2_with fail
         exact hK _ _ (Ext.refl _) rfl
       · skip
         have e1:vs 1=.slice (some ⟨g,0,none⟩) (ps0.length+1) cap:=by first|exact hd|exact hd.1|exact hd.2|exact hd.1.1|exact hd.2.1|exact hd.2.2|exact hd.2.2.1|exact hd.2.2.2|exact hd.2.2.2.1|exact hd.2.2.2.2|exact hd.2.2.2.2.1|exact hd.2.2.2.2.2
         have e2:vs 2=.int .i64 ps0.length:=by first|exact hd|exact hd.1|exact hd.2|exact hd.1.1|exact hd.2.1|exact hd.2.2|exact hd.2.2.1|exact hd.2.2.2|exact hd.2.2.2.1|exact hd.2.2.2.2|exact hd.2.2.2.2.1|exact hd.2.2.2.2.2
         simp only [e1,e2] at hK ⊢
         go_wp2_with fail
         exact hK _ _ (Ext.refl _) rfl
       · skip
         have e3:vs 3=.slice (some ⟨g,ps0.length,none⟩) 1 (cap-ps0.length):=by first|exact hd|exact hd.1|exact hd.2|exact hd.1.1|exact hd.2.1|exact hd.2.2|exact hd.2.2.1|exact hd.2.2.2|exact hd.2.2.2.1|exact hd.2.2.2.2|exact hd.2.2.2.2.1|exact hd.2.2.2.2.2
         simp only [e3] at hK ⊢
         go_wp2_with fail
         refine (slClonePtr w3 (hsub.mono (hx30.trans hx3)) (by simp)).mono ?_
         rintro e w4 ⟨v,rfl,hN,hx4⟩
         go_wp2_with fail
         exact hK _ _ hx4 (hN.old hx3)
       · skip
         have e0:vs 0=.agg #[.int .i64 7,.int .i64 ka,.int .i64 kb,.int .i64 kc]:=by first|exact hd|exact hd.1|exact hd.2|exact hd.1.1|exact hd.2.1|exact hd.2.2|exact hd.2.2.1|exact hd.2.2.2|exact hd.2.2.2.1|exact hd.2.2.2.2|exact hd.2.2.2.2.1|exact hd.2.2.2.2.2
         have f4:(MP.new w2 ([q0]:List Ptr)).p vs (vs 4) w3:=by first|exact hd|exact hd.1|exact hd.2|exact hd.1.1|exact hd.2.1|exact hd.2.2|exact hd.2.2.1|exact hd.2.2.2|exact hd.2.2.2.1|exact hd.2.2.2.2|exact hd.2.2.2.2.1|exact hd.2.2.2.2.2
         simp only [e0] at hK ⊢
         obtain⟨F4,hv4,hF4,-⟩:=f4
         obtain⟨ra,rl,rc,e4,s4⟩:=hv4.sl
         simp only [e4] at hK ⊢
         go_wp2_with fail
         exact hK _ _ (Ext.refl _) ⟨ra,rl,rc,F4,rfl,s4,fun n hn=>(hF4 n hn).1⟩
       · skip
         have f5:(MP.kidv ⟨7,ka,kb,kc⟩ [q0] w2).p vs (vs 5) w3:=by first|exact hd|exact hd.1|exact hd.2|exact hd.1.1|exact hd.2.1|exact hd.2.2|exact hd.2.2.1|exact hd.2.2.2|exact hd.2.2.2.1|exact hd.2.2.2.2|exact hd.2.2.2.2.1|exact hd.2.2.2.2.2
         obtain⟨ra,rl,rc,F5,e5,s5,hF5⟩:=f5
         simp only [e5] at hK ⊢
         go_wp2_with fail
         exact hK _ _ ((Ext.refl _).alloc _) ⟨_,rfl,hx3.size,ra,rl,rc,F5,Box.new _ _ _,s5.mono ((Ext.refl _).alloc _),hF5⟩
       skip
       have f6:(MP.kid 124 ⟨7,ka,kb,kc⟩ [q0] w2).p vs (vs 6) w3:=by first|exact hd|exact hd.1|exact hd.2|exact hd.1.1|exact hd.2.1|exact hd.2.2|exact hd.2.2.1|exact hd.2.2.2|exact hd.2.2.2.1|exact hd.2.2.2.2|exact hd.2.2.2.2.1|exact hd.2.2.2.2.2
       obtain⟨bb,e6,hb6⟩:=f6
       simp only [e6] at hK ⊢
       go_wp2_with fail
       exact hK _ _ (Ext.refl _) ⟨bb,rfl,hb6⟩
     intro vs w3 hx31 hd
     obtain⟨bb,e7,hb7⟩:(MP.kid 124 ⟨7,ka,kb,kc⟩ [q0] w2).p vs (vs 7) w3:=hd 7 (by omega)
     simp [fillD,dstAt,Act.put,List.range_succ,e7]
     clear hd
     have hx32:=hx30.trans hx31
     have htk3:=ownsRow_ext htk hx32
     go_wp2_with (at_builtin;refine wpList_append_own_at _ rfl _ _ 120 rfl w.heap.size 65 i0 (.pointer none) 1 8 Tryz.underlying120 hi hz0 hz1 hz2 rfl (by decide) _ _ _ rfl (ownsRow_ext htk3 ((Ext.refl w3).alloc _)) ⟨w3.heap.size,0,none⟩ 1 1 [.pointer (some ⟨bb,0,none⟩)] rfl rfl ?c1 ?c2 ?c3 ?c4 ?c5 ?_)
     case c1=>exact cell_one_new _ _ _
     case c2=>simp;rfl
     case c3=>unfold maxLen;omega
     case c4=>omega
     case c5=>have:=(hx.trans hx32).size;simp;omega
     intro v' w4 hown4 hg4 hnil hat
     obtain⟨g',cap',rfl,hat'⟩:=own_shape hown4 hat
     have hS:∀ n,(w.heap.size≤n∧n≠g)→n<wr.heap.size→w3.heap[n]?=wr.heap[n]?∧(w.heap.size≤n∧n≠g):=fun n hn hl=>⟨hx32.block hl,hn⟩
     have hb2:TNode 124 w3 (fun b=>w.heap.size≤b∧b≠g) ⟨7,ka,kb,kc⟩ [q0] bb:=hb7.congr fun n hn _=>⟨rfl,by have:=hx30.size;have:=hx.size;omega,by have:=hx30.size;omega⟩
     have hstk:Stack 124 w3 (fun b=>w.heap.size≤b∧b≠g) (ps0++[⟨bb⟩]) (ts0++[.un ⟨7,ka,kb,kc⟩ y0]):=.snoc (hst0.congr hS) (show TreeIn _ _ _ (.un ⟨7,ka,kb,kc⟩ y0) bb from ⟨_,hb2,ht0.congr hS⟩)
     replace hstk:=(hstk.congr (w':=w3.alloc (.cells #[.pointer (some ⟨bb,0,none⟩)] 65)) (S':=fun b=>w.heap.size≤b∧b≠g) fun n hn hl=>⟨((Ext.refl w3).alloc _).block hl,hn⟩).grow hg4 (by simpa using hat')
     have hx4:=((hx.trans hx32).alloc (.cells #[.pointer (some ⟨bb,0,none⟩)] 65)).own hg4 hgb
     go_wp2
     go_roundw
     case rel=>
      refine⟨k+1,ps0++[⟨bb⟩],ts0++[.un ⟨7,ka,kb,kc⟩ y0],g',cap',by omega,by go_num,by simp,?_,hstk,by simp;omega,hx4,by rw [HT.out,HD.out,HS.out]⟩
      rw [encs_append,show encs [(⟨bb⟩:Ptr)]=[.pointer (some ⟨bb,0,none⟩)] from rfl]
      simpa using hown4
     case measure=>simp [intOf];omega
    have hnk:nk kd=0:=by unfold nk;rw [if_neg (by omega),if_neg (by omega)]
    go_wp2_with fail
    obtain⟨u1,hu,hx1,B1⟩:=boxes1 wr #[.int .i64 kd,.int .i64 ka,.int .i64 kb,.int .i64 kc] 71
    rw [←hu]
    clear hu;refine (oldtokenOk ⟨kd,ka,kb,kc⟩ u1 (hG.ext (hx.trans hx1))).mono ?_
    rintro e w2 ⟨rfl,hx2⟩
    generalize hq:tokOk ⟨kd,ka,kb,kc⟩=q
    have Q:=hid hq
    clear hq
    have hx30:=hx1.trans hx2
    cases q
    case false=>
     go_wp2
     go_ret
     exact .none (hx.trans hx30) (treeM_none HT.out HD.out (by simp [stepTr,Q.out]))
    obtain⟨ps0,rfl⟩:∃ p,p=ps:=⟨_,rfl⟩
    obtain⟨ts0,rfl⟩:∃ p,p=ts:=⟨_,rfl⟩
    have HS:Hid (stepTr ts0 ⟨kd,ka,kb,kc⟩=some (ts0++[.leaf ⟨kd,ka,kb,kc⟩])):=hid (by simp [stepTr,hnk,Q.out])
    have hst0:=hst
    rw [←List.append_nil ps0] at hown
    clear hst
    obtain⟨hcap,hcm,hgb,hgl⟩:=own_cap hown
    simp only [List.append_nil] at hcap
    have hsub:=own_sub (ps0:=ps0) (ks:=[]) hown
    have htk:=own_take (ps0:=ps0) (ks:=[]) hown
    have hlt2:ps0.length<1048576:=by omega
    replace B1:=B1.mono hx2
    go_wp2_with fail
    refine wp_region_plan 8 [MP.is (.agg #[.int .i64 kd,.int .i64 ka,.int .i64 kb,.int .i64 kc]),MP.is (.slice (some ⟨g,0,none⟩) (ps0.length) cap),MP.is (.int .i64 ps0.length),MP.empty,MP.new w2 ([]:List Ptr),MP.kidv ⟨kd,ka,kb,kc⟩ [] w2,MP.kid 124 ⟨kd,ka,kb,kc⟩ [] w2,MP.kid 124 ⟨kd,ka,kb,kc⟩ [] w2] (by kernel_rfl) (by kernel_rfl) (by kernel_rfl) ?_ ?_
    · refine⟨?_,?_,?_,?_,?_,?_,?_,?_,trivial⟩<;>intro vs w3 hx3 hd K hK<;>simp [deps,fillD,dstAt,Region.binds,Act.put] at hd hK ⊢
      · skip
        have c0:=(B1.mono hx3).at 0 rfl
        have c1:=(B1.mono hx3).at 1 rfl
        have c2:=(B1.mono hx3).at 2 rfl
        have c3:=(B1.mono hx3).at 3 rfl
        go_wp2_with fail
        exact hK _ _ (Ext.refl _) rfl
      · skip
        go_wp2_with fail
        exact hK _ _ (Ext.refl _) rfl
      · skip
        go_wp2_with fail
        exact hK _ _ (Ext.refl _) rfl
      · skip
        have e1:vs 1=.slice (some ⟨g,0,none⟩) (ps0.length) cap:=by first|exact hd|exact hd.1|exact hd.2|exact hd.1.1|exact hd.2.1|exact hd.2.2|exact hd.2.2.1|exact hd.2.2.2|exact hd.2.2.2.1|exact hd.2.2.2.2|exact hd.2.2.2.2.1|exact hd.2.2.2.2.2
        have e2:vs 2=.int .i64 ps0.length:=by first|exact hd|exact hd.1|exact hd.2|exact hd.1.1|exact hd.2.1|exact hd.2.2|exact hd.2.2.1|exact hd.2.2.2|exact hd.2.2.2.1|exact hd.2.2.2.2|exact hd.2.2.2.2.1|exact hd.2.2.2.2.2
        simp only [e1,e2] at hK ⊢
        by_cases hcc:cap=ps0.length
        · subst hcc
          go_wp2_with fail
          exact hK _ _ (Ext.refl _) ⟨_,_,rfl,Nat.zero_le _⟩
        have hcc':¬ cap-ps0.length=0:=by omega
        have hcc2:¬ cap≤ps0.length:=by omega
        go_wp2_with fail
        exact hK _ _ (Ext.refl _) ⟨_,_,rfl,by omega⟩
      · skip
        have f3:(MP.empty).p vs (vs 3) w3:=by first|exact hd|exact hd.1|exact hd.2|exact hd.1.1|exact hd.2.1|exact hd.2.2|exact hd.2.2.1|exact hd.2.2.2|exact hd.2.2.2.1|exact hd.2.2.2.2|exact hd.2.2.2.2.1|exact hd.2.2.2.2.2
        obtain⟨ad,cc,e3,hcc⟩:=f3
        simp only [e3] at hK ⊢
        go_wp2_with fail
        refine (slClonePtr (l:=[]) (F:=[]) w3 ⟨rfl,Nat.zero_le _,hcc,[],[],rfl,rfl,by simp,.inl ⟨rfl,rfl⟩⟩ (by simp)).mono ?_
        rintro e w4 ⟨v,rfl,hN,hx4⟩
        go_wp2_with fail
        exact hK _ _ hx4 (hN.old hx3)
      · skip
        have e0:vs 0=.agg #[.int .i64 kd,.int .i64 ka,.int .i64 kb,.int .i64 kc]:=by first|exact hd|exact hd.1|exact hd.2|exact hd.1.1|exact hd.2.1|exact hd.2.2|exact hd.2.2.1|exact hd.2.2.2|exact hd.2.2.2.1|exact hd.2.2.2.2|exact hd.2.2.2.2.1|exact hd.2.2.2.2.2
        have f4:(MP.new w2 ([]:List Ptr)).p vs (vs 4) w3:=by first|exact hd|exact hd.1|exact hd.2|exact hd.1.1|exact hd.2.1|exact hd.2.2|exact hd.2.2.1|exact hd.2.2.2|exact hd.2.2.2.1|exact hd.2.2.2.2|exact hd.2.2.2.2.1|exact hd.2.2.2.2.2
        simp only [e0] at hK ⊢
        obtain⟨F4,hv4,hF4,-⟩:=f4
        obtain⟨ra,rl,rc,e4,s4⟩:=hv4.sl
        simp only [e4] at hK ⊢
        go_wp2_with fail
        exact hK _ _ (Ext.refl _) ⟨ra,rl,rc,F4,rfl,s4,fun n hn=>(hF4 n hn).1⟩
      · skip
        have f5:(MP.kidv ⟨kd,ka,kb,kc⟩ [] w2).p vs (vs 5) w3:=by first|exact hd|exact hd.1|exact hd.2|exact hd.1.1|exact hd.2.1|exact hd.2.2|exact hd.2.2.1|exact hd.2.2.2|exact hd.2.2.2.1|exact hd.2.2.2.2|exact hd.2.2.2.2.1|exact hd.2.2.2.2.2
        obtain⟨ra,rl,rc,F5,e5,s5,hF5⟩:=f5
        simp only [e5] at hK ⊢
        go_wp2_with fail
        exact hK _ _ ((Ext.refl _).alloc _) ⟨_,rfl,hx3.size,ra,rl,rc,F5,Box.new _ _ _,s5.mono ((Ext.refl _).alloc _),hF5⟩
      skip
      have f6:(MP.kid 124 ⟨kd,ka,kb,kc⟩ [] w2).p vs (vs 6) w3:=by first|exact hd|exact hd.1|exact hd.2|exact hd.1.1|exact hd.2.1|exact hd.2.2|exact hd.2.2.1|exact hd.2.2.2|exact hd.2.2.2.1|exact hd.2.2.2.2|exact hd.2.2.2.2.1|exact hd.2.2.2.2.2
      obtain⟨bb,e6,hb6⟩:=f6
      simp only [e6] at hK ⊢
      go_wp2_with fail
      exact hK _ _ (Ext.refl _) ⟨bb,rfl,hb6⟩
    intro vs w3 hx31 hd
    obtain⟨bb,e7,hb7⟩:(MP.kid 124 ⟨kd,ka,kb,kc⟩ [] w2).p vs (vs 7) w3:=hd 7 (by omega)
    simp [fillD,dstAt,Act.put,List.range_succ,e7]
    clear hd
    have hx32:=hx30.trans hx31
    have htk3:=ownsRow_ext htk hx32
    go_wp2_with (at_builtin;refine wpList_append_own_at _ rfl _ _ 120 rfl w.heap.size 65 i0 (.pointer none) 1 8 Tryz.underlying120 hi hz0 hz1 hz2 rfl (by decide) _ _ _ rfl (ownsRow_ext htk3 ((Ext.refl w3).alloc _)) ⟨w3.heap.size,0,none⟩ 1 1 [.pointer (some ⟨bb,0,none⟩)] rfl rfl ?c1 ?c2 ?c3 ?c4 ?c5 ?_)
    case c1=>exact cell_one_new _ _ _
    case c2=>simp;rfl
    case c3=>unfold maxLen;omega
    case c4=>omega
    case c5=>have:=(hx.trans hx32).size;simp;omega
    intro v' w4 hown4 hg4 hnil hat
    obtain⟨g',cap',rfl,hat'⟩:=own_shape hown4 hat
    have hS:∀ n,(w.heap.size≤n∧n≠g)→n<wr.heap.size→w3.heap[n]?=wr.heap[n]?∧(w.heap.size≤n∧n≠g):=fun n hn hl=>⟨hx32.block hl,hn⟩
    have hb2:TNode 124 w3 (fun b=>w.heap.size≤b∧b≠g) ⟨kd,ka,kb,kc⟩ [] bb:=hb7.congr fun n hn _=>⟨rfl,by have:=hx30.size;have:=hx.size;omega,by have:=hx30.size;omega⟩
    have hstk:Stack 124 w3 (fun b=>w.heap.size≤b∧b≠g) (ps0++[⟨bb⟩]) (ts0++[.leaf ⟨kd,ka,kb,kc⟩]):=.snoc (hst0.congr hS) (show TreeIn _ _ _ (.leaf ⟨kd,ka,kb,kc⟩) bb from hb2)
    replace hstk:=(hstk.congr (w':=w3.alloc (.cells #[.pointer (some ⟨bb,0,none⟩)] 65)) (S':=fun b=>w.heap.size≤b∧b≠g) fun n hn hl=>⟨((Ext.refl w3).alloc _).block hl,hn⟩).grow hg4 (by simpa using hat')
    have hx4:=((hx.trans hx32).alloc (.cells #[.pointer (some ⟨bb,0,none⟩)] 65)).own hg4 hgb
    go_wp2
    go_roundw
    case rel=>
     refine⟨k+1,ps0++[⟨bb⟩],ts0++[.leaf ⟨kd,ka,kb,kc⟩],g',cap',by omega,by go_num,by simp,?_,hstk,by simp;omega,hx4,by rw [HT.out,HD.out,HS.out]⟩
     rw [encs_append,show encs [(⟨bb⟩:Ptr)]=[.pointer (some ⟨bb,0,none⟩)] from rfl]
     simpa using hown4
    case measure=>simp [intOf];omega
  have:k=l0:=by omega
  subst this
  have hD:runTr ts (x.Tokens.drop k)=some ts:=by rw [List.drop_eq_nil_of_le (by have:=h.hlen;omega),runTr]
  have HE:=hid (HT.out.trans hD)
  by_cases h1:ps.length=1
  · obtain⟨ps0,ts0,q0,y0,rfl,rfl,hst0,ht0⟩:=hst.un (by rw [←hst.len];omega)
    obtain rfl:ps0=[]:=List.eq_nil_of_length_eq_zero (by simp at h1;simpa using h1)
    have e0:=hst0.len
    obtain rfl:ts0=[]:=List.eq_nil_of_length_eq_zero (by simpa using e0.symm)
    have hcell:=hown.cells (g:=g) rfl 0 (.pointer (some ⟨q0.b,0,none⟩)) rfl
    have hcap:=own_cap hown
    rw [Addr.add_lit] at hcell
    simp only [List.nil_append,List.length_singleton] at *
    go_wp2
    go_ret
    exact⟨hx,by unfold treeM;rw [HE.out];exact⟨_,rfl,ht0.congr fun n hn _=>⟨rfl,hn.1⟩⟩⟩
  have hb:((ps.length:Int) != 1)=true:=by simp;omega
  go_wp2
  go_ret
  refine .none hx ?_
  unfold treeM
  rw [HE.out]
  have e:=hst.len
  match ts,e with
  | [],_=>rfl
  | [_],e=>exact absurd e h1
  | _::_::_,_=>rfl
end Go.Proofs.YtdhojcaoljhbiaaGreat
namespace Go.Q
open Go.RowKit Go.D
def Tr.tok:Tr→TToken
 | .leaf t=>t
 | .un t _=>t
 | .bin t _ _=>t
def Tr.kids:Tr→List Tr
 | .leaf _=>[]
 | .un _ x=>[x]
 | .bin _ x y=>[x,y]
def treeCells:Tr→List T
 | .leaf t=>cToken t++[.sl 1 []]
 | .un t x=>cToken t++[.sl 1 [[.ad (treeCells x)]]]
 | .bin t x y=>cToken t++[.sl 1 [[.ad (treeCells x)],[.ad (treeCells y)]]]
def cKid (x:Tr):List T:=[.ad (treeCells x)]
theorem treeCells_eq (x:Tr):treeCells x=[.v (.int .i64 x.tok.Kind),.v (.int .i64 x.tok.Letter),.v (.int .i64 x.tok.Low),.v (.int .i64 x.tok.High),.sl 1 (x.kids.map cKid)]:=by cases x<;>rfl
theorem Sl.mem0 {α:Type} [Rd α] {w:World} {b off len c:Nat} {ks:List α} {F:List Nat} (h:Sl w (some ⟨b,off,none⟩) len c ks F) (h0:¬ len=0):b∈F:=by
 obtain⟨_,_,_,css,Fs,_,_,_,h7⟩:=h
 rcases h7 with ⟨h,_⟩|⟨b',off',e,hF,_⟩
 · exact absurd h h0
 cases e;rw [hF];simp
theorem Sl_ptr {w:World} {a:Option Addr} {len c:Nat} {ks:List Ptr} {F:List Nat} (h:Sl w a len c ks F) {ts:List T} {Gs:List Nat} (hC:Cs false w ts (ks.map fun p=>.pointer (some ⟨p.b,0,none⟩)) Gs) :
 ∃ G,C false w (.sl 1 (ts.map fun t=>[t])) (.slice a len c) G∧∀ n∈G,n∈F∨n∈Gs:=by
 have hl:=h.hlen
 have htl:=hC.len
 rw [List.length_map] at htl
 by_cases h0:len=0
 · refine⟨[],?_,by simp⟩
   unfold C
   refine⟨a,len,c,rfl,by simp;omega,h.hcap,h.hmax,.inl ⟨h0,rfl,by simp⟩⟩
 obtain⟨b,off,y,rfl,_,hc0⟩:=h.flat (i:=0) (by omega)
 have hcell:∀ (j:Nat) (u:Value),(ks.map fun p:Ptr=>Value.pointer (some ⟨p.b,0,none⟩))[j]?=some u→w.cell? ⟨b,off+j,none⟩=some u:=by
  intro j u hj
  rw [List.getElem?_map] at hj
  obtain⟨p,hp,rfl⟩:=Option.map_eq_some_iff.1 hj
  obtain⟨b',off',y',ha,hy,hc⟩:=h.flat (i:=j) (by rw [←hl];exact (List.getElem?_eq_some_iff.1 hp).1)
  cases ha
  rw [hp] at hy
  cases hy
  have:=hc 0 _ rfl
  have e:Rd.k Ptr=1:=rfl
  have e2:Flat.k Ptr=1:=rfl
  simpa [e,e2] using this
 have hb:b<w.heap.size:=by
  have:=hc0 0 _ rfl
  unfold World.cell? at this
  rcases Nat.lt_or_ge b w.heap.size with h|h
  · exact h
  rw [Array.getElem?_eq_none h] at this;simp at this
 have hF:b∈F:=Sl.mem0 h (by omega)
 refine⟨b::Gs,?_,fun n hn=>?_⟩
 · unfold C
   refine⟨_,len,c,rfl,by simp;omega,h.hcap,h.hmax,.inr ⟨b,off,Gs,rfl,rfl,hb,by simp,Rws.of (xs:=ks.map fun p=>.pointer (some ⟨p.b,0,none⟩)) (by simp) ?_ hcell⟩⟩
   have:(ts.map fun t=>[t]).flatten=ts:=by
    clear hC htl
    induction ts with
    | nil=>rfl
    | cons t ts ih=>simp [ih]
   rw [this];exact hC
 rcases List.mem_cons.1 hn with rfl|hn
 · exact .inl hF
 exact .inr hn
theorem node_ad {tn:TypeId} {w:World} {S:Nat→Prop} {t:TToken} {ks:List Ptr} {b:Nat} (h:TNode tn w S t ks b) {ts:List T} {Gs:List Nat} (hC:Cs false w ts (ks.map fun p=>.pointer (some ⟨p.b,0,none⟩)) Gs) (hS:∀ n∈Gs,S n) :
 ∃ G,C false w (.ad (cToken t++[.sl 1 (ts.map fun t=>[t])])) (.pointer (some ⟨b,0,none⟩)) G∧∀ n∈G,S n:=by
 obtain⟨h0,a,len,c,F,hb,hs,hF⟩:=h
 obtain⟨G,g1,g2⟩:=Sl_ptr hs hC
 refine⟨b::G,?_,fun n hn=>?_⟩
 · unfold C
   refine⟨b,0,G,rfl,rfl,hb.lt,Ms.of (cs:=tokC t++[.slice a len c]) ?_ fun j u hj=>?_⟩
   · unfold cToken tokC
     simp only [List.cons_append,List.nil_append,Cs]
     refine⟨_,_,[],G,rfl,by simp [C,Value.oneCell'],⟨_,_,[],G,rfl,by simp [C,Value.oneCell'],⟨_,_,[],G,rfl,by simp [C,Value.oneCell'],⟨_,_,[],G,rfl,by simp [C,Value.oneCell'],⟨_,_,G,[],rfl,g1,⟨rfl,rfl⟩,by simp⟩,rfl⟩,rfl⟩,rfl⟩,rfl⟩
   have:=hb.at j hj
   simpa using this
 rcases List.mem_cons.1 hn with rfl|hn
 · exact h0
 rcases g2 n hn with h|h
 · exact hF n h
 exact hS n h
theorem tree_ad {tn:TypeId} {w:World} {S:Nat→Prop}:∀ {x:Tr} {b:Nat},TreeIn tn w S x b→∃ G,C false w (.ad (treeCells x)) (.pointer (some ⟨b,0,none⟩)) G∧∀ n∈G,S n
 | .leaf t,b,h=>node_ad h (ts:=[]) (Gs:=[]) (by simp [Cs]) (by simp)
 | .un t x,b,⟨p,h1,h2⟩=>by
  obtain⟨G,g1,g2⟩:=tree_ad h2
  exact node_ad h1 (ts:=[.ad (treeCells x)]) (Gs:=G) (by simp only [List.map,Cs];exact⟨_,_,G,[],rfl,g1,⟨rfl,rfl⟩,by simp⟩) g2
 | .bin t x y,b,⟨p,q,h1,h2,h3⟩=>by
  obtain⟨G,g1,g2⟩:=tree_ad h2
  obtain⟨G',g1',g2'⟩:=tree_ad h3
  refine node_ad h1 (ts:=[.ad (treeCells x),.ad (treeCells y)]) (Gs:=G++G') (by simp only [List.map,Cs];exact⟨_,_,G,G',rfl,g1,⟨_,_,G',[],rfl,g1',⟨rfl,rfl⟩,by simp⟩,rfl⟩) fun n hn=>?_
  rcases List.mem_append.1 hn with h|h
  · exact g2 n h
  exact g2' n h
def treeV (l:List TToken):T:=match treeM l with|some x=>.ad (treeCells x)|none=>.v (.pointer none)
theorem tokens_sl {w:World} {l:List TToken} {v:Value} {F:List Nat} (h:C false w (.sl 4 (l.map cToken)) v F):∃ a len cap F',v=.slice a len cap∧Sl w a len cap l F':=by
 rw [C] at h
 obtain⟨a,len,cap,rfl,h2,h3,h4,h5⟩:=h
 rw [List.length_map] at h2
 rcases h5 with ⟨h5,_,_⟩|⟨b,off,G,rfl,_,hb,_,hr⟩
 · refine⟨a,len,cap,[],rfl,⟨h2,h3,h4,l.map Flat.enc,l.map fun _=>[],by simp [h2],by simp [h2],?_,.inl ⟨h5,?_⟩⟩⟩
   · intro i x cs f hx hcs hf
     rw [List.getElem?_map,hx] at hcs hf
     simp at hcs hf
     exact⟨hcs.symm,hf⟩
   have:l=[]:=List.eq_nil_of_length_eq_zero (by omega)
   subst this;rfl
 refine⟨_,len,cap,[b],rfl,⟨h2,h3,h4,l.map Flat.enc,l.map fun _=>[],by simp [h2],by simp [h2],?_,.inr ⟨b,off,rfl,by simp,hb,?_⟩⟩⟩
 · intro i x cs f hx hcs hf
   rw [List.getElem?_map,hx] at hcs hf
   simp at hcs hf
   exact⟨hcs.symm,hf⟩
 intro i cs j u hcs hu
 rw [List.getElem?_map] at hcs
 obtain⟨x,hx,rfl⟩:=Option.map_eq_some_iff.1 hcs
 obtain⟨G',k1,_,_⟩:=hr.get (i:=i) (row:=cToken x) (by rw [List.getElem?_map,hx];rfl)
 obtain⟨cs,k2,k3,k4⟩:=k1.cells
 have e:cs=Flat.enc x:=by
  unfold cToken at k2
  simp only [Cs,C] at k2
  obtain⟨c0,r0,_,_,rfl,⟨rfl,_⟩,⟨c1,r1,_,_,rfl,⟨rfl,_⟩,⟨c2,r2,_,_,rfl,⟨rfl,_⟩,⟨c3,r3,_,_,rfl,⟨rfl,_⟩,⟨rfl,_⟩,_⟩,_⟩,_⟩,_⟩:=k2
  rfl
 rw [←e] at hu
 have:=k4 j u hu
 have ek:Rd.k TToken=4:=rfl
 rw [ek];exact this
end Go.Q
namespace Go.Proofs.YtdhojcaoljhbiaaGreat
open Go.RowKit Go.Q Go.D
theorem impltreeOf (e:TExpr) (hz:e.Tokens.length≤1048576):FrT Tryz.prog 35 [.agg (cExpr e)] (.a (.one (treeV e.Tokens))):=by
 refine⟨⟨_,rfl,by kernel_rfl,rfl⟩,fun w vs F hG hv=>?_⟩
 obtain⟨v,vr,G1,G2,rfl,⟨cs,rfl,h2⟩,⟨rfl,_⟩,_⟩:=hv
 unfold cExpr at h2
 rw [Cs] at h2
 obtain⟨c,cr,G3,G4,rfl,h3,h4,_⟩:=h2
 rw [Cs] at h4
 obtain⟨rfl,_⟩:=h4
 obtain⟨a,len,cap,F',rfl,hs⟩:=tokens_sl h3
 refine (oldtreeOf (x:=e) w hG hs (by have:=hs.hlen;omega)).mono fun en w' hp=>?_
 obtain⟨hx,hp⟩:=hp
 unfold treeV
 cases ht:treeM e.Tokens with
 | none=>
  rw [ht] at hp
  exact⟨_,[],hp,by unfold Vr V0r C;exact⟨rfl,rfl,rfl⟩,by simp,hx⟩
 | some x=>
  rw [ht] at hp
  obtain⟨b,he,hT⟩:=hp
  obtain⟨G,g1,g2⟩:=tree_ad hT
  exact⟨_,G,he,g1,g2,hx⟩
end Go.Proofs.YtdhojcaoljhbiaaGreat
