import Derived.Test.YtdhojcaoljhbiaaGreatDoorB39xr
import Derived.Test.YtdhojcaoljhbiaaGreatDoorAbs2xr
import Derived.Test.YtdhojcaoljhbiaaGreatDoorB93xr
import Derived.Shelf.RegionOpenPlain
import Derived.Lib.Overlaps
import Derived.Lib.AppendZeros
import Derived.Lib.AppendZerosOnto
import Derived.Lib.SliceRun
import Derived.Laws.Externs
import Derived.Test.YtdhojcaoljhbiaaGreatDoorAbsWxr
set_option linter.unusedVariables false
set_option linter.unusedSimpArgs false
set_option maxRecDepth 100000
set_option maxHeartbeats 1000000
set_option maxRecDepth 100000
namespace Go.Q
open Go.D
end Go.Q
namespace Go.Proofs.YtdhojcaoljhbiaaGreatDoor
open Go.RowKit Go.Q Go.D
end Go.Proofs.YtdhojcaoljhbiaaGreatDoor
set_option maxHeartbeats 1000000
set_option maxRecDepth 100000
namespace Go.Q
open Go.D
theorem findI_two {α:Type} (p:α→Bool):∀ (l:List α) (m:Nat),(findI p l m=-1∧∀ x∈l,p x=false)∨∃ (k:Nat) (x:α),l[k]?=some x∧p x=true∧findI p l m=((m+k:Nat):Int)∧∀ y∈l.take k,p y=false
 | [],m=>.inl ⟨rfl,by simp⟩
 | z::l,m=>by
  rw [findI]
  cases hz:p z with
  | true=>exact .inr ⟨0,z,rfl,hz,by simp,by simp⟩
  | false=>
   rw [if_neg (by simp)]
   rcases findI_two p l (m+1) with ⟨h1,h2⟩|⟨k,x,h1,h2,h3,h4⟩
   · refine .inl ⟨h1,fun x hx=>?_⟩
     rcases List.mem_cons.1 hx with rfl|hx
     · exact hz
     exact h2 x hx
   refine .inr ⟨k+1,x,by simpa using h1,h2,by rw [h3];omega,fun y hy=>?_⟩
   rw [List.take_succ_cons] at hy
   rcases List.mem_cons.1 hy with rfl|hy
   · exact hz
   exact h4 y hy
def insAt (l:List TEdge) (e:TEdge):Nat:=(l.takeWhile fun x=>decide (x.ID<e.ID)).length
theorem insAt_le (l:List TEdge) (e:TEdge):insAt l e≤l.length:=(List.takeWhile_prefix _).length_le
theorem insAt_lt {l:List TEdge} {e:TEdge} {k:Nat} {x:TEdge} (hk:k<insAt l e) (hx:l[k]?=some x):x.ID<e.ID:=by
 have hp:=List.takeWhile_prefix (p:=fun x:TEdge=>decide (x.ID<e.ID)) (l:=l)
 have h1:(l.takeWhile fun x=>decide (x.ID<e.ID))[k]?=some x:=by
  rw [List.prefix_iff_getElem?] at hp
  have:=hp k hk
  rw [←hx,this];exact List.getElem?_eq_getElem hk
 have h2:=List.all_eq_true.1 (List.all_takeWhile (p:=fun x:TEdge=>decide (x.ID<e.ID)) (l:=l)) x (List.mem_of_getElem? h1)
 simpa using h2
theorem insAt_eq:∀ {l:List TEdge} {e:TEdge} {k:Nat},k≤l.length→(∀ j x,j<k→l[j]?=some x→x.ID<e.ID)→(∀ x,l[k]?=some x→¬ x.ID<e.ID)→insAt l e=k
 | [],e,k,hk,_,_=>by simp at hk;subst hk;rfl
 | y::l,e,0,_,_,h=>by
  have:=h y rfl
  unfold insAt
  rw [List.takeWhile_cons,if_neg (by simpa using this)];rfl
 | y::l,e,k+1,hk,h1,h2=>by
  have h0:=h1 0 y (by omega) rfl
  have ih:=insAt_eq (l:=l) (e:=e) (k:=k) (by simp at hk;omega) (fun j x hj hx=>h1 (j+1) x (by omega) (by simpa using hx)) (fun x hx=>h2 x (by simpa using hx))
  unfold insAt at ih ⊢
  rw [List.takeWhile_cons,if_pos (by simpa using h0),List.length_cons,ih]
theorem insAt_ge {l:List TEdge} {e:TEdge} {x:TEdge} (hx:l[insAt l e]?=some x):¬ x.ID<e.ID:=by
 have h1:=List.getElem?_eq_some_iff.1 hx
 have h2:l=(l.takeWhile fun x=>decide (x.ID<e.ID))++l.dropWhile fun x=>decide (x.ID<e.ID):=(List.takeWhile_append_dropWhile).symm
 rw [h2,List.getElem?_append_right (by unfold insAt;rw [←h2];exact Nat.le_refl _)] at hx
 rw [←h2] at hx
 have e0:insAt l e-(l.takeWhile fun x=>decide (x.ID<e.ID)).length=0:=by unfold insAt;omega
 rw [e0] at hx
 cases hd:l.dropWhile fun x=>decide (x.ID<e.ID) with
 | nil=>rw [hd] at hx;cases hx
 | cons z r=>
  rw [hd] at hx
  simp at hx
  subst hx
  have:=List.head?_dropWhile_not (fun x:TEdge=>decide (x.ID<e.ID)) l
  rw [hd] at this
  simpa using this
def insL (l:List TEdge) (e:TEdge):List TEdge:=l.take (insAt l e)++e::l.drop (insAt l e)
def insOk (g:TGraph) (e:TEdge):Bool:=validG g&&edgeOk e g.Values.length&&decide (edgeIndex g e.ID<0)&&!decide (g.Edges.length=12)
def insG (g:TGraph) (e:TEdge):TGraph×Bool:=if insOk g e=true then (⟨g.Values,insL g.Edges e⟩,true) else (g,false)
theorem insL_get {l:List TEdge} {e:TEdge} {k:Nat}:(insL l e)[k]?=if k<insAt l e then l[k]? else if k=insAt l e then some e else l[k-1]?:=by
 have hle:=insAt_le l e
 unfold insL
 by_cases h:k<insAt l e
 · rw [if_pos h,List.getElem?_append_left (by rw [List.length_take];omega),List.getElem?_take,if_pos h]
 rw [if_neg h,List.getElem?_append_right (by rw [List.length_take];omega),List.length_take,show min (insAt l e) l.length=insAt l e by omega]
 by_cases h2:k=insAt l e
 · rw [if_pos h2,h2];simp
 rw [if_neg h2,show k-insAt l e=(k-1-insAt l e)+1 by omega,List.getElem?_cons_succ,List.getElem?_drop]
 congr 1;omega
theorem insL_len (l:List TEdge) (e:TEdge):(insL l e).length=l.length+1:=by
 have hle:=insAt_le l e
 unfold insL
 rw [List.length_append,List.length_cons,List.length_take,List.length_drop];omega
theorem idx_none {g:TGraph} {id:Int} (h:edgeIndex g id<0) {x:TEdge} (hx:x∈g.Edges):x.ID≠id:=by
 unfold edgeIndex at h
 rcases findI_two (fun e:TEdge=>decide (e.ID=id)) g.Edges 0 with ⟨_,h2⟩|⟨k,_,_,_,h3,_⟩
 · simpa using h2 x hx
 rw [h3] at h;omega
theorem insG_valid {g:TGraph} {e:TEdge} (h:(insG g e).2=true):validG (insG g e).1=true∧(insG g e).1.Values=g.Values∧validG g=true:=by
 unfold insG at *
 split at h
 · rename_i hc
   rw [if_pos hc]
   unfold insOk at hc
   simp only [Bool.and_eq_true,decide_eq_true_eq,Bool.not_eq_true',decide_eq_false_iff_not] at hc
   obtain⟨⟨⟨hg,he⟩,hi⟩,h12⟩:=hc
   refine⟨?_,rfl,hg⟩
   have hri:=rise_all (validG_rise hg)
   have hg':=hg
   unfold validG at hg' ⊢
   simp only [Bool.and_eq_true,decide_eq_true_eq] at hg' ⊢
   have hle:=insAt_le g.Edges e
   refine⟨⟨hg'.1.1,List.all_eq_true.2 fun k hk=>?_⟩,hg'.2.1,by rw [insL_len];omega⟩
   have hk:=List.mem_range.1 hk
   rw [insL_len] at hk
   have hlook:∀ q y,g.Edges[q]?=some y→edgeOk y (g.Values.length:Int)=true:=fun q y hy=>by
    have:=List.all_eq_true.1 hg'.1.2 q (List.mem_range.2 (List.getElem?_eq_some_iff.1 hy).1)
    unfold edgeAt at this
    rw [hy] at this
    simp only [Bool.and_eq_true] at this
    exact this.1
   unfold edgeAt
   simp only [insL_get]
   by_cases h1:k<insAt g.Edges e
   · rw [if_pos h1,List.getElem?_eq_getElem (show k<g.Edges.length by omega)]
     simp only [Bool.and_eq_true,Bool.not_eq_true',Bool.and_eq_false_iff,decide_eq_false_iff_not]
     refine⟨hlook k _ (List.getElem?_eq_getElem _),?_⟩
     by_cases h0:k=0
     · exact .inl (by omega)
     rw [if_pos (by omega),List.getElem?_eq_getElem (show k-1<g.Edges.length by omega),Option.getD_some]
     have:=hri 0 (k-1) _ _ (List.getElem?_eq_getElem (show k-1<g.Edges.length by omega)) (by rw [show k-1+0+1=k by omega];exact List.getElem?_eq_getElem (show k<g.Edges.length by omega))
     exact .inr (by omega)
   rw [if_neg h1]
   by_cases h2:k=insAt g.Edges e
   · rw [if_pos h2]
     simp only [Bool.and_eq_true,Bool.not_eq_true',Bool.and_eq_false_iff,decide_eq_false_iff_not]
     refine⟨he,?_⟩
     by_cases h0:k=0
     · exact .inl (by omega)
     rw [if_pos (by omega),List.getElem?_eq_getElem (show k-1<g.Edges.length by omega),Option.getD_some]
     have:=insAt_lt (l:=g.Edges) (e:=e) (k:=k-1) (by omega) (List.getElem?_eq_getElem (show k-1<g.Edges.length by omega))
     exact .inr (by omega)
   rw [if_neg h2,List.getElem?_eq_getElem (show k-1<g.Edges.length by omega)]
   simp only [Bool.and_eq_true,Bool.not_eq_true',Bool.and_eq_false_iff,decide_eq_false_iff_not]
   refine⟨hlook (k-1) _ (List.getElem?_eq_getElem _),.inr ?_⟩
   rw [if_neg (by omega)]
   by_cases h3:k-1=insAt g.Edges e
   · rw [if_pos h3,Option.getD_some]
     have hy:g.Edges[insAt g.Edges e]?=some (g.Edges[k-1]'(by omega)):=by rw [←h3];exact List.getElem?_eq_getElem _
     have h4:=insAt_ge hy
     have h5:=idx_none hi (List.mem_of_getElem? hy)
     omega
   rw [if_neg h3,List.getElem?_eq_getElem (show k-1-1<g.Edges.length by omega),Option.getD_some]
   have:=hri 0 (k-1-1) _ _ (List.getElem?_eq_getElem (show k-1-1<g.Edges.length by omega)) (by rw [show k-1-1+0+1=k-1 by omega];exact List.getElem?_eq_getElem (show k-1<g.Edges.length by omega))
   omega
 cases h
def chgG (g:TGraph) (c:TChange):TGraph×Bool:=if c.Insert=true then insG g c.Edge else if c.Edge∈g.Edges then delG g c.Edge.ID else (g,false)
def runL:TGraph→List TChange→TGraph×Bool
 | g,[]=>(g,true)
 | g,c::r=>if (chgG g c).2=true then runL (chgG g c).1 r else (g,false)
def applyB (g:TGraph) (b:TBatch):TGraph×Bool:=if validG g=true∧b.Changes.length≤6∧(runL g b.Changes).2=true then runL g b.Changes else (g,false)
theorem chgG_valid {g:TGraph} {c:TChange} (h:(chgG g c).2=true):validG (chgG g c).1=true∧(chgG g c).1.Values=g.Values∧validG g=true:=by
 unfold chgG at *
 split at h
 · rename_i hi;rw [if_pos hi];exact insG_valid h
 rename_i hi
 rw [if_neg hi]
 split at h
 · rename_i hm;rw [if_pos hm];exact delG_valid h
 cases h
theorem runL_valid:∀ {l:List TChange} {g:TGraph},validG g=true→(runL g l).2=true→validG (runL g l).1=true∧(runL g l).1.Values=g.Values
 | [],g,hg,_=>⟨hg,rfl⟩
 | c::r,g,hg,h=>by
  unfold runL at h ⊢
  split at h
  · rename_i hc
    rw [if_pos hc]
    obtain⟨h1,h2,_⟩:=chgG_valid hc
    obtain⟨h3,h4⟩:=runL_valid h1 h
    exact⟨h3,h4.trans h2⟩
  cases h
theorem applyB_valid {g:TGraph} {b:TBatch} (h:(applyB g b).2=true):validG (applyB g b).1=true∧(applyB g b).1.Values=g.Values∧validG g=true:=by
 unfold applyB at *
 split at h
 · rename_i hc
   rw [if_pos hc]
   exact⟨(runL_valid hc.1 h).1,(runL_valid hc.1 h).2,hc.1⟩
 cases h
theorem runL_at {l:List TChange} {k:Nat} {x:TChange} {g:TGraph} (hx:l[k]?=some x) (h:(chgG g x).2=true):runL g (l.drop k)=runL (chgG g x).1 (l.drop (k+1)):=by
 obtain⟨hk,rfl⟩:=List.getElem?_eq_some_iff.1 hx
 rw [List.drop_eq_getElem_cons hk,runL,if_pos h]
theorem runL_bad {l:List TChange} {k:Nat} {x:TChange} {g:TGraph} (hx:l[k]?=some x) (h:(chgG g x).2=false):(runL g (l.drop k)).2=false:=by
 obtain⟨hk,rfl⟩:=List.getElem?_eq_some_iff.1 hx
 rw [List.drop_eq_getElem_cons hk,runL,if_neg (by rw [h];decide)]
theorem applyB_no {g:TGraph} {b:TBatch} (h:validG g=false∨6<b.Changes.length∨(runL g b.Changes).2=false):applyB g b=(g,false):=by
 unfold applyB
 rw [if_neg]
 rintro⟨h1,h2,h3⟩
 rcases h with h|h|h
 · rw [h1] at h;cases h
 · omega
 rw [h3] at h;cases h
theorem mem_index {g:TGraph} (hg:validG g=true) {e:TEdge}:e∈g.Edges↔∃ k:Nat,edgeIndex g e.ID=(k:Int)∧g.Edges[k]?=some e:=by
 constructor
 · intro hm
   obtain⟨i,hi⟩:=List.getElem?_of_mem hm
   rcases findI_two (fun x:TEdge=>decide (x.ID=e.ID)) g.Edges 0 with ⟨_,h2⟩|⟨k,x,h1,h2,h3,h4⟩
   · have:=h2 e hm;simp at this
   refine⟨k,by unfold edgeIndex;rw [h3];simp,?_⟩
   have hxe:x.ID=e.ID:=by simpa using h2
   have hri:=rise_all (validG_rise hg)
   have:k=i:=by
    rcases Nat.lt_trichotomy k i with h|h|h
    · have:=hri (i-k-1) k x e h1 (by rw [show k+(i-k-1)+1=i by omega];exact hi);omega
    · exact h
    have:=hri (k-i-1) i e x hi (by rw [show i+(k-i-1)+1=k by omega];exact h1);omega
   rw [this];exact hi
 rintro⟨k,_,h⟩;exact List.mem_of_getElem? h
end Go.Q
set_option maxHeartbeats 1000000
set_option maxRecDepth 100000
namespace Go.Q
open Go.RowKit
section
variable {P:Program}
theorem run_copy_k {k:Nat} (w:World) (t ty e:TypeId) (hu:P.underlying t=some (.slice e)) (hk:∀ w,(Go.sizeOf e).run P w=.ok k w) (g o dLen dCap:Nat) (a:Addr) (sLen sCap c:Nat) (cur:Array Value) (te:TypeId) (cs:List Value)
 (hc:Nat.min sLen dLen=c) (hg:w.heap[g]?=some (.cells cur te (0,0))) (hl:cs.length=c*k) (hsrc:∀ j v,cs[j]?=some v→w.cell? (a.add j)=some v) (hfit:o+cs.length≤cur.size) (h1:∀ v∈cs,v.oneCell'=true) :
 (Builtin.copy_ #[t,t] ty #[.slice (some ⟨g,o,none⟩) dLen dCap,.slice (some a) sLen sCap]).run P w=.ok (goInt c) (w.setRow g (cur.toList.take o++cs++cur.toList.drop (o+cs.length)).toArray):=by
 have hf:=run_firstCells_some (P:=P) w k c a sLen sCap cs hl hsrc
 have hst:=run_storeCells_at P g o te cs 0 cur w hg (by simpa using hfit) h1
 simp only [Nat.add_zero] at hst
 simp [Builtin.copy_,run_underlying hu,hk,Builtin.lenOf,hc,hf,hst]
theorem wp_copy_q (w:World) {o:Oper} {a:Act} {K:Act→World→Prop} {Q:Exit→Act→World→Prop} (d s:Operand) (t t':TypeId)
 (ho:o.op=.call { callee:=.builtin .copy,args:=#[d,s],argTypes:=#[t,t'] }) (v u:Value) (hd:a.eval d=v) (hs:a.eval s=u) {v':Value} {w':World}
 (hr:(Builtin.copy_ #[t,t'] o.type #[v,u]).run P w=.ok v' w') (h:K (a.put o.dst v') w'):o.wp P a w K Q:=by
 unfold Oper.wp execOp
 simp only [ho,resolve,invoke,builtin,Sem.run_bind,Sem.run_pure,Result.andThen_ok,List.map_toArray,List.map_cons,List.map_nil,hd,hs,hr]
 exact h
theorem wpList_copy_q (w:World) {ops:Array Oper} {rest:List Oper} {o:Oper} {a:Act} {Q:Exit→Act→World→Prop} (hgd:o.guard=none) (d s:Operand) (t t':TypeId)
 (ho:o.op=.call { callee:=.builtin .copy,args:=#[d,s],argTypes:=#[t,t'] }) (v u:Value) (hd:a.eval d=v) (hs:a.eval s=u) {v':Value} {w':World}
 (hr:(Builtin.copy_ #[t,t'] o.type #[v,u]).run P w=.ok v' w') (h:wpList P ops Q rest (a.put o.dst v') w'):wpList P ops Q (o::rest) a w:=
 wpList_plain hgd fun _ hK=>wp_copy_q w d s t t' ho v u hd hs hr (hK _ _ h)
theorem step_copy_q {ops:Array Oper} {o:Oper} {a:Act} {w:World} {K:Act→World→Prop} {Q:Exit→Act→World→Prop} {E:Prop}
 (hg:o.guard=none) (d x:Operand) (dT sT:TypeId) (hop:o.op=Op.call { callee:=Callee.builtin Builtin.copy,args:=#[d,x],argTypes:=#[dT,sT] })
 (v u:Value) (hd:a.eval d=v) (hx:a.eval x=u) {v':Value} {w':World} (hr:(Builtin.copy_ #[dT,sT] o.type #[v,u]).run P w=.ok v' w') (hK:K (a.put o.dst v') w') :
 if Region.wanted o (yielded ops a.tmps)=true then Oper.wp P o a w K Q else E:=by
 have hw:Region.wanted o (yielded ops a.tmps)=true:=by simp [Region.wanted,hg]
 rw [if_pos hw]
 exact wp_copy_q w d x dT sT hop v u hd hx hr hK
theorem size_setRow (w:World) (g:Nat) (arr:Array Value):(w.setRow g arr).heap.size=w.heap.size:=by simp only [World.setRow,Array.size_modify]
theorem Chg.setRow (w:World) (g:Nat) (arr:Array Value):Chg w (w.setRow g arr) [g]:=⟨rfl,rfl,rfl,by simp [World.setRow],fun b _ hb=>setRow_other w g b arr (fun e=>hb (by simp [e]))⟩
def Front (cs:List Value) (cur:Array Value):Prop:=∀ (j:Nat) (v:Value),cs[j]?=some v→cur[j]?=some v
theorem Front.take {cs:List Value} {cur:Array Value} (h:Front cs cur):cur.toList.take cs.length=cs:=by
 apply List.ext_getElem?;intro j
 by_cases hj:j<cs.length
 · have:=h j _ (List.getElem?_eq_getElem hj)
   rw [List.getElem?_take_of_lt hj,Array.getElem?_toList,this,List.getElem?_eq_getElem hj]
 rw [List.getElem?_eq_none (by simp;omega),List.getElem?_eq_none (by omega)]
end
end Go.Q
namespace Go.Proofs.YtdhojcaoljhbiaaGreatDoor
open Go.RowKit Go.Q Go.D
set_option maxHeartbeats 4000000 in
theorem insShift (g M n i vb Mv:Nat) (cur cur3:Array Value) (te te3:TypeId) (cs vs:List Value) (w:World) (hi:i<n) (hroom:n+1≤M) (hM:M≤maxLen) (hne:vb≠g) (hg:w.heap[g]?=some (.cells cur te (0,0))) (hcur:cur.size=M*4)
 (hv:w.heap[vb]?=some (.cells cur3 te3 (0,0))) (hcl:cs.length=n*4) (hvl:vs.length=4) (hcs:Front cs cur) (hvs:Front vs cur3) (h1c:∀ v∈cs,v.oneCell'=true) (h1v:∀ v∈vs,v.oneCell'=true) :
 Calls Tryz.prog 173 #[.slice (some ⟨g,0,none⟩) n M,.int .i64 i,.slice (some ⟨vb,0,none⟩) 1 Mv] w fun e w'=>
  e=.returned (.slice (some ⟨g,0,none⟩) (n+1) M)∧∃ arr,w'.heap[g]?=some (.cells arr te (0,0))∧arr.size=M*4∧Front (cs.take (i*4)++vs++cs.drop (i*4)) arr∧Chg w w' [g]:=by
 have hov:∀ lb cb,(callFunc 223 #[.slice (some ⟨vb,0,none⟩) 1 Mv,.slice (some ⟨g,(i+1)*4,none⟩) lb cb]).run Tryz.prog w=.ok (.value (.bool false)) w:=fun lb cb=>by
  rw [run_callFunc_extern Tryz.func223 (by kernel_rfl) (by kernel_rfl) (by kernel_rfl) (e:=Extern.SlicesOverlaps.overlaps #[35,35] #[4]) (by kernel_rfl),
   Lib.run_overlaps_apart w 35 4 101 Tryz.underlying35 4 Tryz.sizeOf101 ⟨vb,0,none⟩ ⟨g,(i+1)*4,none⟩ 1 Mv lb cb hne te3 te cur3.size cur.size (by simp [World.shape?,hv]) (by simp [World.shape?,hg]) (by rw [hcur];omega) (by simp [World.frozen?,hv]) (by simp [World.frozen?,hv])]
  rfl
 have hdl:(cs.drop (i*4)).length=(n-i)*4:=by rw [List.length_drop,hcl,Nat.sub_mul]
 have hcell:∀ (W:World),W.heap[g]?=some (.cells cur te (0,0))→∀ (q j:Nat) (v:Value),cs[q+j]?=some v→W.cell? ((⟨g,q,none⟩:Addr).add j)=some v:=fun W hW q j v h=>by
  rw [Addr.add_lit]
  simp only [World.cell?,hW]
  simpa using hcs _ _ h
 have hcp1:∀ (W:World),W.heap[g]?=some (.cells cur te (0,0))→∀ ty dc sc,(Builtin.copy_ #[35,35] ty #[.slice (some ⟨g,(i+1)*4,none⟩) (n-i) dc,.slice (some ⟨g,i*4,none⟩) (n+1-i) sc]).run Tryz.prog W=.ok (goInt (n-i:Nat)) (W.setRow g (cur.toList.take ((i+1)*4)++cs.drop (i*4)++cur.toList.drop ((i+1)*4+(cs.drop (i*4)).length)).toArray):=fun W hW ty dc sc=>
  run_copy_k W _ ty 101 Tryz.underlying35 Tryz.sizeOf101 g ((i+1)*4) (n-i) dc ⟨g,i*4,none⟩ (n+1-i) sc (n-i) cur te (cs.drop (i*4)) (by simp only [Nat.min_def];split<;>omega) hW hdl
   (fun j v hj=>hcell W hW _ j v (by rwa [List.getElem?_drop] at hj)) (by rw [hdl,hcur];omega) (fun v hv=>h1c v (List.mem_of_mem_drop hv))
 obtain⟨arr1,ha1⟩:∃ arr1,arr1=(cur.toList.take ((i+1)*4)++cs.drop (i*4)++cur.toList.drop ((i+1)*4+(cs.drop (i*4)).length)).toArray:=⟨_,rfl⟩
 have hcull:cur.toList.length=M*4:=by rw [←hcur];rfl
 have hs1:arr1.size=M*4:=by rw [ha1];simp [hdl];omega
 have hcp2:∀ (W:World),W.heap[g]?=some (.cells arr1 te (0,0))→W.heap[vb]?=some (.cells cur3 te3 (0,0))→∀ ty dc,(Builtin.copy_ #[35,35] ty #[.slice (some ⟨g,i*4,none⟩) (n+1-i) dc,.slice (some ⟨vb,0,none⟩) 1 Mv]).run Tryz.prog W=.ok (goInt (1:Nat)) (W.setRow g (arr1.toList.take (i*4)++vs++arr1.toList.drop (i*4+vs.length)).toArray):=fun W hW hWv ty dc=>
  run_copy_k W _ ty 101 Tryz.underlying35 Tryz.sizeOf101 g (i*4) (n+1-i) dc ⟨vb,0,none⟩ 1 Mv 1 arr1 te vs (by simp only [Nat.min_def];split<;>omega) hW (by rw [hvl])
   (fun j v hj=>by rw [Addr.add_lit];simp only [World.cell?,hWv];simpa using hvs j v hj) (by rw [hvl,hs1];omega) h1v
 rw [←ha1] at hcp1
 have hw1:IntKind.i64.wrap ((i:Int)+1)=(i:Int)+1:=by rw [IntKind.wrap_i64];unfold maxLen at hM;omega
 have hw2:IntKind.i64.wrap ((n:Int)+1)=(n:Int)+1:=by rw [IntKind.wrap_i64];unfold maxLen at hM;omega
 have hin:i≤n:=by omega
 have hz2:¬ ((i:Int)=(n:Int)):=by omega
 have hz3:¬ ((M:Int)<(n:Int)+1):=by omega
 have mixed:Tryz.prog.follows Departure.mixedOrders=true:=by kernel_rfl
 have hb1:(0:Int)≤(i:Int)+1:=by omega
 have hb3:(i:Int)≤(n:Int)+1:=by omega
 have hb4:¬ (M=i):=by omega
 have hb5:¬ (M=i+1):=by omega
 obtain⟨arr2,ha2⟩:∃ arr2,arr2=(arr1.toList.take (i*4)++vs++arr1.toList.drop (i*4+vs.length)).toArray:=⟨_,rfl⟩
 rw [←ha2] at hcp2
 have HA:=hid ha1
 have HA2:=hid ha2
 clear ha1 ha2
 go_enter Tryz.func173,Tryz.ntmps173
 go_wp2_with (simp only [hov])
 go_region_law_o (refine step_copy_q rfl _ _ 35 35 rfl (.slice (some ⟨g,(i+1)*4,none⟩) (n-i) (M-(i+1))) (.slice (some ⟨g,i*4,none⟩) (n+1-i) (M-i)) (by simp [Act.eval,Act.put]) (by simp [Act.eval,Act.put]) (hcp1 w.drew hg 3 (M-(i+1)) (M-i)) ?_)
 go_wp2_with (refine wpList_copy_q _ rfl _ _ 35 35 rfl _ _ rfl rfl (hcp2 (w.drew.setRow g arr1) (setRow_heap w.drew g cur arr1 te (0,0) hg) ((setRow_other w.drew g vb arr1 hne).trans hv) _ _) ?_)
 go_ret
 have ha1:=HA.out
 have ha2:=HA2.out
 refine⟨rfl,_,setRow_heap (w.drew.setRow g arr1) g arr1 _ te (0,0) (setRow_heap w.drew g cur arr1 te (0,0) hg),?_,?_,?_⟩
 · have:arr1.toList.length=M*4:=by rw [←hs1];rfl
   rw [ha2];simp [hvl];omega
 · have ht1:arr1.toList.take (i*4)=cs.take (i*4):=by
    rw [ha1]
    simp only [List.append_assoc]
    rw [List.take_append_of_le_length (by rw [List.length_take,hcull];omega),List.take_take,show min (i*4) ((i+1)*4)=i*4 by omega]
    have:=hcs.take
    rw [hcl] at this
    rw [←this,List.take_take,show min (i*4) (n*4)=i*4 by omega]
   have hd1:arr1.toList.drop (i*4+vs.length)=cs.drop (i*4)++cur.toList.drop ((i+1)*4+(cs.drop (i*4)).length):=by
    rw [hvl,show i*4+4=(i+1)*4 by omega,ha1]
    simp only [List.append_assoc]
    rw [List.drop_append_of_le_length (by rw [List.length_take,hcull];omega),List.drop_of_length_le (by rw [List.length_take];omega),List.nil_append]
   rw [ht1,hd1] at ha2
   rw [ha2]
   intro j v hj
   have hlt:=(List.getElem?_eq_some_iff.1 hj).1
   rw [←Array.getElem?_toList]
   simp only [←List.append_assoc]
   rw [List.getElem?_append_left hlt];exact hj
 exact⟨rfl,rfl,rfl,Nat.le_of_eq (by simp only [World.setRow,Array.size_modify];rfl),fun b _ hb=>(setRow_other (w.drew.setRow g arr1) g b _ (fun e=>hb (by simp [e]))).trans (setRow_other w.drew g b arr1 (fun e=>hb (by simp [e])))⟩
theorem insInfo:inZ Tryz.prog 101=some (some (.agg #[.int .i64 0,.int .i64 0,.int .i64 0,.int .i64 0]),4,32):=by kernel_rfl
set_option maxHeartbeats 4000000 in
theorem insGrow (g M n i vb Mv:Nat) (cur cur3:Array Value) (te te3:TypeId) (cs vs:List Value) (w:World) (hi:i<n) (hnM:n≤M) (hroom:M<n+1) (hn:n≤1048576) (hg:w.heap[g]?=some (.cells cur te (0,0))) (hcur:cur.size=M*4)
 (hv:w.heap[vb]?=some (.cells cur3 te3 (0,0))) (hcl:cs.length=n*4) (hvl:vs.length=4) (hcs:Front cs cur) (hvs:Front vs cur3) (h1c:∀ v∈cs,v.oneCell'=true) (h1v:∀ v∈vs,v.oneCell'=true) :
 Calls Tryz.prog 173 #[.slice (some ⟨g,0,none⟩) n M,.int .i64 i,.slice (some ⟨vb,0,none⟩) 1 Mv] w fun e w'=>
  ∃ G,e=.returned (.slice (some ⟨w.heap.size,0,none⟩) (n+1) G)∧n+1≤G∧G≤maxLen∧∃ arr,w'.heap[w.heap.size]?=some (.cells arr 101 (0,0))∧arr.size=G*4∧Front (cs.take (i*4)++vs++cs.drop (i*4)) arr∧Ext w w':=by
 obtain⟨i0,hi0,hz0,hzs,hzb⟩:=info_parts insInfo
 have hgw:g<w.heap.size:=(Array.getElem?_eq_some_iff.1 hg).1
 have hvw:vb<w.heap.size:=(Array.getElem?_eq_some_iff.1 hv).1
 have htl:(cs.take (i*4)).length=i*4:=by rw [List.length_take,hcl];omega
 have hdl:(cs.drop (i*4)).length=(n-i)*4:=by rw [List.length_drop,hcl,Nat.sub_mul]
 have hold:(Builtin.firstCells i0.size i (.slice (some ⟨g,0,none⟩) i M)).run Tryz.prog w.drew=.ok (cs.take (i*4)).toArray w.drew:=by
  rw [hzs]
  exact run_firstCells_some w.drew 4 i ⟨g,0,none⟩ i M (cs.take (i*4)) htl (fun j v hj=>by
   rw [Addr.add_lit]
   have h1:cs[j]?=some v:=by
    rw [List.getElem?_take] at hj
    split at hj
    · exact hj
    cases hj
   show (w.cell? _)=_
   simp only [World.cell?,hg]
   simpa using hcs _ _ h1)
 have hik:i+(n+1-i)=n+1:=by omega
 have hrz:∀ ty,(Builtin.append_ #[35,3] ty #[.slice (some ⟨g,0,none⟩) i M,.int .i64 ((n:Int)+1-(i:Int))]).run Tryz.prog w =
  .ok (.slice (some ⟨w.heap.size,0,none⟩) (n+1) (grownCap w (n+1) M 101)) (w.drew.alloc (.cells ((cs.take (i*4)).toArray++Builtin.zeroCells (Value.agg #[.int .i64 0,.int .i64 0,.int .i64 0,.int .i64 0]).cells (n+1-i)++Builtin.zeroCells (Value.agg #[.int .i64 0,.int .i64 0,.int .i64 0,.int .i64 0]).cells (grownCap w (n+1) M 101-(n+1))) 101)):=fun ty=>by
  have h:=Lib.run_append_grow_zeros w 35 3 ty 101 i0 _ .i64 .i64 Tryz.underlying35 Tryz.underlying3 hi0 hz0 (some ⟨g,0,none⟩) i M (cs.take (i*4)) hold (n+1-i) (by omega) (by omega) (by omega) (by omega) (by rw [hzb];omega) (by rw [hzb,hik];exact growslice_fits hroom (by omega))
  rw [hik] at h
  rw [show (n:Int)+1-(i:Int)=((n+1-i:Nat):Int) by omega]
  exact h
 obtain⟨G,hG⟩:∃ G,G=grownCap w (n+1) M 101:=⟨_,rfl⟩
 have hGn:n+1≤G:=by rw [hG];exact grownCap_ge w _ _ _
 have hGm:G≤maxLen:=by rw [hG];exact grownCap_le_maxLen w (n+1) M 101 (by unfold maxLen;omega)
 rw [←hG] at hrz
 obtain⟨ROW,hROW⟩:∃ ROW:Array Value,ROW=(cs.take (i*4)).toArray++Builtin.zeroCells (Value.agg #[.int .i64 0,.int .i64 0,.int .i64 0,.int .i64 0]).cells (n+1-i)++Builtin.zeroCells (Value.agg #[.int .i64 0,.int .i64 0,.int .i64 0,.int .i64 0]).cells (G-(n+1)):=⟨_,rfl⟩
 rw [←hROW] at hrz
 have hzl:∀ k,(Builtin.zeroCells (Value.agg #[.int .i64 0,.int .i64 0,.int .i64 0,.int .i64 0]).cells k).size=k*4:=fun k=>by simp [Builtin.zeroCells,Value.cells]
 have hRs:ROW.size=G*4:=by rw [hROW];simp only [Array.size_append,hzl,List.size_toArray,htl];omega
 have hRt:ROW.toList.take (i*4)=cs.take (i*4):=by rw [hROW];simp [htl]
 have hRl:ROW.toList.length=G*4:=by rw [←hRs];rfl
 have hNg:w.heap.size≠g:=by omega
 have hNv:w.heap.size≠vb:=by omega
 obtain⟨arr1,ha1⟩:∃ arr1,arr1=(ROW.toList.take (i*4)++vs++ROW.toList.drop (i*4+vs.length)).toArray:=⟨_,rfl⟩
 have hs1:arr1.size=G*4:=by rw [ha1];simp [hvl];rw [hRs];omega
 have hcp1:∀ (W:World),W.heap[w.heap.size]?=some (.cells ROW 101 (0,0))→W.heap[vb]?=some (.cells cur3 te3 (0,0))→∀ ty dc,(Builtin.copy_ #[35,35] ty #[.slice (some ⟨w.heap.size,i*4,none⟩) (n+1-i) dc,.slice (some ⟨vb,0,none⟩) 1 Mv]).run Tryz.prog W=.ok (goInt (1:Nat)) (W.setRow w.heap.size arr1):=fun W hW hWv ty dc=>by
  rw [ha1]
  exact run_copy_k W _ ty 101 Tryz.underlying35 Tryz.sizeOf101 w.heap.size (i*4) (n+1-i) dc ⟨vb,0,none⟩ 1 Mv 1 ROW 101 vs (by simp only [Nat.min_def];split<;>omega) hW (by rw [hvl])
   (fun j v hj=>by rw [Addr.add_lit];simp only [World.cell?,hWv];simpa using hvs j v hj) (by rw [hvl,hRs];omega) h1v
 obtain⟨arr2,ha2⟩:∃ arr2,arr2=(arr1.toList.take ((i+1)*4)++cs.drop (i*4)++arr1.toList.drop ((i+1)*4+(cs.drop (i*4)).length)).toArray:=⟨_,rfl⟩
 have hcp2:∀ (W:World),W.heap[w.heap.size]?=some (.cells arr1 101 (0,0))→W.heap[g]?=some (.cells cur te (0,0))→∀ ty dc sc,(Builtin.copy_ #[35,35] ty #[.slice (some ⟨w.heap.size,(i+1)*4,none⟩) (n-i) dc,.slice (some ⟨g,i*4,none⟩) (n-i) sc]).run Tryz.prog W=.ok (goInt (n-i:Nat)) (W.setRow w.heap.size arr2):=fun W hW hWg ty dc sc=>by
  rw [ha2]
  exact run_copy_k W _ ty 101 Tryz.underlying35 Tryz.sizeOf101 w.heap.size ((i+1)*4) (n-i) dc ⟨g,i*4,none⟩ (n-i) sc (n-i) arr1 101 (cs.drop (i*4)) (by simp only [Nat.min_def];split<;>omega) hW hdl
   (fun j v hj=>by
    rw [Addr.add_lit]
    simp only [World.cell?,hWg]
    rw [List.getElem?_drop] at hj
    simpa using hcs _ _ hj) (by rw [hdl,hs1];omega) (fun v hv=>h1c v (List.mem_of_mem_drop hv))
 have hHA:=hid ha1
 have hHB:=hid ha2
 have hHR:=hid hRt
 clear ha1 ha2 hROW hRt hG hold hik hzl hRl
 have hw1:IntKind.i64.wrap ((i:Int)+1)=(i:Int)+1:=by rw [IntKind.wrap_i64];omega
 have hw2:IntKind.i64.wrap ((n:Int)+1)=(n:Int)+1:=by rw [IntKind.wrap_i64];omega
 have hw3:IntKind.i64.wrap ((n:Int)+1-(i:Int))=(n:Int)+1-(i:Int):=by rw [IntKind.wrap_i64];omega
 have hin:i≤n:=by omega
 have hz2:¬ ((i:Int)=(n:Int)):=by omega
 have hz3:(M:Int)<(n:Int)+1:=by omega
 have mixed:Tryz.prog.follows Departure.mixedOrders=true:=by kernel_rfl
 have hb1:(0:Int)≤(i:Int)+1:=by omega
 have hb3:(i:Int)≤(n:Int)+1:=by omega
 have hb7:(i:Int)≤(n:Int):=by omega
 have hb4:¬ (M=i):=by omega
 have hb5:¬ (G=i+1):=by omega
 have hb6:¬ (G=i):=by omega
 go_enter Tryz.func173,Tryz.ntmps173
 go_wp2_with (first
  | (at_builtin;refine Lib.wpList_append_run _ rfl _ _ _ _ rfl _ _ rfl rfl _ _ (hrz _) ?_)
  | (refine wpList_copy_q _ rfl _ _ 35 35 rfl _ _ rfl rfl (hcp1 _ (by show (w.heap.push _)[w.heap.size]?=_;simp) (by show (w.heap.push _)[vb]?=_;rw [Array.getElem?_push,if_neg (Ne.symm hNv)];exact hv) _ _) ?_))
 have hA1:(w.alloc (.cells ROW 101)).heap[w.heap.size]?=some (.cells ROW 101 (0,0)):=by show (w.heap.push _)[w.heap.size]?=_;simp
 have hA2:∀ b,b<w.heap.size→(w.alloc (.cells ROW 101)).heap[b]?=w.heap[b]?:=fun b hb=>by show (w.heap.push _)[b]?=_;rw [Array.getElem?_push,if_neg (by omega)]
 have hB1:((w.alloc (.cells ROW 101)).drew.setRow w.heap.size arr1).heap[w.heap.size]?=some (.cells arr1 101 (0,0)):=setRow_heap (w.alloc (.cells ROW 101)).drew w.heap.size ROW arr1 _ (0,0) hA1
 have hB2:∀ b,b<w.heap.size→((w.alloc (.cells ROW 101)).drew.setRow w.heap.size arr1).heap[b]?=w.heap[b]?:=fun b hb=>(setRow_other (w.alloc (.cells ROW 101)).drew w.heap.size b arr1 (by omega)).trans (hA2 b hb)
 go_region_law_o (refine step_copy_q rfl _ _ 35 35 rfl (.slice (some ⟨w.heap.size,(i+1)*4,none⟩) (n-i) (G-(i+1))) (.slice (some ⟨g,i*4,none⟩) (n-i) (M-i)) (by simp [Act.eval,Act.put]) (by simp [Act.eval,Act.put]) (hcp2 ((w.alloc (.cells ROW 101)).drew.setRow w.heap.size arr1).drew hB1 ((hB2 g hgw).trans hg) 3 (G-(i+1)) (M-i)) ?_)
 go_wp2
 go_ret
 have ha1:=hHA.out
 have ha2:=hHB.out
 have hRt:=hHR.out
 refine⟨G,rfl,hGn,hGm,arr2,setRow_heap ((w.alloc (.cells ROW 101)).drew.setRow w.heap.size arr1).drew w.heap.size arr1 arr2 _ (0,0) hB1,?_,?_,?_⟩
 · have:arr1.toList.length=G*4:=by rw [←hs1];rfl
   rw [ha2];simp [hdl];omega
 · have hRl:ROW.toList.length=G*4:=by rw [←hRs];rfl
   have h1:arr1.toList.take ((i+1)*4)=cs.take (i*4)++vs:=by
    rw [ha1]
    simp only
    rw [hRt,List.take_append_of_le_length (by rw [List.length_append,htl,hvl];omega),List.take_of_length_le (by rw [List.length_append,htl,hvl];omega)]
   rw [h1] at ha2
   rw [ha2]
   intro j v hj
   have hlt:=(List.getElem?_eq_some_iff.1 hj).1
   rw [←Array.getElem?_toList]
   simp only
   rw [List.getElem?_append_left hlt];exact hj
 refine (Ext.refl w).trans' rfl rfl rfl ?_ fun b hb=>?_
 · have:((((w.alloc (.cells ROW 101)).drew.setRow w.heap.size arr1).drew).setRow w.heap.size arr2).heap.size=w.heap.size+1:=by
    rw [size_setRow]
    show ((w.alloc (.cells ROW 101)).drew.setRow w.heap.size arr1).heap.size=_
    rw [size_setRow]
    show (w.heap.push _).size=_
    simp
   omega
 exact (setRow_other ((w.alloc (.cells ROW 101)).drew.setRow w.heap.size arr1).drew w.heap.size b arr2 (by omega)).trans (hB2 b hb)
end Go.Proofs.YtdhojcaoljhbiaaGreatDoor
namespace Go.Q
open Go.RowKit
section
variable {P:Program} {ops:Array Oper} {o:Oper} {σ:St} {q:Bool}
end
end Go.Q
namespace Go.Q
open Go.RowKit
section
variable {P:Program} {ops:Array Oper} {o:Oper} {σ:St}
inductive GetL (σ:St):List Operand→List E→Prop where
 | nil:GetL σ [] []
 | cons {x:Operand} {e:E} {l:List Operand} {es:List E} (hx:Get σ true x (.one e)) (h:GetL σ l es):GetL σ (x::l) (e::es)
theorem GetL.ves {I:Ip} {w0:Base} {w:World} {a:Act} (hr:RelI I w0 σ a w) {l:List Operand} {es:List E} (h:GetL σ l es):VEs I w es (l.map a.eval):=by
 induction h with
 | nil=>rfl
 | cons hx h ih=>exact⟨_,_,rfl,hx.va hr rfl,ih⟩
def ownAll (ts:List T):List (Bool×V0):=ts.map fun t=>(true,.one t)
theorem V0c_all {w:World} {FF:List Nat}:∀ {ts:List T} {cs:List Value} {G:List Nat},Cs true w ts cs G→V0c w FF (ownAll ts) cs G
 | [],cs,G,h=>by simp only [Cs] at h;exact h
 | t::ts,cs,G,h=>by
  simp only [Cs] at h
  obtain⟨c,cr,G1,G2,rfl,h1,h2,rfl⟩:=h
  exact⟨c,cr,G1,G2,rfl,h1,V0c_all h2,by simp⟩
theorem R_consumeL {f:FuncId} {l:List Operand} {tys:Array TypeId} {es:List E} {ts:List T} {out:V} {σ':St} {y:S} {rs:List (Nat×R)} (n:Nat) (h:FnC P f (ownAll ts) out) (ho:o.op=.call { callee:=.value (.func f),args:=l.toArray,argTypes:=tys }) (hg:o.guard=none) (hd:o.dst.all (fun d=>Nat.blt d σ.n)=true)
 (hx:GetL σ l es) (ha:absorb σ es=some (σ',ts)) (hout:outV n out=some (y,rs)) (hf:(rs.all fun x=>!σ'.has x.1)=true):Op1 P ops o σ ((σ'.adds rs).put o.dst (true,y)):=by
 rintro w0 a w ⟨I,hr⟩ K Q hK
 simp only [Region.wanted,hg,if_true]
 obtain⟨I',G,r1,r2,r3,r4,_⟩:=RelI.absorb ha hr (hx.ves hr)
 have hc:V0c w G (ownAll ts) (l.map a.eval) G:=V0c_all r2
 unfold Oper.wp
 rw [run_enter h.1 ho]
 refine (h.2 w _ G (r1.goodF fun b hb=>(r4 b hb).1) hc r3 fun b hb=>(r4 b hb).2.2.1).mono fun e w' hR=>?_
 obtain⟨v,F',rfl,h1,h2,h3,h4⟩:=hR
 have r1':=r1.chgF r4 h4
 have hfree:∀ b∈F',Free I' w0 w' b:=fun b hb=>by
  rcases (h3 b hb).1 with g|g
  · exact⟨.inl (Nat.le_trans r1.ext.size g),Vr.lt h1 b hb,(h3 b hb).2,fun hz=>by have:=r1.old b hz;omega,fun i hi=>by have:=(r1.lt i b hi).1;omega⟩
  exact⟨(r4 b g).1,Vr.lt h1 b hb,(h3 b hb).2,(r4 b g).2.2.2.1,(r4 b g).2.2.2.2⟩
 obtain⟨I2,g1,g2⟩:=outV_ok hout hf r1' h1 h2 hfree
 refine hK _ _ ⟨I2,g1.put ?_ g2⟩
 have e1:(σ'.adds rs).n=σ'.n:=adds_n rs
 rw [e1,absorb_n ha];exact hd
end
end Go.Q
set_option maxHeartbeats 1000000
set_option maxRecDepth 100000
namespace Go.Proofs.YtdhojcaoljhbiaaGreatDoor
open Go.RowKit Go.Q Go.D
theorem insEnd (l:List TEdge) (e:TEdge) (hz:l.length≤1048576):FnC Tryz.prog 173 (ownAll [.sl 4 (l.map cEdge),.v (.int .i64 (l.length:Nat)),.sl 4 [cEdge e]]) (.a (.one (.sl 4 ((l++[e]).map cEdge)))):=by
 refine FnC.walk Tryz.func173 rfl (by kernel_rfl) Tryz.ntmps173 rfl (by rfl) fun w0=>?_
 refine Ar (Av [0,1,2] [1000,1100]) ?_
 try simp [cEdge] at hlen
 refine Af (Aj ?_);refine AWl.nilS (i:=6) 20001 4 U U ?_;refine Aa (Af (Ab ?_));refine Ab ?_;refine Ac (Dd (n:=l.length) U (.no U) U (.tm U) U (.yes (.tm U) (fun _=>by first|rfl|omega|(simp<;>omega))) .no Tryz.underlying35 Ba (fun _=>⟨by simp,by simp⟩)) U ?_;refine Aa (Af (Ab ?_));refine Ac (R_len U (.no U) U (.tm U) (by exact .rf U) Tryz.underlying35) U ?_;refine Ah ?_;refine Aa (Ae (Af (Ab ?_)));refine Ck ?_;refine Aa (Al (.tm U) (fun h16=>?_) (fun h16=>?_))
 · exact absurd h16 (by simp)
 try simp at h16
 refine Am (Ae (Ar (Av [0,1,2,6,7] [1000,1100,20001]) ?_));refine Ad (Ab ?_);refine Bu (.rf U) Tryz.underlying35 ?_;refine Ah ?_;refine Aa (Ae (Af (Ab ?_)));refine Ab ?_;refine AWl.eq ?_;refine Aa (Al (.tm U) (fun h22=>?_) (fun h22=>?_))
 · try simp at h22
   refine Af (Ab ?_);refine Ab ?_;refine Cq (Cw U U U (.tm U) U (.tm U) U U Tryz.underlying35 C0 U (by (simp [chunk];omega)) (by (unfold maxLen;simp [chunk];omega))) U ?_;refine Bf (Av [0,1,2,6,7,8,22,25] [1000,20001]) ?_;refine Ah ?_;refine Aa (Ap (Res.one U (.tmp U .nil) U ?_))
   simp;rfl
 exact absurd h22 (by simp)
end Go.Proofs.YtdhojcaoljhbiaaGreatDoor
set_option maxHeartbeats 1000000
set_option maxRecDepth 100000
namespace Go.Q
open Go.RowKit Go.D
def encE (e:TEdge):List Value:=[.int .i64 e.ID,.int .i64 e.From,.int .i64 e.To,.int .i64 e.Label]
theorem encE_len (l:List TEdge):((l.map encE).flatten).length=l.length*4:=by
 induction l with
 | nil=>simp
 | cons x l ih=>rw [List.map_cons,List.flatten_cons,List.length_append,ih,List.length_cons,Nat.succ_mul];simp [encE];omega
theorem encE_flat (l:List TEdge):(l.map cEdge).flatten=((l.map encE).flatten).map T.v:=by
 rw [List.map_flatten,List.map_map]
 congr 1
theorem encE_one (l:List TEdge):((l.map encE).flatten).all Value.oneCell'=true:=by
 rw [List.all_eq_true]
 intro v hv
 obtain⟨r,hr,hv⟩:=List.mem_flatten.1 hv
 obtain⟨x,_,rfl⟩:=List.mem_map.1 hr
 simp [encE] at hv
 rcases hv with rfl|rfl|rfl|rfl<;>rfl
theorem Cs_ownV {w:World}:∀ (vs:List Value) {cs:List Value} {G:List Nat},Cs true w (vs.map T.v) cs G→G=[]∧cs=vs
 | [],cs,G,h=>by simp only [List.map_nil,Cs] at h;exact⟨h.2,h.1⟩
 | v::vs,cs,G,h=>by
  simp only [List.map_cons,Cs] at h
  obtain⟨c1,cr,G1,G2,rfl,h2,h3,rfl⟩:=h
  simp only [C] at h2
  obtain⟨rfl,rfl,_⟩:=h2
  obtain⟨rfl,rfl⟩:=Cs_ownV vs h3
  exact⟨rfl,rfl⟩
theorem own_edges {w:World} {l:List TEdge} {v:Value} {F:List Nat} (h:C true w (.sl 4 (l.map cEdge)) v F) (hl:0<l.length) :
 ∃ g M cur te,v=.slice (some ⟨g,0,none⟩) l.length M∧F=[g]∧w.heap[g]?=some (.cells cur te (0,0))∧cur.size=M*4∧l.length≤M∧M≤maxLen∧Front ((l.map encE).flatten) cur:=by
 have hc:=h
 simp only [C] at hc
 obtain⟨a0,n0,m0,rfl,_⟩:=hc
 obtain⟨e1,e2,e3⟩:=h.hdr
 rw [List.length_map] at e1
 rcases h.blk with ⟨q1,q2,q3⟩|⟨g,G,cur,e',rfl,rfl,q3,q4,q5⟩
 · have:l=[]:=by simpa using q3
   subst this;simp at hl
 obtain⟨s1,xs,s2,s3,s4⟩:=q5.flat
 rw [encE_flat] at s2
 obtain⟨rfl,rfl⟩:=Cs_ownV _ s2
 refine⟨g,m0,cur,e',by rw [e1],rfl,q3,q4,by omega,e3,fun j u hj=>?_⟩
 have:=s4 j u hj
 simp only [Nat.zero_add,World.cell?,q3] at this
 simpa using this
theorem own_mk {w:World} {l:List TEdge} {g M:Nat} {arr:Array Value} {te:TypeId} (hg:w.heap[g]?=some (.cells arr te (0,0))) (hs:arr.size=M*4) (hM:l.length≤M∧M≤maxLen) (hf:Front ((l.map encE).flatten) arr):C true w (.sl 4 (l.map cEdge)) (.slice (some ⟨g,0,none⟩) l.length M) [g]:=by
 unfold C
 refine⟨_,_,_,rfl,by rw [List.length_map],hM.1,hM.2,.inr ⟨g,0,[],rfl,rfl,(Array.getElem?_eq_some_iff.1 hg).1,fun _=>⟨rfl,arr,te,hg,hs⟩,Rws.of (xs:=(l.map encE).flatten) (fun row hr=>?_) ?_ fun j u hj=>?_⟩⟩
 · obtain⟨x,_,rfl⟩:=List.mem_map.1 hr;rfl
 · rw [encE_flat];exact Cs_vals (encE_one l)
 simp only [World.cell?,hg,Nat.zero_add]
 simpa using hf j u hj
theorem encE_ins {l:List TEdge} {i:Nat} {e:TEdge} (hi:i≤l.length):((l.take i++e::l.drop i).map encE).flatten=((l.map encE).flatten).take (i*4)++encE e++((l.map encE).flatten).drop (i*4):=by
 have h1:(l.map encE).flatten=((l.take i).map encE).flatten++((l.drop i).map encE).flatten:=by rw [←List.flatten_append,←List.map_append,List.take_append_drop]
 have h2:=encE_len (l.take i)
 rw [List.length_take,show min i l.length=i by omega] at h2
 have t1:(l.map encE).flatten.take (i*4)=((l.take i).map encE).flatten:=by rw [h1,←h2];simp
 have t2:(l.map encE).flatten.drop (i*4)=((l.drop i).map encE).flatten:=by rw [h1,←h2];simp
 rw [t1,t2]
 simp
end Go.Q
namespace Go.Proofs.YtdhojcaoljhbiaaGreatDoor
open Go.RowKit Go.Q Go.D
theorem InsertEdge1 (l:List TEdge) (i:Nat) (e:TEdge) (hi:i≤l.length) (hz:l.length≤1048576):FnC Tryz.prog 173 (ownAll [.sl 4 (l.map cEdge),.v (.int .i64 (i:Nat)),.sl 4 [cEdge e]]) (.a (.one (.sl 4 ((l.take i++e::l.drop i).map cEdge)))):=by
 by_cases h:i=l.length
 · subst h
   have:=insEnd l e hz
   rwa [List.take_of_length_le (Nat.le_refl _),List.drop_of_length_le (Nat.le_refl _)]
 have hil:i<l.length:=by omega
 refine⟨⟨_,Tryz.func173,by kernel_rfl,by kernel_rfl⟩,fun w vs F hG hv hnd hth=>?_⟩
 obtain⟨v1,r1,G1,G2,rfl,hC1,⟨v2,r2,G3,G4,rfl,hC2,⟨v3,r3,G5,G6,rfl,hC3,⟨rfl,rfl⟩,hF3⟩,hF2⟩,hF1⟩:=hv
 simp only [if_true,List.append_nil] at hF1 hF2 hF3
 subst hF3
 simp only [V0r,C] at hC2
 obtain⟨rfl,rfl,_⟩:=hC2
 rw [List.nil_append] at hF2
 subst hF2
 obtain⟨g,M,cur,te,rfl,rfl,hg,hcur,hlM,hMm,hfr⟩:=own_edges hC1 (by omega)
 obtain⟨vb,Mv,cur3,te3,rfl,rfl,hgv,hc3,_,_,hfv⟩:=own_edges (l:=[e]) hC3 (by simp)
 subst hF1
 have hne:vb≠g:=by
  intro e1;subst e1
  simp at hnd
 have hcl:=encE_len l
 have hvl:(encE e).length=4:=rfl
 have h1c:∀ v∈(l.map encE).flatten,v.oneCell'=true:=List.all_eq_true.1 (encE_one l)
 have h1v:∀ v∈encE e,v.oneCell'=true:=fun v hv=>List.all_eq_true.1 (encE_one [e]) v (by simpa using hv)
 have hfv':Front (encE e) cur3:=by simpa using hfv
 have hlen:(l.take i++e::l.drop i).length=l.length+1:=by simp;omega
 by_cases hr:l.length+1≤M
 · refine (insShift g M l.length i vb Mv cur cur3 te te3 _ _ w hil hr hMm hne hg hcur hgv hcl hvl hfr hfv' h1c h1v).mono fun e' w' ⟨he,arr,h1,h2,h3,h4⟩=>?_
   have hchg:Chg w w' [g,vb]:=⟨h4.os,h4.tape,h4.output,h4.size,fun k hk hn=>h4.block k hk (fun hm=>hn (by simp at hm;simp [hm]))⟩
   refine⟨_,[g],he,?_,by simp,fun b hb=>?_,hchg⟩
   · show C true w' _ _ _
     rw [←hlen]
     exact own_mk h1 h2 ⟨by omega,hMm⟩ (by rw [encE_ins hi];exact h3)
   rw [List.mem_singleton] at hb
   subst hb
   exact⟨.inr (by simp),.inl _,_,h1⟩
 refine (insGrow g M l.length i vb Mv cur cur3 te te3 _ _ w hil hlM (by omega) hz hg hcur hgv hcl hvl hfr hfv' h1c h1v).mono fun e' w' ⟨Gc,he,hG1,hG2,arr,h1,h2,h3,h4⟩=>?_
 have hchg:Chg w w' [g,vb]:=⟨h4.os,h4.tape,h4.output,h4.size,fun k hk hn=>h4.block hk⟩
 refine⟨_,[w.heap.size],he,?_,by simp,fun b hb=>?_,hchg⟩
 · show C true w' _ _ _
   rw [←hlen]
   exact own_mk h1 h2 ⟨by omega,hG2⟩ (by rw [encE_ins hi];exact h3)
 rw [List.mem_singleton] at hb
 subst hb
 exact⟨.inl (Nat.le_refl _),.inl _,_,h1⟩
end Go.Proofs.YtdhojcaoljhbiaaGreatDoor
namespace Go.Q
open Go.RowKit
section
variable {P:Program} {ops:Array Oper} {o:Oper} {σ:St} {q:Bool}
def Keeps (w:World) (K:List (Nat×Obj)):Prop:=∀ x∈K,w.heap[x.1]?=some x.2
theorem Keeps.lt {w:World} {K:List (Nat×Obj)} (h:Keeps w K):∀ x∈K,x.1<w.heap.size:=fun x hx=>(Array.getElem?_eq_some_iff.1 (h x hx)).1
def FnCk (P:Program) (f:FuncId) (K:List (Nat×Obj)) (ins:List (Bool×V0)) (out:V):Prop:=Callee P f∧∀ w vs F,Good w F→V0c w F ins vs F→F.Nodup→(∀ b∈F,Thaw w b)→Keeps w K→(∀ x∈K,x.1∉F)→Calls P f (List.toArray vs) w (CPost w out F)
theorem FnCk.walk {n:Nat} {f:FuncId} {fn:Func} {c:Code} {K:List (Nat×Obj)} {ins:List (Bool×V0)} {out:V} {σ':St} (hf:P.funcs[f]?=some fn) (hb:fn.body=some c) (hname:(fn.name == "runtime.NumGoroutine")=false) (hnt:fn.ntmps=n) (hn:Nat.ble ins.length n=true) (hi:initC 0 ins ⟨n,[],[(999999,.kept K)]⟩=some σ')
 (h:∀ w0,AW P w0 c (RetQ P fn true out) σ'):FnCk P f K ins out:=by
 subst hnt
 refine⟨⟨fn,hf,hname,by rw [hb];rfl⟩,fun w vs F hG hv hnd hth hK hKF=>?_⟩
 have hl:=hv.len
 have hn':ins.length≤fn.ntmps:=Nat.le_of_ble_eq_true hn
 have hlt:=hv.sub
 let a0:Act:=⟨(List.toArray vs)++Array.replicate (fn.ntmps-(List.toArray vs).size) undef,[]⟩
 let I0:Ip:=⟨fun b=>b<w.heap.size∧b∉F,fun _=>[],fun _=>undef,fun _=>0⟩
 have hr0:RelI I0 ⟨w,F,hG⟩ ⟨fn.ntmps,[],[(999999,.kept K)]⟩ a0 w:=by
  refine⟨Chg.refl w F,rfl,by simp [a0,hl];omega,fun i z hi=>(by cases hi),fun id r hi=>?_,fun b hb=>hb.1,fun id b hb=>(by cases hb),fun id r hi=>⟨List.nodup_nil,fun b hb=>(by cases hb)⟩,fun i j _ b hb=>(by cases hb)⟩
  rw [look_cons] at hi
  split at hi
  · cases hi;exact⟨rfl,fun x hx=>⟨hK x hx,hK.lt x hx,hKF x hx⟩⟩
  cases hi
 obtain⟨I1,r1⟩:=initC_ok (fun _ _ _=>trivial) hi hr0 (fun b h1 h2=>⟨h1,h2⟩) hv hnd (fun b hb=>⟨.inr hb,hlt b hb,hth b hb,fun hz=>hz.2 hb,fun i hi=>by cases hi⟩) fun j v hj=>by
  have hjl:j<vs.length:=(List.getElem?_eq_some_iff.1 hj).1
  simp only [Nat.zero_add,a0]
  rw [Array.getD_eq_getD_getElem?,Array.getElem?_append_left (by simpa using hjl)]
  simp [hj]
 refine calls_of_wp hf hb (Code.wp_mono ?_ (h ⟨w,F,hG⟩ _ _ ⟨_,r1⟩))
 rintro e a' w' ⟨σ1,h1,I,hI⟩
 have key:Res P fn true out σ1→a'.defers=[]∧∃ v',(results fn a'.tmps).run P w'=.ok v' w'∧CPost w out F (.returned v') w':=fun h1=>by
  obtain⟨v',F',g1,g2,g3,g4⟩:=h1 I ⟨w,F,hG⟩ a' w' hI
  exact⟨hI.defers,v',g1,v',F',rfl,g2,(g4 rfl).1,fun b hb=>⟨g3 b hb,(g4 rfl).2 b hb⟩,hI.ext⟩
 cases e with
 | normal=>exact key h1
 | ret=>exact key h1
 | exit id=>exact h1.elim
 | goto l=>exact h1.elim
 | panic c=>exact h1.elim
 | outgrown=>exact h1.elim
theorem Rws_split {o:Bool} {w:World} {b:Nat}:∀ {ts:List T} {off:Nat} {F:List Nat},Rws o w b 1 off (ts.map fun t=>[t]) F→∃ (hs:List Value) (Gs:List (List Nat)),hs.length=ts.length∧Gs.length=ts.length∧F=Gs.flatten∧
 ∀ i t,ts[i]?=some t→∃ h G,hs[i]?=some h∧Gs[i]?=some G∧w.cell? ⟨b,off+i,none⟩=some h∧C o w t h G
 | [],off,F,h=>by simp only [List.map_nil,Rws] at h;exact⟨[],[],rfl,rfl,h,fun i t hi=>by simp at hi⟩
 | t::ts,off,F,h=>by
  simp only [List.map_cons,Rws,Ms] at h
  obtain⟨G1,G2,_,⟨c,A1,A2,h1,h2,rfl,rfl⟩,h3,rfl⟩:=h
  obtain⟨hs,Gs,e1,e2,e3,e4⟩:=Rws_split h3
  refine⟨c::hs,A1::Gs,by simp [e1],by simp [e2],by simp [e3],fun i u hi=>?_⟩
  match i,hi with
  | 0,hi=>simp at hi;subst hi;exact⟨c,A1,rfl,rfl,h1,h2⟩
  | i+1,hi=>
   obtain⟨h,G,g1,g2,g3,g4⟩:=e4 i u (by simpa using hi)
   exact⟨h,G,by simpa using g1,by simpa using g2,by rw [show off+(i+1)=off+1+i by omega];exact g3,g4⟩
theorem Rws_join {o:Bool} {w:World} {b:Nat} {α:Type} {t:α→T} {h:α→Value} {G:α→List Nat}:∀ {l:List α} {off:Nat},(∀ i x,l[i]?=some x→w.cell? ⟨b,off+i,none⟩=some (h x)∧C o w (t x) (h x) (G x))→Rws o w b 1 off (l.map fun x=>[t x]) (l.flatMap G)
 | [],off,_=>by simp [Rws]
 | x::l,off,hc=>by
  simp only [List.map_cons,Rws,Ms,List.flatMap_cons]
  obtain⟨c1,c2⟩:=hc 0 x rfl
  refine⟨G x,l.flatMap G,rfl,⟨h x,G x,[],c1,c2,rfl,by simp⟩,Rws_join (h:=h) fun i y hi=>?_,rfl⟩
  obtain⟨d1,d2⟩:=hc (i+1) y (by simpa using hi)
  exact⟨by rw [show off+1+i=off+(i+1) by omega];exact d1,d2⟩
theorem C_split {w:World} {ts:List T} {v:Value} {F:List Nat} (hC:C true w (.sl 1 (ts.map fun t=>[t])) v F) (hnd:F.Nodup):∃ (h:Nat→Value) (G:Nat→List Nat) (F0:List Nat),(∀ i t,ts[i]?=some t→C true w t (h i) (G i))∧C true w (.sl 1 ((List.range ts.length).map fun i=>[.v (h i)])) v F0∧F0.Nodup∧
 (∀ b∈F0,b∈F)∧(∀ i,i<ts.length→∀ b∈G i,b∈F∧b∉F0)∧(∀ i,i<ts.length→(G i).Nodup)∧∀ i j,i<ts.length→j<ts.length→i≠j→∀ b∈G i,b∉G j:=by
 have hCc:=hC
 simp only [C] at hCc
 obtain⟨a,len,cap,rfl,h2,h3,h4,h5⟩:=hCc
 rcases h5 with ⟨h5,rfl,h6⟩|⟨b,off,G,rfl,rfl,h7,h8,h9⟩
 · have:ts=[]:=List.eq_nil_of_length_eq_zero (by rw [List.length_map] at h2;omega)
   subst this
   exact⟨fun _=>undef,fun _=>[],[],fun i t hi=>by simp at hi,hC,List.nodup_nil,fun b hb=>hb,fun i hi=>by simp at hi,fun i hi=>by simp at hi,fun i j hi=>by simp at hi⟩
 obtain⟨hs,Gs,e1,e2,rfl,e4⟩:=Rws_split h9
 obtain⟨n1,n2⟩:=List.nodup_cons.1 hnd
 have n2:=List.pairwise_flatten.1 n2
 have hG:∀ i,i<ts.length→Gs.getD i []∈Gs:=fun i hi=>by
  rw [List.getD_eq_getElem?_getD,List.getElem?_eq_getElem (by omega)];exact List.getElem_mem _
 have hin:∀ i,i<ts.length→∀ x∈Gs.getD i [],x∈Gs.flatten:=fun i hi x hx=>List.mem_flatten.2 ⟨_,hG i hi,hx⟩
 refine⟨fun i=>hs.getD i undef,fun i=>Gs.getD i [],[b],fun i t hi=>?_,?_,by simp,fun x hx=>by simp at hx;simp [hx],fun i hi x hx=>⟨by simp [hin i hi x hx],fun hb=>?_⟩,fun i hi=>n2.1 _ (hG i hi),fun i j hi hj hne x hx hx'=>?_⟩
 · obtain⟨h,A,g1,g2,g3,g4⟩:=e4 i t hi
   simp only [List.getD_eq_getElem?_getD,g1,g2,Option.getD_some]
   exact g4
 · simp only [C]
   refine⟨_,_,_,rfl,by simpa using h2,h3,h4,.inr ⟨b,off,[],rfl,rfl,h7,h8,?_⟩⟩
   have:=Rws_join (o:=true) (w:=w) (b:=b) (t:=fun i=>T.v (hs.getD i undef)) (h:=fun i=>hs.getD i undef) (G:=fun _=>([]:List Nat)) (l:=List.range ts.length) (off:=off) fun i x hi=>by
    obtain⟨hi1,hi2⟩:=List.getElem?_eq_some_iff.1 hi
    rw [List.length_range] at hi1
    simp at hi2
    subst hi2
    obtain⟨h,A,g1,g2,g3,g4⟩:=e4 i _ (List.getElem?_eq_getElem hi1)
    simp only [List.getD_eq_getElem?_getD,g1,Option.getD_some]
    exact⟨g3,by simp only [C];exact⟨trivial,trivial,g4.cell1⟩⟩
   have hz:(List.range ts.length).flatMap (fun _=>([]:List Nat))=[]:=by rw [List.flatMap_eq_nil_iff];intro _ _;rfl
   rw [hz] at this
   exact this
 · simp at hb;subst hb;exact n1 (hin i hi _ hx)
 have hp:=n2.2
 have key:∀ i j,i<j→j<ts.length→∀ x∈Gs.getD i [],∀ y∈Gs.getD j [],x≠y:=fun i j hij hj=>by
  have:=List.pairwise_iff_getElem.1 hp i j (by omega) (by omega) hij
  simpa [List.getD_eq_getElem?_getD,List.getElem?_eq_getElem (show i<Gs.length by omega),List.getElem?_eq_getElem (show j<Gs.length by omega)] using this
 rcases Nat.lt_or_gt_of_ne hne with g|g
 · exact key i j g hj x hx x hx' rfl
 exact key j i g hi x hx' x hx rfl
theorem C_join {w:World} {α:Type} {t:α→T} {h:α→Value} {G:α→List Nat} {l:List α} {v:Value} {F0:List Nat} (hC:C true w (.sl 1 (l.map fun i=>[.v (h i)])) v F0) (ht:∀ x∈l,C true w (t x) (h x) (G x)):C true w (.sl 1 (l.map fun i=>[t i])) v (F0++if l=[] then [] else l.flatMap G):=by
 simp only [C] at hC ⊢
 obtain⟨a,len,cap,rfl,h2,h3,h4,h5⟩:=hC
 rcases h5 with ⟨h5,rfl,h6⟩|⟨b,off,G0,rfl,rfl,h7,h8,h9⟩
 · have:l=[]:=List.eq_nil_of_length_eq_zero (by rw [List.length_map] at h2;omega)
   subst this
   exact⟨_,_,_,rfl,h2,h3,h4,.inl ⟨h5,rfl,h6⟩⟩
 refine⟨_,_,_,rfl,by simpa using h2,h3,h4,.inr ⟨b,off,l.flatMap G,rfl,?_,h7,h8,Rws_join (h:=h) fun i x hi=>?_⟩⟩
 · obtain⟨hs,Gs,e1,e2,rfl,e4⟩:=Rws_split (ts:=l.map fun i=>T.v (h i)) (by rw [List.map_map];exact h9)
   have:Gs.flatten=[]:=by
    rw [List.flatten_eq_nil_iff]
    intro A hA
    obtain⟨i,hi,rfl⟩:=List.mem_iff_getElem.1 hA
    obtain⟨_,A,g1,g2,g3,g4⟩:=e4 i _ (List.getElem?_eq_getElem (by omega))
    rw [List.getElem?_eq_getElem hi] at g2
    cases g2
    simp [C] at g4
    exact g4.2.1
   rw [this]
   by_cases hl:l=[]
   · subst hl;simp
   simp [hl]
 obtain⟨hs,Gs,e1,e2,_,e4⟩:=Rws_split (ts:=l.map fun i=>T.v (h i)) (by rw [List.map_map];exact h9)
 obtain⟨c,A,g1,g2,g3,g4⟩:=e4 i (.v (h x)) (by simp [hi])
 simp only [C] at g4
 rw [g4.1] at g3
 exact⟨g3,ht x (List.mem_of_getElem? hi)⟩
def KT (K:List (Nat×Obj)) (t:T) (h:Value):Prop:=∀ w,Keeps w K→∃ G,C false w t h G
def rdAll (rest:List V0):List (Bool×V0):=rest.map fun x=>(false,x)
theorem V0c_rdAll {w:World} {FF FF':List Nat} (hs:∀ b∈FF',b∈FF):∀ {rest:List V0} {vs:List Value} {G:List Nat},V0c w FF (rdAll rest) vs G→G=[]∧V0c w FF' (rdAll rest) vs []
 | [],vs,G,⟨h1,h2⟩=>⟨h2,h1,rfl⟩
 | x::r,vs,G,⟨v,vr,G1,G2,e,h1,h2,h3⟩=>by
  simp only [Bool.false_eq_true,if_false] at h3
  obtain⟨rfl,h3⟩:=h3
  obtain⟨rfl,h4⟩:=V0c_rdAll hs (rest:=r) h2
  refine⟨rfl,v,vr,G1,[],e,h1,h4,?_⟩
  simp only [Bool.false_eq_true,if_false]
  exact⟨trivial,fun b hb hf=>h3 b hb (hs b hf)⟩
theorem KT.of {w:World} {K:List (Nat×Obj)} {t:T} {h:Value} {G:List Nat} {o:Bool} (hC:C o w t h G) (hK:∀ b∈G,∃ x,w.heap[b]?=some x∧(b,x)∈K):KT K t h:=fun w' hw=>⟨G,hC.read'.congr fun b hb=>by
 obtain⟨x,h1,h2⟩:=hK b hb
 rw [h1];exact hw _ h2⟩
def blocksOf (w:World) (Gs:List Nat):List (Nat×Obj):=Gs.filterMap fun b=>(w.heap[b]?).map fun x=>(b,x)
theorem blocksOf_mem {w:World} {Gs:List Nat} {b:Nat} {x:Obj}:(b,x)∈blocksOf w Gs↔b∈Gs∧w.heap[b]?=some x:=by
 unfold blocksOf
 rw [List.mem_filterMap]
 constructor
 · rintro⟨c,h1,h2⟩
   rw [Option.map_eq_some_iff] at h2
   obtain⟨y,h3,h4⟩:=h2
   cases h4
   exact⟨h1,h3⟩
 rintro⟨h1,h2⟩
 exact⟨b,h1,by rw [h2];rfl⟩
theorem blocksOf_keeps {w:World} {Gs:List Nat}:Keeps w (blocksOf w Gs):=fun x hx=>(blocksOf_mem (b:=x.1) (x:=x.2)).1 hx |>.2
theorem Good.part {w:World} {H G:List Nat} (h:Good w H) (hs:∀ b∈G,b∈H):Good w G:=h.step (Nat.le_refl _) (fun _ _ _=>rfl) fun b hb=>.inr (hs b hb)
theorem nodup_flatMap {α:Type} {G:α→List Nat}:∀ {l:List α},l.Nodup→(∀ x∈l,(G x).Nodup)→(∀ x∈l,∀ y∈l,x≠y→∀ b∈G x,b∉G y)→(l.flatMap G).Nodup
 | [],_,_,_=>List.nodup_nil
 | x::l,hn,h1,h2=>by
  obtain⟨n1,n2⟩:=List.nodup_cons.1 hn
  rw [List.flatMap_cons]
  refine List.nodup_append.2 ⟨h1 x (by simp),nodup_flatMap n2 (fun y hy=>h1 y (by simp [hy])) (fun y hy z hz=>h2 y (by simp [hy]) z (by simp [hz])),fun b hb c hc e=>?_⟩;subst e
  obtain⟨y,hy,hc⟩:=List.mem_flatMap.1 hc
  exact h2 x (by simp) y (by simp [hy]) (fun e=>n1 (e▸hy)) b hb hc
theorem FnC.lift {f:FuncId} {ts:List T} {L:List Nat} {rest:List V0} (hcl:Callee P f) (hL:L.Nodup) (hLn:∀ i∈L,i<ts.length)
 (h:∀ (hd:Nat→Value) (K:List (Nat×Obj)),(∀ i t,ts[i]?=some t→KT K t (hd i))→FnCk P f K ((true,.one (.sl 1 ((List.range ts.length).map fun i=>[.v (hd i)])))::rdAll rest) (.a (.one (.sl 1 (L.map fun i=>[.v (hd i)]))))) :
 FnC P f ((true,.one (.sl 1 (ts.map fun t=>[t])))::rdAll rest) (.a (.one (.sl 1 (L.map fun i=>[ts.getD i (.v undef)])))):=⟨hcl,fun w vs F hG hv hnd hth=>by
 obtain⟨v,vr,G1,G2,rfl,h1,h2,h3⟩:=hv
 simp only [if_true] at h3
 obtain⟨rfl,h2'⟩:=V0c_rdAll (FF':=F) (fun b hb=>hb) h2
 rw [List.append_nil] at h3
 subst h3
 have h1:C true w (.sl 1 (ts.map fun t=>[t])) v F:=h1
 obtain⟨hd,G,F0,c1,c2,c3,c4,c5,c6,c7⟩:=C_split h1 hnd
 have hlt:∀ b∈F,b<w.heap.size:=h1.lt
 have hK:∀ i t,ts[i]?=some t→KT (blocksOf w ((List.range ts.length).flatMap G)) t (hd i):=fun i t hi=>KT.of (c1 i t hi) fun b hb=>by
  have hil:=(List.getElem?_eq_some_iff.1 hi).1
  exact⟨_,Array.getElem?_eq_getElem (hlt b (c5 i hil b hb).1),blocksOf_mem.2 ⟨List.mem_flatMap.2 ⟨i,by simpa using hil,hb⟩,Array.getElem?_eq_getElem _⟩⟩
 refine ((h hd _ hK).2 w (v::vr) F0 (hG.part c4) ⟨v,vr,F0,[],rfl,c2,(V0c_rdAll c4 h2').2,by simp⟩ c3 (fun b hb=>hth b (c4 b hb)) blocksOf_keeps fun x hx hx'=>?_).mono fun e w' hR=>?_
 · obtain⟨i,hi,hb⟩:=List.mem_flatMap.1 ((blocksOf_mem (b:=x.1) (x:=x.2)).1 hx).1
   exact (c5 i (by simpa using hi) _ hb).2 hx'
 obtain⟨v',F',e1,r1,r2,r3,r4⟩:=hR
 have r1:C true w' (.sl 1 (L.map fun i=>[.v (hd i)])) v' F':=r1
 have hsame:∀ i∈L,∀ b∈G i,w'.heap[b]?=w.heap[b]?:=fun i hi b hb=>r4.block b (hlt b (c5 i (hLn i hi) b hb).1) (c5 i (hLn i hi) b hb).2
 have hj:=C_join (t:=fun i=>ts.getD i (.v undef)) (G:=G) r1 fun i hi=>by
  have hti:ts[i]?=some (ts.getD i (.v undef)):=by rw [List.getD_eq_getElem?_getD,List.getElem?_eq_getElem (hLn i hi)];rfl
  exact (c1 i _ hti).congr (hsame i hi)
 have hflat:(if L=[] then [] else L.flatMap G)=L.flatMap G:=by split<;>simp_all
 rw [hflat] at hj
 have hmem:∀ b∈L.flatMap G,∃ i∈L,b∈G i:=fun b hb=>List.mem_flatMap.1 hb
 refine⟨v',F'++L.flatMap G,e1,hj,List.nodup_append.2 ⟨r2,nodup_flatMap hL (fun i hi=>c6 i (hLn i hi)) (fun i hi j hj hne=>c7 i j (hLn i hi) (hLn j hj) hne),fun b hb c hc ebc=>?_⟩,fun b hb=>?_,⟨r4.os,r4.tape,r4.output,r4.size,fun k hk hn=>r4.block k hk fun hk'=>hn (c4 k hk')⟩⟩
 · subst ebc
   obtain⟨i,hi,hb'⟩:=hmem b hc
   have q:=c5 i (hLn i hi) b hb'
   rcases (r3 b hb).1 with g|g
   · have:=hlt b q.1;omega
   exact q.2 g
 rcases List.mem_append.1 hb with hb|hb
 · exact⟨(r3 b hb).1.imp id (c4 b),(r3 b hb).2⟩
 obtain⟨i,hi,hb'⟩:=hmem b hb
 have q:=c5 i (hLn i hi) b hb'
 obtain⟨cc,ee,o3⟩:=hth b q.1
 exact⟨.inr q.1,cc,ee,(hsame i hi b hb').trans o3⟩⟩
end
end Go.Q
namespace Go.Q
open Go.RowKit
section
variable {P:Program} {ops:Array Oper} {o:Oper} {σ:St} {τ:Type}
def CuOk (w:World) (g:Nat×Value):Prop:=CuB (fun b=>b<w.heap.size∧b≠g.1) w g∧Thaw w g.1
def DPost (w:World) (g:Nat×Value) (p:τ→Prop) (out:τ→V) (e:Ending) (w':World):Prop:=
 ∃ x v F,e=.returned v∧p x∧Vr true w' (out x) v F∧F.Nodup∧(∀ b∈F,w.heap.size≤b∧Thaw w' b)∧Chg w w' [g.1]∧CuOk w' g
def FnD (P:Program) (f:FuncId) (ins:List V0) (p:τ→Prop) (out:τ→V):Prop:=
 Callee P f∧∀ w g vs F,Good w [g.1]→CuOk w g→V0s false w ins vs F→g.1∉F→Calls P f (List.toArray (.pointer (some ⟨g.1,0,none⟩)::vs)) w (DPost w g p out)
def FnE (P:Program) (f:FuncId) (ins:List V0) (p:τ→Prop) (out:τ→V):Prop:=
 Callee P f∧∀ w vs F,Good w []→V0s false w ins vs F→Calls P f (List.toArray vs) w fun e w'=>∃ x,p x∧FnPost w (out x) e w'
def FnN (P:Program) (f:FuncId):Prop:=
 Callee P f∧∀ w v F bs,Good w []→C false w (.sl 1 (byR bs)) v F→(∀ n∈bs,0≤n∧n<256)→Calls P f #[v] w fun e w'=>∃ g i h t,e=.returned (.pointer (some ⟨g,0,none⟩))∧w.heap.size≤g∧Thaw w' g∧w'.heap[g]?=some (.cells #[v,.int .i64 i,.int .i64 h] t (0,0))∧0≤i∧Ext w w'
theorem setR_same:∀ (l:List (Nat×R)) (u:Nat) (r:R),look l u=some r→setR l u r=l
 | [],_,_,h=>by cases h
 | (j,y)::l,u,r,h=>by
  rw [look_cons] at h
  rw [setR]
  by_cases e:j=u
  · subst e;rw [if_pos rfl] at h;cases h;simp [Nat.beq_refl]
  rw [if_neg e] at h
  rw [beq_false e,cond_false,setR_same l u r h]
theorem V0s.c {w:World} {FF:List Nat}:∀ {ins:List V0} {vs:List Value} {F:List Nat},V0s false w ins vs F→(∀ b∈F,b∉FF)→V0c w FF (ins.map fun x=>(false,x)) vs []
 | [],vs,F,⟨h,_⟩,_=>⟨h,rfl⟩
 | x::r,vs,F,⟨v,vr,G1,G2,h1,h2,h3,h4⟩,hF=>by
  subst h4
  exact⟨v,vr,G1,[],h1,h2,h3.c fun b hb=>hF b (by simp [hb]),by simpa using fun b hb=>hF b (by simp [hb])⟩
def DRes (P:Program) (fn:Func) (g:Nat×Value) (p:τ→Prop) (out:τ→V) (σ:St):Prop:=∃ x,p x∧look σ.res 888888=some (.cur g)∧Res P fn true (out x) ⟨σ.n,σ.slots,delR σ.res 888888⟩
def RetD (P:Program) (fn:Func) (g:Nat×Value) (p:τ→Prop) (out:τ→V):Exit→St→Prop
 | .normal,σ=>DRes P fn g p out σ
 | .ret,σ=>DRes P fn g p out σ
 | _,_=>False
def RetE (P:Program) (fn:Func) (p:τ→Prop) (out:τ→V):Exit→St→Prop
 | .normal,σ=>∃ x,p x∧Res P fn true (out x) σ
 | .ret,σ=>∃ x,p x∧Res P fn true (out x) σ
 | _,_=>False
theorem DRes.mk {fn:Func} {g:Nat×Value} {p:τ→Prop} {out:τ→V} {σ:St} {x:τ} (hc:look σ.res 888888=some (.cur g)) (h:Res P fn true (out x) ⟨σ.n,σ.slots,delR σ.res 888888⟩) (hp:p x):DRes P fn g p out σ:=⟨x,hp,hc,h⟩
theorem ERes.mk {fn:Func} {p:τ→Prop} {out:τ→V} {σ:St} {x:τ} (h:Res P fn true (out x) σ) (hp:p x):∃ x,p x∧Res P fn true (out x) σ:=⟨x,hp,h⟩
theorem FnE.walk {n:Nat} {f:FuncId} {fn:Func} {c:Code} {ins:List V0} {p:τ→Prop} {out:τ→V} (hf:P.funcs[f]?=some fn) (hb:fn.body=some c) (hname:(fn.name == "runtime.NumGoroutine")=false) (hnt:fn.ntmps=n) (hn:Nat.ble ins.length n=true)
 (h:∀ w0,AW P w0 c (RetE P fn p out) (st0 n ins)):FnE P f ins p out:=by
 subst hnt
 refine⟨⟨fn,hf,hname,by rw [hb];rfl⟩,fun w vs F hG hv=>?_⟩
 refine calls_of_wp hf hb (Code.wp_mono ?_ (h ⟨w,[],hG⟩ _ _ (rel0 hG hv hn)))
 rintro e a' w' ⟨σ,h1,I,hI⟩
 have key:(∃ x,p x∧Res P fn true (out x) σ)→a'.defers=[]∧∃ v,(results fn a'.tmps).run P w'=.ok v w'∧∃ x,p x∧FnPost w (out x) (.returned v) w':=fun ⟨x,hp,h1⟩=>by
  obtain⟨v,F,g1,g2,g3⟩:=h1 I ⟨w,[],hG⟩ a' w' hI
  exact⟨hI.defers,v,g1,x,hp,v,F,rfl,g2,(g3.2 rfl).1,fun b hb=>⟨(g3.1 b hb).resolve_right (by simp),(g3.2 rfl).2 b hb⟩,hI.ext.toExt⟩
 cases e with
 | normal=>exact key h1
 | ret=>exact key h1
 | exit id=>exact h1.elim
 | goto l=>exact h1.elim
 | panic c=>exact h1.elim
 | outgrown=>exact h1.elim
theorem trunc_get {α:Type} (l:Array α) (n k:Nat) (h:n≤l.size) (hk:k<n):(l.extract 0 n)[k]?=l[k]?:=by
 rw [Array.getElem?_extract]
 simp
 omega
theorem FnD.walk {n:Nat} {f:FuncId} {fn:Func} {c:Code} {ins:List V0} {p:τ→Prop} {out:τ→V} {σ':Nat×Value→St} (hf:P.funcs[f]?=some fn) (hb:fn.body=some c) (hname:(fn.name == "runtime.NumGoroutine")=false) (hnt:fn.ntmps=n) (hn:Nat.ble (ins.length+1) n=true)
 (hi:∀ g,initC 1 (ins.map fun x=>(false,x)) ⟨n,[(0,(true,.a (.one (.pp 888888 0))))],[(888888,.cur g)]⟩=some (σ' g)) (h:∀ w0 g,AW P w0 c (RetD P fn g p out) (σ' g)):FnD P f ins p out:=by
 subst hnt
 refine⟨⟨fn,hf,hname,by rw [hb];rfl⟩,fun w g vs F hG hC hv hgF=>?_⟩
 have hv':=hv.c (FF:=[g.1]) fun b hb hm=>hgF (by simp only [List.mem_singleton] at hm;rwa [←hm])
 have hl:vs.length=ins.length:=by simpa using hv'.len
 have hn':ins.length+1≤fn.ntmps:=Nat.le_of_ble_eq_true hn
 have hglt:g.1<w.heap.size:=hC.1.lt
 let a0:Act:=⟨(List.toArray (.pointer (some ⟨g.1,0,none⟩)::vs))++Array.replicate (fn.ntmps-(List.toArray (Value.pointer (some ⟨g.1,0,none⟩)::vs)).size) undef,[]⟩
 let I0:Ip:=⟨fun b=>b<w.heap.size∧b≠g.1,fun i=>if i=888888 then [g.1] else [],fun _=>undef,fun i=>if i=888888 then g.1 else 0⟩
 have hget:∀ (j:Nat) v,(Value.pointer (some ⟨g.1,0,none⟩)::vs)[j]?=some v→a0.tmps.getD j undef=v:=fun j v hj=>by
  have hjl:=(List.getElem?_eq_some_iff.1 hj).1
  simp only [a0]
  rw [Array.getD_eq_getD_getElem?,Array.getElem?_append_left (by simpa using hjl)]
  have:(List.toArray (Value.pointer (some ⟨g.1,0,none⟩)::vs))[j]?=some v:=by simpa using hj
  rw [this];rfl
 have hr0:RelI I0 ⟨w,[g.1],hG⟩ ⟨fn.ntmps,[(0,(true,.a (.one (.pp 888888 0))))],[(888888,.cur g)]⟩ a0 w:=by
  have key:∀ i r,look [(888888,R.cur g)] i=some r→i=888888∧r=.cur g:=fun i r hi=>by
   rw [look_cons] at hi
   split at hi
   · rename_i e;cases hi;exact⟨e.symm,rfl⟩
   cases hi
  refine⟨Chg.refl w [g.1],rfl,by simp [a0,hl];omega,fun i z hi=>?_,fun id r hi=>?_,fun b hb=>hb.1,fun id b hb=>?_,fun id r hi=>?_,fun i j hne b hb hb'=>?_⟩
  · rw [look_cons] at hi
    split at hi
    · rename_i e
      subst e;cases hi;exact hget 0 _ rfl
    cases hi
  · obtain⟨rfl,rfl⟩:=key id r hi
    exact⟨rfl,rfl,hC.1⟩
  · simp only [I0] at hb ⊢
    split at hb
    · simp only [List.mem_singleton] at hb;subst hb;exact⟨hglt,fun h=>h.2 rfl⟩
    cases hb
  · obtain⟨rfl,rfl⟩:=key id r hi
    refine⟨by simp [I0],fun b hb=>?_⟩
    have:b=g.1:=by simpa [I0] using hb
    subst this
    exact⟨.inr (by simp),hC.2⟩
  simp only [I0] at hb hb'
  split at hb
  · split at hb'
    · omega
    cases hb'
  cases hb
 obtain⟨I1,r1⟩:=initC_ok (FF:=[g.1]) (fun _ _ _=>trivial) (hi g) hr0 (fun b h1 h2=>⟨h1,fun e=>h2 (by simp [e])⟩) hv' (by simp) (fun b hb=>by cases hb) fun j v hj=>hget (1+j) v (by rw [Nat.add_comm];simpa using hj)
 refine calls_of_wp hf hb (Code.wp_mono ?_ (h ⟨w,[g.1],hG⟩ g _ _ ⟨I1,r1⟩))
 rintro e a' w' ⟨σ1,h1,I,hI⟩
 have key:DRes P fn g p out σ1→a'.defers=[]∧∃ v,(results fn a'.tmps).run P w'=.ok v w'∧DPost w g p out (.returned v) w':=fun ⟨x,hp,hcur,h1⟩=>by
  obtain⟨hF,hB,hcu⟩:I.F 888888=[g.1]∧I.B 888888=g.1∧CuB I.Z w' g:=hI.res _ _ hcur
  have hsz:w.heap.size≤w'.heap.size:=hI.ext.size
  let W:World:={ w' with heap:=w'.heap.extract 0 w.heap.size }
  have hW:W.heap.size=w.heap.size:=by simp [W];omega
  have hWk:∀ k,k<w.heap.size→W.heap[k]?=w'.heap[k]?:=fun k hk=>trunc_get _ _ _ hsz hk
  have hGW:Good W []:=hG.step (Nat.le_of_eq hW.symm) (fun k hk hn=>(hWk k hk).trans (hI.ext.block k hk hn)) fun b hb=>by cases hb
  have hI2:RelI I ⟨W,[],hGW⟩ ⟨σ1.n,σ1.slots,delR σ1.res 888888⟩ a' w':=by
   refine⟨⟨rfl,rfl,rfl,by rw [hW];exact hsz,fun k hk _=>?_⟩,hI.defers,hI.size,hI.slots,fun id r hr=>hI.res id r (look_delR _ _ _ _ hr).2,hI.old,hI.lt,fun id r hr=>?_,hI.apart⟩
   · rw [hW] at hk;exact (hWk k hk).symm
   obtain⟨e1,e2⟩:=look_delR _ _ _ _ hr
   refine⟨(hI.own id r e2).1,fun b hb=>⟨?_,((hI.own id r e2).2 b hb).2⟩⟩
   rcases ((hI.own id r e2).2 b hb).1 with h|h
   · left;show W.heap.size≤b;rw [hW];exact h
   exfalso
   have:b=g.1:=by simpa using h
   subst this;exact hI.apart id 888888 e1 _ hb (by rw [hF];simp)
  obtain⟨v,F,g1,g2,g3⟩:=h1 I ⟨W,[],hGW⟩ a' w' hI2
  refine⟨hI.defers,v,g1,x,v,F,rfl,hp,g2,(g3.2 rfl).1,fun b hb=>⟨?_,(g3.2 rfl).2 b hb⟩,hI.ext,?_,?_⟩
  · have:=(g3.1 b hb).resolve_right (by simp)
    rwa [show (Base.W ⟨W,[],hGW⟩).heap.size=w.heap.size from hW] at this
  · refine hcu.congr rfl fun b _ hz=>⟨⟨hI.old b hz,fun e=>?_⟩,rfl⟩
    subst e;exact (hI.lt 888888 _ (by rw [hF];simp)).2 hz
  exact ((hI.own 888888 _ hcur).2 g.1 (by rw [hF];simp)).2
 cases e with
 | normal=>exact key h1
 | ret=>exact key h1
 | exit id=>exact h1.elim
 | goto l=>exact h1.elim
 | panic c=>exact h1.elim
 | outgrown=>exact h1.elim
def readD (u:Nat) (σ:St):E→Option T
 | .t x=>some x
 | .vw id x=>bif Nat.beq id u then none else some x
 | .rf id=>match look σ.res id with|some (.row k rows)=>some (.sl k rows)|_=>none
 | _=>none
def readDA (u:Nat) (σ:St):A→Option V0
 | .one e=>match readD u σ e with|some t=>some (.one t)|none=>none
 | .agg l=>match mapO (readD u σ) l with|some ts=>some (.agg ts)|none=>none
inductive ArgsD (σ:St) (u:Nat) (q:Bool):List Operand→List V0→Prop where
 | nil:ArgsD σ u q [] []
 | cons {x:Operand} {A0:A} {v:V0} {l:List Operand} {vs:List V0} (hx:Get σ q x A0) (hv:readDA u σ A0=some v) (h:ArgsD σ u q l vs):ArgsD σ u q (x::l) (v::vs)
section
variable {I:Ip} {w0:Base} {w:World} {a:Act} {u:Nat} {g:Nat×Value}
theorem readD_ok (hr:RelI I w0 σ a w) (hu:look σ.res u=some (.cur g)) {e:E} {t:T} {c:Value} (h:readD u σ e=some t) (hv:VE I w e c):∃ G,C false w t c G∧∀ b∈G,b∉I.F u:=by
 cases e with
 | t x=>cases h;obtain⟨G,h1,h2⟩:=hv;exact⟨G,h1,fun b hb hm=>(hr.lt u b hm).2 (h2 b hb)⟩
 | vw id x=>
  rw [readD] at h
  cases hb:Nat.beq id u with
  | true=>rw [hb] at h;cases h
  | false=>
   rw [hb] at h;cases h
   obtain⟨G,h1,h2⟩:=hv
   exact⟨G,h1,fun b hb'=>hr.apart id u (beq_ne hb) b (h2 b hb')⟩
 | rf id=>
  rw [readD] at h
  split at h
  · rename_i k rows h0
    cases h
    have hc:c=I.hd id:=hv.1
    have hne:id≠u:=fun e=>by subst e;rw [hu] at h0;cases h0
    rw [hc];exact⟨_,C.read (show C true w (.sl k rows) _ _ from hr.res id _ h0),hr.apart id u hne⟩
  cases h
 | pp id off=>cases h
 | pr id k i j=>cases h
 | sb id k i j=>cases h
 | tl id k j=>cases h
 | pf id k j=>cases h
 | no=>cases h
theorem mapD_ok (hr:RelI I w0 σ a w) (hu:look σ.res u=some (.cur g)):∀ {l:List E} {ts:List T} {cs:List Value},mapO (readD u σ) l=some ts→VEs I w l cs→∃ G,Cs false w ts cs G∧∀ b∈G,b∉I.F u
 | [],ts,cs,h,hv=>by cases h;exact⟨[],by unfold Cs;exact⟨hv,rfl⟩,fun _ hb=>by cases hb⟩
 | e::r,ts,cs,h,hv=>by
  obtain⟨c,cr,rfl,h1,h2⟩:=hv
  rw [mapO] at h
  split at h
  · rename_i t e1
    split at h
    · rename_i ts' e2
      cases h
      obtain⟨G1,g1,k1⟩:=readD_ok hr hu e1 h1
      obtain⟨G2,g2,k2⟩:=mapD_ok hr hu e2 h2
      exact⟨G1++G2,by unfold Cs;exact⟨c,cr,G1,G2,rfl,g1,g2,rfl⟩,fun b hb=>(List.mem_append.1 hb).elim (k1 b) (k2 b)⟩
    cases h
  cases h
theorem readDA_ok (hr:RelI I w0 σ a w) (hu:look σ.res u=some (.cur g)) {x:A} {t:V0} {v:Value} (h:readDA u σ x=some t) (hv:VA I w x v):∃ G,V0r false w t v G∧∀ b∈G,b∉I.F u:=by
 cases x with
 | one e=>
  rw [readDA] at h
  split at h
  · rename_i t' h1;cases h;exact readD_ok hr hu h1 hv
  cases h
 | agg l=>
  rw [readDA] at h
  split at h
  · rename_i ts h1;cases h
    obtain⟨cs,h2,h3⟩:=hv
    obtain⟨G,h4,h5⟩:=mapD_ok hr hu h1 h3
    exact⟨G,⟨cs,h2,h4⟩,h5⟩
  cases h
theorem ArgsD.ok {l:List Operand} {ins:List V0} (h:ArgsD σ u true l ins) (hr:RelI I w0 σ a w) (hu:look σ.res u=some (.cur g)):∃ F,V0s false w ins (l.map a.eval) F∧∀ b∈F,b∉I.F u:=by
 induction h with
 | nil=>exact⟨[],⟨rfl,rfl⟩,fun _ hb=>by cases hb⟩
 | cons hx hv h ih=>
  obtain⟨F,ih,k1⟩:=ih
  obtain⟨G,hg,k2⟩:=readDA_ok hr hu hv (hx.va hr rfl)
  exact⟨G++F,⟨_,_,G,F,rfl,hg,ih,rfl⟩,fun b hb=>(List.mem_append.1 hb).elim (k2 b) (k1 b)⟩
theorem RelI.moved (hr:RelI I w0 σ a w) (hu:look σ.res u=some (.cur g)) (hn:nvB u σ.slots σ.res=true) {w':World} (hc:Chg w w' [g.1]) (hg:CuOk w' g) (hZ:∀ b,I.Z b→b≠g.1) (hcu:CuB I.Z w' g):∃ I',RelI I' w0 σ a w'∧I'.Z=I.Z∧I'.F=I.F:=by
 obtain⟨hF,hB,_⟩:I.F u=[g.1]∧I.B u=g.1∧CuB I.Z w g:=hr.res _ _ hu
 have h:=hr.upd (w':=w') hu (by rw [hF];exact hc) (G:=[g.1]) (r:=.cur g) ⟨by simp,fun b hb=>?_⟩ ⟨by simp [Ip.set],by simp [Ip.set,hB],hcu⟩
 · rw [upd_nv hn,setR_same _ _ _ hu] at h
   refine⟨_,h,rfl,?_⟩
   funext i
   simp only [Ip.set]
   split
   · rename_i e;rw [e,hF]
   rfl
 simp only [List.mem_singleton] at hb
 subst hb
 exact⟨((hr.own u _ hu).2 _ (by rw [hF];simp)).1,hcu.lt,hg.2,.inl (by rw [hF];simp)⟩
end
theorem R_calldG {f:FuncId} {x:Operand} {l:List Operand} {tys:Array TypeId} {ins:List V0} {p:τ→Prop} {out:τ→V} {g:Nat×Value} {u:Nat} {y:τ→S} {rs:τ→List (Nat×R)} (n:Nat) (h:FnD P f ins p out) (ho:o.op=.call { callee:=.value (.func f),args:=(x::l).toArray,argTypes:=tys }) (hg:Grd ops o σ true) (hd:o.dst.all (fun d=>Nat.blt d σ.n)=true)
 (hx:Get σ true x (.one (.pp u 0))) (hu:look σ.res u=some (.cur g)) (hn:nvB u σ.slots σ.res=true) (ha:ArgsD σ u true l ins) (hout:∀ z,outV n (out z)=some (y z,rs z)) (hf:∀ z,((rs z).all fun x=>!σ.has x.1)=true):OpE P ops o σ fun σ'=>∃ z,p z∧σ'=(σ.adds (rs z)).put o.dst (true,y z):=by
 rintro w0 a w ⟨I,hr⟩ K Q hK
 rw [hg.wanted hr]
 simp only [if_true]
 obtain⟨hF,hB,hcu⟩:I.F u=[g.1]∧I.B u=g.1∧CuB I.Z w g:=hr.res _ _ hu
 obtain⟨F,hV,hap⟩:=ha.ok hr hu
 have hv:a.eval x=.pointer (some ⟨g.1,0,none⟩):=by
  have:a.eval x=.pointer (some ⟨I.B u,0,none⟩):=hx.va hr rfl
  rw [this,hB]
 have hZg:∀ b,I.Z b→b≠g.1:=fun b hz e=>by subst e;exact (hr.lt u _ (by rw [hF];simp)).2 hz
 have hgo:=(hr.own u _ hu).2 g.1 (by rw [hF];simp)
 have hok:CuOk w g:=⟨hcu.congr rfl fun b _ hz=>⟨⟨hr.old b hz,hZg b hz⟩,rfl⟩,hgo.2⟩
 have hgood:Good w [g.1]:=hr.goodF fun b hb=>by simp only [List.mem_singleton] at hb;subst hb;exact hgo.1
 unfold Oper.wp
 rw [run_enter h.1 ho,List.map_cons,hv]
 refine (h.2 w g _ F hgood hok hV (fun hm=>hap g.1 hm (by rw [hF];simp))).mono fun e w' hR=>?_
 obtain⟨z,v,G,rfl,hp,h1,h2,h3,h4,h5⟩:=hR
 have hsize:=h4.size
 have hcu':CuB I.Z w' g:=by
  obtain⟨i,m,t,G0,bs,k1,k2,k3,k4,k5⟩:=hcu
  obtain⟨i',m',t',G0',bs',j1,j2,j3,j4,j5⟩:=h5.1
  exact⟨i',m',t',G0,bs,j1,k2.congr fun b hb=>h4.block b (k2.lt b hb) (by simpa using hZg b (k3 b hb)),k3,j4,k5⟩
 obtain⟨I',hr',hZ',hF'⟩:=hr.moved hu hn h4 h5 hZg hcu'
 obtain⟨I2,g1,g2⟩:=outV_ok (hout z) (hf z) hr' h1 h2 fun b hb=>⟨.inl (Nat.le_trans hr.ext.size (h3 b hb).1),(Vr.lt h1 b hb),(h3 b hb).2,fun hz=>by rw [hZ'] at hz;have:=hr.old b hz;have:=(h3 b hb).1;omega,fun i hi=>by rw [hF'] at hi;have:=(hr.lt i b hi).1;have:=(h3 b hb).1;omega⟩
 refine hK _ _ _ ⟨z,hp,rfl⟩ ⟨I2,g1.put ?_ g2⟩
 have:(σ.adds (rs z)).n=σ.n:=adds_n (rs z)
 rw [this];exact hd
theorem Bj {f:FuncId} {x:Operand} {l:List Operand} {tys:Array TypeId} {ins:List V0} {p:τ→Prop} {out:τ→V} {g:Nat×Value} {u:Nat} {y:τ→S} {rs:τ→List (Nat×R)} (n:Nat) (h:FnD P f ins p out) (ho:o.op=.call { callee:=.value (.func f),args:=(x::l).toArray,argTypes:=tys }) (hg:o.guard=none) (hd:o.dst.all (fun d=>Nat.blt d σ.n)=true)
 (hx:Get σ true x (.one (.pp u 0))) (hu:look σ.res u=some (.cur g)) (hn:nvB u σ.slots σ.res=true) (ha:ArgsD σ u true l ins) (hout:∀ z,outV n (out z)=some (y z,rs z)) (hf:∀ z,((rs z).all fun x=>!σ.has x.1)=true):OpE P ops o σ fun σ'=>∃ z,p z∧σ'=(σ.adds (rs z)).put o.dst (true,y z):=
 R_calldG n h ho (.no hg) hd hx hu hn ha hout hf
theorem R_calldq [Inhabited τ] {q:Bool} {f:FuncId} {x:Operand} {l:List Operand} {tys:Array TypeId} {ins:List V0} {p:τ→Prop} {out:τ→V} {g:Nat×Value} {u:Nat} {y:τ→S} (n:Nat) (h:FnD P f ins p out) (ho:o.op=.call { callee:=.value (.func f),args:=(x::l).toArray,argTypes:=tys }) (hg:Grd ops o σ q) (hd:o.dst.all (fun d=>Nat.blt d σ.n)=true)
 (hx:Get σ q x (.one (.pp u 0))) (hu:look σ.res u=some (.cur g)) (hn:nvB u σ.slots σ.res=true) (ha:ArgsD σ u q l ins) (hout:∀ z,outV n (out z)=some (y z,[])):OpE P ops o σ fun σ'=>∃ z,(q=true→p z)∧σ'=σ.put o.dst (q,y z):=by
 cases q with
 | true=>
  intro w0 a w hr K Q hK;refine R_calldG (rs:=fun _=>[]) n h ho hg hd hx hu hn ha hout (fun _=>rfl) w0 a w hr K Q fun σ' a' w' ⟨z,hz,e⟩ hr'=>hK σ' a' w' ⟨z,fun _=>hz,e⟩ hr'
 | false=>
  rintro w0 a w ⟨I,hr⟩ K Q hK
  rw [hg.wanted hr]
  exact hK _ _ _ ⟨default,fun h=>(by cases h),rfl⟩ ⟨I,hr.put hd rfl⟩
theorem R_calln {f:FuncId} {x:Operand} {tys:Array TypeId} {bs:List Int} (u:Nat) (h:FnN P f) (ho:o.op=.call { callee:=.value (.func f),args:=[x].toArray,argTypes:=tys }) (hg:o.guard=none) (hd:o.dst.all (fun d=>Nat.blt d σ.n)=true)
 (hx:Get σ true x (.one (.t (.sl 1 (byR bs))))) (hb:∀ n∈bs,0≤n∧n<256) (hf:σ.has u=false):OpE P ops o σ fun σ'=>∃ g,σ'=(σ.add u (.cur g)).put o.dst (true,.a (.one (.pp u 0))):=by
 rintro w0 a w ⟨I,hr⟩ K Q hK
 simp only [Region.wanted,hg,if_true]
 obtain⟨G,hC,hZ⟩:VE I w (.t (.sl 1 (byR bs))) (a.eval x):=hx.va hr rfl
 unfold Oper.wp
 rw [run_enter h.1 ho]
 refine (h.2 w _ G bs hr.good hC hb).mono fun e w' hR=>?_
 obtain⟨g,i,m,t,rfl,h1,h2,h3,h4,h5⟩:=hR
 have hlt:g<w'.heap.size:=(Array.getElem?_eq_some_iff.1 h3).1
 have hr':=hr.add (id:=u) hf h5 (G:=[g]) (u:=undef) (b:=g) (r:=.cur (g,a.eval x)) ⟨by simp,fun b hb=>by simp only [List.mem_singleton] at hb;subst hb;exact⟨h1,hlt,h2⟩⟩
  ⟨by simp [Ip.set],by simp [Ip.set],i,m,t,G,bs,h3,hC.mono h5,hZ,h4,hb⟩
 exact hK _ _ _ ⟨(g,a.eval x),rfl⟩ ⟨_,hr'.put hd (by show Value.pointer _=Value.pointer _;simp [Ip.set])⟩
end
end Go.Q
