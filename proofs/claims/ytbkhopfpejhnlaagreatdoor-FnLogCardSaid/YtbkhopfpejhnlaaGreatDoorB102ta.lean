import Derived.Test.YtbkhopfpejhnlaaGreatDoorB39ta
import Derived.Test.YtbkhopfpejhnlaaGreatDoorAbs16ta
import Derived.WideLaws
import Derived.Test.YtbkhopfpejhnlaaGreatDoorB18ta
import Derived.Test.YtbkhopfpejhnlaaGreatDoorTabta
import Derived.Test.YtbkhopfpejhnlaaGreatDoorAbsQta
import Derived.Shelf.RegionOpenPlain
import Derived.Lib.Overlaps
import Derived.Lib.AppendZeros
import Derived.Lib.AppendZerosOnto
import Derived.Lib.SliceRun
import Derived.Laws.Externs
set_option linter.unusedVariables false
set_option linter.unusedSimpArgs false
set_option maxHeartbeats 1000000
set_option maxRecDepth 100000
namespace Go.Q
open Go.D
end Go.Q
namespace Go.Proofs.YtbkhopfpejhnlaaGreatDoor
open Go.RowKit Go.Q Go.D
end Go.Proofs.YtbkhopfpejhnlaaGreatDoor
set_option maxHeartbeats 1000000
set_option maxRecDepth 100000
namespace Go.Q
open Go.D
theorem findI_two {α : Type} (p : α → Bool) : ∀ (l : List α) (m : Nat), (findI p l m = -1 ∧ ∀ x ∈ l, p x = false) ∨ ∃ (k : Nat) (x : α), l[k]? = some x ∧ p x = true ∧ findI p l m = ((m + k : Nat) : Int) ∧ ∀ y ∈ l.take k, p y = false
 | [], m => .inl ⟨rfl, by simp⟩
 | z :: l, m => by
  rw [findI]
  cases hz : p z with
  | true => exact .inr ⟨0, z, rfl, hz, by simp, by simp⟩
  | false =>
   rw [if_neg (by simp)]
   rcases findI_two p l (m + 1) with ⟨h1, h2⟩ | ⟨k, x, h1, h2, h3, h4⟩
   · refine .inl ⟨h1, fun x hx => ?_⟩
     rcases List.mem_cons.1 hx with rfl | hx
     · exact hz
     · exact h2 x hx
   · refine .inr ⟨k + 1, x, by simpa using h1, h2, by rw [h3]; omega, fun y hy => ?_⟩
     rw [List.take_succ_cons] at hy
     rcases List.mem_cons.1 hy with rfl | hy
     · exact hz
     · exact h4 y hy
def insAt (l : List TEdge) (e : TEdge) : Nat := (l.takeWhile fun x => decide (x.ID < e.ID)).length
theorem insAt_le (l : List TEdge) (e : TEdge) : insAt l e ≤ l.length := (List.takeWhile_prefix _).length_le
theorem insAt_lt {l : List TEdge} {e : TEdge} {k : Nat} {x : TEdge} (hk : k < insAt l e) (hx : l[k]? = some x) : x.ID < e.ID := by
 have hp := List.takeWhile_prefix (p := fun x : TEdge => decide (x.ID < e.ID)) (l := l)
 have h1 : (l.takeWhile fun x => decide (x.ID < e.ID))[k]? = some x := by
  rw [List.prefix_iff_getElem?] at hp
  have := hp k hk
  rw [← hx, this]; exact List.getElem?_eq_getElem hk
 have h2 := List.all_eq_true.1 (List.all_takeWhile (p := fun x : TEdge => decide (x.ID < e.ID)) (l := l)) x (List.mem_of_getElem? h1)
 simpa using h2
theorem insAt_eq : ∀ {l : List TEdge} {e : TEdge} {k : Nat}, k ≤ l.length → (∀ j x, j < k → l[j]? = some x → x.ID < e.ID) → (∀ x, l[k]? = some x → ¬ x.ID < e.ID) → insAt l e = k
 | [], e, k, hk, _, _ => by simp at hk; subst hk; rfl
 | y :: l, e, 0, _, _, h => by
  have := h y rfl
  unfold insAt
  rw [List.takeWhile_cons, if_neg (by simpa using this)]; rfl
 | y :: l, e, k + 1, hk, h1, h2 => by
  have h0 := h1 0 y (by omega) rfl
  have ih := insAt_eq (l := l) (e := e) (k := k) (by simp at hk; omega) (fun j x hj hx => h1 (j + 1) x (by omega) (by simpa using hx)) (fun x hx => h2 x (by simpa using hx))
  unfold insAt at ih ⊢
  rw [List.takeWhile_cons, if_pos (by simpa using h0), List.length_cons, ih]
theorem insAt_ge {l : List TEdge} {e : TEdge} {x : TEdge} (hx : l[insAt l e]? = some x) : ¬ x.ID < e.ID := by
 have h1 := List.getElem?_eq_some_iff.1 hx
 have h2 : l = (l.takeWhile fun x => decide (x.ID < e.ID)) ++ l.dropWhile fun x => decide (x.ID < e.ID) := (List.takeWhile_append_dropWhile).symm
 rw [h2, List.getElem?_append_right (by unfold insAt; rw [← h2]; exact Nat.le_refl _)] at hx
 rw [← h2] at hx
 have e0 : insAt l e - (l.takeWhile fun x => decide (x.ID < e.ID)).length = 0 := by unfold insAt; omega
 rw [e0] at hx
 cases hd : l.dropWhile fun x => decide (x.ID < e.ID) with
 | nil => rw [hd] at hx; cases hx
 | cons z r =>
  rw [hd] at hx
  simp at hx
  subst hx
  have := List.head?_dropWhile_not (fun x : TEdge => decide (x.ID < e.ID)) l
  rw [hd] at this
  simpa using this
def insL (l : List TEdge) (e : TEdge) : List TEdge := l.take (insAt l e) ++ e :: l.drop (insAt l e)
def insOk (g : TGraph) (e : TEdge) : Bool := validG g && edgeOk e g.Values.length && decide (edgeIndex g e.ID < 0) && !decide (g.Edges.length = 12)
def insG (g : TGraph) (e : TEdge) : TGraph × Bool := if insOk g e = true then (⟨g.Values, insL g.Edges e⟩, true) else (g, false)
theorem insL_get {l : List TEdge} {e : TEdge} {k : Nat} : (insL l e)[k]? = if k < insAt l e then l[k]? else if k = insAt l e then some e else l[k - 1]? := by
 have hle := insAt_le l e
 unfold insL
 by_cases h : k < insAt l e
 · rw [if_pos h, List.getElem?_append_left (by rw [List.length_take]; omega), List.getElem?_take, if_pos h]
 · rw [if_neg h, List.getElem?_append_right (by rw [List.length_take]; omega), List.length_take, show min (insAt l e) l.length = insAt l e by omega]
   by_cases h2 : k = insAt l e
   · rw [if_pos h2, h2]; simp
   · rw [if_neg h2, show k - insAt l e = (k - 1 - insAt l e) + 1 by omega, List.getElem?_cons_succ, List.getElem?_drop]
     congr 1; omega
theorem insL_len (l : List TEdge) (e : TEdge) : (insL l e).length = l.length + 1 := by
 have hle := insAt_le l e
 unfold insL
 rw [List.length_append, List.length_cons, List.length_take, List.length_drop]; omega
theorem idx_none {g : TGraph} {id : Int} (h : edgeIndex g id < 0) {x : TEdge} (hx : x ∈ g.Edges) : x.ID ≠ id := by
 unfold edgeIndex at h
 rcases findI_two (fun e : TEdge => decide (e.ID = id)) g.Edges 0 with ⟨_, h2⟩ | ⟨k, _, _, _, h3, _⟩
 · simpa using h2 x hx
 · rw [h3] at h; omega
theorem insG_valid {g : TGraph} {e : TEdge} (h : (insG g e).2 = true) : validG (insG g e).1 = true ∧ (insG g e).1.Values = g.Values ∧ validG g = true := by
 unfold insG at *
 split at h
 · rename_i hc
   rw [if_pos hc]
   unfold insOk at hc
   simp only [Bool.and_eq_true, decide_eq_true_eq, Bool.not_eq_true', decide_eq_false_iff_not] at hc
   obtain ⟨⟨⟨hg, he⟩, hi⟩, h12⟩ := hc
   refine ⟨?_, rfl, hg⟩
   have hri := rise_all (validG_rise hg)
   have hg' := hg
   unfold validG at hg' ⊢
   simp only [Bool.and_eq_true, decide_eq_true_eq] at hg' ⊢
   have hle := insAt_le g.Edges e
   refine ⟨⟨hg'.1.1, List.all_eq_true.2 fun k hk => ?_⟩, hg'.2.1, by rw [insL_len]; omega⟩
   have hk := List.mem_range.1 hk
   rw [insL_len] at hk
   have hlook : ∀ q y, g.Edges[q]? = some y → edgeOk y (g.Values.length : Int) = true := fun q y hy => by
    have := List.all_eq_true.1 hg'.1.2 q (List.mem_range.2 (List.getElem?_eq_some_iff.1 hy).1)
    unfold edgeAt at this
    rw [hy] at this
    simp only [Bool.and_eq_true] at this
    exact this.1
   unfold edgeAt
   simp only [insL_get]
   by_cases h1 : k < insAt g.Edges e
   · rw [if_pos h1, List.getElem?_eq_getElem (show k < g.Edges.length by omega)]
     simp only [Bool.and_eq_true, Bool.not_eq_true', Bool.and_eq_false_iff, decide_eq_false_iff_not]
     refine ⟨hlook k _ (List.getElem?_eq_getElem _), ?_⟩
     by_cases h0 : k = 0
     · exact .inl (by omega)
     · rw [if_pos (by omega), List.getElem?_eq_getElem (show k - 1 < g.Edges.length by omega), Option.getD_some]
       have := hri 0 (k - 1) _ _ (List.getElem?_eq_getElem (show k - 1 < g.Edges.length by omega)) (by rw [show k - 1 + 0 + 1 = k by omega]; exact List.getElem?_eq_getElem (show k < g.Edges.length by omega))
       exact .inr (by omega)
   · rw [if_neg h1]
     by_cases h2 : k = insAt g.Edges e
     · rw [if_pos h2]
       simp only [Bool.and_eq_true, Bool.not_eq_true', Bool.and_eq_false_iff, decide_eq_false_iff_not]
       refine ⟨he, ?_⟩
       by_cases h0 : k = 0
       · exact .inl (by omega)
       · rw [if_pos (by omega), List.getElem?_eq_getElem (show k - 1 < g.Edges.length by omega), Option.getD_some]
         have := insAt_lt (l := g.Edges) (e := e) (k := k - 1) (by omega) (List.getElem?_eq_getElem (show k - 1 < g.Edges.length by omega))
         exact .inr (by omega)
     · rw [if_neg h2, List.getElem?_eq_getElem (show k - 1 < g.Edges.length by omega)]
       simp only [Bool.and_eq_true, Bool.not_eq_true', Bool.and_eq_false_iff, decide_eq_false_iff_not]
       refine ⟨hlook (k - 1) _ (List.getElem?_eq_getElem _), .inr ?_⟩
       rw [if_neg (by omega)]
       by_cases h3 : k - 1 = insAt g.Edges e
       · rw [if_pos h3, Option.getD_some]
         have hy : g.Edges[insAt g.Edges e]? = some (g.Edges[k - 1]'(by omega)) := by rw [← h3]; exact List.getElem?_eq_getElem _
         have h4 := insAt_ge hy
         have h5 := idx_none hi (List.mem_of_getElem? hy)
         omega
       · rw [if_neg h3, List.getElem?_eq_getElem (show k - 1 - 1 < g.Edges.length by omega), Option.getD_some]
         have := hri 0 (k - 1 - 1) _ _ (List.getElem?_eq_getElem (show k - 1 - 1 < g.Edges.length by omega)) (by rw [show k - 1 - 1 + 0 + 1 = k - 1 by omega]; exact List.getElem?_eq_getElem (show k - 1 < g.Edges.length by omega))
         omega
 · cases h
def chgG (g : TGraph) (c : TChange) : TGraph × Bool := if c.Insert = true then insG g c.Edge else if c.Edge ∈ g.Edges then delG g c.Edge.ID else (g, false)
def runL : TGraph → List TChange → TGraph × Bool
 | g, [] => (g, true)
 | g, c :: r => if (chgG g c).2 = true then runL (chgG g c).1 r else (g, false)
def applyB (g : TGraph) (b : TBatch) : TGraph × Bool := if validG g = true ∧ b.Changes.length ≤ 6 ∧ (runL g b.Changes).2 = true then runL g b.Changes else (g, false)
theorem chgG_valid {g : TGraph} {c : TChange} (h : (chgG g c).2 = true) : validG (chgG g c).1 = true ∧ (chgG g c).1.Values = g.Values ∧ validG g = true := by
 unfold chgG at *
 split at h
 · rename_i hi; rw [if_pos hi]; exact insG_valid h
 · rename_i hi
   rw [if_neg hi]
   split at h
   · rename_i hm; rw [if_pos hm]; exact delG_valid h
   · cases h
theorem runL_valid : ∀ {l : List TChange} {g : TGraph}, validG g = true → (runL g l).2 = true → validG (runL g l).1 = true ∧ (runL g l).1.Values = g.Values
 | [], g, hg, _ => ⟨hg, rfl⟩
 | c :: r, g, hg, h => by
  unfold runL at h ⊢
  split at h
  · rename_i hc
    rw [if_pos hc]
    obtain ⟨h1, h2, _⟩ := chgG_valid hc
    obtain ⟨h3, h4⟩ := runL_valid h1 h
    exact ⟨h3, h4.trans h2⟩
  · cases h
theorem applyB_valid {g : TGraph} {b : TBatch} (h : (applyB g b).2 = true) : validG (applyB g b).1 = true ∧ (applyB g b).1.Values = g.Values ∧ validG g = true := by
 unfold applyB at *
 split at h
 · rename_i hc
   rw [if_pos hc]
   exact ⟨(runL_valid hc.1 h).1, (runL_valid hc.1 h).2, hc.1⟩
 · cases h
theorem runL_at {l : List TChange} {k : Nat} {x : TChange} {g : TGraph} (hx : l[k]? = some x) (h : (chgG g x).2 = true) : runL g (l.drop k) = runL (chgG g x).1 (l.drop (k + 1)) := by
 obtain ⟨hk, rfl⟩ := List.getElem?_eq_some_iff.1 hx
 rw [List.drop_eq_getElem_cons hk, runL, if_pos h]
theorem runL_bad {l : List TChange} {k : Nat} {x : TChange} {g : TGraph} (hx : l[k]? = some x) (h : (chgG g x).2 = false) : (runL g (l.drop k)).2 = false := by
 obtain ⟨hk, rfl⟩ := List.getElem?_eq_some_iff.1 hx
 rw [List.drop_eq_getElem_cons hk, runL, if_neg (by rw [h]; decide)]
theorem applyB_no {g : TGraph} {b : TBatch} (h : validG g = false ∨ 6 < b.Changes.length ∨ (runL g b.Changes).2 = false) : applyB g b = (g, false) := by
 unfold applyB
 rw [if_neg]
 rintro ⟨h1, h2, h3⟩
 rcases h with h | h | h
 · rw [h1] at h; cases h
 · omega
 · rw [h3] at h; cases h
theorem mem_index {g : TGraph} (hg : validG g = true) {e : TEdge} : e ∈ g.Edges ↔ ∃ k : Nat, edgeIndex g e.ID = (k : Int) ∧ g.Edges[k]? = some e := by
 constructor
 · intro hm
   obtain ⟨i, hi⟩ := List.getElem?_of_mem hm
   rcases findI_two (fun x : TEdge => decide (x.ID = e.ID)) g.Edges 0 with ⟨_, h2⟩ | ⟨k, x, h1, h2, h3, h4⟩
   · have := h2 e hm; simp at this
   · refine ⟨k, by unfold edgeIndex; rw [h3]; simp, ?_⟩
     have hxe : x.ID = e.ID := by simpa using h2
     have hri := rise_all (validG_rise hg)
     have : k = i := by
      rcases Nat.lt_trichotomy k i with h | h | h
      · have := hri (i - k - 1) k x e h1 (by rw [show k + (i - k - 1) + 1 = i by omega]; exact hi); omega
      · exact h
      · have := hri (k - i - 1) i e x hi (by rw [show i + (k - i - 1) + 1 = k by omega]; exact h1); omega
     rw [this]; exact hi
 · rintro ⟨k, _, h⟩; exact List.mem_of_getElem? h
end Go.Q
namespace Go.Q
open Go.RowKit
end Go.Q
namespace Go.Q
open Go.RowKit
section
variable {P : Program} {ops : Array Oper} {o : Oper} {σ : St} {q : Bool}
theorem guard_str {op : BinOp} {t : TypeId} {x y : Operand} {a b : ByteArray} (w : World) : (eqGuard op t x y (.string a) (.string b)).run P w = .ok () w := by
 unfold eqGuard; split <;> rfl
theorem str_eq (a b : ByteArray) : (a.toList == b.toList) = decide (a = b) := by
 rw [Bool.eq_iff_iff, beq_iff_eq, decide_eq_true_eq]
 exact ⟨fun h => by
  rw [ByteArray.toList_eq, ByteArray.toList_eq] at h
  exact ByteArray.ext (Array.toList_inj.1 h), fun h => by rw [h]⟩
theorem R_cat {t t' : TypeId} {x y : Operand} {a b : ByteArray} (ho : o.op = .binOp .add t x y t') (hg : Grd ops o σ q) (hd : o.dst.all (fun d => Nat.blt d σ.n) = true) (hx : Get σ q x (.one (.t (.v (.string a))))) (hy : Get σ q y (.one (.t (.v (.string b)))))
 (hb : q = true → a.size + b.size ≤ 9223372036854775807) : Op1 P ops o σ (σ.put o.dst (q, .a (.one (.t (.v (.string (a ++ b))))))) :=
 R_bin ho hg hd hx hy guard_str (h := fun hq w => by
  have := hb hq
  simp only [binOp, Op.stringOp]
  rw [if_neg (show ¬ (((a.size + b.size : Nat) : Int) > IntKind.i64.max) by rw [show IntKind.i64.max = 9223372036854775807 from rfl]; omega)]
  rfl)
theorem R_eqstr {t t' : TypeId} {x y : Operand} {a b : ByteArray} (ho : o.op = .binOp .eql t x y t') (hg : Grd ops o σ q) (hd : o.dst.all (fun d => Nat.blt d σ.n) = true) (hx : Get σ q x (.one (.t (.v (.string a))))) (hy : Get σ q y (.one (.t (.v (.string b))))) :
 Op1 P ops o σ (σ.put o.dst (q, .a (.one (.t (.v (.bool (decide (a = b)))))))) :=
 R_bin ho hg hd hx hy guard_str (h := fun hq w => by simp only [binOp, Op.stringOp, str_eq]; rfl)
theorem R_nestr {t t' : TypeId} {x y : Operand} {a b : ByteArray} (ho : o.op = .binOp .neq t x y t') (hg : Grd ops o σ q) (hd : o.dst.all (fun d => Nat.blt d σ.n) = true) (hx : Get σ q x (.one (.t (.v (.string a))))) (hy : Get σ q y (.one (.t (.v (.string b))))) :
 Op1 P ops o σ (σ.put o.dst (q, .a (.one (.t (.v (.bool (!decide (a = b)))))))) :=
 R_bin ho hg hd hx hy guard_str (h := fun hq w => by simp only [binOp, Op.stringOp, str_eq]; rfl)
theorem R_strIndex {t : TypeId} {x y : Operand} {s : ByteArray} {n : Int} {b : UInt8} (ho : o.op = .index t x y) (hg : Grd ops o σ q) (hd : o.dst.all (fun d => Nat.blt d σ.n) = true) (hx : Get σ q x (.one (.t (.v (.string s))))) (hy : Get σ q y (.one (.t (.v (.int .i64 n)))))
 (hu : P.underlying t = some .string) (hi : q = true → 0 ≤ n ∧ s[n.toNat]? = some b) : Op1 P ops o σ (σ.put o.dst (q, .a (.one (.t (.v (.int .u8 b.toNat)))))) :=
 .val hg hd fun I w0 a w hr hq => ⟨_, by
  obtain ⟨h0, h1⟩ := hi hq
  simp [execOp, ho, hx.int hr hq, hy.int hr hq, Instr.index, asIntOf, run_underlying hu, h0, h1], VS_v _⟩
theorem R_strSlice {t : TypeId} {x : Operand} {lo hi : Option Operand} {n m : Nat} {s : ByteArray} (ho : o.op = .slice t x lo hi none) (hg : Grd ops o σ q) (hd : o.dst.all (fun d => Nat.blt d σ.n) = true) (hx : Get σ q x (.one (.t (.v (.string s)))))
 (hl : Bnd σ q lo 0 n) (hh : Bnd σ q hi s.size m) (hu : P.underlying t = some .string) (hb : q = true → n ≤ m ∧ m ≤ s.size) : Op1 P ops o σ (σ.put o.dst (q, .a (.one (.t (.v (.string (s.extract n m))))))) :=
 .val hg hd fun I w0 a w hr hq => ⟨_, by
  obtain ⟨b1, b2⟩ := hb hq
  have b3 : n ≤ s.size := Nat.le_trans b1 b2
  have hs := hx.int hr hq
  have hlo := hl.val hr hq
  have hhi := hh.val hr hq
  rcases hlo with ⟨e1, rfl⟩ | e1 <;> rcases hhi with ⟨e2, rfl⟩ | e2 <;> simp [execOp, ho, hs, e1, e2, Instr.sliceAt, Instr.slice, run_underlying hu, Instr.sliceBounds, Instr.sliceBound, asIntOf, b1, b2, b3], VS_v _⟩
end
end Go.Q
namespace Go.Q
open Go.RowKit
section
variable {P : Program} {ops : Array Oper} {o : Oper} {σ : St}
end
end Go.Q
namespace Go.Q
open Go.RowKit
section
variable {P : Program} {ops : Array Oper} {o : Oper} {σ : St} {q : Bool}
theorem run_byteStr {w : World} {n : Int} {v : Value} {G : List Nat} (h : C false w (.sl 1 [[.v (.int .u8 n)]]) v G) : (Conv.bytesToString v).run P w = .ok (.string ⟨#[UInt8.ofNat n.toNat]⟩) w := by
 simp only [C] at h
 obtain ⟨a, len, cap, rfl, e1, e2, e3, e4⟩ := h
 have e1 : len = 1 := by simpa using e1.symm
 subst e1
 rcases e4 with ⟨h0, _⟩ | ⟨b, off, G', rfl, _, hb, _, hR⟩
 · omega
 · simp only [Rws, Ms, C] at hR
   obtain ⟨_, _, _, ⟨c, _, _, hc, ⟨rfl, _⟩, _⟩, _⟩ := hR
   have hl := run_loadCells_list (P := P) w ⟨b, off, none⟩ [.int .u8 n] (fun j u hj => by
    cases j with
    | zero => cases hj; rw [Addr.add_lit]; simpa using hc
    | succ j => cases hj)
   simp only [List.length_singleton] at hl
   simp [Conv.bytesToString, hl]
   rfl
theorem R_byteStr {t t' e : TypeId} {x : Operand} {n : Int} (ho : o.op = .convert t t' x) (hg : Grd ops o σ q) (hd : o.dst.all (fun d => Nat.blt d σ.n) = true) (hx : Get σ q x (.one (.t (.sl 1 [[.v (.int .u8 n)]]))))
 (hu : P.underlying t = some (.slice e)) (he : P.underlying e = some (.int .u8)) (hu' : P.underlying t' = some .string) : Op1 P ops o σ (σ.put o.dst (q, .a (.one (.t (.v (.string ⟨#[UInt8.ofNat n.toNat]⟩)))))) :=
 .val hg hd fun I w0 a w hr hq => by
  obtain ⟨G, h1, _⟩ : VE I w (.t (.sl 1 [[.v (.int .u8 n)]])) (a.eval x) := hx.va hr hq
  have hb := run_byteStr (P := P) h1
  have hs := h1
  simp only [C] at hs
  obtain ⟨ad, len, cap, e0, _⟩ := hs
  exact ⟨_, by
   rw [e0] at hb
   simp [execOp, ho, e0, Go.convert, run_underlying hu, run_underlying hu', run_underlying he, hb], VS_v _⟩
end
end Go.Q
namespace Go.Q
open Go.RowKit
section
variable {P : Program} {ops : Array Oper} {o : Oper} {σ : St} {q : Bool}
theorem R_nenil0 {t t' : TypeId} {x : Operand} (ho : o.op = .binOp .neq t x (.const .nilIface) t') (hg : Grd ops o σ q) (hd : o.dst.all (fun d => Nat.blt d σ.n) = true) (hx : Get σ q x (.one (.t (.v .nilIface)))) (_ : Get σ q (.const .nilIface) (.one (.t (.v .nilIface))))
 (hu : P.underlying t = some (.interface (P.methodsAt t))) : Op1 P ops o σ (σ.put o.dst (q, .a (.one (.t (.v (.bool false)))))) :=
 R_bin ho hg hd hx (.const rfl) (fun w => by simp [eqGuard]) (h := fun hq w => by simp [binOp, run_equal_nil_nil w t hu])
theorem R_nenil1 {t t' T : TypeId} {x : Operand} {p : Value} (ho : o.op = .binOp .neq t x (.const .nilIface) t') (hg : Grd ops o σ q) (hd : o.dst.all (fun d => Nat.blt d σ.n) = true) (hx : Get σ q x (.one (.t (.v (.iface T p))))) (_ : Get σ q (.const .nilIface) (.one (.t (.v .nilIface))))
 (hu : P.underlying t = some (.interface (P.methodsAt t))) : Op1 P ops o σ (σ.put o.dst (q, .a (.one (.t (.v (.bool true)))))) :=
 R_bin ho hg hd hx (.const rfl) (fun w => by simp [eqGuard]) (h := fun hq w => by simp [binOp, run_equal_held_nil w t T p hu])
theorem R_remS {t t' : TypeId} {x y : Operand} {k : IntKind} {n m : Int} (r : Int) (ho : o.op = .binOp .rem t x y t') (hg : Grd ops o σ q) (hd : o.dst.all (fun d => Nat.blt d σ.n) = true) (hx : Get σ q x (.one (.t (.v (.int k n))))) (hy : Get σ q y (.one (.t (.v (.int k m)))))
 (hb : q = true → m ≠ 0 ∧ n.tmod m = r) : Op1 P ops o σ (σ.put o.dst (q, .a (.one (.t (.v (.int k r)))))) := R_bin ho hg hd hx hy guard_int (h := fun hq w => by
  obtain ⟨h1, h2⟩ := hb hq
  simp [binOp, Op.intDiv, h1, h2])
theorem R_quoS {t t' : TypeId} {x y : Operand} {k : IntKind} {n m : Int} (r : Int) (ho : o.op = .binOp .quo t x y t') (hg : Grd ops o σ q) (hd : o.dst.all (fun d => Nat.blt d σ.n) = true) (hx : Get σ q x (.one (.t (.v (.int k n))))) (hy : Get σ q y (.one (.t (.v (.int k m)))))
 (hb : q = true → m ≠ 0 ∧ k.wrap (n.tdiv m) = r) : Op1 P ops o σ (σ.put o.dst (q, .a (.one (.t (.v (.int k r)))))) := R_bin ho hg hd hx hy guard_int (h := fun hq w => by
  obtain ⟨h1, h2⟩ := hb hq
  simp [binOp, Op.intDiv, h1, h2])
theorem R_subS {t t' : TypeId} {x y : Operand} {k : IntKind} {n m : Int} (r : Int) (ho : o.op = .binOp .sub t x y t') (hg : Grd ops o σ q) (hd : o.dst.all (fun d => Nat.blt d σ.n) = true) (hx : Get σ q x (.one (.t (.v (.int k n))))) (hy : Get σ q y (.one (.t (.v (.int k m)))))
 (hb : q = true → k.wrap (n - m) = r) : Op1 P ops o σ (σ.put o.dst (q, .a (.one (.t (.v (.int k r)))))) := R_bin ho hg hd hx hy guard_int (h := fun hq w => by
  simp [binOp, Op.intArith, hb hq])
theorem R_neg {t : TypeId} {x : Operand} {n : Int} (ho : o.op = .unOp .neg t x) (hg : Grd ops o σ q) (hd : o.dst.all (fun d => Nat.blt d σ.n) = true) (hx : Get σ q x (.one (.t (.v (.int .i64 n)))))
 (hb : q = true → -9223372036854775808 ≤ -n ∧ -n ≤ 9223372036854775807) : Op1 P ops o σ (σ.put o.dst (q, .a (.one (.t (.v (.int .i64 (-n))))))) :=
 .val hg hd fun I w0 a w hr hq => ⟨.int .i64 (-n), by simp [execOp, ho, hx.int hr hq, Op.unary, Op.intArith, Int.zero_sub, wrap_in (hb hq)], VS_v _⟩
theorem wrapI {n : Int} (h : -9223372036854775808 ≤ n ∧ n ≤ 9223372036854775807) : IntKind.i64.wrap n = n := wrap_in h
def FrE (P : Program) (f : FuncId) (ins : List V0) (Out : V → Prop) : Prop := Callee P f ∧ ∀ w vs F, Good w [] → V0s false w ins vs F → Calls P f (List.toArray vs) w fun e w' => ∃ out, Out out ∧ FrPost w out e w'
theorem R_calle {f : FuncId} {l : List Operand} {tys : Array TypeId} {ins : List V0} {Out : V → Prop} (h : FrE P f ins Out) (ho : o.op = .call { callee := .value (.func f), args := l.toArray, argTypes := tys }) (hg : o.guard = none) (hd : o.dst.all (fun d => Nat.blt d σ.n) = true)
 (ha : Args σ true l ins) : OpE P ops o σ fun σ' => ∃ out, Out out ∧ σ' = σ.put o.dst (true, inS out) := by
 rintro w0 a w ⟨I, hr⟩ K Q hK
 simp only [Region.wanted, hg, if_true]
 obtain ⟨F, hF⟩ := ha.ok hr rfl
 unfold Oper.wp
 rw [run_enter h.1 ho]
 refine (h.2 w _ F hr.good hF).mono fun e w' hR => ?_
 obtain ⟨out, hout, v, G, rfl, h1, h3, h4⟩ := hR
 have hr' := (hr.later h4).also (G := G) fun b hb => ⟨Vr.lt h1 b hb, fun i hi => by have := (hr.lt i b hi).1; have := h3 b hb; omega⟩
 exact hK _ _ _ ⟨out, hout, rfl⟩ ⟨_, hr'.put hd (VS_also h1 fun b hb => .inr hb)⟩
end
end Go.Q
set_option maxHeartbeats 1000000
set_option maxRecDepth 100000
namespace Go.Q
open Go.RowKit
section
variable {P : Program}
theorem Chg.setRow (w : World) (g : Nat) (arr : Array Value) : Chg w (w.setRow g arr) [g] := ⟨rfl, rfl, rfl, by simp [World.setRow], fun b _ hb => setRow_other w g b arr (fun e => hb (by simp [e]))⟩
def Front (cs : List Value) (cur : Array Value) : Prop := ∀ (j : Nat) (v : Value), cs[j]? = some v → cur[j]? = some v
theorem Front.take {cs : List Value} {cur : Array Value} (h : Front cs cur) : cur.toList.take cs.length = cs := by
 apply List.ext_getElem?
 intro j
 by_cases hj : j < cs.length
 · have := h j _ (List.getElem?_eq_getElem hj)
   rw [List.getElem?_take_of_lt hj, Array.getElem?_toList, this, List.getElem?_eq_getElem hj]
 · rw [List.getElem?_eq_none (by simp; omega), List.getElem?_eq_none (by omega)]
end
end Go.Q
namespace Go.Proofs.YtbkhopfpejhnlaaGreatDoor
open Go.RowKit Go.Q Go.D
end Go.Proofs.YtbkhopfpejhnlaaGreatDoor
namespace Go.Q
open Go.RowKit
section
variable {P : Program} {ops : Array Oper} {o : Oper} {σ : St} {q : Bool}
end
end Go.Q
namespace Go.Q
open Go.RowKit
section
variable {P : Program} {ops : Array Oper} {o : Oper} {σ : St}
inductive GetL (σ : St) : List Operand → List E → Prop where
 | nil : GetL σ [] []
 | cons {x : Operand} {e : E} {l : List Operand} {es : List E} (hx : Get σ true x (.one e)) (h : GetL σ l es) : GetL σ (x :: l) (e :: es)
end
end Go.Q
set_option maxHeartbeats 1000000
set_option maxRecDepth 100000
namespace Go.Proofs.YtbkhopfpejhnlaaGreatDoor
open Go.RowKit Go.Q Go.D
end Go.Proofs.YtbkhopfpejhnlaaGreatDoor
set_option maxHeartbeats 1000000
set_option maxRecDepth 100000
namespace Go.Q
open Go.RowKit Go.D
end Go.Q
namespace Go.Proofs.YtbkhopfpejhnlaaGreatDoor
open Go.RowKit Go.Q Go.D
end Go.Proofs.YtbkhopfpejhnlaaGreatDoor
