import Derived.Test.YtbkhopfpejhnlaaGreatStdrc
import Derived.Test.YtbkhopfpejhnlaaGreatAbsRrc
import Derived.Test.YtbkhopfpejhnlaaGreatOpenBrc
import Derived.Test.YtbkhopfpejhnlaaGreatAbsIrc
import Derived.Shelf.SlSortCmp.NoneTotal
import Derived.Shelf.Abstract
import Derived.Ground.SlsfProg
set_option linter.unusedVariables false
set_option linter.unusedSimpArgs false
namespace Go.Q
open Go.D
end Go.Q
namespace Go.Proofs.YtbkhopfpejhnlaaGreat
open Go.RowKit Go.Q Go.D
set_option maxRecDepth 100000 in
theorem implwithin (n a b : Int) : FnT Tryz.prog 77 [.one (.v (.int .i64 n)), .one (.v (.int .i64 a)), .one (.v (.int .i64 b))] (.a (.one (.v (.bool (inB n a b))))) := by
 refine FnT.walk Tryz.func77 U (by kernel_rfl) Tryz.ntmps77 U fun hlen w0 => ?_
 try simp [cPair, cToken, cExpr, cEdge, cGraph] at hlen
 refine AW.sr ?_
 refine AWl.ac ?_
 refine AWl.nil (AW.sr ?_)
 refine AWl.mv ?_
 refine AWl.mv ?_
 refine AWl.p (R_ge U (.no U) U (.tm U) (.tm U)) U ?_
 refine AWl.mv ?_
 refine AWl.p (R_move U (by exact .yes1 U U U U) U (.tmp U (by exact fun _ => rfl))) U ?_
 refine AWl.p (R_move U (by exact .yes1 U U U U) U (.tmp U (by exact fun _ => rfl))) U ?_
 refine AWl.p (R_le U (by exact .yes1 U U U U) U (.tmp U (by exact id)) (.tmp U (by exact id))) U ?_
 refine AWl.p (R_and U (.no U) U (.tm U) (.tmp U (by exact id))) U ?_
 refine AWl.av ?_
 refine AWl.nil (AW.ret ?_)
 refine Res.v U U ?_
 rfl
set_option maxRecDepth 100000 in
theorem specl1In (n a b : Int) : FnT Tryz.prog 71 [.one (.v (.int .i64 n)), .one (.v (.int .i64 a)), .one (.v (.int .i64 b))] (.a (.one (.v (.bool (inB n a b))))) := by
 refine FnT.walk Tryz.func71 U (by kernel_rfl) Tryz.ntmps71 U fun hlen w0 => ?_
 try simp [cPair, cToken, cExpr, cEdge, cGraph] at hlen
 refine AW.sr ?_
 refine AWl.ac ?_
 refine AWl.nil (AW.sr ?_)
 refine AWl.mv ?_
 refine AWl.mv ?_
 refine AWl.p (R_ge U (.no U) U (.tm U) (.tm U)) U ?_
 refine AWl.mv ?_
 refine AWl.p (R_move U (by exact .yes1 U U U U) U (.tmp U (by exact fun _ => rfl))) U ?_
 refine AWl.p (R_move U (by exact .yes1 U U U U) U (.tmp U (by exact fun _ => rfl))) U ?_
 refine AWl.p (R_le U (by exact .yes1 U U U U) U (.tmp U (by exact id)) (.tmp U (by exact id))) U ?_
 refine AWl.p (R_and U (.no U) U (.tm U) (.tmp U (by exact id))) U ?_
 refine AWl.av ?_
 refine AWl.nil (AW.ret ?_)
 refine Res.v U U ?_
 rfl
set_option maxRecDepth 100000 in
theorem implisLetter (n : Int) : FnT Tryz.prog 76 [.one (.v (.int .i64 n))] (.a (.one (.v (.bool (inB n 0 8))))) := by
 refine FnT.walk Tryz.func76 U (by kernel_rfl) Tryz.ntmps76 U fun hlen w0 => ?_
 try simp [cPair, cToken, cExpr, cEdge, cGraph] at hlen
 refine AW.sr ?_
 refine AWl.ac ?_
 refine AWl.nil (AW.sr ?_)
 refine AWl.mv ?_
 refine AWl.p (R_callz (FnT.fr (implwithin _ _ _)) U (.no U) U (.cons (.tm U) U (.cons (.const U) U (.cons (.const U) U .nil)))) U ?_
 refine AWl.av ?_
 refine AWl.nil (AW.ret ?_)
 refine Res.v U U ?_
 rfl
set_option maxRecDepth 100000 in
theorem specl2Letter (n : Int) : FnT Tryz.prog 78 [.one (.v (.int .i64 n))] (.a (.one (.v (.bool (inB n 0 8))))) := by
 refine FnT.walk Tryz.func78 U (by kernel_rfl) Tryz.ntmps78 U fun hlen w0 => ?_
 try simp [cPair, cToken, cExpr, cEdge, cGraph] at hlen
 refine AW.sr ?_
 refine AWl.ac ?_
 refine AWl.nil (AW.sr ?_)
 refine AWl.mv ?_
 refine AWl.p (R_callz (FnT.fr (specl1In _ _ _)) U (.no U) U (.cons (.tm U) U (.cons (.const U) U (.cons (.const U) U .nil)))) U ?_
 refine AWl.av ?_
 refine AWl.nil (AW.ret ?_)
 refine Res.v U U ?_
 rfl
end Go.Proofs.YtbkhopfpejhnlaaGreat
namespace Go.D
open Go.Q
end Go.D
set_option maxHeartbeats 1000000
set_option maxRecDepth 100000
namespace Go.Q
open Go.D
end Go.Q
namespace Go.Proofs.YtbkhopfpejhnlaaGreat
open Go.RowKit Go.Q Go.D
end Go.Proofs.YtbkhopfpejhnlaaGreat
namespace Go.Proofs.YtbkhopfpejhnlaaGreat
open Go.RowKit Go.Q Go.D
set_option maxRecDepth 100000 in
theorem specEqualExprs (a b : TExpr) : FnT Tryz.prog 119 [.agg (cExpr a), .agg (cExpr b)] (.a (.one (.v (.bool (decide (a = b)))))) := by
 refine FnT.walk Tryz.func119 U (by kernel_rfl) Tryz.ntmps119 U fun hlen w0 => ?_
 try simp [cPair, cToken, cExpr, cEdge, cGraph] at hlen
 refine AW.sr ?_
 refine AWl.p (R_boxz U U U (.tm U) (ts := _) (by rfl)) U ?_
 refine AWl.p (R_boxz U U U (.tm U) (ts := _) (by rfl)) U ?_
 refine AWl.ac ?_
 refine AWl.nil (AW.seq ?_)
 refine AW.sr ?_
 refine AWl.p (by exact R_fieldAddr U (.no U) U (.tm U) fl30_0) U ?_
 refine AWl.p (by exact R_load U (.no U) U (.tm U) ty28 U U) U ?_
 refine AWl.p (by exact R_lenm U (.no U) U (.tm U) (by exact .t) Tryz.underlying28) U ?_
 refine AWl.p (by exact R_fieldAddr U (.no U) U (.tm U) fl30_0) U ?_
 refine AWl.p (by exact R_load U (.no U) U (.tm U) ty28 U U) U ?_
 refine AWl.p (by exact R_lenm U (.no U) U (.tm U) (by exact .t) Tryz.underlying28) U ?_
 refine AWl.p (R_ne U (.no U) U (.tm U) (.tm U)) U ?_
 refine AWl.nil ?_
 refine AW.cond (.tm U) (fun h12 => ?_) (fun h12 => ?_)
 · skip
   try simp at h12
   refine AW.seq ?_
   refine AW.le (σ' := ⟨_, [(0, _), (1, _), (2, _), (3, _), (4, _)], []⟩) (Le.sub0 U ⟨U, U, U, U, U, Y⟩ trivial) ?_
   refine AW.region ?_
   refine AWl.ac ?_
   refine AWl.nil (AW.ret ?_)
   refine Res.v U U ?_
   congr 1; symm; exact decide_eq_false fun e => by subst e; simp at h12
 · skip
   try simp at h12
   refine AW.skip ?_
   refine AW.seq ?_
   refine AW.seq ?_
   refine AW.le (σ' := ⟨_, [(0, _), (1, _), (2, _), (3, _), (4, _)], []⟩) (Le.sub0 U ⟨U, U, U, U, U, Y⟩ trivial) ?_
   refine AW.region ?_
   refine AWl.ac ?_
   refine AWl.nil (AW.block ?_)
   refine AW.loop (β := Nat) (fun x => x ≤ a.Tokens.length ∧ ∀ i, i < x → a.Tokens[i]? = b.Tokens[i]?) (fun x => ⟨_, [(5, (true, .a (.one (.t (.v (.int .i64 x)))))), (2, _), (3, _)], []⟩) (fun x => a.Tokens.length - x) (0) ⟨Nat.zero_le _, by simp⟩ (Le.sub0 U ⟨U, U, U, Y⟩ trivial) ?_
   intro k hk
   obtain ⟨hk, he⟩ := hk
   refine AW.seq ?_
   refine AW.sr ?_
   refine AWl.mv ?_
   refine AWl.p (by exact R_fieldAddr U (.no U) U (.tm U) fl30_0) U ?_
   refine AWl.p (by exact R_load U (.no U) U (.tm U) ty28 U U) U ?_
   refine AWl.p (by exact R_lenm U (.no U) U (.tm U) (by exact .t) Tryz.underlying28) U ?_
   refine AWl.p (R_lt U (.no U) U (.tm U) (.tm U)) U ?_
   refine AWl.nil ?_
   refine AW.cond (.tm U) (fun h17 => ?_) (fun h17 => ?_)
   · skip
     try simp at h17
     obtain ⟨x, hx⟩ : ∃ x, a.Tokens[k]? = some x := ⟨_, List.getElem?_eq_getElem h17⟩
     obtain ⟨y, hy⟩ : ∃ y, b.Tokens[k]? = some y := ⟨_, List.getElem?_eq_getElem (by omega)⟩
     refine AW.skip ?_
     refine AW.seq ?_
     refine AW.block ?_
     refine AW.seq ?_
     refine AW.drawn 11 (nthB [[], [0], [], [0, 1, 2], [0, 1, 2, 3], [], [5], [], [5, 6, 7], [5, 6, 7, 8], [0, 1, 2, 3, 4, 5, 6, 7, 8, 9]]) (by kernel_rfl) (by kernel_rfl) (by kernel_rfl) ?_
     refine DrawC.step U U U (Loc.of U fun σ' hs => (by exact R_fieldAddr U (.no U) (hd_sup hs U) (.tm (hs.slots _ _ U)) fl30_0)) ?_
     refine DrawC.step U U U (Loc.of U fun σ' hs => (by exact R_load U (.no U) (hd_sup hs U) (.tm (hs.slots _ _ U)) ty28 U U)) ?_
     refine DrawC.step U U U (Loc.of U fun σ' hs => R_move U (.no U) (hd_sup hs U) (.tm (hs.slots _ _ U))) ?_
     refine DrawC.step U U U (Loc.of U fun σ' hs => (by exact R_indexAddr U (.no U) (hd_sup hs U) (.tm (hs.slots _ _ U)) (.tm (hs.slots _ _ U)) Tryz.underlying28 ty100 (fun _ => ⟨by omega, (by exact map_get (by assumption))⟩))) ?_
     refine DrawC.step U U U (Loc.of U fun σ' hs => (by exact R_load U (.no U) (hd_sup hs U) (.tm (hs.slots _ _ U)) ty100 U U)) ?_
     refine DrawC.step U U U (Loc.of U fun σ' hs => (by exact R_fieldAddr U (.no U) (hd_sup hs U) (.tm (hs.slots _ _ U)) fl30_0)) ?_
     refine DrawC.step U U U (Loc.of U fun σ' hs => (by exact R_load U (.no U) (hd_sup hs U) (.tm (hs.slots _ _ U)) ty28 U U)) ?_
     refine DrawC.step U U U (Loc.of U fun σ' hs => R_move U (.no U) (hd_sup hs U) (.tm (hs.slots _ _ U))) ?_
     refine DrawC.step U U U (Loc.of U fun σ' hs => (by exact R_indexAddr U (.no U) (hd_sup hs U) (.tm (hs.slots _ _ U)) (.tm (hs.slots _ _ U)) Tryz.underlying28 ty100 (fun _ => ⟨by omega, (by exact map_get (by assumption))⟩))) ?_
     refine DrawC.step U U U (Loc.of U fun σ' hs => (by exact R_load U (.no U) (hd_sup hs U) (.tm (hs.slots _ _ U)) ty100 U U)) ?_
     refine DrawC.step U U U (Loc.of U fun σ' hs => R_eqs U (.no U) (hd_sup hs U) (.tm (hs.slots _ _ U)) (.tm (hs.slots _ _ U)) U U (by kernel_rfl) (neS100 _ _ _ _ _ _ _ _)) ?_
     refine DrawC.fin U U ?_
     refine AWl.nil ?_
     refine AW.cond (.tm U) (fun h30 => ?_) (fun h30 => ?_)
     · skip
       try simp at h30
       refine AW.seq ?_
       refine AW.le (σ' := ⟨_, [(2, _), (3, _), (5, _)], []⟩) (Le.sub0 U ⟨U, U, U, Y⟩ trivial) ?_
       refine AW.region ?_
       refine AWl.ac ?_
       refine AWl.nil (AW.ret ?_)
       refine Res.v U U ?_
       congr 1; symm; exact decide_eq_false fun e => by subst e; rw [hx] at hy; cases hy; simp at h30
     · skip
       try simp at h30
       have hxy : x = y := TToken.ext_iff'.2 (by simpa [and_assoc] using h30)
       refine AW.skip ?_
       refine AW.le (σ' := ⟨_, [(2, _), (3, _), (5, _)], []⟩) (Le.sub0 U ⟨U, U, U, Y⟩ trivial) ?_
       refine AW.region ?_
       refine AWl.mv ?_
       refine AWl.p (R_add U (.no U) U (.tm U) (.const U) (fun _ => by omega)) U ?_
       refine AWl.av ?_
       refine AWl.nil ?_
       refine Round.next (k + 1) ⟨by omega, fun i hi => by rcases Nat.lt_or_eq_of_le (Nat.le_of_lt_succ hi) with h | rfl; exact he i h; rw [hx, hy, hxy]⟩ (by omega) (Le.sub0 rfl ⟨rfl, rfl, rfl, Y⟩ trivial)
   · skip
     try simp at h17
     refine AW.exit ?_
     refine AW.sr ?_
     refine AWl.ac ?_
     refine AWl.nil (AW.ret ?_)
     refine Res.v U U ?_
     congr 1; symm; exact decide_eq_true (TExpr.ext_iff'.2 (eq_of_getElem? (by omega) fun i hi => he i (by omega)))
end Go.Proofs.YtbkhopfpejhnlaaGreat
namespace Go.Q
open Go.RowKit Go.Sort Go.Proofs
section
variable {P : Program}
theorem heap_mapBlock {w : World} {blk : Nat} {f : Array Value → Array Value} {c : Array Value} {e : TypeId} {fr : Nat × Nat} (hb : w.heap[blk]? = some (.cells c e fr)) : (mapBlock w blk f).heap[blk]? = some (.cells (f c) e fr) := by
 unfold mapBlock
 show (w.heap.modify blk (onCells f))[blk]? = _
 rw [Array.getElem?_modify, if_pos rfl, hb]
 rfl
theorem heap_mapBlock_other {w : World} {blk b : Nat} {f : Array Value → Array Value} (h : b ≠ blk) : (mapBlock w blk f).heap[b]? = w.heap[b]? := by
 unfold mapBlock
 show (w.heap.modify blk (onCells f))[b]? = _
 rw [Array.getElem?_modify, if_neg (fun e => h e.symm)]
theorem flat_get {α : Type} [Inhabited α] {enc : α → List Value} {k : Nat} (hk : ∀ x, (enc x).length = k) : ∀ (l : List α) (t : Nat), t < l.length * k → ((l.map enc).flatten)[t]? = some ((enc (l[t / k]!))[t % k]!)
 | [], t, h => by simp at h
 | x :: l, t, h => by
  rw [List.map_cons, List.flatten_cons]
  rw [List.length_cons, Nat.succ_mul] at h
  have hk0 : 0 < k := by
   rcases Nat.eq_zero_or_pos k with e | e
   · subst e; omega
   · exact e
  by_cases ht : t < k
  · rw [List.getElem?_append_left (by rw [hk]; exact ht), Nat.div_eq_of_lt ht, Nat.mod_eq_of_lt ht]
    have : t < (enc x).length := by rw [hk]; exact ht
    rw [List.getElem?_eq_getElem this]
    simp [this]
  · rw [List.getElem?_append_right (by rw [hk]; omega), hk]
    have e1 : t / k = (t - k) / k + 1 := by
     conv => lhs; rw [show t = (t - k) + k by omega]
     rw [Nat.add_div_right _ hk0]
    have e2 : t % k = (t - k) % k := by
     conv => lhs; rw [show t = (t - k) + k by omega]
     rw [Nat.add_mod_right]
    rw [flat_get hk l (t - k) (by omega), e1, e2]
    simp
theorem FnS.ofK {α : Type} [Inhabited α] [DecidableEq α] {f : FuncId} {kv : Value} {k : Nat} {enc : α → List Value} {c : α → List T} {lt : α → α → Bool} (hcallee : Callee P f) (hc : ∀ x, c x = (enc x).map .v) (hk : ∀ x, (enc x).length = k) (h1 : ∀ x, ∀ v ∈ enc x, v.oneCell' = true) (S : List α → List α) (hS : ∀ l, (S l).length = l.length)
 (hnone : ∀ p cap w, Calls P f #[.slice p 0 cap, kv] w fun e w' => e = .returned (.tuple #[]) ∧ w' = w)
 (hsome : ∀ (blk cap : Nat) (d : Array α) (w : World), HoldsK enc k w blk 0 d → blk < w.heap.size → d.size < 4611686018427387904 → Calls P f #[.slice (some ⟨blk, 0, none⟩) d.size cap, kv] w fun e w' => e = .returned (.tuple #[]) ∧ ∃ n os, w' = sortWorldK enc k w blk 0 n (S d.toList).toArray os)
 (l : List α) (hl : l.length < 4611686018427387904) : FnS P f k (l.map c) kv ((S l).map c) := ⟨hcallee, fun w v F _ hC hnd hth => by
 have hcm : ∀ m : List α, (m.map c).flatten = ((m.map enc).flatten).map T.v := fun m => by
  rw [List.map_flatten, List.map_map]
  congr 1
  exact List.map_congr_left fun x _ => hc x
 have hrow : ∀ m : List α, ∀ r ∈ m.map c, r.length = k := fun m r hr => by
  obtain ⟨x, _, rfl⟩ := List.mem_map.1 hr
  rw [hc, List.length_map, hk]
 have hCc := hC
 simp only [C] at hCc
 obtain ⟨a0, n0, m0, rfl, _⟩ := hCc
 obtain ⟨e1, e2, e3⟩ := hC.hdr
 rw [List.length_map] at e1
 rcases hC.blk with ⟨q1, q2, q3⟩ | ⟨g, G, cur, e', rfl, rfl, q3, q4, q5⟩
 · have hl0 : l = [] := by simpa using q3
   subst hl0
   have hS0 : S [] = [] := List.eq_nil_of_length_eq_zero (by rw [hS]; rfl)
   subst e1
   refine (hnone a0 m0 w).mono fun e w' ⟨h1, h2⟩ => ?_
   subst h2
   rw [hS0]
   exact ⟨h1, Chg.refl _ _, F, hC, hnd, fun b hb => ⟨hb, hth b hb⟩⟩
 · obtain ⟨s1, xs, s2, s3, s4⟩ := q5.flat
   rw [hcm] at s2
   simp only [Nat.zero_add] at s4
   have hval : ∀ m : List α, ((m.map enc).flatten).all Value.oneCell' = true := fun m => by
    rw [List.all_eq_true]
    intro v hv
    rw [List.mem_flatten] at hv
    obtain ⟨r, hr, hv⟩ := hv
    obtain ⟨x, _, rfl⟩ := List.mem_map.1 hr
    exact h1 x v hv
   have hG : G = [] ∧ xs = (l.map enc).flatten := by
    have key : ∀ (vs : List Value) {cs : List Value} {G : List Nat}, Cs true w (vs.map T.v) cs G → G = [] ∧ cs = vs := by
     intro vs
     induction vs with
     | nil => intro cs G h; simp only [List.map_nil, Cs] at h; exact ⟨h.2, h.1⟩
     | cons v vs ih =>
      intro cs G h
      simp only [List.map_cons, Cs] at h
      obtain ⟨c1, cr, G1, G2, rfl, h2, h3, rfl⟩ := h
      simp only [C] at h2
      obtain ⟨rfl, rfl, _⟩ := h2
      obtain ⟨rfl, rfl⟩ := ih h3
      exact ⟨rfl, rfl⟩
    exact key _ s2
   obtain ⟨rfl, rfl⟩ := hG
   have hglt : g < w.heap.size := (Array.getElem?_eq_some_iff.1 q3).1
   have hH : HoldsK enc k w g 0 l.toArray := fun j hj => by
    rw [size_flatK] at hj
    rw [Nat.zero_add]
    refine ⟨?_, ?_⟩
    · have hj' : j < l.length * k := by simpa using hj
      rw [s4 j _ (flat_get hk l j hj'), get_flatK enc k l.toArray j hj]
      simp
    · simp [World.frozen?, q3]
   have hcall := hsome g m0 l.toArray w hH hglt (by simpa using hl)
   rw [List.size_toArray, e1] at hcall
   refine hcall.mono fun e w' hR => ?_
   obtain ⟨rfl, n, os, rfl⟩ := hR
   simp only [List.toList_toArray]
   have hsl := hS l
   generalize hd' : (S l).toArray = d'
   have hd's : d'.size = l.length := by rw [← hd']; simpa using hsl
   have hw1 : (sortWorldK enc k w g 0 n d' os).heap[g]? = some (.cells (putCells id 0 (flatK enc k d') cur) e' (0, 0)) := by
    unfold sortWorldK grow putRowK putRow
    show ((mapBlock (Go.Sort.ahead w n) g _).heap ++ os)[g]? = _
    have hm := heap_mapBlock (w := Go.Sort.ahead w n) (f := putCells id 0 (flatK enc k d')) q3
    rw [Array.getElem?_append_left (Array.getElem?_eq_some_iff.1 hm).1]
    exact hm
   have hw2 : ∀ b, b < w.heap.size → b ≠ g → (sortWorldK enc k w g 0 n d' os).heap[b]? = w.heap[b]? := fun b hb hne => by
    unfold sortWorldK grow putRowK putRow
    show ((mapBlock (Go.Sort.ahead w n) g _).heap ++ os)[b]? = _
    have hm := heap_mapBlock_other (w := Go.Sort.ahead w n) (f := putCells id 0 (flatK enc k d')) hne
    have hb' : b < (mapBlock (Go.Sort.ahead w n) g (putCells id 0 (flatK enc k d'))).heap.size := heap_lt hm hb
    rw [Array.getElem?_append_left hb']
    exact hm
   have hsz : (putCells id 0 (flatK enc k d') cur).size = m0 * k := by unfold putCells; simp [q4]
   have hch : Chg w (sortWorldK enc k w g 0 n d' os) [g] := ⟨rfl, rfl, rfl, by unfold sortWorldK; rw [size_grow]; unfold putRowK; rw [Go.Proofs.size_putRow]; exact Nat.le_add_right _ _, fun b hb hn => hw2 b hb (by simpa using hn)⟩
   have hH' : HoldsK enc k (sortWorldK enc k w g 0 n d' os) g 0 d' := holdsK_sortWorldK_c enc k w g 0 l.toArray d' n os hH hglt (by rw [hd's]; simp)
   refine ⟨trivial, hch, [g], ?_, by simp, fun b hb => ?_⟩
   · unfold C
     refine ⟨_, _, _, rfl, by rw [List.length_map, hsl, e1], e2, e3, .inr ⟨g, 0, [], rfl, rfl, (Array.getElem?_eq_some_iff.1 hw1).1, fun _ => ⟨rfl, _, e', hw1, hsz⟩, Rws.of (xs := ((S l).map enc).flatten) (hrow _) ?_ fun j u hj => ?_⟩⟩
     · rw [hcm]; exact Cs_vals (hval _)
     · have hjl : j < (S l).length * k := by
        have := (List.getElem?_eq_some_iff.1 hj).1
        have e : ∀ m : List α, ((m.map enc).flatten).length = m.length * k := fun m => by
         induction m with
         | nil => simp
         | cons x m ih => rw [List.map_cons, List.flatten_cons, List.length_append, ih, hk, List.length_cons, Nat.succ_mul]; omega
        rwa [e] at this
       have hjd : j < (flatK enc k d').size := by rw [size_flatK, hd's, ← hsl]; exact hjl
       have h5 := (hH' j hjd).1
       rw [flat_get hk _ j hjl] at hj
       cases hj
       rw [h5, get_flatK enc k d' j (by rw [hd's, ← hsl]; exact hjl), ← hd']
       simp
   · simp only [List.mem_singleton] at hb
     subst hb
     exact ⟨by simp, _, _, hw1⟩⟩
end
end Go.Q
