import Derived.Test.YtbkhopfpejhnlaaGreatTrrc
import Derived.Test.YtbkhopfpejhnlaaGreatAbsIrc
set_option linter.unusedVariables false
set_option linter.unusedSimpArgs false
set_option maxHeartbeats 1000000
set_option maxRecDepth 100000
namespace Go.Q
open Go.RowKit Go.D
theorem arity_nk {t : TToken} (h : tokOk t = true) : arity t = nk t.Kind := by
 unfold tokOk at h
 unfold arity at h ⊢
 unfold nk
 have h := of_decide_eq_true h
 repeat' split
 all_goals first | rfl | omega | skip
 all_goals simp_all
theorem nk_cases (k : Int) : nk k = 0 ∨ nk k = 1 ∨ nk k = 2 := by
 unfold nk
 split
 · exact .inr (.inr rfl)
 · split
   · exact .inr (.inl rfl)
   · exact .inl rfl
theorem stepTr_some {ts : List Tr} {t : TToken} (h : tokOk t = true) (hn : nk t.Kind ≤ ts.length) : ∃ ts', stepTr ts t = some ts' ∧ ts'.length = ts.length - nk t.Kind + 1 := by
 unfold stepTr
 rw [if_neg (by simp [h]; omega)]
 have hl : (ts.drop (ts.length - nk t.Kind)).length = nk t.Kind := by rw [List.length_drop]; omega
 generalize ts.drop (ts.length - nk t.Kind) = r at hl
 have h3 := nk_cases t.Kind
 generalize nk t.Kind = n at *
 match n, r, hl with
 | 0, _, _ => exact ⟨_, rfl, by simp⟩
 | 1, [x], _ => exact ⟨_, rfl, by simp⟩
 | 2, [x, y], _ => exact ⟨_, rfl, by simp⟩
 | n + 3, _, _ => omega
theorem depth_run (l : List TToken) : ∀ ts : List Tr, depthGo ts.length l = match runTr ts l with | some [_] => true | _ => false := by
 induction l with
 | nil =>
  intro ts
  match ts with
  | [] => rfl
  | [_] => rfl
  | _ :: _ :: _ => simp [depthGo, runTr]; omega
 | cons t r ih =>
  intro ts
  rw [depthGo, runTr]
  by_cases h : tokOk t = true
  · have ha := arity_nk h
    by_cases hn : nk t.Kind ≤ ts.length
    · obtain ⟨ts', h1, h2⟩ := stepTr_some h hn
      rw [if_neg (by omega), h1]
      have e : (ts.length : Int) - arity t + 1 = ts'.length := by omega
      rw [e]
      exact ih ts'
    · have : stepTr ts t = none := by unfold stepTr; rw [if_pos (.inr (by omega))]
      rw [if_pos (.inr (by omega)), this]
  · have : stepTr ts t = none := by unfold stepTr; rw [if_pos (.inl (by simpa using h))]
    have ha : arity t < 0 := by simpa [tokOk] using h
    rw [if_pos (.inl ha), this]
theorem isExpr_tree (l : List TToken) : isExpr l = (treeM l).isSome := by
 have h := depth_run l []
 unfold isExpr treeM
 have e : depthGo 0 l = depthGo ([] : List Tr).length l := rfl
 rw [e, h]
 cases runTr [] l with
 | none => rfl
 | some v => match v with
  | [] => rfl
  | [_] => rfl
  | _ :: _ :: _ => rfl
def isValidExpr (x : TExpr) : Bool := decide (x.Tokens.length ≤ 24) && isExpr x.Tokens
def toks : Tr → List TToken
 | .leaf t => [t]
 | .un t x => toks x ++ [t]
 | .bin t x y => toks x ++ toks y ++ [t]
def toksL (ts : List Tr) : List TToken := ts.flatMap toks
theorem toksL_append (a b : List Tr) : toksL (a ++ b) = toksL a ++ toksL b := by unfold toksL; simp
theorem toksL_one (x : Tr) : toksL [x] = toks x := by simp [toksL]
theorem toks_eq (x : Tr) : toks x = toksL x.kids ++ [x.tok] := by cases x <;> simp [toks, toksL, Tr.kids, Tr.tok]
theorem toks_pos (x : Tr) : 0 < (toks x).length := by rw [toks_eq]; simp
def good : Tr → Prop
 | .leaf t => arity t = 0
 | .un t x => arity t = 1 ∧ good x
 | .bin t x y => arity t = 2 ∧ good x ∧ good y
theorem good_arity {x : Tr} (h : good x) : arity x.tok = x.kids.length := by
 cases x with
 | leaf t => exact h
 | un t x => exact h.1
 | bin t x y => exact h.1
theorem good_kids {x : Tr} (h : good x) : ∀ y ∈ x.kids, good y := by
 cases x with
 | leaf t => intro y hy; cases hy
 | un t x => intro y hy; simp [Tr.kids] at hy; subst hy; exact h.2
 | bin t x z => intro y hy; simp [Tr.kids] at hy; rcases hy with rfl | rfl; exact h.2.1; exact h.2.2
theorem stepTr_toks {ts ts' : List Tr} {t : TToken} (h : stepTr ts t = some ts') (hg : ∀ x ∈ ts, good x) : toksL ts ++ [t] = toksL ts' ∧ ∀ x ∈ ts', good x := by
 unfold stepTr at h
 split at h
 · cases h
 · rename_i h0
   have hok : tokOk t = true := by
    cases hq : tokOk t with
    | true => rfl
    | false => exact absurd (.inl hq) h0
   have ha := arity_nk hok
   have hlen : nk t.Kind ≤ ts.length := Nat.le_of_not_lt fun h => h0 (.inr h)
   have hsp : ts = ts.take (ts.length - nk t.Kind) ++ ts.drop (ts.length - nk t.Kind) := (List.take_append_drop _ _).symm
   have hgd : ∀ x ∈ ts.drop (ts.length - nk t.Kind), good x := fun x hx => hg x (List.mem_of_mem_drop hx)
   have hgt : ∀ m, ∀ x ∈ ts.take m, good x := fun m x hx => hg x (List.mem_of_mem_take hx)
   generalize hr : ts.drop (ts.length - nk t.Kind) = r at h hsp hgd
   generalize hn : nk t.Kind = n at h hsp ha
   split at h
   · cases h
     refine ⟨by rw [toksL_append, toksL_one]; rfl, fun x hx => ?_⟩
     rcases List.mem_append.1 hx with hx | hx
     · exact hg x hx
     · simp at hx; subst hx; exact ha
   · rename_i x
     cases h
     refine ⟨?_, fun y hy => ?_⟩
     · conv => lhs; rw [hsp]
       rw [toksL_append, toksL_append, toksL_one, toksL_one, List.append_assoc]; rfl
     · rcases List.mem_append.1 hy with hy | hy
       · exact hgt _ y hy
       · simp at hy; subst hy; exact ⟨ha, hgd x (by simp)⟩
   · rename_i x z
     cases h
     refine ⟨?_, fun y hy => ?_⟩
     · conv => lhs; rw [hsp]
       rw [toksL_append, toksL_append, toksL_one]
       simp [toksL, toks]
     · rcases List.mem_append.1 hy with hy | hy
       · exact hgt _ y hy
       · simp at hy; subst hy; exact ⟨ha, hgd x (by simp), hgd z (by simp)⟩
   · cases h
theorem runTr_toks : ∀ {l : List TToken} {ts ts' : List Tr}, runTr ts l = some ts' → (∀ x ∈ ts, good x) → toksL ts ++ l = toksL ts' ∧ ∀ x ∈ ts', good x
 | [], ts, ts', h, hg => by simp only [runTr, Option.some.injEq] at h; subst h; simpa using hg
 | t :: l, ts, ts', h, hg => by
  rw [runTr] at h
  split at h
  · rename_i ts1 h1
    obtain ⟨g1, g2⟩ := stepTr_toks h1 hg
    obtain ⟨k1, k2⟩ := runTr_toks h g2
    exact ⟨by rw [← k1, ← g1]; simp, k2⟩
  · cases h
theorem treeM_toks {l : List TToken} {x : Tr} (h : treeM l = some x) : toks x = l ∧ good x := by
 unfold treeM at h
 split at h
 · rename_i y hy
   cases h
   obtain ⟨g1, g2⟩ := runTr_toks hy (by simp)
   rw [toksL_one] at g1
   exact ⟨by rw [← g1]; simp [toksL], g2 x (by simp)⟩
 · cases h
theorem valid_tree {e : TExpr} (h : isValidExpr e = true) : ∃ x, treeM e.Tokens = some x ∧ toks x = e.Tokens ∧ good x ∧ e.Tokens.length ≤ 24 := by
 unfold isValidExpr at h
 simp only [Bool.and_eq_true, decide_eq_true_eq, isExpr_tree] at h
 obtain ⟨x, hx⟩ := Option.isSome_iff_exists.1 h.2
 exact ⟨x, hx, (treeM_toks hx).1, (treeM_toks hx).2, h.1⟩
inductive NilB : T → Bool → Prop where
 | ad {cs : List T} : NilB (.ad cs) false
 | nil : NilB (.v (.pointer none)) true
theorem NilB.tree (l : List TToken) : NilB (treeV l) (!isExpr l) := by
 rw [isExpr_tree]
 unfold treeV
 cases treeM l with
 | none => exact .nil
 | some x => exact .ad
section
variable {P : Program} {ops : Array Oper} {o : Oper} {σ : St} {q : Bool}
theorem NilB.val {I : Ip} {w : World} {x : T} {b : Bool} (h : NilB x b) {v : Value} (hv : VE I w (.t x) v) : ∃ p, v = .pointer p ∧ p.isNone = b := by
 obtain ⟨G, h1, _⟩ := hv
 cases h with
 | ad => simp only [C] at h1; obtain ⟨b, off, G', rfl, _⟩ := h1; exact ⟨_, rfl, rfl⟩
 | nil => simp only [C] at h1; exact ⟨_, h1.1, rfl⟩
theorem guard_ptr {op : BinOp} {t : TypeId} {x y : Operand} {p r : Option Addr} (w : World) : (eqGuard op t x y (.pointer p) (.pointer r)).run P w = .ok () w := by
 unfold eqGuard; split <;> rfl
theorem R_nenil {t t' : TypeId} {x y : Operand} {T0 : T} {b : Bool} (ho : o.op = .binOp .neq t x y t') (hg : Grd ops o σ q) (hd : o.dst.all (fun d => Nat.blt d σ.n) = true) (hx : Get σ q x (.one (.t T0))) (hy : Get σ q y (.one (.t (.v (.pointer none))))) (hb : NilB T0 b) (hu : P.underlying t = some (.pointer (P.pointee t))) :
 Op1 P ops o σ (σ.put o.dst (q, .a (.one (.t (.v (.bool !b)))))) :=
 .val hg hd fun I w0 a w hr hq => by
  obtain ⟨p, h1, h2⟩ := hb.val (hx.va hr hq)
  refine ⟨.bool !b, ?_, VS_v _⟩
  have h3 := hy.int hr hq
  simp [execOp, ho, h1, h3, guard_ptr, run_neq_pointer_nil w t p hu, h2]
end
theorem treeV_some {l : List TToken} {x : Tr} (h : treeM l = some x) : treeV l = .ad (treeCells x) := by unfold treeV; rw [h]
theorem take_get {l p : List TToken} {n : Nat} {t : TToken} (h : l.take (n + 1) = p ++ [t]) (hp : p.length = n) : l[n]? = some t ∧ l.take n = p := by
 have h1 : (l.take (n + 1))[n]? = some t := by rw [h, ← hp]; simp
 rw [List.getElem?_take] at h1
 have h2 : l.take n = (l.take (n + 1)).take n := by rw [List.take_take]; congr 1; omega
 refine ⟨by simpa using h1, ?_⟩
 rw [h2, h, ← hp]; simp
theorem toksL_snoc (ys : List Tr) (y : Tr) : toksL (ys ++ [y]) = toksL ys ++ toksL y.kids ++ [y.tok] := by rw [toksL_append, toksL_one, toks_eq, List.append_assoc]
theorem Tr.ind {P : Tr → Prop} (h : ∀ x, (∀ y ∈ x.kids, P y) → P x) : ∀ x, P x := by
 intro x
 induction x with
 | leaf t => exact h _ fun y hy => by cases hy
 | un t x ih => exact h _ fun y hy => by simp [Tr.kids] at hy; subst hy; exact ih
 | bin t x z ih1 ih2 => exact h _ fun y hy => by simp [Tr.kids] at hy; rcases hy with rfl | rfl; exact ih1; exact ih2
theorem tok_last (x : Tr) : (toks x)[(((toks x).length : Int) - 1).toNat]? = some x.tok := by
 have e : (((toks x).length : Int) - 1).toNat = (toksL x.kids).length := by rw [toks_eq]; simp
 rw [e, toks_eq]; simp
theorem kids_one {x : Tr} (hg : good x) (h : arity x.tok = 1) : ∃ y, x.kids = [y] ∧ toks x = toks y ++ [x.tok] ∧ good y := by
 rw [good_arity hg] at h
 cases x with
 | leaf t => simp [Tr.kids] at h
 | un t y => exact ⟨y, rfl, rfl, hg.2⟩
 | bin t y z => simp [Tr.kids] at h
theorem kids_two {x : Tr} (hg : good x) (h : arity x.tok = 2) : ∃ y z, x.kids = [y, z] ∧ toks x = toks y ++ toks z ++ [x.tok] ∧ good y ∧ good z := by
 rw [good_arity hg] at h
 cases x with
 | leaf t => simp [Tr.kids] at h
 | un t y => simp [Tr.kids] at h
 | bin t y z => exact ⟨y, z, rfl, rfl, hg.2.1, hg.2.2⟩
theorem sl_pre {α β : Type} {f : α → β} {a b l : List α} (h : l = a ++ b) : ((l.map f).take a.length).drop 0 = a.map f := by subst h; simp
theorem sl_pre2 {α β : Type} {f : α → β} {a b c l : List α} (h : l = a ++ b ++ c) : ((l.map f).take (a.length + b.length)).drop 0 = (a ++ b).map f := by
 subst h; rw [List.map_append, ← List.length_append, List.take_left' (by simp)]; rfl
theorem sl_mid {α β : Type} {f : α → β} {a b c l : List α} (h : l = a ++ b ++ c) : ((l.map f).take (a.length + b.length)).drop a.length = b.map f := by
 subst h; rw [List.map_append, ← List.length_append, List.take_left' (by simp), List.map_append, List.drop_left' (by simp)]
theorem kids_le (x : Tr) : x.kids.length ≤ 2 := by cases x <;> simp [Tr.kids]
theorem kids_toks {x y : Tr} (h : y ∈ x.kids) : (toks y).length < (toks x).length := by
 cases x with
 | leaf t => cases h
 | un t x => simp [Tr.kids] at h; subst h; simp [toks]
 | bin t x z => simp [Tr.kids] at h; rcases h with rfl | rfl <;> simp [toks] <;> omega
theorem toksL_ge : ∀ ys : List Tr, ys.length ≤ (toksL ys).length
 | [] => by simp
 | y :: ys => by
  have h1 := toksL_ge ys
  have h2 := toks_pos y
  have e : toksL (y :: ys) = toks y ++ toksL ys := by simp [toksL]
  rw [e, List.length_append, List.length_cons]; omega
theorem start_step {l pre : List TToken} {zs : List Tr} {x : Tr} {k : Int} (h : l.take k.toNat = pre ++ toksL (zs ++ [x])) (hk : k = (pre.length : Int) + (toksL (zs ++ [x])).length) :
 l[(k - 1).toNat]? = some x.tok ∧ l.take (k - 1).toNat = pre ++ toksL (zs ++ x.kids) ∧ k - 1 = (pre.length : Int) + (toksL (zs ++ x.kids)).length := by
 have e : toksL (zs ++ [x]) = toksL (zs ++ x.kids) ++ [x.tok] := by rw [toksL_snoc, toksL_append]
 rw [e, List.length_append, List.length_singleton] at hk
 have hn : k.toNat = (k - 1).toNat + 1 := by omega
 rw [e, ← List.append_assoc, hn] at h
 have := take_get h (by rw [List.length_append]; omega)
 exact ⟨this.1, this.2, by omega⟩
end Go.Q
namespace Go.Proofs.YtbkhopfpejhnlaaGreat
open Go.RowKit Go.Q Go.D
theorem implIsExpr (e : TExpr) (hz : e.Tokens.length ≤ 1048576) : FnT Tryz.prog 92 [.agg (cExpr e)] (.a (.one (.v (.bool (isExpr e.Tokens))))) := by
 refine FnT.walk Tryz.func92 U (by kernel_rfl) Tryz.ntmps92 U fun hlen w0 => ?_
 try simp [cPair, cToken, cExpr, cEdge, cGraph] at hlen
 refine AW.sr ?_
 refine AWl.p (R_boxz U U U (.tm U) (ts := _) (by rfl)) U ?_
 refine AWl.ac ?_
 refine AWl.nil (AW.sr ?_)
 refine AWl.p (by exact R_load U (.no U) U (.tm U) ty30 U U) U ?_
 refine AWl.p (R_callz (impltreeOf _ hz) U (.no U) U (.cons (.tm U) U .nil)) U ?_
 refine AWl.p (R_nenil U (.no U) U (.tm U) (.const U) (NilB.tree _) Tryz.underlying91) U ?_
 refine AWl.av ?_
 refine AWl.nil (AW.ret ?_)
 refine Res.v U U ?_
 simp
theorem specIsValidExpr (e : TExpr) : FnT Tryz.prog 46 [.agg (cExpr e)] (.a (.one (.v (.bool (isValidExpr e))))) := by
 refine FnT.walk Tryz.func46 U (by kernel_rfl) Tryz.ntmps46 U fun hlen w0 => ?_
 try simp [cPair, cToken, cExpr, cEdge, cGraph] at hlen
 refine AW.sr ?_
 refine AWl.p (R_boxz U U U (.tm U) (ts := _) (by rfl)) U ?_
 refine AWl.ac ?_
 refine AWl.nil (AW.sr ?_)
 refine AWl.p (by exact R_fieldAddr U (.no U) U (.tm U) fl30_0) U ?_
 refine AWl.p (by exact R_load U (.no U) U (.tm U) ty28 U U) U ?_
 refine AWl.p (by exact R_lenm U (.no U) U (.tm U) (by exact .t) Tryz.underlying28) U ?_
 refine AWl.p (R_le U (.no U) U (.tm U) (.const U)) U ?_
 refine AWl.mv ?_
 refine AWl.p (by exact R_load U (by exact .yes1 U U U U) U (.tmp U (by exact fun _ => rfl)) ty30 U U) U ?_
 refine AWl.p (R_callq U (by exact .yes1 U U U U) U (.cons (.tmp U (by exact id)) U .nil) fun hq => FnT.fr (specIsExpr _ (by have h24 := of_decide_eq_true hq; omega))) U ?_
 refine AWl.p (R_and U (.no U) U (.tm U) (.tmp U (by exact id))) U ?_
 refine AWl.av ?_
 refine AWl.nil (AW.ret ?_)
 refine Res.v U U ?_
 congr 1; unfold isValidExpr; congr 1; apply decide_eq_decide.2; omega
theorem implIsValidExpr (e : TExpr) : FnT Tryz.prog 53 [.agg (cExpr e)] (.a (.one (.v (.bool (isValidExpr e))))) := by
 refine FnT.walk Tryz.func53 U (by kernel_rfl) Tryz.ntmps53 U fun hlen w0 => ?_
 try simp [cPair, cToken, cExpr, cEdge, cGraph] at hlen
 refine AW.sr ?_
 refine AWl.p (R_boxz U U U (.tm U) (ts := _) (by rfl)) U ?_
 refine AWl.ac ?_
 refine AWl.nil (AW.sr ?_)
 refine AWl.p (by exact R_fieldAddr U (.no U) U (.tm U) fl30_0) U ?_
 refine AWl.p (by exact R_load U (.no U) U (.tm U) ty28 U U) U ?_
 refine AWl.p (by exact R_lenm U (.no U) U (.tm U) (by exact .t) Tryz.underlying28) U ?_
 refine AWl.p (R_le U (.no U) U (.tm U) (.const U)) U ?_
 refine AWl.mv ?_
 refine AWl.p (by exact R_load U (by exact .yes1 U U U U) U (.tmp U (by exact fun _ => rfl)) ty30 U U) U ?_
 refine AWl.p (R_callq U (by exact .yes1 U U U U) U (.cons (.tmp U (by exact id)) U .nil) fun hq => FnT.fr (implIsExpr _ (by have h24 := of_decide_eq_true hq; omega))) U ?_
 refine AWl.p (R_and U (.no U) U (.tm U) (.tmp U (by exact id))) U ?_
 refine AWl.av ?_
 refine AWl.nil (AW.ret ?_)
 refine Res.v U U ?_
 congr 1; unfold isValidExpr; congr 1; apply decide_eq_decide.2; omega
theorem specl8Start (pre : List TToken) (y : Tr) (hg : good y) (hz : (pre ++ toks y).length ≤ 1048576) : FnT Tryz.prog 82 [.one (.sl 4 ((pre ++ toks y).map cToken))] (.a (.one (.v (.int .i64 pre.length)))) := by
 refine FnT.walk Tryz.func82 U (by kernel_rfl) Tryz.ntmps82 U fun hlen w0 => ?_
 try simp [cPair, cToken, cExpr, cEdge, cGraph] at hlen
 rw [List.length_append] at hz
 refine AW.sr ?_
 refine AWl.ac ?_
 refine AWl.nil (AW.sr ?_)
 refine AWl.ac ?_
 refine AWl.nil (AW.sr ?_)
 refine AWl.mv ?_
 refine AWl.p (by exact R_lenm U (.no U) U (.tm U) (by exact .t) Tryz.underlying28) U ?_
 refine AWl.av ?_
 refine AWl.nil (AW.seq ?_)
 refine AW.block ?_
 refine AW.loop3 (fun (ys : List Tr) (need : Int) (k : Int) => (need = ys.length ∧ k = (pre.length : Int) + (toksL ys).length ∧ k ≤ 1048576 ∧ ∀ x ∈ ys, good x) ∧ (pre ++ toks y).take k.toNat = pre ++ toksL ys) (fun (ys : List Tr) (need : Int) (k : Int) => ⟨_, [(3, (true, .a (.one (.t (.v (.int .i64 need)))))), (4, (true, .a (.one (.t (.v (.int .i64 k)))))), (0, _), (2, _)], []⟩) (fun (ys : List Tr) (need : Int) (k : Int) => k.toNat) ([y]) (1) (((pre ++ toks y).length : Nat)) ⟨⟨U, by simp [toksL_one], by simp; omega, by simpa using hg⟩, by rw [toksL_one, List.take_of_length_le (by simp; omega)]⟩ (Le.sub0 U ⟨U, U, U, U, Y⟩ trivial) ?_
 rintro ys need k ⟨hk, he⟩
 refine AW.seq ?_
 refine AW.sr ?_
 refine AWl.mv ?_
 refine AWl.p (R_gt U (.no U) U (.tm U) (.const U)) U ?_
 refine AWl.nil ?_
 refine AW.cond (.tm U) (fun hlt => ?_) (fun hlt => ?_)
 · skip
   try simp at hlt
   obtain ⟨zs, T0, rfl⟩ : ∃ zs T0, ys = zs ++ [T0] := by rcases List.eq_nil_or_concat ys with h | ⟨zs, T0, h⟩; subst h; simp at hk; omega; exact ⟨zs, T0, by simpa using h⟩
   have hT := hk.2.2.2 T0 (by simp)
   have hta := good_arity hT
   obtain ⟨hst1, hst2, hst3⟩ := start_step he hk.2.1
   have hge1 := toksL_ge (zs ++ [T0])
   have hge2 := toksL_ge (zs ++ T0.kids)
   rw [List.length_append] at hge2
   refine AW.skip ?_
   refine AW.block ?_
   refine AW.sr ?_
   refine AWl.mv ?_
   refine AWl.p (R_sub U (.no U) U (.tm U) (.const U) (fun _ => by omega)) U ?_
   refine AWl.av ?_
   refine AWl.nil (AW.region ?_)
   refine AWl.mv ?_
   refine AWl.p (R_sub U (.no U) U (.tm U) (.const U) (fun _ => by omega)) U ?_
   refine AWl.mv ?_
   refine AWl.mv ?_
   refine AWl.p (by exact R_indexAddr U (.no U) U (.tm U) (.tm U) Tryz.underlying28 ty100 (fun _ => ⟨by omega, map_get hst1⟩)) U ?_
   refine AWl.p (by exact R_load U (.no U) U (.tm U) ty100 U U) U ?_
   refine AWl.p (R_callz (FnT.fr (specl8Arity _)) U (.no U) U (.cons (.tm U) U .nil)) U ?_
   refine AWl.p (R_add U (.no U) U (.tm U) (.tm U) (fun _ => by omega)) U ?_
   refine AWl.av ?_
   refine AWl.nil ?_
   repeat (with_reducible refine BlockQ.nor ?_)
   refine Round3.next (zs ++ T0.kids) (need - 1 + arity T0.tok) (k - 1) ⟨by exact ⟨by rw [hk.1, hta]; simp <;> omega, hst3, by omega, fun x hx => by rcases List.mem_append.1 hx with h | h; exact hk.2.2.2 x (by simp [h]); exact good_kids hT x h⟩, hst2⟩ (by omega) (Le.sub0 rfl ⟨rfl, rfl, rfl, rfl, Y⟩ trivial)
 · skip
   try simp at hlt
   refine AW.exit ?_
   refine AW.sr ?_
   refine AWl.mv ?_
   refine AWl.av ?_
   refine AWl.nil (AW.ret ?_)
   refine Res.v U U ?_
   have : ys = [] := List.eq_nil_of_length_eq_zero (by omega); subst this; rw [hk.2.1]; simp [toksL]
theorem l8Start_at {y : Tr} (hg : good y) {pre : List TToken} (hz : (pre ++ toks y).length ≤ 1048576) : ∀ L, L = (pre ++ toks y).map cToken → FnT Tryz.prog 82 [.one (.sl 4 L)] (.a (.one (.v (.int .i64 pre.length)))) := fun L hL => by subst hL; exact specl8Start pre y hg hz
end Go.Proofs.YtbkhopfpejhnlaaGreat
