/- Expressions and conjunctions read again: the plain law. -/
import Derived.Test.YtoealglkenhphaaGreatDoorB91xa
import Derived.Test.YtoealglkenhphaaGreatDoorB84xa
import Derived.Lib.SlTrimSet
set_option linter.unusedVariables false
set_option linter.unusedSimpArgs false
set_option maxHeartbeats 1000000
set_option maxRecDepth 100000
namespace Go.Q
open Go.D
/-- Parts joined and cut again. -/
theorem split_joinL {c : UInt8} : ∀ (xs : List (List UInt8)), xs ≠ [] → (∀ x ∈ xs, c ∉ x) → splitL c (joinL [c] xs) = xs := by
  intro xs
  induction xs with
  | nil => intro h _; exact absurd rfl h
  | cons x r ih =>
    intro _ h
    cases r with
    | nil => unfold joinL; rw [Lib.join_one]; exact splitL_no (h x (by simp))
    | cons y r =>
      have e : joinL [c] (x :: y :: r) = x ++ c :: joinL [c] (y :: r) := by
        unfold joinL
        rw [Lib.join_cons, Lib.join_cons]
        simp [Lib.joinTail]
      rw [e, splitL_hit (h x (by simp)), ih (by simp) fun z hz => h z (by simp [hz])]
/-! ### Tokens read -/
def tk0 (k : Int) : TToken := ⟨k, 0, 0, 0⟩
def brS (s : List UInt8) : TToken := if s.length = 5 ∧ s[0]? = some 123 ∧ s[2]? = some 44 ∧ s[4]? = some 125 then ⟨7, 0, ((s[1]?.getD 0).toNat : Int) - 48, ((s[3]?.getD 0).toNat : Int) - 48⟩ else tk0 0
def brI (s : List UInt8) : TToken := ⟨7, 0, (parseI (Lib.cut (Lib.trimS s [123, 125]) [44]).1).1, (parseI (Lib.cut (Lib.trimS s [123, 125]) [44]).2.1).1⟩
def rdT (rest : List UInt8 → TToken) (s : List UInt8) : TToken :=
  if s = [33] then tk0 1 else if s = [40, 41] then tk0 2 else if s = [46] then tk0 4 else if s = [124] then tk0 5 else if s = [42] then tk0 6
  else if (letP s).2 = true then ⟨3, (letP s).1, 0, 0⟩ else rest s
theorem letP_get {s : List UInt8} (h : (letP s).2 = true) : letS (letP s).1 = s := by
  unfold letP at h ⊢
  split
  · rename_i k hk
    have := List.find?_some hk
    simpa using this
  · rename_i hk; rw [hk] at h; cases h
theorem letP_let {k : Int} (h0 : 0 ≤ k) (h8 : k ≤ 8) : letP (letS k) = (k, true) := by
  have : k = 0 ∨ k = 1 ∨ k = 2 ∨ k = 3 ∨ k = 4 ∨ k = 5 ∨ k = 6 ∨ k = 7 ∨ k = 8 := by omega
  rcases this with g | g | g | g | g | g | g | g | g <;> rw [g] <;> decide
theorem let_plain {k : Int} (h0 : 0 ≤ k) (h8 : k ≤ 8) : letS k ≠ [33] ∧ letS k ≠ [40, 41] ∧ letS k ≠ [46] ∧ letS k ≠ [124] ∧ letS k ≠ [42] ∧ (32 : UInt8) ∉ letS k ∧ (59 : UInt8) ∉ letS k := by
  have : k = 0 ∨ k = 1 ∨ k = 2 ∨ k = 3 ∨ k = 4 ∨ k = 5 ∨ k = 6 ∨ k = 7 ∨ k = 8 := by omega
  rcases this with g | g | g | g | g | g | g | g | g <;> rw [g] <;> decide
theorem ar_zero {t : TToken} {k : Int} (h : 0 ≤ arity t) (hk : t.Kind = k) (hk2 : k = 1 ∨ k = 2 ∨ k = 4 ∨ k = 5 ∨ k = 6) : t = tk0 k := by
  obtain ⟨a, b, c, d⟩ := t
  simp only at hk
  subst hk
  unfold arity zerT at h
  simp only [Bool.and_eq_true, decide_eq_true_eq] at h
  unfold tk0
  rcases hk2 with g | g | g | g | g <;> subst g <;> simp at h <;> simp <;> omega
theorem ar_let {t : TToken} (h : 0 ≤ arity t) (hk : t.Kind = 3) : t = ⟨3, t.Letter, 0, 0⟩ ∧ 0 ≤ t.Letter ∧ t.Letter ≤ 8 := by
  have h1 := tok_let h hk
  obtain ⟨a, b, c, d⟩ := t
  simp only at hk
  subst hk
  unfold arity at h
  rw [if_neg (by simp), if_pos rfl] at h
  refine ⟨?_, h1⟩
  split at h
  · rename_i hc
    simp only [Bool.and_eq_true, decide_eq_true_eq] at hc
    simp only [TToken.mk.injEq, true_and]; exact ⟨hc.1.2, hc.2⟩
  · omega
theorem ar_rep {t : TToken} (h : 0 ≤ arity t) (hk : t.Kind ≠ 1 ∧ t.Kind ≠ 2 ∧ t.Kind ≠ 3 ∧ t.Kind ≠ 4 ∧ t.Kind ≠ 5 ∧ t.Kind ≠ 6) : t = ⟨7, 0, t.Low, t.High⟩ ∧ (0 ≤ t.Low ∧ t.Low ≤ 3) ∧ 0 ≤ t.High ∧ t.High ≤ 3 := by
  refine ⟨?_, tok_rep h hk.1 hk.2.1 hk.2.2.1 hk.2.2.2.1 hk.2.2.2.2.1 hk.2.2.2.2.2⟩
  obtain ⟨a, b, c, d⟩ := t
  simp only at hk
  unfold arity at h
  rw [if_neg (by simp only; omega), if_neg (by simp only; omega), if_neg (by simp only; omega), if_neg (by simp only; omega)] at h
  simp only at h
  split at h
  · split at h
    · rename_i h7 hc
      simp only [Bool.and_eq_true, decide_eq_true_eq] at hc
      simp only [TToken.mk.injEq, and_true]
      exact ⟨h7, hc.1.1⟩
    · omega
  · omega
/-- A brace's text: its five bytes. -/
def braceS (a b : Int) : List UInt8 := [123, UInt8.ofNat (48 + a.toNat), 44, UInt8.ofNat (48 + b.toNat), 125]
theorem rep_txt {a b : Int} (ha : 0 ≤ a ∧ a ≤ 3) (hb : 0 ≤ b ∧ b ≤ 3) : tokS ⟨7, 0, a, b⟩ = braceS a b := by
  unfold tokS braceS
  rw [if_neg (by simp), if_neg (by simp), if_neg (by simp), if_neg (by simp), if_neg (by simp), if_neg (by simp)]
  simp only
  rw [numS_one (by omega), numS_one (by omega)]; rfl
theorem brace_small (P : Int → Int → Prop) [∀ a b, Decidable (P a b)] (h : (List.range 4).all (fun a => (List.range 4).all fun b => decide (P (a : Nat) (b : Nat))) = true) {a b : Int} (ha : 0 ≤ a ∧ a ≤ 3) (hb : 0 ≤ b ∧ b ≤ 3) : P a b := by
  have h1 := List.all_eq_true.1 h a.toNat (List.mem_range.2 (by omega))
  have h2 := List.all_eq_true.1 h1 b.toNat (List.mem_range.2 (by omega))
  rw [decide_eq_true_eq, Int.toNat_of_nonneg ha.1, Int.toNat_of_nonneg hb.1] at h2
  exact h2
theorem brace_letP {a b : Int} (ha : 0 ≤ a ∧ a ≤ 3) (hb : 0 ≤ b ∧ b ≤ 3) : letP (braceS a b) = (0, false) := by
  refine letP_no fun j _ e => ?_
  have := congrArg List.length e
  have h2 := letS_len (j : Int)
  simp [braceS] at this
  omega
theorem brace_ne {a b : Int} : braceS a b ≠ [33] ∧ braceS a b ≠ [40, 41] ∧ braceS a b ≠ [46] ∧ braceS a b ≠ [124] ∧ braceS a b ≠ [42] := by
  refine ⟨?_, ?_, ?_, ?_, ?_⟩ <;> intro e <;> have := congrArg List.length e <;> simp [braceS] at this
theorem brace_S {a b : Int} (ha : 0 ≤ a ∧ a ≤ 3) (hb : 0 ≤ b ∧ b ≤ 3) : brS (braceS a b) = ⟨7, 0, a, b⟩ := by
  unfold brS braceS
  rw [if_pos ⟨rfl, rfl, rfl, rfl⟩]
  simp only [List.getElem?_cons_succ, List.getElem?_cons_zero, Option.getD_some, TToken.mk.injEq, true_and]
  rw [ofN (by omega), ofN (by omega)]
  omega
theorem brace_trim {a b : Int} (ha : 0 ≤ a ∧ a ≤ 3) (hb : 0 ≤ b ∧ b ≤ 3) : Lib.trimS (braceS a b) [123, 125] = numS a ++ 44 :: numS b := by
  have e1 : ∀ c : Int, 0 ≤ c ∧ c ≤ 3 → ([123, 125] : List UInt8).contains (UInt8.ofNat (48 + c.toNat)) = false := fun c hc => by
    have : c = 0 ∨ c = 1 ∨ c = 2 ∨ c = 3 := by omega
    rcases this with g | g | g | g <;> rw [g] <;> decide
  have e2 : ([123, 125] : List UInt8).contains 123 = true := by decide
  have e3 : ([123, 125] : List UInt8).contains 125 = true := by decide
  rw [numS_one (by omega), numS_one (by omega)]
  unfold Lib.trimS Lib.trimLeftS Lib.trimRightS braceS
  have g1 : List.dropWhile (fun x => ([123, 125] : List UInt8).contains x) [125, UInt8.ofNat (48 + b.toNat), 44, UInt8.ofNat (48 + a.toNat), 123] = [UInt8.ofNat (48 + b.toNat), 44, UInt8.ofNat (48 + a.toNat), 123] := by
    rw [List.dropWhile_cons, if_pos e3, List.dropWhile_cons, if_neg (by rw [e1 b hb]; decide)]
  have g2 : ([123, UInt8.ofNat (48 + a.toNat), 44, UInt8.ofNat (48 + b.toNat), 125] : List UInt8).reverse = [125, UInt8.ofNat (48 + b.toNat), 44, UInt8.ofNat (48 + a.toNat), 123] := rfl
  rw [g2, g1]
  have g3 : ([UInt8.ofNat (48 + b.toNat), 44, UInt8.ofNat (48 + a.toNat), 123] : List UInt8).reverse = [123, UInt8.ofNat (48 + a.toNat), 44, UInt8.ofNat (48 + b.toNat)] := rfl
  rw [g3, List.dropWhile_cons, if_pos e2, List.dropWhile_cons, if_neg (by rw [e1 a ha]; decide)]
  rfl
theorem brace_I {a b : Int} (ha : 0 ≤ a ∧ a ≤ 3) (hb : 0 ≤ b ∧ b ≤ 3) : brI (braceS a b) = ⟨7, 0, a, b⟩ := by
  unfold brI
  rw [brace_trim ha hb, cut1_at (numS_no (by decide))]
  simp only
  rw [parseI_numS (by omega), parseI_numS (by omega)]
/-- A token's text is read as that token, whichever way braces are read. -/
theorem rd_tok {rest : List UInt8 → TToken} (hr : ∀ a b : Int, 0 ≤ a ∧ a ≤ 3 → 0 ≤ b ∧ b ≤ 3 → rest (braceS a b) = ⟨7, 0, a, b⟩) {t : TToken} (h : 0 ≤ arity t) : rdT rest (tokS t) = t := by
  by_cases k1 : t.Kind = 1
  · rw [ar_zero h k1 (by omega)]; rfl
  by_cases k2 : t.Kind = 2
  · rw [ar_zero h k2 (by omega)]; rfl
  by_cases k4 : t.Kind = 4
  · rw [ar_zero h k4 (by omega)]; rfl
  by_cases k5 : t.Kind = 5
  · rw [ar_zero h k5 (by omega)]; rfl
  by_cases k6 : t.Kind = 6
  · rw [ar_zero h k6 (by omega)]; rfl
  by_cases k3 : t.Kind = 3
  · obtain ⟨e, h0, h8⟩ := ar_let h k3
    have e2 : tokS t = letS t.Letter := by unfold tokS; rw [if_neg k1, if_neg k2, if_pos k3]
    obtain ⟨n1, n2, n3, n4, n5, _⟩ := let_plain h0 h8
    unfold rdT
    rw [e2, if_neg n1, if_neg n2, if_neg n3, if_neg n4, if_neg n5, letP_let h0 h8, if_pos rfl]
    exact e.symm
  · obtain ⟨e, ha, hb⟩ := ar_rep h ⟨k1, k2, k3, k4, k5, k6⟩
    have e2 : tokS t = braceS t.Low t.High := by rw [e]; exact rep_txt ha hb
    obtain ⟨n1, n2, n3, n4, n5⟩ := brace_ne (a := t.Low) (b := t.High)
    unfold rdT
    rw [e2, if_neg n1, if_neg n2, if_neg n3, if_neg n4, if_neg n5, brace_letP ha hb, if_neg (by decide), hr _ _ ha hb]
    exact e.symm
/-- What spec reads as a token is written as it stood. -/
theorem tok_rd {s : List UInt8} (h : 0 ≤ arity (rdT brS s)) : tokS (rdT brS s) = s := by
  unfold rdT at h ⊢
  split
  · rename_i e; rw [e]; rfl
  split
  · rename_i e; rw [e]; rfl
  split
  · rename_i e; rw [e]; rfl
  split
  · rename_i e; rw [e]; rfl
  split
  · rename_i e; rw [e]; rfl
  rename_i n1 n2 n3 n4 n5
  rw [if_neg n1, if_neg n2, if_neg n3, if_neg n4, if_neg n5] at h
  split
  · rename_i e; exact letP_get e
  rename_i n6
  rw [if_neg n6] at h
  unfold brS at h ⊢
  split
  · rename_i hc
    rw [if_pos hc] at h
    obtain ⟨h5, h0, h2, h4⟩ := hc
    match s, h5 with
    | [x0, x1, x2, x3, x4], _ =>
      simp only [List.getElem?_cons_succ, List.getElem?_cons_zero, Option.some.injEq, Option.getD_some] at h0 h2 h4 h ⊢
      subst h0 h2 h4
      have hr := tok_rep h (by simp) (by simp) (by simp) (by simp) (by simp) (by simp)
      simp only at hr
      rw [rep_txt hr.1 hr.2]
      unfold braceS
      have f : ∀ x : UInt8, 0 ≤ ((x.toNat : Int) - 48) → UInt8.ofNat (48 + ((x.toNat : Int) - 48).toNat) = x := fun x hx => by
        rw [show 48 + ((x.toNat : Int) - 48).toNat = x.toNat by omega]; simp
      rw [f x1 hr.1.1, f x3 hr.2.1]
  · rename_i hc
    rw [if_neg hc] at h
    exact absurd h (by decide)
theorem tokS_no {t : TToken} (h : 0 ≤ arity t) : (32 : UInt8) ∉ tokS t ∧ (59 : UInt8) ∉ tokS t ∧ tokS t ≠ [] := by
  by_cases k1 : t.Kind = 1
  · rw [ar_zero h k1 (by omega)]; decide
  by_cases k2 : t.Kind = 2
  · rw [ar_zero h k2 (by omega)]; decide
  by_cases k4 : t.Kind = 4
  · rw [ar_zero h k4 (by omega)]; decide
  by_cases k5 : t.Kind = 5
  · rw [ar_zero h k5 (by omega)]; decide
  by_cases k6 : t.Kind = 6
  · rw [ar_zero h k6 (by omega)]; decide
  by_cases k3 : t.Kind = 3
  · obtain ⟨e, h0, h8⟩ := ar_let h k3
    have e2 : tokS t = letS t.Letter := by unfold tokS; rw [if_neg k1, if_neg k2, if_pos k3]
    obtain ⟨n1, n2, n3, n4, n5, n6, n7⟩ := let_plain h0 h8
    rw [e2]
    refine ⟨n6, n7, fun e0 => ?_⟩
    have : t.Letter = 0 ∨ t.Letter = 1 ∨ t.Letter = 2 ∨ t.Letter = 3 ∨ t.Letter = 4 ∨ t.Letter = 5 ∨ t.Letter = 6 ∨ t.Letter = 7 ∨ t.Letter = 8 := by omega
    rcases this with g | g | g | g | g | g | g | g | g <;> rw [g] at e0 <;> revert e0 <;> decide
  · obtain ⟨e, ha, hb⟩ := ar_rep h ⟨k1, k2, k3, k4, k5, k6⟩
    have e2 : tokS t = braceS t.Low t.High := by rw [e]; exact rep_txt ha hb
    rw [e2]
    exact brace_small (fun a b => (32 : UInt8) ∉ braceS a b ∧ (59 : UInt8) ∉ braceS a b ∧ braceS a b ≠ []) (by decide) ha hb
/-! ### Expressions read -/
def exS (s : List UInt8) : TExpr := ⟨(splitL 32 s).map (rdT brS)⟩
def exI (s : List UInt8) : TExpr := ⟨(splitL 32 s).map (rdT brI)⟩
def parseX (s : List UInt8) : TExpr × Bool := if isValidExpr (exS s) = true then (exS s, true) else (⟨[]⟩, false)
theorem valid_ne {e : TExpr} (h : isValidExpr e = true) : e.Tokens ≠ [] := by
  unfold isValidExpr isExpr at h
  simp only [Bool.and_eq_true, decide_eq_true_eq] at h
  intro hn
  rw [hn] at h
  simp [depthGo] at h
theorem split_expr {e : TExpr} (h : isValidExpr e = true) : splitL 32 (fmtExpr e) = e.Tokens.map tokS := by
  have hv := valid_toks h
  unfold fmtExpr
  rw [if_pos h]
  refine split_joinL _ (fun hn => valid_ne h (List.map_eq_nil_iff.1 hn)) fun x hx => ?_
  obtain ⟨t, ht, rfl⟩ := List.mem_map.1 hx
  exact (tokS_no (hv.2 t ht)).1
theorem ex_fmt {rest : List UInt8 → TToken} (hr : ∀ a b : Int, 0 ≤ a ∧ a ≤ 3 → 0 ≤ b ∧ b ≤ 3 → rest (braceS a b) = ⟨7, 0, a, b⟩) {e : TExpr} (h : isValidExpr e = true) : (⟨(splitL 32 (fmtExpr e)).map (rdT rest)⟩ : TExpr) = e := by
  have hv := valid_toks h
  rw [split_expr h, List.map_map]
  obtain ⟨l⟩ := e
  congr 1
  conv => rhs; rw [← List.map_id l]
  exact List.map_congr_left fun t ht => rd_tok hr (hv.2 t ht)
theorem exS_fmt {e : TExpr} (h : isValidExpr e = true) : exS (fmtExpr e) = e := ex_fmt (fun _ _ => brace_S) h
theorem exI_fmt {e : TExpr} (h : isValidExpr e = true) : exI (fmtExpr e) = e := ex_fmt (fun _ _ => brace_I) h
theorem fmt_exS {s : List UInt8} (h : isValidExpr (exS s) = true) : fmtExpr (exS s) = s := by
  have hv := valid_toks h
  unfold fmtExpr
  rw [if_pos h]
  unfold exS at hv ⊢
  rw [List.map_map]
  have : (splitL 32 s).map (tokS ∘ rdT brS) = splitL 32 s := by
    conv => rhs; rw [← List.map_id (splitL 32 s)]
    exact List.map_congr_left fun p hp => tok_rd (hv.2 _ (List.mem_map_of_mem hp))
  rw [this, splitL_join]
theorem fmtExpr_ne {e : TExpr} (h : isValidExpr e = true) : fmtExpr e ≠ [] := by
  intro hn
  have := split_expr h
  rw [hn] at this
  have hv := valid_toks h
  obtain ⟨l⟩ := e
  simp only at this hv
  cases l with
  | nil => exact valid_ne h rfl
  | cons t r =>
    simp only [splitL, List.map_cons, List.cons.injEq] at this
    exact (tokS_no (hv.2 t (by simp))).2.2 this.1.symm
theorem fmtExpr_valid {e : TExpr} (h : fmtExpr e ≠ []) : isValidExpr e = true := by
  unfold fmtExpr at h
  split at h
  · assumption
  · exact absurd rfl h
/-- Impl's way. -/
theorem parseX_impl (s : List UInt8) : parseX s = if s = [] ∨ fmtExpr (exI s) ≠ s then (⟨[]⟩, false) else (exI s, true) := by
  unfold parseX
  by_cases h : isValidExpr (exS s) = true
  · have h1 := fmt_exS h
    have h2 : exI s = exS s := by
      have := exI_fmt h
      rwa [h1] at this
    have h3 := fmtExpr_ne h
    rw [h1] at h3
    rw [if_pos h, h2, if_neg]
    rintro (g | g)
    · exact h3 g
    · exact g h1
  · rw [if_neg h]
    split
    · rfl
    · rename_i hc
      exfalso
      simp only [not_or, Decidable.not_not] at hc
      have h1 := fmtExpr_valid (e := exI s) (by rw [hc.2]; exact hc.1)
      have h2 := exS_fmt h1
      rw [hc.2] at h2
      exact h (by rw [h2]; exact h1)
/-- Spec stops behind the 25th part. -/
theorem parseX_spec {s : List UInt8} {k : Nat} (hk : (splitL 32 s).length ≤ k ∨ 25 ≤ k) : parseX s = if isValidExpr ⟨((splitL 32 s).take k).map (rdT brS)⟩ = true then (⟨((splitL 32 s).take k).map (rdT brS)⟩, true) else (⟨[]⟩, false) := by
  by_cases h : (splitL 32 s).length ≤ k
  · rw [List.take_of_length_le h]; rfl
  · have h1 : isValidExpr (exS s) = false := Bool.eq_false_iff.2 fun hh => by
      have := (valid_toks hh).1
      unfold exS at this; simp at this; omega
    have h2 : isValidExpr ⟨((splitL 32 s).take k).map (rdT brS)⟩ = false := Bool.eq_false_iff.2 fun hh => by
      have := (valid_toks hh).1
      simp at this; omega
    unfold parseX
    rw [h1, h2]; rfl
theorem parseX_fmt {e : TExpr} (h : isValidExpr e = true) : parseX (fmtExpr e) = (e, true) := by
  unfold parseX
  rw [exS_fmt h, if_pos h]
/-! ### Conjunctions read -/
def atmI (p : List UInt8) : TPathAtom := ⟨(parseI (Lib.cut (Lib.cut p [32]).1 [58]).1).1, (parseI (Lib.cut (Lib.cut p [32]).1 [58]).2.1).1, (parseX (Lib.cut p [32]).2.1).1⟩
def atmS (p : List UInt8) : TPathAtom := ⟨((p[0]?.getD 0).toNat : Int) - 48, ((p[2]?.getD 0).toNat : Int) - 48, (parseX (p.drop 4)).1⟩
def vcOf (l : List TPathAtom) : Int := l.foldl (fun m x => max (max m (x.From + 1)) (x.To + 1)) 0
def cjOf (l : List TPathAtom) : TConjunction := ⟨vcOf l, l⟩
def noC : TConjunction := ⟨0, []⟩
def parseC (s : List UInt8) : TConjunction × Bool := if fmtConj (cjOf ((splitL 59 s).map atmI)) = s ∧ s ≠ [] then (cjOf ((splitL 59 s).map atmI), true) else (noC, false)
theorem vcOf_snoc (l : List TPathAtom) (x : TPathAtom) : vcOf (l ++ [x]) = max (max (vcOf l) (x.From + 1)) (x.To + 1) := by unfold vcOf; rw [List.foldl_append]; rfl
theorem vcOf_le {n : Int} (h0 : 0 ≤ n) : ∀ (l : List TPathAtom), (∀ x ∈ l, x.From < n ∧ x.To < n) → vcOf l ≤ n := by
  intro l
  have : ∀ (l : List TPathAtom) (m : Int), m ≤ n → (∀ x ∈ l, x.From < n ∧ x.To < n) → l.foldl (fun m x => max (max m (x.From + 1)) (x.To + 1)) m ≤ n := by
    intro l
    induction l with
    | nil => intro m hm _; exact hm
    | cons x r ih =>
      intro m hm h
      have hx := h x (by simp)
      rw [List.foldl_cons]
      exact ih _ (by omega) fun y hy => h y (by simp [hy])
  exact this l 0 h0
theorem vcOf_mono : ∀ (l : List TPathAtom) (m : Int), m ≤ l.foldl (fun m x => max (max m (x.From + 1)) (x.To + 1)) m := by
  intro l
  induction l with
  | nil => intro m; exact Int.le_refl _
  | cons x r ih => intro m; have := ih (max (max m (x.From + 1)) (x.To + 1)); rw [List.foldl_cons]; omega
theorem vcOf_ge {l : List TPathAtom} {x : TPathAtom} (h : x ∈ l) : x.From + 1 ≤ vcOf l ∧ x.To + 1 ≤ vcOf l := by
  obtain ⟨s, t, rfl⟩ := List.append_of_mem h
  unfold vcOf
  rw [List.foldl_append, List.foldl_cons]
  have := vcOf_mono t (max (max (s.foldl (fun m x => max (max m (x.From + 1)) (x.To + 1)) 0) (x.From + 1)) (x.To + 1))
  omega
theorem vc_valid {q : TConjunction} (h : validConj q = true) : vcOf q.Atoms = q.VariableCount := by
  obtain ⟨_, hn, hm⟩ := conj_mem h
  have h1 := vcOf_le (n := q.VariableCount) (by omega) q.Atoms fun x hx => by have := (hm x hx).1; omega
  unfold validConj at h
  simp only [Bool.and_eq_true] at h
  have h2 := List.all_eq_true.1 h.2 (q.VariableCount.toNat - 1) (List.mem_range.2 (by omega))
  unfold seenV at h2
  rw [List.any_eq_true] at h2
  obtain ⟨x, hx, hs⟩ := h2
  have := vcOf_ge hx
  simp at hs
  omega
theorem cj_valid {q : TConjunction} (h : validConj q = true) : cjOf q.Atoms = q := by unfold cjOf; rw [vc_valid h]
/-- The text of an atom, cut. -/
theorem atom_txt {q : TConjunction} (h : validConj q = true) {x : TPathAtom} (hx : x ∈ q.Atoms) : fmtAtom x = [UInt8.ofNat (48 + x.From.toNat), 58, UInt8.ofNat (48 + x.To.toNat), 32] ++ fmtExpr x.Expr := by
  obtain ⟨_, hn, hm⟩ := conj_mem h
  have := (hm x hx).1
  unfold fmtAtom
  rw [numS_one (by omega), numS_one (by omega)]; rfl
theorem atmS_fmt {q : TConjunction} (h : validConj q = true) {x : TPathAtom} (hx : x ∈ q.Atoms) : atmS (fmtAtom x) = x := by
  obtain ⟨_, hn, hm⟩ := conj_mem h
  have hx2 := hm x hx
  rw [atom_txt h hx]
  unfold atmS
  have e : ([UInt8.ofNat (48 + x.From.toNat), 58, UInt8.ofNat (48 + x.To.toNat), 32] ++ fmtExpr x.Expr).drop 4 = fmtExpr x.Expr := rfl
  rw [e, parseX_fmt hx2.2]
  obtain ⟨a, b, c⟩ := x
  simp only [List.cons_append, List.getElem?_cons_zero, List.getElem?_cons_succ, Option.getD_some, TPathAtom.mk.injEq, and_true] at hx2 ⊢
  rw [ofN (by omega), ofN (by omega)]
  omega
theorem atmI_fmt {q : TConjunction} (h : validConj q = true) {x : TPathAtom} (hx : x ∈ q.Atoms) : atmI (fmtAtom x) = x := by
  obtain ⟨_, hn, hm⟩ := conj_mem h
  have hx2 := hm x hx
  have e : Lib.cut (fmtAtom x) [32] = (numS x.From ++ 58 :: numS x.To, fmtExpr x.Expr, true) := by
    have : fmtAtom x = (numS x.From ++ 58 :: numS x.To) ++ 32 :: fmtExpr x.Expr := by unfold fmtAtom; simp
    rw [this]
    refine cut1_at fun hmem => ?_
    rcases List.mem_append.1 hmem with g | g
    · exact numS_no (by decide) g
    · rcases List.mem_cons.1 g with g | g
      · exact absurd g (by decide)
      · exact numS_no (by decide) g
  unfold atmI
  rw [e]
  simp only
  rw [cut1_at (numS_no (by decide))]
  simp only
  rw [parseI_numS (by omega), parseI_numS (by omega), parseX_fmt hx2.2]
theorem join_no {c : UInt8} {sep : List UInt8} (hs : c ∉ sep) : ∀ (xs : List (List UInt8)), (∀ x ∈ xs, c ∉ x) → c ∉ joinL sep xs := by
  intro xs
  cases xs with
  | nil => intro _; simp [joinL_nil]
  | cons x r =>
    intro h hm
    unfold joinL at hm
    rw [Lib.join_cons] at hm
    rcases List.mem_append.1 hm with g | g
    · exact h x (by simp) g
    · unfold Lib.joinTail at g
      simp only [List.mem_flatten, List.mem_map] at g
      obtain ⟨y, ⟨z, hz, rfl⟩, hy⟩ := g
      rcases List.mem_append.1 hy with g | g
      · exact hs g
      · exact h z (by simp [hz]) g
theorem fmtExpr_no {e : TExpr} : (59 : UInt8) ∉ fmtExpr e := by
  unfold fmtExpr
  split
  · rename_i h
    have hv := valid_toks h
    refine join_no (by decide) _ fun x hx => ?_
    obtain ⟨t, ht, rfl⟩ := List.mem_map.1 hx
    exact (tokS_no (hv.2 t ht)).2.1
  · simp
theorem atom_no {q : TConjunction} (h : validConj q = true) {x : TPathAtom} (hx : x ∈ q.Atoms) : (59 : UInt8) ∉ fmtAtom x := by
  unfold fmtAtom
  simp only [List.mem_append, List.mem_singleton, not_or]
  exact ⟨⟨⟨⟨numS_no (by decide), by decide⟩, numS_no (by decide)⟩, by decide⟩, fmtExpr_no⟩
theorem conj_ne {q : TConjunction} (h : validConj q = true) : q.Atoms ≠ [] := by
  unfold validConj inB at h
  simp only [Bool.and_eq_true, decide_eq_true_eq] at h
  intro e
  rw [e] at h
  simp at h
theorem split_conj {q : TConjunction} (h : validConj q = true) : splitL 59 (fmtConj q) = q.Atoms.map fmtAtom := by
  unfold fmtConj
  rw [if_pos h]
  refine split_joinL _ (fun hn => conj_ne h (List.map_eq_nil_iff.1 hn)) fun x hx => ?_
  obtain ⟨t, ht, rfl⟩ := List.mem_map.1 hx
  exact atom_no h ht
theorem cj_read {at_ : List UInt8 → TPathAtom} {q : TConjunction} (h : validConj q = true) (ha : ∀ x ∈ q.Atoms, at_ (fmtAtom x) = x) : (splitL 59 (fmtConj q)).map at_ = q.Atoms := by
  rw [split_conj h, List.map_map]
  conv => rhs; rw [← List.map_id q.Atoms]
  exact List.map_congr_left fun x hx => ha x hx
theorem fmtConj_valid {q : TConjunction} (h : fmtConj q ≠ []) : validConj q = true := by
  unfold fmtConj at h
  split at h
  · assumption
  · exact absurd rfl h
theorem parseC_fmt {q : TConjunction} (h : validConj q = true) (hs : fmtConj q ≠ []) : parseC (fmtConj q) = (q, true) := by
  unfold parseC
  rw [cj_read h fun x hx => atmI_fmt h hx, cj_valid h, if_pos ⟨rfl, hs⟩]
theorem parseC_no {s : List UInt8} (h : ∀ q, validConj q = true → s ≠ [] → fmtConj q ≠ s) : parseC s = (noC, false) := by
  unfold parseC
  rw [if_neg]
  rintro ⟨h1, h2⟩
  exact h _ (fmtConj_valid (by rw [h1]; exact h2)) h2 h1
/-- Impl's last question. -/
theorem parseC_impl {s : List UInt8} (hs : s ≠ []) : parseC s = if 4 < vcOf ((splitL 59 s).map atmI) ∨ fmtConj (cjOf ((splitL 59 s).map atmI)) ≠ s then (noC, false) else (cjOf ((splitL 59 s).map atmI), true) := by
  unfold parseC
  by_cases h : fmtConj (cjOf ((splitL 59 s).map atmI)) = s
  · have hv := fmtConj_valid (q := cjOf ((splitL 59 s).map atmI)) (by rw [h]; exact hs)
    have h4 := (conj_mem hv).2.1.2
    rw [if_pos ⟨h, hs⟩, if_neg]
    rintro (g | g)
    · unfold cjOf at h4; simp only at h4; omega
    · exact g h
  · rw [if_neg fun g => h g.1, if_pos (.inr h)]
theorem parseC_nil : parseC [] = (noC, false) := parseC_no fun _ _ h => absurd rfl h
/-- A part that is too short. -/
theorem parseC_short {s p : List UInt8} {k : Nat} (hp : (splitL 59 s)[k]? = some p) (h : p.length < 5) : parseC s = (noC, false) := parseC_no fun q hq hs e => by
  rw [← e, split_conj hq, List.getElem?_map] at hp
  cases hx : q.Atoms[k]? with
  | none => rw [hx] at hp; cases hp
  | some x =>
    rw [hx] at hp
    simp only [Option.map_some, Option.some.injEq] at hp
    have hm := List.mem_of_getElem? hx
    rw [atom_txt hq hm] at hp
    have h1 := fmtExpr_ne ((conj_mem hq).2.2 x hm).2
    have h2 := List.length_pos_iff.2 h1
    rw [← hp, List.length_append] at h
    simp at h; omega
/-- Spec stops behind the fifth part. -/
theorem parseC_spec {s : List UInt8} {k : Nat} (hk : (splitL 59 s).length ≤ k ∨ 5 ≤ k) : parseC s = if fmtConj (cjOf (((splitL 59 s).take k).map atmS)) ≠ s ∨ s = [] then (noC, false) else (cjOf (((splitL 59 s).take k).map atmS), true) := by
  split
  · rename_i h
    refine parseC_no fun q hq hs e => ?_
    rcases h with h | h
    · refine h ?_
      have hl : (splitL 59 s).length ≤ 4 := by
        rw [← e, split_conj hq, List.length_map]; exact (conj_mem hq).1
      rw [List.take_of_length_le (by omega), ← e, cj_read hq fun x hx => atmS_fmt hq hx, cj_valid hq]
    · exact hs h
  · rename_i h
    simp only [not_or, Decidable.not_not] at h
    have hv := fmtConj_valid (q := cjOf (((splitL 59 s).take k).map atmS)) (by rw [h.1]; exact h.2)
    have := parseC_fmt hv (by rw [h.1]; exact h.2)
    rwa [h.1] at this
theorem parseC_few (s : List UInt8) : (parseC s).1.Atoms.length ≤ 4 ∧ ∀ x ∈ (parseC s).1.Atoms, x.Expr.Tokens.length ≤ 24 := by
  unfold parseC
  split
  · rename_i h
    have hv := fmtConj_valid (q := cjOf ((splitL 59 s).map atmI)) (by rw [h.1]; exact h.2)
    exact ⟨(conj_mem hv).1, fun x hx => (valid_toks ((conj_mem hv).2.2 x hx).2).1⟩
  · exact ⟨by simp [noC], fun x hx => by simp [noC] at hx⟩
end Go.Q
