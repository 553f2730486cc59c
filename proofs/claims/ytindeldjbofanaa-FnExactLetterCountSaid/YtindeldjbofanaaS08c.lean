/- Which expressions are valid; how many letters; both texts. -/
import Derived.Test.YtindeldjbofanaaS08b
namespace Go.Q
open Go.RowKit
def depthGo : Int → List TToken → Bool
  | d, [] => decide (d = 1)
  | d, t :: r => if arity t < 0 ∨ d < arity t then false else depthGo (d - arity t + 1) r
def isExpr (l : List TToken) : Bool := depthGo 0 l
def isValidExpr (x : TExpr) : Bool := decide (x.Tokens.length ≤ 24) && isExpr x.Tokens
theorem arity_nk {t : TToken} (h : tokOk t = true) : arity t = nk t.Kind := by
  unfold tokOk at h
  unfold arity at h ⊢
  unfold nk
  have h := of_decide_eq_true h
  repeat' split
  all_goals first | rfl | omega | skip
  all_goals simp_all
theorem nk_cases (k : Int) : nk k = 0 ∨ nk k = 1 ∨ nk k = 2 := by
  unfold nk
  split
  · exact .inr (.inr rfl)
  · split
    · exact .inr (.inl rfl)
    · exact .inl rfl
theorem stepTr_some {ts : List Tr} {t : TToken} (h : tokOk t = true) (hn : nk t.Kind ≤ ts.length) : ∃ ts', stepTr ts t = some ts' ∧ ts'.length = ts.length - nk t.Kind + 1 := by
  unfold stepTr
  rw [if_neg (by simp [h]; omega)]
  have hl : (ts.drop (ts.length - nk t.Kind)).length = nk t.Kind := by rw [List.length_drop]; omega
  generalize ts.drop (ts.length - nk t.Kind) = r at hl
  have h3 := nk_cases t.Kind
  generalize nk t.Kind = n at *
  match n, r, hl with
  | 0, _, _ => exact ⟨_, rfl, by simp⟩
  | 1, [x], _ => exact ⟨_, rfl, by simp⟩
  | 2, [x, y], _ => exact ⟨_, rfl, by simp⟩
  | n + 3, _, _ => omega
theorem depth_run (l : List TToken) : ∀ ts : List Tr, depthGo ts.length l = match runTr ts l with | some [_] => true | _ => false := by
  induction l with
  | nil =>
    intro ts
    match ts with
    | [] => rfl
    | [_] => rfl
    | _ :: _ :: _ => simp [depthGo, runTr]; omega
  | cons t r ih =>
    intro ts
    rw [depthGo, runTr]
    by_cases h : tokOk t = true
    · have ha := arity_nk h
      by_cases hn : nk t.Kind ≤ ts.length
      · obtain ⟨ts', h1, h2⟩ := stepTr_some h hn
        rw [if_neg (by omega), h1]
        have e : (ts.length : Int) - arity t + 1 = ts'.length := by omega
        rw [e]
        exact ih ts'
      · have : stepTr ts t = none := by unfold stepTr; rw [if_pos (.inr (by omega))]
        rw [if_pos (.inr (by omega)), this]
    · have : stepTr ts t = none := by unfold stepTr; rw [if_pos (.inl (by simpa using h))]
      have ha : arity t < 0 := by simpa [tokOk] using h
      rw [if_pos (.inl ha), this]
theorem isExpr_tree (l : List TToken) : isExpr l = (treeM l).isSome := by
  have h := depth_run l []
  unfold isExpr treeM
  have e : depthGo 0 l = depthGo ([] : List Tr).length l := rfl
  rw [e, h]
  cases runTr [] l with
  | none => rfl
  | some v => match v with
    | [] => rfl
    | [_] => rfl
    | _ :: _ :: _ => rfl
theorem depthGo_drop {l : List TToken} {k : Nat} {t : TToken} {d : Int} (h : l[k]? = some t) : depthGo d (l.drop k) = if arity t < 0 ∨ d < arity t then false else depthGo (d - arity t + 1) (l.drop (k + 1)) := by
  obtain ⟨hk, rfl⟩ := List.getElem?_eq_some_iff.1 h
  rw [List.drop_eq_getElem_cons hk, depthGo]
theorem arity_le (t : TToken) : -1 ≤ arity t ∧ arity t ≤ 2 := by
  unfold arity
  repeat' split
  all_goals omega
def lettersIn (l : List TToken) : Nat := l.countP fun t => decide (t.Kind = 3)
def letterCount (x : TExpr) : Int := if isValidExpr x then lettersIn x.Tokens else 0
theorem letters_snoc {l : List TToken} {k : Nat} {t : TToken} (h : l[k]? = some t) : lettersIn (l.take (k + 1)) = lettersIn (l.take k) + if t.Kind = 3 then 1 else 0 := by
  obtain ⟨hk, rfl⟩ := List.getElem?_eq_some_iff.1 h
  rw [List.take_succ_eq_append_getElem hk]
  unfold lettersIn
  rw [List.countP_append]
  simp [List.countP_cons]
theorem letters_le (l : List TToken) : lettersIn l ≤ l.length := List.countP_le_length
end Go.Q
namespace Go.Proofs.Ytindeldjbofanaa
open Go.RowKit Go.Q
theorem specIsExpr (x : TExpr) (w : World) {a0 : Option Addr} {l0 c0 : Nat} {F0 : List Nat} (h : Sl w a0 l0 c0 x.Tokens F0) :
    Calls Try.prog 58 #[.agg #[.slice a0 l0 c0]] w fun e w' => e = .returned (.bool (isExpr x.Tokens)) ∧ Ext w w' := by
  have hl := h.le
  go_enter Try.func58, Try.ntmps58
  go_wp2_with fail
  obtain ⟨u, hu, hx, B0⟩ := boxes1 w #[.slice a0 l0 c0] 49
  rw [← hu]
  clear hu
  go_loopw [3, 4] (fun dv i wr => ∃ (k : Nat) (d : Int), k ≤ l0 ∧ i = .int .i64 k ∧ dv = .int .i64 d ∧ 0 ≤ d ∧ d ≤ k ∧ Ext w wr ∧ Box wr w.heap.size [.slice a0 l0 c0] 49 ∧ isExpr x.Tokens = depthGo d (x.Tokens.drop k)) (fun _ i _ => l0 - (intOf i).toNat)
  case atStart => exact ⟨0, 0, Nat.zero_le _, rfl, rfl, by omega, by omega, hx, B0, rfl⟩
  case round =>
    clear hx B0
    obtain ⟨k, d, hk, rfl, rfl, hd0, hd1, hx, B0, ht⟩ := hrel
    have HT := hid ht; clear ht
    have b0 := B0.at 0 rfl
    by_cases hlt : k < l0
    · obtain ⟨b, off, t, rfl, hxk, d0, d1, d2, d3⟩ := (h.mono hx).atTToken hlt
      have HD := hid (depthGo_drop (d := d) hxk); clear hxk
      go_wp2_with fail
      refine (specl8Arity t wr).mono ?_
      rintro e w2 ⟨rfl, hx2⟩
      have ha := arity_le t
      generalize arity t = n at HD ha ⊢
      by_cases q : n < 0
      case pos =>
        go_wp2
        go_ret
        exact ⟨ret_bool (by rw [HT.out, HD.out, if_pos (.inl q)]), hx.trans hx2⟩
      by_cases q2 : d < n
      case pos =>
        go_wp2
        go_ret
        exact ⟨ret_bool (by rw [HT.out, HD.out, if_pos (.inr q2)]), hx.trans hx2⟩
      go_wp2
      go_roundw
      case rel => exact ⟨k + 1, _, by omega, by go_num, rfl, by omega, by omega, hx.trans hx2, B0.mono hx2, by rw [HT.out, HD.out, if_neg (by omega)]⟩
      case measure => simp [intOf]; omega
    · have HE := hid (HT.out.trans (by rw [List.drop_eq_nil_of_le (by have := h.hlen; omega), depthGo]))
      by_cases q : d = 1
      · go_wp2
        go_ret
        exact ⟨ret_bool (by rw [HE.out]; simp [q]), hx⟩
      · go_wp2
        go_ret
        exact ⟨ret_bool (by rw [HE.out]; simp [q]), hx⟩
theorem implIsExpr (x : TExpr) (w : World) {a0 : Option Addr} {l0 c0 : Nat} {F0 : List Nat} (h : Sl w a0 l0 c0 x.Tokens F0) (hz : l0 ≤ 1048576) :
    Calls Try.prog 60 #[.agg #[.slice a0 l0 c0]] w fun e w' => e = .returned (.bool (isExpr x.Tokens)) ∧ Ext w w' := by
  go_enter Try.func60, Try.ntmps60
  go_wp2_with fail
  obtain ⟨u, hu, hx, B0⟩ := boxes1 w #[.slice a0 l0 c0] 49
  rw [← hu]
  clear hu
  refine (impltreeOf u (h.mono hx) hz).mono ?_
  rintro e w1 ⟨hx1, hp⟩
  have he := isExpr_tree x.Tokens
  cases hT : treeM x.Tokens with
  | none =>
    rw [hT] at hp he
    subst hp
    go_wp2
    go_ret
    exact ⟨ret_bool he.symm, hx.trans hx1⟩
  | some T =>
    rw [hT] at hp he
    obtain ⟨b, rfl, -⟩ := hp
    go_wp2
    go_ret
    exact ⟨ret_bool he.symm, hx.trans hx1⟩
theorem specIsValidExpr (x : TExpr) (w : World) {a0 : Option Addr} {l0 c0 : Nat} {F0 : List Nat} (h : Sl w a0 l0 c0 x.Tokens F0) :
    Calls Try.prog 46 #[.agg #[.slice a0 l0 c0]] w fun e w' => e = .returned (.bool (isValidExpr x)) ∧ Ext w w' := by
  have hl := h.hlen
  by_cases q : l0 ≤ 24
  · go_enter Try.func46, Try.ntmps46
    go_wp2_with fail
    obtain ⟨u, hu, hx, B0⟩ := boxes1 w #[.slice a0 l0 c0] 49
    rw [← hu]
    clear hu
    refine (specIsExpr x u (h.mono hx)).mono ?_
    rintro e w1 ⟨rfl, hx1⟩
    go_wp2
    go_ret
    exact ⟨ret_bool (by unfold isValidExpr; simp [hl, q]), hx.trans hx1⟩
  · go_enter Try.func46, Try.ntmps46
    go_wp2
    go_ret
    exact ⟨ret_bool (by unfold isValidExpr; simp [hl, q]), (Ext.refl w).alloc _⟩
theorem implIsValidExpr (x : TExpr) (w : World) {a0 : Option Addr} {l0 c0 : Nat} {F0 : List Nat} (h : Sl w a0 l0 c0 x.Tokens F0) :
    Calls Try.prog 48 #[.agg #[.slice a0 l0 c0]] w fun e w' => e = .returned (.bool (isValidExpr x)) ∧ Ext w w' := by
  have hl := h.hlen
  by_cases q : l0 ≤ 24
  · go_enter Try.func48, Try.ntmps48
    go_wp2_with fail
    obtain ⟨u, hu, hx, B0⟩ := boxes1 w #[.slice a0 l0 c0] 49
    rw [← hu]
    clear hu
    refine (implIsExpr x u (h.mono hx) (by omega)).mono ?_
    rintro e w1 ⟨rfl, hx1⟩
    go_wp2
    go_ret
    exact ⟨ret_bool (by unfold isValidExpr; simp [hl, q]), hx.trans hx1⟩
  · go_enter Try.func48, Try.ntmps48
    go_wp2
    go_ret
    exact ⟨ret_bool (by unfold isValidExpr; simp [hl, q]), (Ext.refl w).alloc _⟩
theorem specLetterCount (x : TExpr) (w : World) {a0 : Option Addr} {l0 c0 : Nat} {F0 : List Nat} (h : Sl w a0 l0 c0 x.Tokens F0) :
    Calls Try.prog 27 #[.agg #[.slice a0 l0 c0]] w fun e w' => e = .returned (.int .i64 (letterCount x)) ∧ Ext w w' := by
  have hl := h.le
  have hlen := h.hlen
  go_enter Try.func27, Try.ntmps27
  go_wp2_with fail
  obtain ⟨u, hu, hx, B0⟩ := boxes1 w #[.slice a0 l0 c0] 49
  rw [← hu]
  clear hu
  go_loopw [3, 4] (fun nv i wr => ∃ (k : Nat) (n : Nat), k ≤ l0 ∧ i = .int .i64 k ∧ nv = .int .i64 n ∧ n ≤ k ∧ Ext w wr ∧ Box wr w.heap.size [.slice a0 l0 c0] 49 ∧ n = lettersIn (x.Tokens.take k) ∧ (0 < k → isValidExpr x = true)) (fun _ i _ => l0 - (intOf i).toNat)
  case atStart => exact ⟨0, 0, Nat.zero_le _, rfl, rfl, Nat.le_refl _, hx, B0, rfl, by omega⟩
  case round =>
    clear hx B0
    obtain ⟨k, n, hk, rfl, rfl, hn, hx, B0, ht, hv⟩ := hrel
    have HT := hid ht; clear ht
    have b0 := B0.at 0 rfl
    by_cases hlt : k < l0
    · go_wp2_with fail
      refine (specIsValidExpr x wr (h.mono hx)).mono ?_
      rintro e w1 ⟨rfl, hx1⟩
      replace B0 := B0.mono hx1
      replace hx := hx.trans hx1
      clear hx1 b0
      have b0 := B0.at 0 rfl
      obtain ⟨b, off, t, rfl, hxk, d0, d1, d2, d3⟩ := (h.mono hx).atTToken hlt
      have HD := hid (letters_snoc hxk); clear hxk
      generalize hq : isValidExpr x = q
      have HQ := hid hq
      clear hq
      cases q
      case false =>
        have hk0 : k = 0 := by
          rcases Nat.eq_zero_or_pos k with h0 | h0
          · exact h0
          · have := hv h0; rw [HQ.out] at this; cases this
        subst hk0
        have : n = 0 := by omega
        subst this
        go_wp2
        go_ret
        exact ⟨ret_int (by unfold letterCount; rw [HQ.out]; rfl), hx⟩
      by_cases q3 : t.Kind = 3
      · go_wp2
        go_roundw
        case rel => exact ⟨k + 1, n + 1, by omega, by go_num, by go_num, by omega, hx, B0, by rw [HD.out, if_pos q3, HT.out], fun _ => HQ.out⟩
        case measure => simp [intOf]; omega
      · go_wp2
        go_roundw
        case rel => exact ⟨k + 1, n, by omega, by go_num, rfl, by omega, hx, B0, by rw [HD.out, if_neg q3, HT.out]; rfl, fun _ => HQ.out⟩
        case measure => simp [intOf]; omega
    · have hkl : k = l0 := by omega
      go_wp2
      go_ret
      refine ⟨ret_int ?_, hx⟩
      unfold letterCount
      rw [HT.out, List.take_of_length_le (by omega)]
      by_cases h0 : 0 < k
      · rw [hv h0]; rfl
      · have : x.Tokens = [] := List.eq_nil_of_length_eq_zero (by omega)
        rw [this]
        split <;> rfl
theorem implLetterCount (x : TExpr) (w : World) {a0 : Option Addr} {l0 c0 : Nat} {F0 : List Nat} (h : Sl w a0 l0 c0 x.Tokens F0) :
    Calls Try.prog 29 #[.agg #[.slice a0 l0 c0]] w fun e w' => e = .returned (.int .i64 (letterCount x)) ∧ Ext w w' := by
  have hl := h.le
  have hlen := h.hlen
  go_enter Try.func29, Try.ntmps29
  go_wp2_with fail
  obtain ⟨u, hu, hx, B0⟩ := boxes1 w #[.slice a0 l0 c0] 49
  rw [← hu]
  clear hu
  refine (implIsValidExpr x u (h.mono hx)).mono ?_
  rintro e w1 ⟨rfl, hx1⟩
  replace B0 := B0.mono hx1
  replace hx := hx.trans hx1
  clear hx1
  have b0 := B0.at 0 rfl
  generalize hq : isValidExpr x = q
  have HQ := hid hq
  clear hq
  cases q
  case false =>
    go_wp2
    go_ret
    exact ⟨ret_int (by unfold letterCount; rw [HQ.out]; rfl), hx⟩
  go_wp2_with fail
  go_loopw [3, 12] (fun nv i wr => ∃ (k : Nat) (n : Nat), k ≤ l0 ∧ i = .int .i64 k ∧ nv = .int .i64 n ∧ n ≤ k ∧ Ext w wr ∧ n = lettersIn (x.Tokens.take k)) (fun _ i _ => l0 - (intOf i).toNat)
  case atStart => exact ⟨0, 0, Nat.zero_le _, rfl, rfl, Nat.le_refl _, hx, rfl⟩
  case round =>
    clear hx B0 b0
    obtain ⟨k, n, hk, rfl, rfl, hn, hx, ht⟩ := hrel
    have HT := hid ht; clear ht
    by_cases hlt : k < l0
    · obtain ⟨b, off, t, rfl, hxk, d0, d1, d2, d3⟩ := (h.mono hx).atTToken hlt
      have HD := hid (letters_snoc hxk); clear hxk
      by_cases q3 : t.Kind = 3
      · go_wp2
        go_roundw
        case rel => exact ⟨k + 1, n + 1, by omega, by go_num, by go_num, by omega, hx.alloc _, by rw [HD.out, if_pos q3, HT.out]⟩
        case measure => simp [intOf]; omega
      · go_wp2
        go_roundw
        case rel => exact ⟨k + 1, n, by omega, by go_num, rfl, by omega, hx.alloc _, by rw [HD.out, if_neg q3, HT.out]; rfl⟩
        case measure => simp [intOf]; omega
    · have hkl : k = l0 := by omega
      go_wp2
      go_ret
      refine ⟨ret_int ?_, hx⟩
      unfold letterCount
      rw [HT.out, List.take_of_length_le (by omega), HQ.out]
      rfl
end Go.Proofs.Ytindeldjbofanaa
