/- Lists of pairs in order: both texts; pairs searched. -/
import Derived.Test.YtindeldjbofanaaS15a
import Derived.Test.YtindeldjbofanaaS25a
namespace Go.Q
def okP (p : TPair) : Bool := inB p.From 0 4 && inB p.To 0 4
def lessP (p q : TPair) : Bool := decide (p.From < q.From) || (decide (p.From = q.From) && decide (p.To < q.To))
def apGo : Option TPair → List TPair → Bool
  | _, [] => true
  | none, p :: r => okP p && apGo (some p) r
  | some q, p :: r => okP p && lessP q p && apGo (some p) r
def arePairs (l : List TPair) : Bool := apGo none l
def prevAt (l : List TPair) (k : Nat) : Option TPair := if k = 0 then none else l[k - 1]?
theorem apGo_step {l : List TPair} {k : Nat} {x : TPair} (h : l[k]? = some x) (hk : k = 0) : apGo (prevAt l k) (l.drop k) = (okP x && apGo (prevAt l (k + 1)) (l.drop (k + 1))) := by
  obtain ⟨hk', rfl⟩ := List.getElem?_eq_some_iff.1 h
  subst hk
  rw [List.drop_eq_getElem_cons hk']
  simp [prevAt, apGo, List.getElem?_eq_getElem hk']
theorem apGo_step' {l : List TPair} {k : Nat} {x q : TPair} (h : l[k]? = some x) (hk : 0 < k) (hq : l[k - 1]? = some q) : apGo (prevAt l k) (l.drop k) = (okP x && lessP q x && apGo (prevAt l (k + 1)) (l.drop (k + 1))) := by
  obtain ⟨hk', rfl⟩ := List.getElem?_eq_some_iff.1 h
  rw [List.drop_eq_getElem_cons hk']
  have h1 : prevAt l k = some q := by unfold prevAt; rw [if_neg (by omega)]; exact hq
  have h2 : prevAt l (k + 1) = some l[k] := by unfold prevAt; rw [if_neg (by omega)]; simp [List.getElem?_eq_getElem hk']
  rw [h1, h2]; rfl
theorem inB_true {x a b : Int} (h : inB x a b = true) : a ≤ x ∧ x ≤ b := by simpa [inB] using h
def cmpI (a b : Int) : Int := if a < b then -1 else if b < a then 1 else 0
def cmpP (p q : TPair) : Int := if p.From = q.From then cmpI p.To q.To else cmpI p.From q.From
theorem cmpP_ge (p q : TPair) : decide (0 ≤ cmpP p q) = !lessP p q := by
  unfold cmpP lessP cmpI
  by_cases h : p.From = q.From
  · rw [if_pos h]
    by_cases h1 : p.To < q.To
    · simp [h, h1]
    · rw [if_neg h1]; simp [h, h1]; split <;> omega
  · rw [if_neg h]
    by_cases h1 : p.From < q.From
    · simp [h, h1]
    · rw [if_neg h1]; simp [h, h1]; split <;> omega
theorem any_drop {α : Type} {p : α → Bool} {l : List α} {k : Nat} {x : α} (h : l[k]? = some x) : (l.drop k).any p = (p x || (l.drop (k + 1)).any p) := by
  obtain ⟨hk, rfl⟩ := List.getElem?_eq_some_iff.1 h
  rw [List.drop_eq_getElem_cons hk, List.any_cons]
end Go.Q
namespace Go.Proofs.Ytindeldjbofanaa
open Go.RowKit Go.Q
theorem implwithin (n a b : Int) (w : World) : Calls Try.prog 32 #[.int .i64 n, .int .i64 a, .int .i64 b] w fun e w' => e = .returned (.bool (inB n a b)) ∧ Ext w w' := by
  unfold inB
  by_cases h1 : a ≤ n <;> by_cases h2 : n ≤ b
  all_goals
    go_enter Try.func32, Try.ntmps32
    go_wp2
    go_ret
    exact ⟨ret_bool (by simp [h1, h2]), Ext.refl _⟩
theorem specl1In (n a b : Int) (w : World) : Calls Try.prog 31 #[.int .i64 n, .int .i64 a, .int .i64 b] w fun e w' => e = .returned (.bool (inB n a b)) ∧ Ext w w' := by
  unfold inB
  by_cases h1 : a ≤ n <;> by_cases h2 : n ≤ b
  all_goals
    go_enter Try.func31, Try.ntmps31
    go_wp2
    go_ret
    exact ⟨ret_bool (by simp [h1, h2]), Ext.refl _⟩
theorem implcompareInts (a b : Int) (w : World) : Calls Try.prog 62 #[.int .i64 a, .int .i64 b] w fun e w' => e = .returned (.int .i64 (cmpI a b)) ∧ Ext w w' := by
  unfold cmpI
  rcases Int.lt_trichotomy a b with h | h | h
  · rw [if_pos h]
    go_enter Try.func62, Try.ntmps62
    go_wp2
    go_ret
    exact ⟨rfl, Ext.refl _⟩
  · subst h
    rw [if_neg (Int.lt_irrefl _), if_neg (Int.lt_irrefl _)]
    go_enter Try.func62, Try.ntmps62
    go_wp2
    go_ret
    exact ⟨rfl, Ext.refl _⟩
  · rw [if_neg (by omega), if_pos h]
    go_enter Try.func62, Try.ntmps62
    go_wp2
    go_ret
    exact ⟨rfl, Ext.refl _⟩
theorem implcomparePairs (p q : TPair) (w : World) : Calls Try.prog 54 #[.agg #[.int .i64 p.From, .int .i64 p.To], .agg #[.int .i64 q.From, .int .i64 q.To]] w fun e w' => e = .returned (.int .i64 (cmpP p q)) ∧ Ext w w' := by
  by_cases h : p.From = q.From
  · have hb : (p.From != q.From) = false := by simpa using h
    have e1 := hid (show cmpP p q = cmpI p.To q.To by unfold cmpP; rw [if_pos h]); clear h
    go_enter Try.func54, Try.ntmps54
    go_wp2_with fail
    refine (implcompareInts _ _ _).mono ?_
    rintro e w1 ⟨rfl, hx1⟩
    go_wp2
    go_ret
    exact ⟨ret_int e1.out.symm, (((Ext.refl _).alloc _).alloc _).trans hx1⟩
  · have hb : (p.From != q.From) = true := by simpa using h
    have e1 := hid (show cmpP p q = cmpI p.From q.From by unfold cmpP; rw [if_neg h]); clear h
    go_enter Try.func54, Try.ntmps54
    go_wp2_with fail
    refine (implcompareInts _ _ _).mono ?_
    rintro e w1 ⟨rfl, hx1⟩
    go_wp2
    go_ret
    exact ⟨ret_int e1.out.symm, (((Ext.refl _).alloc _).alloc _).trans hx1⟩
theorem specl15Less (p q : TPair) (w : World) : Calls Try.prog 53 #[.agg #[.int .i64 p.From, .int .i64 p.To], .agg #[.int .i64 q.From, .int .i64 q.To]] w fun e w' => e = .returned (.bool (lessP p q)) ∧ Ext w w' := by
  rcases Int.lt_trichotomy p.From q.From with h | h | h
  · have e1 := hid (show lessP p q = true by simp [lessP, h])
    go_enter Try.func53, Try.ntmps53
    go_wp2
    go_ret
    exact ⟨ret_bool e1.out.symm, ((Ext.refl _).alloc _).alloc _⟩
  · have hb : (p.From == q.From) = true := by simpa using h
    have hle : q.From ≤ p.From := by omega
    by_cases h2 : p.To < q.To
    · have e1 := hid (show lessP p q = true by simp [lessP, h, h2]); clear h
      go_enter Try.func53, Try.ntmps53
      go_wp2
      go_ret
      exact ⟨ret_bool (by first | exact e1.out.symm | (rw [e1.out]; exact decide_eq_false (by omega))), ((Ext.refl _).alloc _).alloc _⟩
    · have e1 := hid (show lessP p q = false by simp [lessP, h, h2]); clear h
      go_enter Try.func53, Try.ntmps53
      go_wp2
      go_ret
      exact ⟨ret_bool (by first | exact e1.out.symm | (rw [e1.out]; exact decide_eq_false (by omega))), ((Ext.refl _).alloc _).alloc _⟩
  · have hb : (p.From == q.From) = false := by simp; omega
    have hle : q.From ≤ p.From := by omega
    have e1 := hid (show lessP p q = false by unfold lessP; rw [decide_eq_false (by omega : ¬ p.From < q.From), decide_eq_false (by omega : ¬ p.From = q.From)] <;> rfl)
    go_enter Try.func53, Try.ntmps53
    go_wp2
    go_ret
    exact ⟨ret_bool (by first | exact e1.out.symm | (rw [e1.out]; exact decide_eq_false (by omega))), ((Ext.refl _).alloc _).alloc _⟩
theorem specl15Has {a : Option Addr} {len cap : Nat} {l : List TPair} {F : List Nat} (p : TPair) (w : World) (h : Sl w a len cap l F) :
    Calls Try.prog 41 #[.slice a len cap, .agg #[.int .i64 p.From, .int .i64 p.To]] w fun e w' => e = .returned (.bool (l.any fun x => decide (x = p))) ∧ Ext w w' := by
  have h1 := h.le
  go_enter Try.func41, Try.ntmps41
  go_wp2
  obtain ⟨u, hu, hx0, B0⟩ := boxes1 w #[.int .i64 p.From, .int .i64 p.To] 61
  rw [← hu]
  clear hu
  go_loopw [5] (fun i wr => ∃ k : Nat, k ≤ len ∧ i = .int .i64 k ∧ Ext u wr ∧ (l.any fun x => decide (x = p)) = (l.drop k).any fun x => decide (x = p)) (fun i _ => len - (intOf i).toNat)
  case atStart => exact ⟨0, Nat.zero_le _, rfl, Ext.refl _, rfl⟩
  case round =>
    obtain ⟨k, hk, rfl, hx, ht⟩ := hrel
    have HT := hid ht; clear ht
    by_cases hlt : k < len
    · obtain ⟨b, off, x, rfl, hxk, c0, c1⟩ := (h.mono (hx0.trans hx)).atTPair hlt
      have HD := hid (any_drop (p := fun x => decide (x = p)) hxk); clear hxk
      have c0 := Later.cell c0
      have c1 := Later.cell c1
      have d0 := Later.cell ((B0.mono hx).at 0 rfl)
      have d1 := Later.cell ((B0.mono hx).at 1 rfl)
      go_wp2_with fail
      refine wp_region_later (by kernel_rfl) (by kernel_rfl) ?_
      repeat (go_big_quiet_step (fail))
      refine wpQuiet_nil ?_
      rintro _ ⟨y, rfl⟩
      generalize decide (x = p) = bb at HD ⊢
      cases bb
      · go_wp2
        go_roundw
        case rel => exact ⟨k + 1, by omega, by go_num, hx.trans y.2, by rw [HT.out, HD.out]; simp⟩
        case measure => simp [intOf]; omega
      · go_wp2
        go_ret
        exact ⟨ret_bool (by rw [HT.out, HD.out]; rfl), (hx0.trans hx).trans y.2⟩
    · go_wp2
      go_ret
      exact ⟨ret_bool (by rw [HT.out, List.drop_eq_nil_of_le (by rw [h.hlen]; omega)]; rfl), hx0.trans hx⟩
theorem slIndexPair {a : Option Addr} {len cap : Nat} {l : List TPair} {F : List Nat} (p : TPair) (w : World) (h : Sl w a len cap l F) :
    Calls Try.prog 64 #[.slice a len cap, .agg #[.int .i64 p.From, .int .i64 p.To]] w fun e w' => (∃ n : Int, e = .returned (.int .i64 n) ∧ decide (0 ≤ n) = l.any fun x => decide (x = p)) ∧ Ext w w' := by
  have h1 := h.le
  go_enter Try.func64, Try.ntmps64
  go_wp2
  obtain ⟨u, hu, hx0, B0⟩ := boxes1 w #[.int .i64 p.From, .int .i64 p.To] 61
  rw [← hu]
  clear hu
  go_loopw [8] (fun i wr => ∃ k : Nat, k ≤ len ∧ i = .int .i64 k ∧ Ext u wr ∧ (l.any fun x => decide (x = p)) = (l.drop k).any fun x => decide (x = p)) (fun i _ => len - (intOf i).toNat)
  case atStart => exact ⟨0, Nat.zero_le _, rfl, Ext.refl _, rfl⟩
  case round =>
    obtain ⟨k, hk, rfl, hx, ht⟩ := hrel
    have HT := hid ht; clear ht
    by_cases hlt : k < len
    · obtain ⟨b, off, x, rfl, hxk, c0, c1⟩ := (h.mono (hx0.trans hx)).atTPair hlt
      have HD := hid (any_drop (p := fun x => decide (x = p)) hxk); clear hxk
      have c0 := Later.cell c0
      have c1 := Later.cell c1
      have d0 := Later.cell ((B0.mono hx).at 0 rfl)
      have d1 := Later.cell ((B0.mono hx).at 1 rfl)
      go_wp2_with fail
      refine wp_region_later (by kernel_rfl) (by kernel_rfl) ?_
      repeat (go_big_quiet_step (fail))
      refine wpQuiet_nil ?_
      rintro _ ⟨y, rfl⟩
      have hsy : decide (p = x) = decide (x = p) := by simp [eq_comm]
      rw [hsy]; clear hsy
      generalize decide (x = p) = bb at HD ⊢
      cases bb
      · go_wp2
        go_roundw
        case rel => exact ⟨k + 1, by omega, by go_num, hx.trans y.2, by rw [HT.out, HD.out]; simp⟩
        case measure => simp [intOf]; omega
      · go_wp2
        go_ret
        exact ⟨⟨_, rfl, by rw [HT.out, HD.out]; simp⟩, (hx0.trans hx).trans y.2⟩
    · go_wp2
      go_ret
      exact ⟨⟨_, rfl, by rw [HT.out, List.drop_eq_nil_of_le (by rw [h.hlen]; omega)]; rfl⟩, hx0.trans hx⟩
theorem slContainsPair {a : Option Addr} {len cap : Nat} {l : List TPair} {F : List Nat} (p : TPair) (w : World) (h : Sl w a len cap l F) :
    Calls Try.prog 57 #[.slice a len cap, .agg #[.int .i64 p.From, .int .i64 p.To]] w fun e w' => e = .returned (.bool (l.any fun x => decide (x = p))) ∧ Ext w w' := by
  go_enter Try.func57, Try.ntmps57
  go_wp2_with fail
  obtain ⟨u, hu, hx0, B0⟩ := boxes1 w #[.int .i64 p.From, .int .i64 p.To] 61
  rw [← hu]
  clear hu
  refine (slIndexPair p u (h.mono hx0)).mono ?_
  rintro e w1 ⟨⟨n, rfl, hn⟩, hx1⟩
  have HN := hid hn; clear hn
  go_wp2
  go_ret
  exact ⟨ret_bool HN.out, hx0.trans hx1⟩

theorem specArePairs {a : Option Addr} {len cap : Nat} {l : List TPair} {F : List Nat} (w : World) (h : Sl w a len cap l F) :
    Calls Try.prog 42 #[.slice a len cap] w fun e w' => e = .returned (.bool (arePairs l)) ∧ Ext w w' := by
  have h1 := h.le
  go_enter Try.func42, Try.ntmps42
  go_wp2
  go_loopw [3] (fun i wr => ∃ k : Nat, k ≤ len ∧ i = .int .i64 k ∧ Ext w wr ∧ arePairs l = apGo (prevAt l k) (l.drop k)) (fun i _ => len - (intOf i).toNat)
  case atStart => exact ⟨0, Nat.zero_le _, rfl, Ext.refl _, rfl⟩
  case round =>
    obtain ⟨k, hk, rfl, hx, ht⟩ := hrel
    have HT := hid ht; clear ht
    by_cases hlt : k < len
    · obtain ⟨b, off, x, rfl, hxk, c0, c1⟩ := (h.mono hx).atTPair hlt
      have hx1 := hx
      have c0 := Later.cell c0
      have c1 := Later.cell c1
      go_wp2_with fail
      generalize hb1 : inB x.From 0 4 = b1
      generalize hb2 : inB x.To 0 4 = b2
      have H1 := hid hb1; have H2 := hid hb2; clear hb1 hb2
      have ho := hid (show okP x = (b1 && b2) by unfold okP; rw [H1.out, H2.out])
      by_cases hk0 : k = 0
      · have hd := hid (apGo_step hxk hk0)
        have hk1 : decide (0 < k) = false := by simp; omega
        have hk2 := hid hk0; clear hk0
        cases b1
        · refine wp_region_later (by kernel_rfl) (by kernel_rfl) ?_
          repeat (go_big_quiet_step (with_reducible exact later_bool (specl1In _ _ _ _) H1.out))
          refine wpQuiet_nil ?_
          rintro _ ⟨y, rfl⟩
          go_wp2
          go_ret
          exact ⟨ret_bool (by rw [HT.out, hd.out, ho.out]; rfl), hx1.trans y.2⟩
        cases b2
        · refine wp_region_later (by kernel_rfl) (by kernel_rfl) ?_
          repeat (go_big_quiet_step (with_reducible first | exact later_bool (specl1In _ _ _ _) H1.out | exact later_bool (specl1In _ _ _ _) H2.out))
          refine wpQuiet_nil ?_
          rintro _ ⟨y, rfl⟩
          go_wp2
          go_ret
          exact ⟨ret_bool (by rw [HT.out, hd.out, ho.out]; rfl), hx1.trans y.2⟩
        · refine wp_region_later (by kernel_rfl) (by kernel_rfl) ?_
          repeat (go_big_quiet_step (with_reducible first | exact later_bool (specl1In _ _ _ _) H1.out | exact later_bool (specl1In _ _ _ _) H2.out))
          refine wpQuiet_nil ?_
          rintro _ ⟨y, rfl⟩
          go_wp2
          go_roundw
          case rel => exact ⟨k + 1, by omega, by go_num, hx1.trans y.2, by rw [HT.out, hd.out, ho.out]; rfl⟩
          case measure => simp [intOf]; omega
      · obtain ⟨m, rfl⟩ : ∃ m, k = m + 1 := ⟨k - 1, by omega⟩
        obtain ⟨_, _, q, hae, hq, e0, e1⟩ := (h.mono hx1).atTPair (i := m) (by omega)
        cases hae
        have e0 := Later.cell e0
        have e1 := Later.cell e1
        have hd := hid (apGo_step' hxk (by omega) hq)
        clear hk0 hxk hq
        cases b1
        · refine wp_region_later (by kernel_rfl) (by kernel_rfl) ?_
          repeat (go_big_quiet_step (with_reducible exact later_bool (specl1In _ _ _ _) H1.out))
          refine wpQuiet_nil ?_
          rintro _ ⟨y, rfl⟩
          go_wp2
          go_ret
          exact ⟨ret_bool (by rw [HT.out, hd.out, ho.out]; rfl), hx1.trans y.2⟩
        cases b2
        · refine wp_region_later (by kernel_rfl) (by kernel_rfl) ?_
          repeat (go_big_quiet_step (with_reducible first | exact later_bool (specl1In _ _ _ _) H1.out | exact later_bool (specl1In _ _ _ _) H2.out))
          refine wpQuiet_nil ?_
          rintro _ ⟨y, rfl⟩
          go_wp2
          go_ret
          exact ⟨ret_bool (by rw [HT.out, hd.out, ho.out]; rfl), hx1.trans y.2⟩
        · refine wp_region_later (by kernel_rfl) (by kernel_rfl) ?_
          repeat (go_big_quiet_step (with_reducible first | exact later_bool (specl1In _ _ _ _) H1.out | exact later_bool (specl1In _ _ _ _) H2.out | exact later_bool (specl15Less _ _ _) rfl))
          refine wpQuiet_nil ?_
          rintro _ ⟨y, rfl⟩
          generalize lessP q x = bb at hd ⊢
          cases bb
          · go_wp2
            go_ret
            exact ⟨ret_bool (by rw [HT.out, hd.out, ho.out]; rfl), hx1.trans y.2⟩
          · go_wp2
            go_roundw
            case rel => exact ⟨m + 1 + 1, by omega, by go_num, hx1.trans y.2, by rw [HT.out, hd.out, ho.out]; rfl⟩
            case measure => simp [intOf]; omega
    · go_wp2
      go_ret
      refine ⟨ret_bool ?_, hx⟩
      rw [HT.out, List.drop_eq_nil_of_le (by rw [h.hlen]; omega)]
      unfold prevAt; split <;> simp [apGo]
theorem implArePairs {a : Option Addr} {len cap : Nat} {l : List TPair} {F : List Nat} (w : World) (h : Sl w a len cap l F) :
    Calls Try.prog 43 #[.slice a len cap] w fun e w' => e = .returned (.bool (arePairs l)) ∧ Ext w w' := by
  have h1 := h.le
  go_enter Try.func43, Try.ntmps43
  go_wp2
  go_loopw [7] (fun i wr => ∃ k : Nat, k ≤ len ∧ i = .int .i64 k ∧ Ext w wr ∧ arePairs l = apGo (prevAt l k) (l.drop k)) (fun i _ => len - (intOf i).toNat)
  case atStart => exact ⟨0, Nat.zero_le _, rfl, Ext.refl _, rfl⟩
  case round =>
    obtain ⟨k, hk, rfl, hx, ht⟩ := hrel
    have HT := hid ht; clear ht
    by_cases hlt : k < len
    · obtain ⟨b, off, x, rfl, hxk, c0, c1⟩ := (h.mono hx).atTPair hlt
      go_wp2_with fail
      obtain ⟨u, hu, hx0, B0⟩ := boxes1 wr #[.int .i64 x.From, .int .i64 x.To] 61
      rw [← hu]
      clear hu
      have hx1 := hx.trans hx0
      have d0 := Later.cell (B0.at 0 rfl)
      have d1 := Later.cell (B0.at 1 rfl)
      generalize hb1 : inB x.From 0 4 = b1
      generalize hb2 : inB x.To 0 4 = b2
      have H1 := hid hb1; have H2 := hid hb2; clear hb1 hb2
      have ho := hid (show okP x = (b1 && b2) by unfold okP; rw [H1.out, H2.out])
      by_cases hk0 : k = 0
      · have hd := hid (apGo_step hxk hk0)
        have hk1 : decide (0 < k) = false := by simp; omega
        have hk2 := hid hk0; clear hk0
        cases b1
        · refine wp_region_later (by kernel_rfl) (by kernel_rfl) ?_
          repeat (go_big_quiet_step (with_reducible exact later_bool (implwithin _ _ _ _) H1.out))
          refine wpQuiet_nil ?_
          rintro _ ⟨y, rfl⟩
          go_wp2
          go_ret
          exact ⟨ret_bool (by rw [HT.out, hd.out, ho.out]; rfl), hx1.trans y.2⟩
        cases b2
        · refine wp_region_later (by kernel_rfl) (by kernel_rfl) ?_
          repeat (go_big_quiet_step (with_reducible first | exact later_bool (implwithin _ _ _ _) H1.out | exact later_bool (implwithin _ _ _ _) H2.out))
          refine wpQuiet_nil ?_
          rintro _ ⟨y, rfl⟩
          go_wp2
          go_ret
          exact ⟨ret_bool (by rw [HT.out, hd.out, ho.out]; rfl), hx1.trans y.2⟩
        · refine wp_region_later (by kernel_rfl) (by kernel_rfl) ?_
          repeat (go_big_quiet_step (with_reducible first | exact later_bool (implwithin _ _ _ _) H1.out | exact later_bool (implwithin _ _ _ _) H2.out))
          refine wpQuiet_nil ?_
          rintro _ ⟨y, rfl⟩
          go_wp2
          go_roundw
          case rel => exact ⟨k + 1, by omega, by go_num, hx1.trans y.2, by rw [HT.out, hd.out, ho.out]; rfl⟩
          case measure => simp [intOf]; omega
      · obtain ⟨m, rfl⟩ : ∃ m, k = m + 1 := ⟨k - 1, by omega⟩
        obtain ⟨_, _, q, hae, hq, e0, e1⟩ := (h.mono hx1).atTPair (i := m) (by omega)
        cases hae
        have e0 := Later.cell e0
        have e1 := Later.cell e1
        have hd := hid (apGo_step' hxk (by omega) hq)
        have hc := hid (cmpP_ge q x)
        clear hk0 hxk hq
        cases b1
        · refine wp_region_later (by kernel_rfl) (by kernel_rfl) ?_
          repeat (go_big_quiet_step (with_reducible exact later_bool (implwithin _ _ _ _) H1.out))
          refine wpQuiet_nil ?_
          rintro _ ⟨y, rfl⟩
          go_wp2
          go_ret
          exact ⟨ret_bool (by rw [HT.out, hd.out, ho.out]; rfl), hx1.trans y.2⟩
        cases b2
        · refine wp_region_later (by kernel_rfl) (by kernel_rfl) ?_
          repeat (go_big_quiet_step (with_reducible first | exact later_bool (implwithin _ _ _ _) H1.out | exact later_bool (implwithin _ _ _ _) H2.out))
          refine wpQuiet_nil ?_
          rintro _ ⟨y, rfl⟩
          go_wp2
          go_ret
          exact ⟨ret_bool (by rw [HT.out, hd.out, ho.out]; rfl), hx1.trans y.2⟩
        · refine wp_region_later (by kernel_rfl) (by kernel_rfl) ?_
          repeat (go_big_quiet_step (with_reducible first | exact later_bool (implwithin _ _ _ _) H1.out | exact later_bool (implwithin _ _ _ _) H2.out | exact later_call (implcomparePairs _ _ _)))
          refine wpQuiet_nil ?_
          rintro _ ⟨y, rfl⟩
          rw [hc.out]
          generalize lessP q x = bb at hd ⊢
          cases bb
          · go_wp2
            go_ret
            exact ⟨ret_bool (by rw [HT.out, hd.out, ho.out]; rfl), hx1.trans y.2⟩
          · go_wp2
            go_roundw
            case rel => exact ⟨m + 1 + 1, by omega, by go_num, hx1.trans y.2, by rw [HT.out, hd.out, ho.out]; rfl⟩
            case measure => simp [intOf]; omega
    · go_wp2
      go_ret
      refine ⟨ret_bool ?_, hx⟩
      rw [HT.out, List.drop_eq_nil_of_le (by rw [h.hlen]; omega)]
      unfold prevAt; split <;> simp [apGo]
end Go.Proofs.Ytindeldjbofanaa
