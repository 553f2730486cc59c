/- Merged texts. -/
import Derived.Test.YtoealglkenhphaaGreatDoorB80xa
import Derived.Test.YtoealglkenhphaaGreatDoorB81xa
import Derived.Test.YtoealglkenhphaaGreatDoorAbsXxa
import Derived.Shelf.Strconv.Atoi
import Derived.Shelf.Strconv.AtoiErr
import Derived.Test.YtoealglkenhphaaGreatDoorB02xa
import Derived.Test.YtoealglkenhphaaGreatDoorB84xa
import Derived.Test.YtoealglkenhphaaGreatDoorB82xa
import Derived.Lib.IndexMore
set_option linter.unusedVariables false
set_option linter.unusedSimpArgs false
set_option maxHeartbeats 1000000
set_option maxRecDepth 100000
namespace Go.Q
open Go.D
theorem decFrom_snoc : ∀ (l : List UInt8) (acc : Nat) (b : UInt8) (n d : Nat), Lib.decFrom acc l = some n → Lib.digitVal b = some d → Lib.decFrom acc (l ++ [b]) = some (n * 10 + d)
  | [], acc, b, n, d, h, hd => by
    simp only [Lib.decFrom, Option.some.injEq] at h
    subst h
    rw [List.nil_append]
    unfold Lib.decFrom
    rw [hd]; rfl
  | x :: l, acc, b, n, d, h, hd => by
    rw [List.cons_append]
    unfold Lib.decFrom at h ⊢
    cases hx : Lib.digitVal x with
    | none => rw [hx] at h; cases h
    | some v =>
      rw [hx] at h
      exact decFrom_snoc l _ b n d h hd
theorem digitVal_of {d : Nat} (h : d < 10) : Lib.digitVal (UInt8.ofNat (48 + d)) = some d := by
  have e : (UInt8.ofNat (48 + d)).toNat = 48 + d := by rw [UInt8.toNat_ofNat']; omega
  unfold Lib.digitVal
  rw [e, if_pos (by omega)]
  congr 1; omega
theorem decFrom_dig : ∀ (k u : Nat), u < k → Lib.decFrom 0 (Lib.decDigits u) = some u
  | 0, _, h => by omega
  | k + 1, u, h => by
    by_cases h1 : u < 10
    · rw [dig_small h1]
      have := decFrom_snoc [] 0 _ 0 u rfl (digitVal_of h1)
      rw [List.nil_append] at this
      rw [this]; congr 1; omega
    · rw [dig_more (by omega), decFrom_snoc _ 0 _ _ _ (decFrom_dig k (u / 10) (by omega)) (digitVal_of (Nat.mod_lt u (by decide)))]
      congr 1; omega
theorem decNat_dig (u : Nat) : Lib.decNat (Lib.decDigits u) = some u := by
  unfold Lib.decNat
  rw [if_neg (by simpa using dig_ne u)]
  exact decFrom_dig (u + 1) u (by omega)
theorem dig_first {u : Nat} {b : UInt8} {r : List UInt8} (h : Lib.decDigits u = b :: r) : b ≠ 45 ∧ b ≠ 43 := by
  have h1 := List.all_eq_true.1 (dig_all (u + 1) u (by omega)) b (by rw [h]; simp)
  constructor
  · rintro rfl; exact absurd h1 (by decide)
  · rintro rfl; exact absurd h1 (by decide)
theorem atoi_itoS (n : Int) : Lib.atoi (itoS n) = some n := by
  unfold itoS Lib.itoa
  by_cases h : n < 0
  · rw [if_pos h]
    have e : Lib.atoi (45 :: Lib.decDigits n.natAbs) = (Lib.decNat (Lib.decDigits n.natAbs)).map fun (m : Nat) => -(m : Int) := rfl
    rw [e, decNat_dig]
    simp only [Option.map_some, Option.some.injEq]; omega
  · rw [if_neg h]
    have hd := decNat_dig n.toNat
    cases hl : Lib.decDigits n.toNat with
    | nil => exact absurd hl (dig_ne _)
    | cons b r =>
      rw [hl] at hd
      have hb := dig_first hl
      show (if (b == 45) = true then _ else if (b == 43) = true then _ else (Lib.decNat (b :: r)).map fun (m : Nat) => (m : Int)) = some n
      rw [if_neg (by simpa using hb.1), if_neg (by simpa using hb.2), hd]
      simp only [Option.map_some, Option.some.injEq]; omega
/-- What impl reads. -/
theorem parseI_atoi (l : List UInt8) : parseI l = match Lib.atoi l with
    | some n => if l.length ≤ 10 ∧ itoS n = l ∧ -999999999 ≤ n ∧ n ≤ 999999999 then (n, true) else (0, false)
    | none => (0, false) := by
  cases h : Lib.atoi l with
  | none =>
    exact parseI_no fun n e => by rw [← e, atoi_itoS] at h; cases h
  | some n =>
    simp only
    by_cases e : itoS n = l
    · rw [parseI_of e]
      have hl : (-999999999 ≤ n ∧ n ≤ 999999999) → l.length ≤ 10 := fun hb => by
        have h1 := (dig_le 9 n.natAbs (by decide)).1 (by omega)
        rw [← e]
        unfold itoS Lib.itoa
        split
        · rw [List.length_cons]; omega
        · rw [show n.toNat = n.natAbs by omega]; omega
      by_cases hb : -999999999 ≤ n ∧ n ≤ 999999999
      · rw [if_pos hb, if_pos ⟨hl hb, e, hb⟩]
      · rw [if_neg hb, if_neg fun hh => hb hh.2.2]
    · rw [if_neg fun hh => e hh.2.1]
      exact parseI_no fun m em => by
        have := atoi_itoS m
        rw [em, h] at this
        cases this
        exact e em
end Go.Q
set_option linter.unusedVariables false
set_option linter.unusedSimpArgs false
set_option maxHeartbeats 1000000
set_option maxRecDepth 100000
namespace Go.Proofs.YtoealglkenhphaaGreatDoor
open Go.RowKit Go.Q Go.D Go.Shelf
shelf_lay Lays.n172 Nm 172 at Tryz as Tryz.lays172
theorem strconvAtoi (l : List UInt8) (n : Int) (hl : l.length ≤ 18) (h : Lib.atoi l = some n) : FnT Tryz.prog 27 [.one (.v (.string (bs l)))] (.tup [.one (.v (.int .i64 n)), .one (.v .nilIface)]) := by
  refine ⟨⟨_, Tryz.func27, by kernel_rfl, by kernel_rfl⟩, fun w vs F hG hv => ?_⟩
  obtain ⟨v1, vr, G1, G2, rfl, g1, ⟨rfl, rfl⟩, rfl⟩ := hv
  simp only [V0r, C] at g1
  obtain ⟨rfl, rfl, _⟩ := g1
  have hcon := Any.strconv_Atoi Tryz.lays172 (bs l) n (by rw [bs_size]; exact hl) (by rw [bs_list]; exact h) w
  change Calls Tryz.prog 27 _ _ _ at hcon
  refine hcon.mono ?_
  rintro e w' ⟨rfl, t, rfl⟩
  exact ⟨_, [], rfl, ⟨_, rfl, V0s_vs [.int .i64 n, .nilIface] rfl⟩, List.nodup_nil, by simp, Lib.bytesWorld_below _ _ _⟩
shelf_lay LaysC.n172 Nm 172 at Tryz as Tryz.laysC172
theorem strconvAtoiE (l : List UInt8) (hl : l.length ≤ 18) (h : Lib.atoi l = none) : FrE Tryz.prog 27 [.one (.v (.string (bs l)))] fun out => ∃ N : Nat, out = .tup [.one (.v (.int .i64 0)), .one (.v (.iface (Tryz.laysC172_ren.t 168) (.pointer (some ⟨N, 0, none⟩))))] := by
  refine ⟨⟨_, Tryz.func27, by kernel_rfl, by kernel_rfl⟩, fun w vs F hG hv => ?_⟩
  obtain ⟨v1, vr, G1, G2, rfl, g1, ⟨rfl, rfl⟩, rfl⟩ := hv
  simp only [V0r, C] at g1
  obtain ⟨rfl, rfl, _⟩ := g1
  obtain ⟨tp, p, hvar⟩ : ∃ tp p, w.cell? ⟨Tryz.laysC172_ren.g 15, 0, none⟩ = some (.iface tp p) := by
    obtain ⟨w0, ⟨_, _, tp, p, h2⟩, h3⟩ := hG.ex
    have h4 := World.var?_cell Tryz.laysC172.m15 h2 0
    have hgl : Tryz.laysC172_ren.g 15 < Tryz.prog.low := Nat.lt_trans (of_decide_eq_true (by kernel_rfl)) low_lt
    exact ⟨tp, p, (World.cell?_of_block (a := ⟨Tryz.laysC172_ren.g 15, 0, none⟩) (h3 _ hgl)).trans (by simpa using h4)⟩
  have hcon := Any.strconv_Atoi_err Tryz.laysC172 (bs l) (by rw [bs_size]; exact hl) (by rw [bs_list]; exact h) (.iface tp p) w hvar (.inr ⟨tp, p, rfl⟩)
  change Calls Tryz.prog 27 _ _ _ at hcon
  refine hcon.mono ?_
  rintro e w' ⟨N, rfl, _, _, hB⟩
  exact ⟨_, ⟨N, rfl⟩, _, [], rfl, ⟨_, rfl, V0s_vs [.int .i64 0, .iface (Tryz.laysC172_ren.t 168) (.pointer (some ⟨N, 0, none⟩))] rfl⟩, by simp, hB⟩
end Go.Proofs.YtoealglkenhphaaGreatDoor
set_option linter.unusedVariables false
set_option linter.unusedSimpArgs false
namespace Go.Q
open Go.D
theorem range_succ {p : Nat → Bool} {k : Nat} (h : ∀ j, j < k → p j = true) (hp : p k = true) : ∀ j, j < k + 1 → p j = true := fun j hj => by
  rcases Nat.lt_or_eq_of_le (Nat.le_of_lt_succ hj) with h1 | rfl
  · exact h j h1
  · exact hp
end Go.Q
namespace Go.Proofs.YtoealglkenhphaaGreatDoor
open Go.RowKit Go.Q Go.D
end Go.Proofs.YtoealglkenhphaaGreatDoor
set_option linter.unusedVariables false
set_option linter.unusedSimpArgs false
set_option maxHeartbeats 1000000
set_option maxRecDepth 100000
namespace Go.Q
open Go.D
end Go.Q
set_option linter.unusedVariables false
set_option linter.unusedSimpArgs false
set_option maxHeartbeats 1000000
set_option maxRecDepth 100000
namespace Go.Proofs.YtoealglkenhphaaGreatDoor
open Go.RowKit Go.Q Go.D
end Go.Proofs.YtoealglkenhphaaGreatDoor
set_option linter.unusedVariables false
set_option linter.unusedSimpArgs false
set_option maxHeartbeats 1000000
set_option maxRecDepth 100000
namespace Go.Q
open Go.D
/-! ### Numbers -/
theorem parseI_numS {n : Int} (h : 0 ≤ n ∧ n ≤ 999999999) : parseI (numS n) = (n, true) := by
  rw [← itoS_num h.1, parseI_of rfl, if_pos (by omega)]
theorem numS_dg (n : Int) : (numS n).all isDg = true := dig_all (n.toNat + 1) n.toNat (by omega)
theorem numS_no {n : Int} {c : UInt8} (h : isDg c = false) : c ∉ numS n := fun hm => by
  have := List.all_eq_true.1 (numS_dg n) c hm
  rw [h] at this; cases this
theorem numS_one {n : Int} (h : 0 ≤ n ∧ n ≤ 9) : numS n = [UInt8.ofNat (48 + n.toNat)] := by unfold numS; exact dig_small (by omega)
/-! ### Cut at one byte -/
theorem occ1 {l : List UInt8} {i : Nat} {a : UInt8} : Lib.occAt l [a] i = true ↔ l[i]? = some a := by
  unfold Lib.occAt
  have e1 : l[i]? = (l.drop i)[0]? := by simp
  rw [e1]
  match l.drop i with
  | [] => simp
  | x :: r => simp [List.isPrefixOf]; exact ⟨fun h => h.symm, fun h => h.symm⟩
theorem cut1_at {c : UInt8} {x y : List UInt8} (h : c ∉ x) : Lib.cut (x ++ c :: y) [c] = (x, y, true) := by
  have hi : Lib.index (x ++ c :: y) [c] = (x.length : Nat) := by
    refine Lib.index_first (by simp) (occ1.2 (by simp)) fun j hj => Bool.eq_false_iff.2 fun hh => ?_
    have := occ1.1 hh
    rw [List.getElem?_append_left hj] at this
    exact h (List.mem_of_getElem? this)
  unfold Lib.cut
  rw [hi, if_pos (by omega)]
  simp
theorem cut1_len (l : List UInt8) (c : UInt8) : (Lib.cut l [c]).1.length ≤ l.length ∧ (Lib.cut l [c]).2.1.length ≤ l.length := by
  unfold Lib.cut
  split <;> simp <;> omega
theorem ofN {k : Nat} (h : k < 256) : (UInt8.ofNat k).toNat = k := by rw [UInt8.toNat_ofNat']; omega
/-- What spec reads of a letter. -/
def letP (s : List UInt8) : Int × Bool := match (List.range 9).find? (fun k => decide (letS (k : Nat) = s)) with
  | some k => ((k : Int), true)
  | none => (0, false)
theorem letP_at {s : List UInt8} {k : Nat} (hk : k < 9) (h : letS (k : Nat) = s) (hn : ∀ j, j < k → letS (j : Nat) ≠ s) : letP s = ((k : Int), true) := by
  have : (List.range 9).find? (fun k => decide (letS (k : Nat) = s)) = some k := by
    rw [List.find?_range_eq_some]
    exact ⟨decide_eq_true h, List.mem_range.2 hk, fun j hj => by simpa using hn j hj⟩
  unfold letP
  rw [this]
theorem letP_no {s : List UInt8} (hn : ∀ j, j < 9 → letS (j : Nat) ≠ s) : letP s = (0, false) := by
  have : (List.range 9).find? (fun k => decide (letS (k : Nat) = s)) = none := by
    rw [List.find?_eq_none]
    intro x hx
    simpa using hn x (List.mem_range.1 hx)
  unfold letP
  rw [this]
end Go.Q
