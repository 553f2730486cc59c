/- Written by gen.py: the data types of the exact laws, and the walks of what copies, compares and measures them. -/
import Derived.Test.YtindeldjbofanaaRows
import Derived.Test.YtindeldjbofanaaPlan
import Derived.Test.YtindeldjbofanaaMark
import Derived.Laws.StructEq
namespace Go.Q
open Rd (rd)
structure TPair where
  From : Int
  To : Int
  deriving DecidableEq
theorem TPair.dec (p q : TPair) : decide (p = q) = (decide (p.From = q.From) && decide (p.To = q.To)) := by
  cases p; cases q; simp
instance : Flat TPair := ⟨2, true, fun x => [.int .i64 x.From, .int .i64 x.To], fun _ => rfl⟩
theorem Vl.ofTPair {w : World} {v : Value} {x : TPair} {F : List Nat} (h : Vl w v x F) : v = .agg #[.int .i64 x.From, .int .i64 x.To] := by
  obtain ⟨cs, ⟨rfl, _⟩, rfl⟩ := h; rfl
theorem Sl.atTPair {w : World} {a : Option Addr} {len cap : Nat} {l : List TPair} {F : List Nat} (h : Sl w a len cap l F) {i : Nat} (hi : i < len) :
    ∃ b off x, a = some ⟨b, off, none⟩ ∧ l[i]? = some x ∧ w.cell? ⟨b, off + i * 2, none⟩ = some (.int .i64 x.From) ∧ w.cell? ⟨b, off + i * 2 + 1, none⟩ = some (.int .i64 x.To) := by
  obtain ⟨b, off, x, ha, hx, hc⟩ := h.flat hi
  exact ⟨b, off, x, ha, hx, hc 0 _ rfl, hc 1 _ rfl⟩
structure TToken where
  Kind : Int
  Letter : Int
  Low : Int
  High : Int
  deriving DecidableEq
theorem TToken.dec (p q : TToken) : decide (p = q) = (decide (p.Kind = q.Kind) && decide (p.Letter = q.Letter) && decide (p.Low = q.Low) && decide (p.High = q.High)) := by
  cases p; cases q; simp [Bool.and_assoc]
instance : Flat TToken := ⟨4, true, fun x => [.int .i64 x.Kind, .int .i64 x.Letter, .int .i64 x.Low, .int .i64 x.High], fun _ => rfl⟩
theorem Vl.ofTToken {w : World} {v : Value} {x : TToken} {F : List Nat} (h : Vl w v x F) : v = .agg #[.int .i64 x.Kind, .int .i64 x.Letter, .int .i64 x.Low, .int .i64 x.High] := by
  obtain ⟨cs, ⟨rfl, _⟩, rfl⟩ := h; rfl
theorem Sl.atTToken {w : World} {a : Option Addr} {len cap : Nat} {l : List TToken} {F : List Nat} (h : Sl w a len cap l F) {i : Nat} (hi : i < len) :
    ∃ b off x, a = some ⟨b, off, none⟩ ∧ l[i]? = some x ∧ w.cell? ⟨b, off + i * 4, none⟩ = some (.int .i64 x.Kind) ∧ w.cell? ⟨b, off + i * 4 + 1, none⟩ = some (.int .i64 x.Letter) ∧ w.cell? ⟨b, off + i * 4 + 2, none⟩ = some (.int .i64 x.Low) ∧ w.cell? ⟨b, off + i * 4 + 3, none⟩ = some (.int .i64 x.High) := by
  obtain ⟨b, off, x, ha, hx, hc⟩ := h.flat hi
  exact ⟨b, off, x, ha, hx, hc 0 _ rfl, hc 1 _ rfl, hc 2 _ rfl, hc 3 _ rfl⟩
structure TExpr where
  Tokens : (List TToken)
  deriving DecidableEq
theorem TExpr.dec (p q : TExpr) : decide (p = q) = decide (p.Tokens = q.Tokens) := by
  cases p; cases q; simp
instance : Rd TExpr where
  k := 1
  agg := true
  rd w cs x F := ∃ a0 l0 c0 F0, cs = [.slice a0 l0 c0] ∧ Sl w a0 l0 c0 x.Tokens F0 ∧ F = F0
  len := by rintro w cs x F ⟨a0, l0, c0, F0, rfl, _, rfl⟩; rfl
  congr := by
    rintro w w' cs x F ⟨a0, l0, c0, F0, rfl, h0, rfl⟩ hc
    exact ⟨a0, l0, c0, _, rfl, h0.congr hc, rfl⟩
  lt := by
    rintro w cs x F ⟨a0, l0, c0, F0, rfl, h0, rfl⟩ b hb
    exact h0.lt b hb
theorem Vl.ofTExpr {w : World} {v : Value} {x : TExpr} {F : List Nat} (h : Vl w v x F) : ∃ a0 l0 c0 F0, v = .agg #[.slice a0 l0 c0] ∧ Sl w a0 l0 c0 x.Tokens F0 ∧ F = F0 := by
  obtain ⟨cs, ⟨a0, l0, c0, F0, rfl, h0, rfl⟩, rfl⟩ := h
  exact ⟨a0, l0, c0, _, rfl, h0, rfl⟩
theorem Vl.mkTExpr {w : World} {x : TExpr} {a0 : Option Addr} {l0 c0 : Nat} {F0 : List Nat} (h0 : Sl w a0 l0 c0 x.Tokens F0) : Vl w (.agg #[.slice a0 l0 c0]) x (F0) :=
  ⟨_, ⟨_, _, _, _, rfl, h0, rfl⟩, rfl⟩
theorem Sl.atTExpr {w : World} {a : Option Addr} {len cap : Nat} {l : List TExpr} {F : List Nat} (h : Sl w a len cap l F) {i : Nat} (hi : i < len) :
    ∃ b off x a0 l0 c0 F0, a = some ⟨b, off, none⟩ ∧ l[i]? = some x ∧ w.cell? ⟨b, off + i, none⟩ = some (.slice a0 l0 c0) ∧ Sl w a0 l0 c0 x.Tokens F0 ∧ (∀ b ∈ F0, b ∈ F) := by
  obtain ⟨b, off, x, cs, f, ha, hx, ⟨a0, l0, c0, F0, rfl, h0, rfl⟩, hf, hc⟩ := h.at hi
  refine ⟨b, off, x, a0, l0, c0, _, ha, hx, by have := hc 0 _ rfl; have e : Rd.k TExpr = 1 := rfl; rw [e] at this; simpa using this, h0, hf⟩
structure TDelta where
  Added : (List TPair)
  Removed : (List TPair)
  deriving DecidableEq
theorem TDelta.dec (p q : TDelta) : decide (p = q) = (decide (p.Added = q.Added) && decide (p.Removed = q.Removed)) := by
  cases p; cases q; simp
instance : Rd TDelta where
  k := 2
  agg := true
  rd w cs x F := ∃ a0 l0 c0 F0 a1 l1 c1 F1, cs = [.slice a0 l0 c0, .slice a1 l1 c1] ∧ Sl w a0 l0 c0 x.Added F0 ∧ Sl w a1 l1 c1 x.Removed F1 ∧ F = F0 ++ F1
  len := by rintro w cs x F ⟨a0, l0, c0, F0, a1, l1, c1, F1, rfl, _, _, rfl⟩; rfl
  congr := by
    rintro w w' cs x F ⟨a0, l0, c0, F0, a1, l1, c1, F1, rfl, h0, h1, rfl⟩ hc
    exact ⟨a0, l0, c0, _, a1, l1, c1, _, rfl, h0.congr fun b hb => hc b (by simp [hb]), h1.congr fun b hb => hc b (by simp [hb]), rfl⟩
  lt := by
    rintro w cs x F ⟨a0, l0, c0, F0, a1, l1, c1, F1, rfl, h0, h1, rfl⟩ b hb
    simp only [List.mem_append] at hb
    rcases hb with hb | hb
    · exact h0.lt b hb
    · exact h1.lt b hb
theorem Vl.ofTDelta {w : World} {v : Value} {x : TDelta} {F : List Nat} (h : Vl w v x F) : ∃ a0 l0 c0 F0 a1 l1 c1 F1, v = .agg #[.slice a0 l0 c0, .slice a1 l1 c1] ∧ Sl w a0 l0 c0 x.Added F0 ∧ Sl w a1 l1 c1 x.Removed F1 ∧ F = F0 ++ F1 := by
  obtain ⟨cs, ⟨a0, l0, c0, F0, a1, l1, c1, F1, rfl, h0, h1, rfl⟩, rfl⟩ := h
  exact ⟨a0, l0, c0, _, a1, l1, c1, _, rfl, h0, h1, rfl⟩
theorem Vl.mkTDelta {w : World} {x : TDelta} {a0 : Option Addr} {l0 c0 : Nat} {F0 : List Nat} {a1 : Option Addr} {l1 c1 : Nat} {F1 : List Nat} (h0 : Sl w a0 l0 c0 x.Added F0) (h1 : Sl w a1 l1 c1 x.Removed F1) : Vl w (.agg #[.slice a0 l0 c0, .slice a1 l1 c1]) x (F0 ++ F1) :=
  ⟨_, ⟨_, _, _, _, _, _, _, _, rfl, h0, h1, rfl⟩, rfl⟩
theorem Sl.atTDelta {w : World} {a : Option Addr} {len cap : Nat} {l : List TDelta} {F : List Nat} (h : Sl w a len cap l F) {i : Nat} (hi : i < len) :
    ∃ b off x a0 l0 c0 F0 a1 l1 c1 F1, a = some ⟨b, off, none⟩ ∧ l[i]? = some x ∧ w.cell? ⟨b, off + i * 2, none⟩ = some (.slice a0 l0 c0) ∧ w.cell? ⟨b, off + i * 2 + 1, none⟩ = some (.slice a1 l1 c1) ∧ Sl w a0 l0 c0 x.Added F0 ∧ Sl w a1 l1 c1 x.Removed F1 ∧ (∀ b ∈ F0, b ∈ F) ∧ (∀ b ∈ F1, b ∈ F) := by
  obtain ⟨b, off, x, cs, f, ha, hx, ⟨a0, l0, c0, F0, a1, l1, c1, F1, rfl, h0, h1, rfl⟩, hf, hc⟩ := h.at hi
  refine ⟨b, off, x, a0, l0, c0, _, a1, l1, c1, _, ha, hx, hc 0 _ rfl, hc 1 _ rfl, h0, h1, fun b hb => hf b (by simp [hb]), fun b hb => hf b (by simp [hb])⟩
def sizIntS (x : List Int) : Nat := x.length
def sizBoolS (x : List Bool) : Nat := x.length
def sizIntSS (x : List (List Int)) : Nat := x.length + (x.map sizIntS).sum
def sizPairS (x : List TPair) : Nat := x.length
def sizTokenS (x : List TToken) : Nat := x.length
def sizExpr (x : TExpr) : Nat := sizTokenS x.Tokens
def sizDelta (x : TDelta) : Nat := sizPairS x.Added + sizPairS x.Removed
def mkEPair (k : Int) : TPair := ⟨k, k + 1⟩
def cntPairS (l : List TPair) : Nat := 2 * l.length
def mkPairS (l : List TPair) (k : Int) : List TPair × Int := ((List.range l.length).map (fun (i : Nat) => mkEPair (k + 2 * (i : Int))), k + (cntPairS l : Nat))
theorem mkPairS_len (l : List TPair) (k : Int) : (mkPairS l k).1.length = l.length := by simp [mkPairS]
theorem cntPairS_mk (l : List TPair) (k : Int) : cntPairS (mkPairS l k).1 = cntPairS l := by simp [cntPairS, mkPairS_len]
theorem mkPairS_idem (l : List TPair) (k : Int) : mkPairS (mkPairS l k).1 k = mkPairS l k := by
  unfold mkPairS; simp [cntPairS]
theorem mkPairS_snd (l : List TPair) (k : Int) : (mkPairS l k).2 = k + (cntPairS l : Nat) := rfl
theorem cntPairS_le (l : List TPair) : cntPairS l ≤ 5 * sizPairS l := by unfold cntPairS sizPairS; omega
def cntDelta (x : TDelta) : Nat := cntPairS x.Added + cntPairS x.Removed
def mkDelta (x : TDelta) (k : Int) : TDelta × Int := (⟨(mkPairS x.Added (k)).1, (mkPairS x.Removed (k + (cntPairS x.Added : Nat))).1⟩, k + (cntDelta x : Nat))
theorem cntDelta_mk (x : TDelta) (k : Int) : cntDelta (mkDelta x k).1 = cntDelta x := by simp [cntDelta, mkDelta, cntPairS_mk, cntPairS_mk]
theorem mkDelta_idem (x : TDelta) (k : Int) : mkDelta (mkDelta x k).1 k = mkDelta x k := by
  simp [mkDelta, cntDelta, cntPairS_mk, mkPairS_idem, cntPairS_mk, mkPairS_idem]
theorem mkDelta_snd (x : TDelta) (k : Int) : (mkDelta x k).2 = k + (cntDelta x : Nat) := rfl
theorem cntDelta_le (x : TDelta) : cntDelta x ≤ 5 * sizDelta x := by
  unfold cntDelta sizDelta
  have := cntPairS_le x.Added
  have := cntPairS_le x.Removed
  omega
def szr (left : Int) (n : Nat) : Int := if left - n < 0 then -1 else left - n
theorem szr_neg {left : Int} {n : Nat} (h : left - n < 0) : szr left n = -1 := if_pos h
theorem szr_pos {left : Int} {n : Nat} (h : ¬ left - n < 0) : szr left n = left - n := if_neg h
end Go.Q
namespace Go.Proofs.Ytindeldjbofanaa
open Go.RowKit Go.Q Go.Q.Rd
@[go_sem high] theorem Try.guardPair (op : BinOp) (a b : Operand) (xs ys : Array Value) (w : World) : (eqGuard op 61 a b (.agg xs) (.agg ys)).run Try.prog w = .ok () w := run_eqGuard_agg w op 61 a b xs ys (by kernel_rfl)
@[go_sem high] theorem Try.neqPair (x y : TPair) (w : World) : (binOp .neq 61 (.agg #[.int .i64 x.From, .int .i64 x.To]) (.agg #[.int .i64 y.From, .int .i64 y.To])).run Try.prog w = .ok (.bool (!decide (x = y))) w := by
  have hs : Try.prog.stoodInHeld 61 = false := by kernel_rfl
  rw [TPair.dec]
  simp [go_sem, hs, Try.underlying61]
  repeat' split
  all_goals simp [*]
@[go_sem high] theorem Try.eqlPair (x y : TPair) (w : World) : (binOp .eql 61 (.agg #[.int .i64 x.From, .int .i64 x.To]) (.agg #[.int .i64 y.From, .int .i64 y.To])).run Try.prog w = .ok (.bool (decide (x = y))) w := by
  have hs : Try.prog.stoodInHeld 61 = false := by kernel_rfl
  rw [TPair.dec]
  simp [go_sem, hs, Try.underlying61]
  repeat' split
  all_goals simp [*]
@[go_sem high] theorem Try.guardToken (op : BinOp) (a b : Operand) (xs ys : Array Value) (w : World) : (eqGuard op 66 a b (.agg xs) (.agg ys)).run Try.prog w = .ok () w := run_eqGuard_agg w op 66 a b xs ys (by kernel_rfl)
@[go_sem high] theorem Try.neqToken (x y : TToken) (w : World) : (binOp .neq 66 (.agg #[.int .i64 x.Kind, .int .i64 x.Letter, .int .i64 x.Low, .int .i64 x.High]) (.agg #[.int .i64 y.Kind, .int .i64 y.Letter, .int .i64 y.Low, .int .i64 y.High])).run Try.prog w = .ok (.bool (!decide (x = y))) w := by
  have hs : Try.prog.stoodInHeld 66 = false := by kernel_rfl
  rw [TToken.dec]
  simp [go_sem, hs, Try.underlying66]
  repeat' split
  all_goals simp [*]
@[go_sem high] theorem Try.eqlToken (x y : TToken) (w : World) : (binOp .eql 66 (.agg #[.int .i64 x.Kind, .int .i64 x.Letter, .int .i64 x.Low, .int .i64 x.High]) (.agg #[.int .i64 y.Kind, .int .i64 y.Letter, .int .i64 y.Low, .int .i64 y.High])).run Try.prog w = .ok (.bool (decide (x = y))) w := by
  have hs : Try.prog.stoodInHeld 66 = false := by kernel_rfl
  rw [TToken.dec]
  simp [go_sem, hs, Try.underlying66]
  repeat' split
  all_goals simp [*]
theorem Try.infoInt : (Try.prog.info? 3).map (fun i => (i.zero, i.size, i.bytes)) = some (some (.int .i64 0), 1, 8) := by kernel_rfl
theorem toIntS {a : Option Addr} {len cap : Nat} {l : List Int} {F : List Nat} (w : World) (h : Sl w a len cap l F) (hz : sizIntS l ≤ 1048576) :
    Calls Try.prog 12 #[.slice a len cap] w fun e w' => ∃ v, e = .returned v ∧ New w w' v l ∧ Ext w w' := by
  have hn : len ≤ 1048576 := by have := h.hlen; unfold sizIntS at hz; omega
  clear hz
  obtain ⟨i0, hi, hz0, hz1, hz2⟩ := info_parts Try.infoInt
  have h1 := h.le
  have hlen := hid h.hlen
  go_enter Try.func12, Try.ntmps12
  go_wp2_with (at_make; refine wpList_make_full _ rfl _ _ 24 rfl w.heap.size 3 i0 (.int .i64 0) 1 Try.underlying24 hi hz0 hz1 _ _ _ _ len rfl rfl rfl rfl (by rw [hz2]; omega) (by unfold maxLen; omega) (Nat.le_refl _) ?_)
  intro w1 hown hg
  have hx1 : Ext w w1 := (Ext.refl w).grown0 hg
  obtain ⟨zs, hown⟩ : ∃ zs, w1.ownsRow w.heap.size 3 1 (.slice (some ⟨w.heap.size, 0, none⟩) len len) len zs := ⟨_, hown⟩
  have hzl : zs.length = len * 1 := hown.1
  have HZ := hid hzl; clear hzl hg
  go_wp2
  go_loopw [4] (fun i wr => ∃ k : Nat, k ≤ len ∧ i = .int .i64 k ∧ Ext w wr ∧ wr.ownsRow w.heap.size 3 1 (.slice (some ⟨w.heap.size, 0, none⟩) len len) len (partL l zs k)) (fun i _ => len - (intOf i).toNat)
  case atStart => exact ⟨0, Nat.zero_le _, rfl, hx1, by rw [partL_zero]; exact hown⟩
  case round =>
    clear hown hx1
    obtain ⟨k, hk, rfl, hx, hown⟩ := hrel
    by_cases hlt : k < len
    · obtain ⟨b, off, x, rfl, hx1, c0⟩ := (h.mono hx).int hlt
      have H1 := hid hx1; clear hx1
      obtain ⟨w2, hw2⟩ : ∃ w2, w2 = wr := ⟨_, rfl⟩
      have hx2 : Ext wr w2 := hw2 ▸ Ext.refl _
      subst hw2
      have hown2 := ownsRow_ext hown hx2
      have hpl : (partL l zs k).length = len * 1 := hown.1
      obtain ⟨v0, z0⟩ : ∃ v, w2.cell? ⟨w.heap.size, k, none⟩ = some v := ⟨_, (hown2.cellAt (k) (by omega)).trans (List.getElem?_eq_getElem (by omega))⟩
      have f0 := hown2.frozenAt (k)
      have HL := hid hpl; clear hpl
      go_wp2
      have s0 := hown2.stored (k) (.int .i64 x)
      have hp : partL l zs (k + 1) = (partL l zs k).set (k) (.int .i64 x) := by
        have := (partL_succ (α := Int) H1.out (by rw [hlen.out]; exact HZ.out)).symm
        rw [show k * Flat.k Int = k from Nat.mul_one k] at this; exact this
      go_roundw
      case rel => exact ⟨k + 1, by omega, by go_num, (hx.trans hx2).setCell (Nat.le_refl _) _, by rw [hp]; exact s0.1⟩
      case measure => simp [intOf]; omega
    · have : k = len := by omega
      subst this
      go_wp2
      go_ret
      exact ⟨_, rfl, New.of_owns hown hlen.out.symm (partL_all hlen.out HZ.out), hx⟩
theorem eqIntS {a a' : Option Addr} {len cap len' cap' : Nat} {l l' : List Int} {F F' : List Nat} (w : World) (h : Sl w a len cap l F) (h' : Sl w a' len' cap' l' F') :
    Calls Try.prog 14 #[.slice a len cap, .slice a' len' cap'] w fun e w' => e = .returned (.bool (decide (l = l'))) ∧ Ext w w' := by
  have h1 := h.le
  have h2 := h'.le
  by_cases hlen : len = len'
  · subst hlen
    go_enter Try.func14, Try.ntmps14
    go_wp2
    go_loopw [5] (fun i wr => ∃ k : Nat, k ≤ len ∧ i = .int .i64 k ∧ Ext w wr ∧ decide (l = l') = decide (l.drop k = l'.drop k)) (fun i _ => len - (intOf i).toNat)
    case atStart => exact ⟨0, Nat.zero_le _, rfl, Ext.refl _, rfl⟩
    case round =>
      obtain ⟨k, hk, rfl, hx, ht⟩ := hrel
      have HT := hid ht; clear ht
      by_cases hlt : k < len
      · obtain ⟨pb, poff, px, rfl, phx, pd0⟩ := (h.mono hx).int hlt
        obtain ⟨qb, qoff, qx, rfl, qhx, qd0⟩ := (h'.mono hx).int hlt
        have HD := hid (drop_dec phx qhx)
        clear phx qhx
        have pd0 := Later.cell pd0
        have qd0 := Later.cell qd0
        generalize hb : decide (px = qx) = bb at HD
        have HB := hid hb; clear hb
        cases bb
        · have hne : (px != qx) = true := by simpa using HB.out
          go_wp2_with fail
          refine wp_region_later (by kernel_rfl) (by kernel_rfl) ?_
          repeat (go_big_quiet_step (fail))
          refine wpQuiet_nil ?_
          rintro _ ⟨y, rfl⟩
          go_wp2
          go_ret
          refine ⟨ret_bool ?_, hx.trans y.2⟩
          rw [HT.out, HD.out]; rfl
        · have hne : (px != qx) = false := by simpa using HB.out
          go_wp2_with fail
          refine wp_region_later (by kernel_rfl) (by kernel_rfl) ?_
          repeat (go_big_quiet_step (fail))
          refine wpQuiet_nil ?_
          rintro _ ⟨y, rfl⟩
          go_wp2
          go_roundw
          case rel => exact ⟨k + 1, by omega, by go_num, hx.trans y.2, by rw [HT.out, HD.out]; simp⟩
          case measure => simp [intOf]; omega
      · go_wp2
        go_ret
        refine ⟨ret_bool ?_, hx⟩
        rw [HT.out, List.drop_eq_nil_of_le (by have := h.hlen; omega), List.drop_eq_nil_of_le (by have := h'.hlen; omega)]; rfl
  · have hne : decide (l = l') = false := by
      have := h.hlen; have := h'.hlen
      simp; rintro rfl; omega
    rw [hne]
    have hb : ((len : Int) != (len' : Int)) = true := by simp; omega
    go_enter Try.func14, Try.ntmps14
    go_wp2
    go_ret
    exact ⟨rfl, Ext.refl _⟩
theorem toPair (x : TPair) (w : World) : Calls Try.prog 50 #[.agg #[.int .i64 x.From, .int .i64 x.To]] w fun e w' => e = .returned (.agg #[.int .i64 x.From, .int .i64 x.To]) ∧ Ext w w' := by
  go_enter Try.func50, Try.ntmps50
  go_wp2
  exact bodyPost_ret (v := .agg #[.int .i64 x.From, .int .i64 x.To]) (by simp [results, Try.results50, go_sem]) rfl ⟨rfl, by repeat (first | exact Ext.refl _ | refine Ext.alloc ?_ _)⟩
theorem eqPair (x y : TPair) (w : World) : Calls Try.prog 52 #[.agg #[.int .i64 x.From, .int .i64 x.To], .agg #[.int .i64 y.From, .int .i64 y.To]] w fun e w' => e = .returned (.bool (decide (x = y))) ∧ Ext w w' := by
  rw [TPair.dec]
  go_enter Try.func52, Try.ntmps52
  go_wp2
  all_goals go_ret
  all_goals refine ⟨?_, by repeat (first | exact Ext.refl _ | refine Ext.alloc ?_ _)⟩
  all_goals simp_all
theorem Try.infoPair : (Try.prog.info? 61).map (fun i => (i.zero, i.size, i.bytes)) = some (some (.agg #[.int .i64 0, .int .i64 0]), 2, 16) := by kernel_rfl
theorem toPairS {a : Option Addr} {len cap : Nat} {l : List TPair} {F : List Nat} (w : World) (h : Sl w a len cap l F) (hz : sizPairS l ≤ 1048576) :
    Calls Try.prog 35 #[.slice a len cap] w fun e w' => ∃ v, e = .returned v ∧ New w w' v l ∧ Ext w w' := by
  have hn : len ≤ 1048576 := by have := h.hlen; unfold sizPairS at hz; omega
  clear hz
  obtain ⟨i0, hi, hz0, hz1, hz2⟩ := info_parts Try.infoPair
  have h1 := h.le
  have hlen := hid h.hlen
  go_enter Try.func35, Try.ntmps35
  go_wp2_with (at_make; refine wpList_make_full _ rfl _ _ 33 rfl w.heap.size 61 i0 (.agg #[.int .i64 0, .int .i64 0]) 2 Try.underlying33 hi hz0 hz1 _ _ _ _ len rfl rfl rfl rfl (by rw [hz2]; omega) (by unfold maxLen; omega) (Nat.le_refl _) ?_)
  intro w1 hown hg
  have hx1 : Ext w w1 := (Ext.refl w).grown0 hg
  obtain ⟨zs, hown⟩ : ∃ zs, w1.ownsRow w.heap.size 61 2 (.slice (some ⟨w.heap.size, 0, none⟩) len len) len zs := ⟨_, hown⟩
  have hzl : zs.length = len * 2 := hown.1
  have HZ := hid hzl; clear hzl hg
  go_wp2
  go_loopw [4] (fun i wr => ∃ k : Nat, k ≤ len ∧ i = .int .i64 k ∧ Ext w wr ∧ wr.ownsRow w.heap.size 61 2 (.slice (some ⟨w.heap.size, 0, none⟩) len len) len (partL l zs k)) (fun i _ => len - (intOf i).toNat)
  case atStart => exact ⟨0, Nat.zero_le _, rfl, hx1, by rw [partL_zero]; exact hown⟩
  case round =>
    clear hown hx1
    obtain ⟨k, hk, rfl, hx, hown⟩ := hrel
    by_cases hlt : k < len
    · obtain ⟨b, off, x, rfl, hx1, c0, c1⟩ := (h.mono hx).atTPair hlt
      have H1 := hid hx1; clear hx1
      go_wp2_with fail
      refine (toPair x wr).mono ?_
      rintro e w2 ⟨rfl, hx2⟩
      have hown2 := ownsRow_ext hown hx2
      have hpl : (partL l zs k).length = len * 2 := hown.1
      obtain ⟨v0, z0⟩ : ∃ v, w2.cell? ⟨w.heap.size, k * 2, none⟩ = some v := ⟨_, (hown2.cellAt (k * 2) (by omega)).trans (List.getElem?_eq_getElem (by omega))⟩
      have f0 := hown2.frozenAt (k * 2)
      obtain ⟨v1, z1⟩ : ∃ v, w2.cell? ⟨w.heap.size, k * 2 + 1, none⟩ = some v := ⟨_, (hown2.cellAt (k * 2 + 1) (by omega)).trans (List.getElem?_eq_getElem (by omega))⟩
      have f1 := hown2.frozenAt (k * 2 + 1)
      have HL := hid hpl; clear hpl
      go_wp2
      have s0 := hown2.stored (k * 2) (.int .i64 x.From)
      have s1 := s0.1.stored (k * 2 + 1) (.int .i64 x.To)
      have hp : partL l zs (k + 1) = ((partL l zs k).set (k * 2) (.int .i64 x.From)).set (k * 2 + 1) (.int .i64 x.To) := by
        have := (partL_succ (α := TPair) H1.out (by rw [hlen.out]; exact HZ.out)).symm
        exact this
      go_roundw
      case rel => exact ⟨k + 1, by omega, by go_num, ((hx.trans hx2).setCell (Nat.le_refl _) _).setCell (Nat.le_refl _) _, by rw [hp]; exact s1.1⟩
      case measure => simp [intOf]; omega
    · have : k = len := by omega
      subst this
      go_wp2
      go_ret
      exact ⟨_, rfl, New.of_owns hown hlen.out.symm (partL_all hlen.out HZ.out), hx⟩
theorem eqPairS {a a' : Option Addr} {len cap len' cap' : Nat} {l l' : List TPair} {F F' : List Nat} (w : World) (h : Sl w a len cap l F) (h' : Sl w a' len' cap' l' F') :
    Calls Try.prog 37 #[.slice a len cap, .slice a' len' cap'] w fun e w' => e = .returned (.bool (decide (l = l'))) ∧ Ext w w' := by
  have h1 := h.le
  have h2 := h'.le
  by_cases hlen : len = len'
  · subst hlen
    go_enter Try.func37, Try.ntmps37
    go_wp2
    go_loopw [5] (fun i wr => ∃ k : Nat, k ≤ len ∧ i = .int .i64 k ∧ Ext w wr ∧ decide (l = l') = decide (l.drop k = l'.drop k)) (fun i _ => len - (intOf i).toNat)
    case atStart => exact ⟨0, Nat.zero_le _, rfl, Ext.refl _, rfl⟩
    case round =>
      obtain ⟨k, hk, rfl, hx, ht⟩ := hrel
      have HT := hid ht; clear ht
      by_cases hlt : k < len
      · obtain ⟨pb, poff, px, rfl, phx, pd0, pd1⟩ := (h.mono hx).atTPair hlt
        obtain ⟨qb, qoff, qx, rfl, qhx, qd0, qd1⟩ := (h'.mono hx).atTPair hlt
        have HD := hid (drop_dec phx qhx)
        clear phx qhx
        have pd0 := Later.cell pd0
        have pd1 := Later.cell pd1
        have qd0 := Later.cell qd0
        have qd1 := Later.cell qd1
        generalize hb : decide (px = qx) = bb at HD
        have HB := hid hb; clear hb
        cases bb
        · skip
          go_wp2_with fail
          refine wp_region_later (by kernel_rfl) (by kernel_rfl) ?_
          repeat (go_big_quiet_step (exact later_bool (eqPair _ _ _) HB.out))
          refine wpQuiet_nil ?_
          rintro _ ⟨y, rfl⟩
          go_wp2
          go_ret
          refine ⟨ret_bool ?_, hx.trans y.2⟩
          rw [HT.out, HD.out]; rfl
        · skip
          go_wp2_with fail
          refine wp_region_later (by kernel_rfl) (by kernel_rfl) ?_
          repeat (go_big_quiet_step (exact later_bool (eqPair _ _ _) HB.out))
          refine wpQuiet_nil ?_
          rintro _ ⟨y, rfl⟩
          go_wp2
          go_roundw
          case rel => exact ⟨k + 1, by omega, by go_num, hx.trans y.2, by rw [HT.out, HD.out]; simp⟩
          case measure => simp [intOf]; omega
      · go_wp2
        go_ret
        refine ⟨ret_bool ?_, hx⟩
        rw [HT.out, List.drop_eq_nil_of_le (by have := h.hlen; omega), List.drop_eq_nil_of_le (by have := h'.hlen; omega)]; rfl
  · have hne : decide (l = l') = false := by
      have := h.hlen; have := h'.hlen
      simp; rintro rfl; omega
    rw [hne]
    have hb : ((len : Int) != (len' : Int)) = true := by simp; omega
    go_enter Try.func37, Try.ntmps37
    go_wp2
    go_ret
    exact ⟨rfl, Ext.refl _⟩
theorem szPairS {a : Option Addr} {len cap : Nat} {l : List TPair} {F : List Nat} (w : World) (h : Sl w a len cap l F) (left : Int) (h0 : 0 ≤ left) (h1 : left ≤ 1048576) :
    Calls Try.prog 33 #[.slice a len cap, .int .i64 left] w fun e w' => e = .returned (.int .i64 (szr left (sizPairS l))) ∧ Ext w w' := by
  have e : sizPairS l = len := h.hlen
  have hl := h.le
  rw [e]
  clear e
  by_cases hh : left - (len : Int) < 0
  · rw [szr_neg hh]
    go_enter Try.func33, Try.ntmps33
    go_wp2
    go_ret
    exact ⟨rfl, Ext.refl _⟩
  · rw [szr_pos hh]
    go_enter Try.func33, Try.ntmps33
    go_wp2
    go_ret
    exact ⟨rfl, Ext.refl _⟩
theorem toToken (x : TToken) (w : World) : Calls Try.prog 59 #[.agg #[.int .i64 x.Kind, .int .i64 x.Letter, .int .i64 x.Low, .int .i64 x.High]] w fun e w' => e = .returned (.agg #[.int .i64 x.Kind, .int .i64 x.Letter, .int .i64 x.Low, .int .i64 x.High]) ∧ Ext w w' := by
  go_enter Try.func59, Try.ntmps59
  go_wp2
  exact bodyPost_ret (v := .agg #[.int .i64 x.Kind, .int .i64 x.Letter, .int .i64 x.Low, .int .i64 x.High]) (by simp [results, Try.results59, go_sem]) rfl ⟨rfl, by repeat (first | exact Ext.refl _ | refine Ext.alloc ?_ _)⟩
theorem eqToken (x y : TToken) (w : World) : Calls Try.prog 61 #[.agg #[.int .i64 x.Kind, .int .i64 x.Letter, .int .i64 x.Low, .int .i64 x.High], .agg #[.int .i64 y.Kind, .int .i64 y.Letter, .int .i64 y.Low, .int .i64 y.High]] w fun e w' => e = .returned (.bool (decide (x = y))) ∧ Ext w w' := by
  rw [TToken.dec]
  go_enter Try.func61, Try.ntmps61
  go_wp2
  all_goals go_ret
  all_goals refine ⟨?_, by repeat (first | exact Ext.refl _ | refine Ext.alloc ?_ _)⟩
  all_goals simp_all
theorem Try.infoToken : (Try.prog.info? 66).map (fun i => (i.zero, i.size, i.bytes)) = some (some (.agg #[.int .i64 0, .int .i64 0, .int .i64 0, .int .i64 0]), 4, 32) := by kernel_rfl
theorem toTokenS {a : Option Addr} {len cap : Nat} {l : List TToken} {F : List Nat} (w : World) (h : Sl w a len cap l F) (hz : sizTokenS l ≤ 1048576) :
    Calls Try.prog 47 #[.slice a len cap] w fun e w' => ∃ v, e = .returned v ∧ New w w' v l ∧ Ext w w' := by
  have hn : len ≤ 1048576 := by have := h.hlen; unfold sizTokenS at hz; omega
  clear hz
  obtain ⟨i0, hi, hz0, hz1, hz2⟩ := info_parts Try.infoToken
  have h1 := h.le
  have hlen := hid h.hlen
  go_enter Try.func47, Try.ntmps47
  go_wp2_with (at_make; refine wpList_make_full _ rfl _ _ 47 rfl w.heap.size 66 i0 (.agg #[.int .i64 0, .int .i64 0, .int .i64 0, .int .i64 0]) 4 Try.underlying47 hi hz0 hz1 _ _ _ _ len rfl rfl rfl rfl (by rw [hz2]; omega) (by unfold maxLen; omega) (Nat.le_refl _) ?_)
  intro w1 hown hg
  have hx1 : Ext w w1 := (Ext.refl w).grown0 hg
  obtain ⟨zs, hown⟩ : ∃ zs, w1.ownsRow w.heap.size 66 4 (.slice (some ⟨w.heap.size, 0, none⟩) len len) len zs := ⟨_, hown⟩
  have hzl : zs.length = len * 4 := hown.1
  have HZ := hid hzl; clear hzl hg
  go_wp2
  go_loopw [4] (fun i wr => ∃ k : Nat, k ≤ len ∧ i = .int .i64 k ∧ Ext w wr ∧ wr.ownsRow w.heap.size 66 4 (.slice (some ⟨w.heap.size, 0, none⟩) len len) len (partL l zs k)) (fun i _ => len - (intOf i).toNat)
  case atStart => exact ⟨0, Nat.zero_le _, rfl, hx1, by rw [partL_zero]; exact hown⟩
  case round =>
    clear hown hx1
    obtain ⟨k, hk, rfl, hx, hown⟩ := hrel
    by_cases hlt : k < len
    · obtain ⟨b, off, x, rfl, hx1, c0, c1, c2, c3⟩ := (h.mono hx).atTToken hlt
      have H1 := hid hx1; clear hx1
      go_wp2_with fail
      refine (toToken x wr).mono ?_
      rintro e w2 ⟨rfl, hx2⟩
      have hown2 := ownsRow_ext hown hx2
      have hpl : (partL l zs k).length = len * 4 := hown.1
      obtain ⟨v0, z0⟩ : ∃ v, w2.cell? ⟨w.heap.size, k * 4, none⟩ = some v := ⟨_, (hown2.cellAt (k * 4) (by omega)).trans (List.getElem?_eq_getElem (by omega))⟩
      have f0 := hown2.frozenAt (k * 4)
      obtain ⟨v1, z1⟩ : ∃ v, w2.cell? ⟨w.heap.size, k * 4 + 1, none⟩ = some v := ⟨_, (hown2.cellAt (k * 4 + 1) (by omega)).trans (List.getElem?_eq_getElem (by omega))⟩
      have f1 := hown2.frozenAt (k * 4 + 1)
      obtain ⟨v2, z2⟩ : ∃ v, w2.cell? ⟨w.heap.size, k * 4 + 2, none⟩ = some v := ⟨_, (hown2.cellAt (k * 4 + 2) (by omega)).trans (List.getElem?_eq_getElem (by omega))⟩
      have f2 := hown2.frozenAt (k * 4 + 2)
      obtain ⟨v3, z3⟩ : ∃ v, w2.cell? ⟨w.heap.size, k * 4 + 3, none⟩ = some v := ⟨_, (hown2.cellAt (k * 4 + 3) (by omega)).trans (List.getElem?_eq_getElem (by omega))⟩
      have f3 := hown2.frozenAt (k * 4 + 3)
      have HL := hid hpl; clear hpl
      go_wp2
      have s0 := hown2.stored (k * 4) (.int .i64 x.Kind)
      have s1 := s0.1.stored (k * 4 + 1) (.int .i64 x.Letter)
      have s2 := s1.1.stored (k * 4 + 2) (.int .i64 x.Low)
      have s3 := s2.1.stored (k * 4 + 3) (.int .i64 x.High)
      have hp : partL l zs (k + 1) = ((((partL l zs k).set (k * 4) (.int .i64 x.Kind)).set (k * 4 + 1) (.int .i64 x.Letter)).set (k * 4 + 2) (.int .i64 x.Low)).set (k * 4 + 3) (.int .i64 x.High) := by
        have := (partL_succ (α := TToken) H1.out (by rw [hlen.out]; exact HZ.out)).symm
        exact this
      go_roundw
      case rel => exact ⟨k + 1, by omega, by go_num, ((((hx.trans hx2).setCell (Nat.le_refl _) _).setCell (Nat.le_refl _) _).setCell (Nat.le_refl _) _).setCell (Nat.le_refl _) _, by rw [hp]; exact s3.1⟩
      case measure => simp [intOf]; omega
    · have : k = len := by omega
      subst this
      go_wp2
      go_ret
      exact ⟨_, rfl, New.of_owns hown hlen.out.symm (partL_all hlen.out HZ.out), hx⟩
theorem eqTokenS {a a' : Option Addr} {len cap len' cap' : Nat} {l l' : List TToken} {F F' : List Nat} (w : World) (h : Sl w a len cap l F) (h' : Sl w a' len' cap' l' F') :
    Calls Try.prog 49 #[.slice a len cap, .slice a' len' cap'] w fun e w' => e = .returned (.bool (decide (l = l'))) ∧ Ext w w' := by
  have h1 := h.le
  have h2 := h'.le
  by_cases hlen : len = len'
  · subst hlen
    go_enter Try.func49, Try.ntmps49
    go_wp2
    go_loopw [5] (fun i wr => ∃ k : Nat, k ≤ len ∧ i = .int .i64 k ∧ Ext w wr ∧ decide (l = l') = decide (l.drop k = l'.drop k)) (fun i _ => len - (intOf i).toNat)
    case atStart => exact ⟨0, Nat.zero_le _, rfl, Ext.refl _, rfl⟩
    case round =>
      obtain ⟨k, hk, rfl, hx, ht⟩ := hrel
      have HT := hid ht; clear ht
      by_cases hlt : k < len
      · obtain ⟨pb, poff, px, rfl, phx, pd0, pd1, pd2, pd3⟩ := (h.mono hx).atTToken hlt
        obtain ⟨qb, qoff, qx, rfl, qhx, qd0, qd1, qd2, qd3⟩ := (h'.mono hx).atTToken hlt
        have HD := hid (drop_dec phx qhx)
        clear phx qhx
        have pd0 := Later.cell pd0
        have pd1 := Later.cell pd1
        have pd2 := Later.cell pd2
        have pd3 := Later.cell pd3
        have qd0 := Later.cell qd0
        have qd1 := Later.cell qd1
        have qd2 := Later.cell qd2
        have qd3 := Later.cell qd3
        generalize hb : decide (px = qx) = bb at HD
        have HB := hid hb; clear hb
        cases bb
        · skip
          go_wp2_with fail
          refine wp_region_later (by kernel_rfl) (by kernel_rfl) ?_
          repeat (go_big_quiet_step (exact later_bool (eqToken _ _ _) HB.out))
          refine wpQuiet_nil ?_
          rintro _ ⟨y, rfl⟩
          go_wp2
          go_ret
          refine ⟨ret_bool ?_, hx.trans y.2⟩
          rw [HT.out, HD.out]; rfl
        · skip
          go_wp2_with fail
          refine wp_region_later (by kernel_rfl) (by kernel_rfl) ?_
          repeat (go_big_quiet_step (exact later_bool (eqToken _ _ _) HB.out))
          refine wpQuiet_nil ?_
          rintro _ ⟨y, rfl⟩
          go_wp2
          go_roundw
          case rel => exact ⟨k + 1, by omega, by go_num, hx.trans y.2, by rw [HT.out, HD.out]; simp⟩
          case measure => simp [intOf]; omega
      · go_wp2
        go_ret
        refine ⟨ret_bool ?_, hx⟩
        rw [HT.out, List.drop_eq_nil_of_le (by have := h.hlen; omega), List.drop_eq_nil_of_le (by have := h'.hlen; omega)]; rfl
  · have hne : decide (l = l') = false := by
      have := h.hlen; have := h'.hlen
      simp; rintro rfl; omega
    rw [hne]
    have hb : ((len : Int) != (len' : Int)) = true := by simp; omega
    go_enter Try.func49, Try.ntmps49
    go_wp2
    go_ret
    exact ⟨rfl, Ext.refl _⟩
theorem szTokenS {a : Option Addr} {len cap : Nat} {l : List TToken} {F : List Nat} (w : World) (h : Sl w a len cap l F) (left : Int) (h0 : 0 ≤ left) (h1 : left ≤ 1048576) :
    Calls Try.prog 45 #[.slice a len cap, .int .i64 left] w fun e w' => e = .returned (.int .i64 (szr left (sizTokenS l))) ∧ Ext w w' := by
  have e : sizTokenS l = len := h.hlen
  have hl := h.le
  rw [e]
  clear e
  by_cases hh : left - (len : Int) < 0
  · rw [szr_neg hh]
    go_enter Try.func45, Try.ntmps45
    go_wp2
    go_ret
    exact ⟨rfl, Ext.refl _⟩
  · rw [szr_pos hh]
    go_enter Try.func45, Try.ntmps45
    go_wp2
    go_ret
    exact ⟨rfl, Ext.refl _⟩
theorem joinNewExpr {w w' : World} {x : TExpr} {lo0 hi0 : Nat} {ra0 : Option Addr} {rl0 rc0 : Nat} (q0 : Pc lo0 hi0 w' (.slice ra0 rl0 rc0) x.Tokens)  (m0 : w.heap.size ≤ lo0) : New w w' (.agg #[.slice ra0 rl0 rc0]) x := by
  obtain ⟨F0, v0, b0, n0⟩ := q0
  refine ⟨F0, ?_, ?_, ?_⟩
  · obtain ⟨_, _, _, e0, s0⟩ := v0.sl
    cases e0
    have := Vl.mkTExpr (x := x) s0
    simpa [List.append_assoc] using this
  · intro b hb
    have := b0 b hb; exact ⟨by omega, this.2.2⟩
  · exact n0
theorem toExpr {x : TExpr} (w : World) {a0 : Option Addr} {l0 c0 : Nat} {F0 : List Nat} (h0 : Sl w a0 l0 c0 x.Tokens F0) (hz : sizExpr x ≤ 1048576) :
    Calls Try.prog 28 #[.agg #[.slice a0 l0 c0]] w fun e w' => ∃ v, e = .returned v ∧ New w w' v x ∧ Ext w w' := by
  go_enter Try.func28, Try.ntmps28
  go_wp2_with fail
  obtain ⟨u0, hu, hx, B0, B1, B2⟩ := boxes3 w #[.slice a0 l0 c0] 44 #[.slice none 0 0] 49 #[.slice none 0 0] 49
  rw [← hu]
  clear hu
  have hs0 := B2.lt
  refine (toTokenS u0 (h0.mono hx) (by unfold sizExpr at hz; omega)).mono ?_
  rintro e w1 ⟨v, rfl, hN, hx1⟩
  have p0 := hN.pc
  have B0 := B0.mono hx1
  have B1 := B1.mono hx1
  have B2 := B2.mono hx1
  have hx := hx.trans hx1
  have hlo0 : u0.heap.size ≤ w1.heap.size := hx1.size
  have hla0 : w.heap.size + 1 + 1 < u0.heap.size := hs0
  obtain ⟨ra0, rl0, rc0, rfl, -⟩ := hN.vl.choose_spec.sl
  clear hN hx1
  have b0_0 := B0.at 0 rfl
  have b2_0 := B2.at 0 rfl
  have t2_0 := B2.thaw 0
  have b1_0 := B1.at 0 rfl
  have t1_0 := B1.thaw 0
  go_wp2_with fail
  clear b0_0 b2_0 t2_0 b1_0 t1_0
  have hxf := ((hx).setCell (p := ⟨w.heap.size + 1 + 1, 0, none⟩) (by simp <;> omega) (.slice ra0 rl0 rc0)).setCell (p := ⟨w.heap.size + 1, 0, none⟩) (by simp <;> omega) (.slice ra0 rl0 rc0)
  have B1 := B1.other (p := ⟨w.heap.size + 1 + 1, 0, none⟩) (by simp) (.slice ra0 rl0 rc0)
  have B1 := B1.set 0 (.slice ra0 rl0 rc0)
  have r1_0 := B1.at 0 rfl
  have q0 := ((p0).set (p := ⟨w.heap.size + 1 + 1, 0, none⟩) (by simp <;> omega) (.slice ra0 rl0 rc0)).set (p := ⟨w.heap.size + 1, 0, none⟩) (by simp <;> omega) (.slice ra0 rl0 rc0)
  exact bodyPost_ret (v := .agg #[.slice ra0 rl0 rc0]) (by simp [results, Try.results28, go_sem, *]) rfl ⟨_, rfl, joinNewExpr q0 (by omega), hxf⟩
theorem eqExpr (x y : TExpr) (w : World) {pa0 : Option Addr} {pl0 pc0 : Nat} {pF0 : List Nat} (ph0 : Sl w pa0 pl0 pc0 x.Tokens pF0) {qa0 : Option Addr} {ql0 qc0 : Nat} {qF0 : List Nat} (qh0 : Sl w qa0 ql0 qc0 y.Tokens qF0) :
    Calls Try.prog 30 #[.agg #[.slice pa0 pl0 pc0], .agg #[.slice qa0 ql0 qc0]] w fun e w' => e = .returned (.bool (decide (x = y))) ∧ Ext w w' := by
  go_enter Try.func30, Try.ntmps30
  go_wp2_with fail
  obtain ⟨u0, hu, hx, B0, B1⟩ := boxes2 w #[.slice pa0 pl0 pc0] 49 #[.slice qa0 ql0 qc0] 49
  rw [← hu]
  clear hu
  refine (eqTokenS u0 (ph0.mono hx) (qh0.mono hx)).mono ?_
  rintro e w1 ⟨rfl, hx1⟩
  have B0 := B0.mono hx1
  have B1 := B1.mono hx1
  have hx := hx.trans hx1
  clear hx1
  generalize hbTokens : decide (x.Tokens = y.Tokens) = bTokens
  have QTokens := hid hbTokens; clear hbTokens
  have a0_0 := B0.at 0 rfl
  have a1_0 := B1.at 0 rfl
  cases bTokens
  case false =>
    go_wp2
    go_ret
    exact ⟨ret_bool (by rw [TExpr.dec]; simp [QTokens.out]), hx⟩
  go_wp2
  go_ret
  exact ⟨ret_bool (by rw [TExpr.dec]; simp [QTokens.out]), hx⟩
theorem szExpr {x : TExpr} (w : World) {a0 : Option Addr} {l0 c0 : Nat} {F0 : List Nat} (h0 : Sl w a0 l0 c0 x.Tokens F0) (left : Int) (h0' : 0 ≤ left) (h1' : left ≤ 1048576) :
    Calls Try.prog 26 #[.agg #[.slice a0 l0 c0], .int .i64 left] w fun e w' => e = .returned (.int .i64 (szr left (sizExpr x))) ∧ Ext w w' := by
  go_enter Try.func26, Try.ntmps26
  go_wp2_with fail
  obtain ⟨u0, hu, hx, B0⟩ := boxes1 w #[.slice a0 l0 c0] 44
  rw [← hu]
  clear hu
  refine (szTokenS u0 (h0.mono hx) _ (by omega) (by omega)).mono ?_
  rintro e w1 ⟨rfl, hx1⟩
  have B0 := B0.mono hx1
  have hx := hx.trans hx1
  clear hx1
  have a0_0 := B0.at 0 rfl
  by_cases q0 : left - (sizTokenS x.Tokens : Int) < 0
  case pos =>
    rw [szr_neg q0]
    go_wp2
    go_ret
    exact ⟨ret_int (by unfold sizExpr szr; rw [if_pos (by omega)]), hx⟩
  rw [szr_pos q0]
  go_wp2
  go_ret
  exact ⟨ret_int (by unfold sizExpr szr; rw [if_neg (by omega)] <;> omega), hx⟩
theorem joinNewDelta {w w' : World} {x : TDelta} {lo0 hi0 lo1 hi1 : Nat} {ra0 : Option Addr} {rl0 rc0 : Nat} {ra1 : Option Addr} {rl1 rc1 : Nat} (q0 : Pc lo0 hi0 w' (.slice ra0 rl0 rc0) x.Added) (q1 : Pc lo1 hi1 w' (.slice ra1 rl1 rc1) x.Removed) (o1 : hi0 ≤ lo1) (m0 : w.heap.size ≤ lo0) (m1 : w.heap.size ≤ lo1) : New w w' (.agg #[.slice ra0 rl0 rc0, .slice ra1 rl1 rc1]) x := by
  obtain ⟨F0, v0, b0, n0⟩ := q0
  obtain ⟨F1, v1, b1, n1⟩ := q1
  refine ⟨F0 ++ F1, ?_, ?_, ?_⟩
  · obtain ⟨_, _, _, e0, s0⟩ := v0.sl
    cases e0
    obtain ⟨_, _, _, e1, s1⟩ := v1.sl
    cases e1
    have := Vl.mkTDelta (x := x) s0 s1
    simpa [List.append_assoc] using this
  · intro b hb
    simp only [List.mem_append] at hb
    rcases hb with hb | hb
    · have := b0 b hb; exact ⟨by omega, this.2.2⟩
    · have := b1 b hb; exact ⟨by omega, this.2.2⟩
  · exact nodup_app (m := hi0) n0 (n1) (fun b hb => (b0 b hb).2.1) (fun b hb => by have := (b1 b hb).1; omega)
theorem toDelta {x : TDelta} (w : World) {a0 : Option Addr} {l0 c0 : Nat} {F0 : List Nat} (h0 : Sl w a0 l0 c0 x.Added F0) {a1 : Option Addr} {l1 c1 : Nat} {F1 : List Nat} (h1 : Sl w a1 l1 c1 x.Removed F1) (hz : sizDelta x ≤ 1048576) :
    Calls Try.prog 17 #[.agg #[.slice a0 l0 c0, .slice a1 l1 c1]] w fun e w' => ∃ v, e = .returned v ∧ New w w' v x ∧ Ext w w' := by
  go_enter Try.func17, Try.ntmps17
  go_wp2_with fail
  obtain ⟨u0, hu, hx, B0, B1, B2⟩ := boxes3 w #[.slice a0 l0 c0, .slice a1 l1 c1] 30 #[.slice none 0 0, .slice none 0 0] 35 #[.slice none 0 0, .slice none 0 0] 35
  rw [← hu]
  clear hu
  have hs0 := B2.lt
  refine (toPairS u0 (h0.mono hx) (by unfold sizDelta at hz; omega)).mono ?_
  rintro e w1 ⟨v, rfl, hN, hx1⟩
  have p0 := hN.pc
  have B0 := B0.mono hx1
  have B1 := B1.mono hx1
  have B2 := B2.mono hx1
  have hx := hx.trans hx1
  have hlo0 : u0.heap.size ≤ w1.heap.size := hx1.size
  have hla0 : w.heap.size + 1 + 1 < u0.heap.size := hs0
  obtain ⟨ra0, rl0, rc0, rfl, -⟩ := hN.vl.choose_spec.sl
  clear hN hx1
  have b0_0 := B0.at 0 rfl
  have b0_1 := B0.at 1 rfl
  have b2_0 := B2.at 0 rfl
  have t2_0 := B2.thaw 0
  have b2_1 := B2.at 1 rfl
  have t2_1 := B2.thaw 1
  have b1_0 := B1.at 0 rfl
  have t1_0 := B1.thaw 0
  have b1_1 := B1.at 1 rfl
  have t1_1 := B1.thaw 1
  go_wp2_with fail
  clear b0_0 b2_0 t2_0 b1_0 t1_0 b0_1 b2_1 t2_1 b1_1 t1_1
  have B0 := B0.other (p := ⟨w.heap.size + 1 + 1, 0, none⟩) (by simp <;> omega) (.slice ra0 rl0 rc0)
  have B1 := B1.other (p := ⟨w.heap.size + 1 + 1, 0, none⟩) (by simp) (.slice ra0 rl0 rc0)
  have B2 := B2.set 0 (.slice ra0 rl0 rc0)
  have hx := hx.setCell (p := ⟨w.heap.size + 1 + 1, 0, none⟩) (by simp <;> omega) (.slice ra0 rl0 rc0)
  have p0 := p0.set (p := ⟨w.heap.size + 1 + 1, 0, none⟩) (by simp <;> omega) (.slice ra0 rl0 rc0)
  have hs0 := B2.lt
  have hss1 : w1.heap.size ≤ (w1.setCell ⟨w.heap.size + 1 + 1, 0, none⟩ (.slice ra0 rl0 rc0)).heap.size := by simp
  generalize (w1.setCell ⟨w.heap.size + 1 + 1, 0, none⟩ (.slice ra0 rl0 rc0)) = u1 at *
  refine (toPairS u1 (h1.mono hx) (by unfold sizDelta at hz; omega)).mono ?_
  rintro e w2 ⟨v, rfl, hN, hx1⟩
  have p1 := hN.pc
  have p0 := p0.mono hx1
  have B0 := B0.mono hx1
  have B1 := B1.mono hx1
  have B2 := B2.mono hx1
  have hx := hx.trans hx1
  have hlo1 : u1.heap.size ≤ w2.heap.size := hx1.size
  have hla1 : w.heap.size + 1 + 1 < u1.heap.size := hs0
  obtain ⟨ra1, rl1, rc1, rfl, -⟩ := hN.vl.choose_spec.sl
  clear hN hx1
  have b0_0 := B0.at 0 rfl
  have b0_1 := B0.at 1 rfl
  have b2_0 := B2.at 0 rfl
  have t2_0 := B2.thaw 0
  have b2_1 := B2.at 1 rfl
  have t2_1 := B2.thaw 1
  have b1_0 := B1.at 0 rfl
  have t1_0 := B1.thaw 0
  have b1_1 := B1.at 1 rfl
  have t1_1 := B1.thaw 1
  go_wp2_with fail
  clear b0_0 b2_0 t2_0 b1_0 t1_0 b0_1 b2_1 t2_1 b1_1 t1_1
  have hxf := (((hx).setCell (p := ⟨w.heap.size + 1 + 1, 1, none⟩) (by simp <;> omega) (.slice ra1 rl1 rc1)).setCell (p := ⟨w.heap.size + 1, 0, none⟩) (by simp <;> omega) (.slice ra0 rl0 rc0)).setCell (p := ⟨w.heap.size + 1, 1, none⟩) (by simp <;> omega) (.slice ra1 rl1 rc1)
  have B1 := B1.other (p := ⟨w.heap.size + 1 + 1, 1, none⟩) (by simp) (.slice ra1 rl1 rc1)
  have B1 := B1.set 0 (.slice ra0 rl0 rc0)
  have B1 := B1.set 1 (.slice ra1 rl1 rc1)
  have r1_0 := B1.at 0 rfl
  have r1_1 := B1.at 1 rfl
  have q0 := (((p0).set (p := ⟨w.heap.size + 1 + 1, 1, none⟩) (by simp <;> omega) (.slice ra1 rl1 rc1)).set (p := ⟨w.heap.size + 1, 0, none⟩) (by simp <;> omega) (.slice ra0 rl0 rc0)).set (p := ⟨w.heap.size + 1, 1, none⟩) (by simp <;> omega) (.slice ra1 rl1 rc1)
  have q1 := (((p1).set (p := ⟨w.heap.size + 1 + 1, 1, none⟩) (by simp <;> omega) (.slice ra1 rl1 rc1)).set (p := ⟨w.heap.size + 1, 0, none⟩) (by simp <;> omega) (.slice ra0 rl0 rc0)).set (p := ⟨w.heap.size + 1, 1, none⟩) (by simp <;> omega) (.slice ra1 rl1 rc1)
  exact bodyPost_ret (v := .agg #[.slice ra0 rl0 rc0, .slice ra1 rl1 rc1]) (by simp [results, Try.results17, go_sem, *]) rfl ⟨_, rfl, joinNewDelta q0 q1 (by omega) (by omega) (by omega), hxf⟩
theorem eqDelta (x y : TDelta) (w : World) {pa0 : Option Addr} {pl0 pc0 : Nat} {pF0 : List Nat} (ph0 : Sl w pa0 pl0 pc0 x.Added pF0) {pa1 : Option Addr} {pl1 pc1 : Nat} {pF1 : List Nat} (ph1 : Sl w pa1 pl1 pc1 x.Removed pF1) {qa0 : Option Addr} {ql0 qc0 : Nat} {qF0 : List Nat} (qh0 : Sl w qa0 ql0 qc0 y.Added qF0) {qa1 : Option Addr} {ql1 qc1 : Nat} {qF1 : List Nat} (qh1 : Sl w qa1 ql1 qc1 y.Removed qF1) :
    Calls Try.prog 19 #[.agg #[.slice pa0 pl0 pc0, .slice pa1 pl1 pc1], .agg #[.slice qa0 ql0 qc0, .slice qa1 ql1 qc1]] w fun e w' => e = .returned (.bool (decide (x = y))) ∧ Ext w w' := by
  go_enter Try.func19, Try.ntmps19
  go_wp2_with fail
  obtain ⟨u0, hu, hx, B0, B1⟩ := boxes2 w #[.slice pa0 pl0 pc0, .slice pa1 pl1 pc1] 35 #[.slice qa0 ql0 qc0, .slice qa1 ql1 qc1] 35
  rw [← hu]
  clear hu
  refine (eqPairS u0 (ph0.mono hx) (qh0.mono hx)).mono ?_
  rintro e w1 ⟨rfl, hx1⟩
  have B0 := B0.mono hx1
  have B1 := B1.mono hx1
  have hx := hx.trans hx1
  clear hx1
  generalize hbAdded : decide (x.Added = y.Added) = bAdded
  have QAdded := hid hbAdded; clear hbAdded
  have a0_0 := B0.at 0 rfl
  have a1_0 := B1.at 0 rfl
  have a0_1 := B0.at 1 rfl
  have a1_1 := B1.at 1 rfl
  cases bAdded
  case false =>
    go_wp2
    go_ret
    exact ⟨ret_bool (by rw [TDelta.dec]; simp [QAdded.out]), hx⟩
  go_wp2_with fail
  refine (eqPairS w1 (ph1.mono hx) (qh1.mono hx)).mono ?_
  rintro e w2 ⟨rfl, hx1⟩
  have B0 := B0.mono hx1
  have B1 := B1.mono hx1
  have hx := hx.trans hx1
  clear hx1
  generalize hbRemoved : decide (x.Removed = y.Removed) = bRemoved
  have QRemoved := hid hbRemoved; clear hbRemoved
  have a0_0 := B0.at 0 rfl
  have a1_0 := B1.at 0 rfl
  have a0_1 := B0.at 1 rfl
  have a1_1 := B1.at 1 rfl
  cases bRemoved
  case false =>
    go_wp2
    go_ret
    exact ⟨ret_bool (by rw [TDelta.dec]; simp [QRemoved.out]), hx⟩
  go_wp2
  go_ret
  exact ⟨ret_bool (by rw [TDelta.dec]; simp [QAdded.out, QRemoved.out]), hx⟩
theorem szDelta {x : TDelta} (w : World) {a0 : Option Addr} {l0 c0 : Nat} {F0 : List Nat} (h0 : Sl w a0 l0 c0 x.Added F0) {a1 : Option Addr} {l1 c1 : Nat} {F1 : List Nat} (h1 : Sl w a1 l1 c1 x.Removed F1) (left : Int) (h0' : 0 ≤ left) (h1' : left ≤ 1048576) :
    Calls Try.prog 15 #[.agg #[.slice a0 l0 c0, .slice a1 l1 c1], .int .i64 left] w fun e w' => e = .returned (.int .i64 (szr left (sizDelta x))) ∧ Ext w w' := by
  go_enter Try.func15, Try.ntmps15
  go_wp2_with fail
  obtain ⟨u0, hu, hx, B0⟩ := boxes1 w #[.slice a0 l0 c0, .slice a1 l1 c1] 30
  rw [← hu]
  clear hu
  refine (szPairS u0 (h0.mono hx) _ (by omega) (by omega)).mono ?_
  rintro e w1 ⟨rfl, hx1⟩
  have B0 := B0.mono hx1
  have hx := hx.trans hx1
  clear hx1
  have a0_0 := B0.at 0 rfl
  have a0_1 := B0.at 1 rfl
  by_cases q0 : left - (sizPairS x.Added : Int) < 0
  case pos =>
    rw [szr_neg q0]
    go_wp2
    go_ret
    exact ⟨ret_int (by unfold sizDelta szr; rw [if_pos (by omega)]), hx⟩
  rw [szr_pos q0]
  go_wp2_with fail
  refine (szPairS w1 (h1.mono hx) _ (by omega) (by omega)).mono ?_
  rintro e w2 ⟨rfl, hx1⟩
  have B0 := B0.mono hx1
  have hx := hx.trans hx1
  clear hx1
  have a0_0 := B0.at 0 rfl
  have a0_1 := B0.at 1 rfl
  by_cases q1 : left - (sizPairS x.Added : Int) - (sizPairS x.Removed : Int) < 0
  case pos =>
    rw [szr_neg q1]
    go_wp2
    go_ret
    exact ⟨ret_int (by unfold sizDelta szr; rw [if_pos (by omega)]), hx⟩
  rw [szr_pos q1]
  go_wp2
  go_ret
  exact ⟨ret_int (by unfold sizDelta szr; rw [if_neg (by omega)] <;> omega), hx⟩
theorem slEqualPair {a a' : Option Addr} {len cap len' cap' : Nat} {l l' : List TPair} {F F' : List Nat} (w : World) (h : Sl w a len cap l F) (h' : Sl w a' len' cap' l' F') :
    Calls Try.prog 51 #[.slice a len cap, .slice a' len' cap'] w fun e w' => e = .returned (.bool (decide (l = l'))) ∧ Ext w w' := by
  have h1 := h.le
  have h2 := h'.le
  by_cases hlen : len = len'
  · subst hlen
    go_enter Try.func51, Try.ntmps51
    go_wp2
    go_loopw [13] (fun i wr => ∃ k : Nat, k ≤ len ∧ i = .int .i64 k ∧ Ext w wr ∧ decide (l = l') = decide (l.drop k = l'.drop k)) (fun i _ => len - (intOf i).toNat)
    case atStart => exact ⟨0, Nat.zero_le _, rfl, Ext.refl _, rfl⟩
    case round =>
      obtain ⟨k, hk, rfl, hx, ht⟩ := hrel
      have HT := hid ht; clear ht
      by_cases hlt : k < len
      · obtain ⟨pb, poff, px, rfl, phx, pd0, pd1⟩ := (h.mono hx).atTPair hlt
        obtain ⟨qb, qoff, qx, rfl, qhx, qd0, qd1⟩ := (h'.mono hx).atTPair hlt
        have HD := hid (drop_dec phx qhx)
        clear phx qhx
        have pd0 := Later.cell pd0
        have pd1 := Later.cell pd1
        have qd0 := Later.cell qd0
        have qd1 := Later.cell qd1
        go_wp2_with fail
        refine wp_region_later (by kernel_rfl) (by kernel_rfl) ?_
        repeat (go_big_quiet_step (fail))
        refine wpQuiet_nil ?_
        rintro _ ⟨y, rfl⟩
        generalize decide (px = qx) = bb at HD ⊢
        cases bb
        · go_wp2
          go_ret
          refine ⟨ret_bool ?_, hx.trans y.2⟩
          rw [HT.out, HD.out]; rfl
        · go_wp2
          go_roundw
          case rel => exact ⟨k + 1, by omega, by go_num, hx.trans y.2, by rw [HT.out, HD.out]; simp⟩
          case measure => simp [intOf]; omega
      · go_wp2
        go_ret
        refine ⟨ret_bool ?_, hx⟩
        rw [HT.out, List.drop_eq_nil_of_le (by have := h.hlen; omega), List.drop_eq_nil_of_le (by have := h'.hlen; omega)]; rfl
  · have hne : decide (l = l') = false := by
      have := h.hlen; have := h'.hlen
      simp; rintro rfl; omega
    rw [hne]
    have hb : ((len : Int) != (len' : Int)) = true := by simp; omega
    go_enter Try.func51, Try.ntmps51
    go_wp2
    go_ret
    exact ⟨rfl, Ext.refl _⟩
theorem markPairS {a : Option Addr} {len cap : Nat} {l : List TPair} {F : List Nat} (w : World) (h : Sl w a len cap l F) (hnd : F.Nodup) (ht : ∀ b ∈ F, Thaw w b) (k : Int) (h0 : 0 ≤ k) (hk : k + (cntPairS l : Nat) ≤ 9223372036854775000) :
    Calls Try.prog 39 #[.slice a len cap, .int .i64 k] w fun e w' => e = .returned (.int .i64 (mkPairS l k).2) ∧ Sl w' a len cap (mkPairS l k).1 F ∧ Only F w w' := by
  have h1 := h.le
  have hlen := hid h.hlen
  have hkk : k + 2 * (len : Int) ≤ 9223372036854775000 := by have := h.hlen; unfold cntPairS at hk; omega
  clear hk
  go_enter Try.func39, Try.ntmps39
  go_wp2
  go_loopw [1, 5] (fun r i wr => ∃ q : Nat, q ≤ len ∧ i = .int .i64 q ∧ r = .int .i64 (k + 2 * (q : Int)) ∧ Sl wr a len cap (markPre (fun (i : Nat) => mkEPair (k + 2 * (i : Int))) l q) F ∧ Only F w wr) (fun _ i _ => len - (intOf i).toNat)
  case atStart => exact ⟨0, Nat.zero_le _, rfl, by simp, by rw [markPre_zero]; exact h, Only.refl _ _⟩
  case round =>
    obtain ⟨q, hq, rfl, rfl, hs, ho⟩ := hrel
    by_cases hlt : q < len
    · obtain ⟨b, off, x, rfl, _, d0, d1⟩ := hs.atTPair hlt
      have hw := hs.write hnd (by decide) hlt (mkEPair (k + 2 * (q : Int))) rfl
      rw [markPre_set _ (by rw [hlen.out]; exact hlt)] at hw
      have hbt := ho.thaw b hw.1 (ht b hw.1)
      have f0 := hbt.frozen (off + q * 2)
      have f1 := hbt.frozen (off + q * 2 + 1)
      have HW := hid hw; clear hw
      go_wp2
      go_roundw
      case rel =>
        refine ⟨q + 1, by omega, by go_num, by go_num, ?_, ?_⟩
        · have := HW.out.2; simpa [wrCells, Flat.enc, Flat.k, mkEPair, Int.add_assoc, Nat.add_assoc] using this
        · repeat (first | exact ho | refine Only.setCell ?_ HW.out.1 _)
      case measure => simp [intOf]; omega
    · have : q = len := by omega
      subst this
      go_wp2
      go_ret
      rw [markPre_all _ hlen.out] at hs
      refine ⟨ret_int ?_, hs, ho⟩
      rw [mkPairS_snd]; unfold cntPairS; rw [hlen.out]; omega
theorem heldPairS {a : Option Addr} {len cap : Nat} {l : List TPair} {F : List Nat} (w : World) (k : Int) (h : Sl w a len cap (mkPairS l k).1 F) (h0 : 0 ≤ k) (hk : k + (cntPairS l : Nat) ≤ 9223372036854775000) :
    Calls Try.prog 40 #[.slice a len cap, .int .i64 k] w fun e w' => e = .returned (.int .i64 (mkPairS l k).2) ∧ Ext w w' := by
  have h1 := h.le
  have hlen := hid ((mkPairS_len l k).symm.trans h.hlen)
  have hkk : k + 2 * (len : Int) ≤ 9223372036854775000 := by have := hlen.out; unfold cntPairS at hk; omega
  clear hk
  go_enter Try.func40, Try.ntmps40
  go_wp2
  go_loopw [1, 5] (fun r i wr => ∃ q : Nat, q ≤ len ∧ i = .int .i64 q ∧ r = .int .i64 (k + 2 * (q : Int)) ∧ Ext w wr) (fun _ i _ => len - (intOf i).toNat)
  case atStart => exact ⟨0, Nat.zero_le _, rfl, by simp, Ext.refl _⟩
  case round =>
    obtain ⟨q, hq, rfl, rfl, hx⟩ := hrel
    by_cases hlt : q < len
    · obtain ⟨b, off, x, rfl, hxq, d0, d1⟩ := (h.mono hx).atTPair hlt
      obtain rfl : mkEPair (k + 2 * (q : Int)) = x := by
        have hl := hlen.out
        simpa [mkPairS, show q < l.length by omega] using hxq
      clear hxq
      simp only [mkEPair] at d0 d1
      go_wp2
      go_roundw
      case rel => exact ⟨q + 1, by omega, by go_num, by go_num, hx⟩
      case measure => simp [intOf]; omega
    · have : q = len := by omega
      subst this
      go_wp2
      go_ret
      exact ⟨ret_int (by rw [mkPairS_snd]; unfold cntPairS; rw [hlen.out]; omega), hx⟩
theorem markDelta {x : TDelta} (w : World) {a0 : Option Addr} {l0 c0 : Nat} {F0 : List Nat} (h0 : Sl w a0 l0 c0 x.Added F0) {a1 : Option Addr} {l1 c1 : Nat} {F1 : List Nat} (h1 : Sl w a1 l1 c1 x.Removed F1) (n0 : F0.Nodup) (t0 : ∀ b ∈ F0, Thaw w b) (n1 : F1.Nodup) (t1 : ∀ b ∈ F1, Thaw w b) (d0_1 : ∀ b ∈ F0, b ∉ F1) (k : Int) (g0 : 0 ≤ k) (hk : k + (cntDelta x : Nat) ≤ 9223372036854775000) :
    Calls Try.prog 22 #[.agg #[.slice a0 l0 c0, .slice a1 l1 c1], .int .i64 k] w fun e w' => e = .returned (.int .i64 (mkDelta x k).2) ∧ Sl w' a0 l0 c0 (mkDelta x k).1.Added F0 ∧ Sl w' a1 l1 c1 (mkDelta x k).1.Removed F1 ∧ Only (F0 ++ F1) w w' := by
  have lt0 := h0.lt
  have lt1 := h1.lt
  have hG : ∀ b ∈ F0 ++ F1, b < w.heap.size := by
    intro b hb
    simp only [List.mem_append] at hb
    rcases hb with hb | hb
    · exact lt0 b hb
    · exact lt1 b hb
  unfold cntDelta at hk
  go_enter Try.func22, Try.ntmps22
  go_wp2_with fail
  obtain ⟨u0, hu, hx, B0⟩ := boxes1 w #[.slice a0 l0 c0, .slice a1 l1 c1] 35
  rw [← hu]
  clear hu
  replace h0 := h0.mono hx
  replace t0 := fun b hb => (t0 b hb).ext hx
  replace h1 := h1.mono hx
  replace t1 := fun b hb => (t1 b hb).ext hx
  have O : Only (F0 ++ F1) w u0 := Only.of_ext hx
  have hB : ∀ b ∈ F0 ++ F1, w.heap.size ≠ b := fun b hb e => by have := hG b hb; omega
  refine (markPairS u0 h0 n0 t0 _ (by omega) (by omega)).mono ?_
  rintro e w1 ⟨rfl, s0, ho⟩
  rw [mkPairS_snd]
  replace t0 := fun b hb => ho.thaw b hb (t0 b hb)
  have e1 : ∀ b ∈ F1, b ∉ F0 := fun b hb => fun hm => d0_1 b hm hb
  replace t1 := fun b hb => (t1 b hb).only ho (h1.lt b hb) (e1 b hb)
  replace h1 := h1.only ho e1
  clear e1
  replace B0 := B0.only ho (fun hm => hB _ (by first | exact hm | simp [hm]) rfl)
  replace O := O.trans (ho.sub (fun b hb => by first | exact hb | (simp only [List.mem_append] at hb ⊢; simp [hb])) (fun b hb => Nat.lt_of_lt_of_le (hG b hb) O.size))
  have h0 := s0
  clear s0
  clear ho
  have c_0 := B0.at 0 rfl
  have c_1 := B0.at 1 rfl
  go_wp2_with fail
  refine (markPairS w1 h1 n1 t1 _ (by omega) (by omega)).mono ?_
  rintro e w2 ⟨rfl, s1, ho⟩
  rw [mkPairS_snd]
  have e0 : ∀ b ∈ F0, b ∉ F1 := fun b hb => d0_1 b hb
  replace t0 := fun b hb => (t0 b hb).only ho (h0.lt b hb) (e0 b hb)
  replace h0 := h0.only ho e0
  clear e0
  replace t1 := fun b hb => ho.thaw b hb (t1 b hb)
  replace B0 := B0.only ho (fun hm => hB _ (by first | exact hm | simp [hm]) rfl)
  replace O := O.trans (ho.sub (fun b hb => by first | exact hb | (simp only [List.mem_append] at hb ⊢; simp [hb])) (fun b hb => Nat.lt_of_lt_of_le (hG b hb) O.size))
  have h1 := s1
  clear s1
  clear ho
  go_wp2
  go_ret
  exact ⟨ret_int (by rw [mkDelta_snd]; unfold cntDelta; omega), by simpa [mkDelta] using h0, by simpa [mkDelta] using h1, O⟩
theorem heldDelta {x : TDelta} (w : World) (k : Int) {a0 : Option Addr} {l0 c0 : Nat} {F0 : List Nat} (h0 : Sl w a0 l0 c0 (mkDelta x k).1.Added F0) {a1 : Option Addr} {l1 c1 : Nat} {F1 : List Nat} (h1 : Sl w a1 l1 c1 (mkDelta x k).1.Removed F1) (g0 : 0 ≤ k) (hk : k + (cntDelta x : Nat) ≤ 9223372036854775000) :
    Calls Try.prog 23 #[.agg #[.slice a0 l0 c0, .slice a1 l1 c1], .int .i64 k] w fun e w' => e = .returned (.int .i64 (mkDelta x k).2) ∧ Ext w w' := by
  unfold cntDelta at hk
  simp only [mkDelta] at h0 h1
  go_enter Try.func23, Try.ntmps23
  go_wp2_with fail
  obtain ⟨u0, hu, hx, B0⟩ := boxes1 w #[.slice a0 l0 c0, .slice a1 l1 c1] 35
  rw [← hu]
  clear hu
  refine (heldPairS u0 _ (h0.mono hx) (by omega) (by omega)).mono ?_
  rintro e w1 ⟨rfl, hx1⟩
  rw [mkPairS_snd]
  replace B0 := B0.mono hx1
  replace hx := hx.trans hx1
  clear hx1
  have c_0 := B0.at 0 rfl
  have c_1 := B0.at 1 rfl
  go_wp2_with fail
  refine (heldPairS w1 _ (h1.mono hx) (by omega) (by omega)).mono ?_
  rintro e w2 ⟨rfl, hx1⟩
  rw [mkPairS_snd]
  replace B0 := B0.mono hx1
  replace hx := hx.trans hx1
  clear hx1
  have c_0 := B0.at 0 rfl
  have c_1 := B0.at 1 rfl
  go_wp2
  go_ret
  exact ⟨ret_int (by rw [mkDelta_snd]; unfold cntDelta; omega), hx⟩
end Go.Proofs.Ytindeldjbofanaa
