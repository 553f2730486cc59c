import Derived.Test.YtbkhopfpejhnlaaGreatDoorB82ta
import Derived.Test.YtbkhopfpejhnlaaGreatDoorB137ta
import Derived.Test.YtbkhopfpejhnlaaGreatDoorB86ta
set_option linter.unusedVariables false
set_option linter.unusedSimpArgs false
set_option maxHeartbeats 1000000
set_option maxRecDepth 100000
namespace Go.Q
open Go.D
theorem atoi_lt {l : List UInt8} {n : Int} (h : Lib.atoi l = some n) (hl : l.length ≤ 18) : -1000000000000000000 < n ∧ n < 1000000000000000000 := by
 obtain ⟨b0, r, rfl, h1⟩ := Lib.atoi_cases h
 simp only [List.length_cons] at hl
 rcases h1 with ⟨_, m, _, h2, rfl⟩ | ⟨_, m, _, h2, rfl⟩ | ⟨_, _, m, h2, rfl⟩
 · have := Lib.decFrom_lt18 h2 (by omega); omega
 · have := Lib.decFrom_lt18 h2 (by omega); omega
 · have := Lib.decFrom_lt18 h2 (by simp; omega); omega
theorem parseI_long {l : List UInt8} (h : 10 < l.length) : parseI l = (0, false) := by unfold parseI; rw [if_neg (by omega)]
theorem parseI_none {l : List UInt8} (h : Lib.atoi l = none) : parseI l = (0, false) := by rw [parseI_atoi, h]
theorem parseI_yes {l : List UInt8} {n : Int} (h : Lib.atoi l = some n) (hl : l.length ≤ 10) (h1 : bs (itoS n) = bs l) (h2 : inB n (-999999999) 999999999 = true) : parseI l = (n, true) := by
 rw [parseI_atoi, h]
 unfold inB at h2
 simp only [Bool.and_eq_true, decide_eq_true_eq] at h2
 simp only
 rw [if_pos ⟨hl, bs_inj h1, h2⟩]
theorem parseI_bad {l : List UInt8} {n : Int} (h : Lib.atoi l = some n) (h1 : ¬ (bs (itoS n) = bs l ∧ inB n (-999999999) 999999999 = true)) : parseI l = (0, false) := by
 rw [parseI_atoi, h]
 simp only
 rw [if_neg]
 rintro ⟨_, h2, h3⟩
 refine h1 ⟨by rw [h2], ?_⟩
 unfold inB
 simp only [Bool.and_eq_true, decide_eq_true_eq]; exact h3
theorem cntD_le (l : List UInt8) : cntD l ≤ l.length := List.countP_le_length
theorem accN_at {l : List UInt8} {k : Nat} {b : UInt8} (h : l[k]? = some b) : accN (l.take (k + 1)) = if isDg b = true then accN (l.take k) * 10 + (b.toNat - 48) else accN (l.take k) := by rw [take_at h, accN_snoc]
theorem cntD_at {l : List UInt8} {k : Nat} {b : UInt8} (h : l[k]? = some b) : cntD (l.take (k + 1)) = if isDg b = true then cntD (l.take k) + 1 else cntD (l.take k) := by rw [take_at h, cntD_snoc]
theorem accN_le (l : List UInt8) : ∀ k : Nat, accN (l.take k) < 10 ^ cntD (l.take k)
 | 0 => by simp [accN, cntD]
 | k + 1 => by
  have ih := accN_le l k
  rcases Nat.lt_or_ge k l.length with hk | hk
  · have hb : l[k]? = some (l[k]'hk) := List.getElem?_eq_getElem hk
    rw [accN_at hb, cntD_at hb]
    split
    · rename_i h
      unfold isDg at h
      simp only [Bool.and_eq_true, decide_eq_true_eq] at h
      rw [Nat.pow_succ]; omega
    · exact ih
  · rw [List.take_of_length_le (by omega)] at ih ⊢; exact ih
theorem accN_11 (l : List UInt8) (k : Nat) (hk : k ≤ 11) : accN (l.take k) < 100000000000 := by
 have h1 := accN_le l k
 have h2 := cntD_le (l.take k)
 have h3 : 10 ^ cntD (l.take k) ≤ 10 ^ 11 := Nat.pow_le_pow_right (by decide) (by rw [List.length_take] at h2; omega)
 omega
theorem isDg_yes {b : UInt8} (h : (48 : Int) ≤ (b.toNat : Int) ∧ (b.toNat : Int) ≤ 57) : isDg b = true := by unfold isDg; simp; omega
theorem isDg_no {b : UInt8} (h : (48 : Int) ≤ (b.toNat : Int) → 57 < (b.toNat : Int)) : isDg b = false := by
 unfold isDg
 rw [Bool.and_eq_false_iff, decide_eq_false_iff_not, decide_eq_false_iff_not]; omega
theorem parseI_sp {l : List UInt8} {v : Int} (h1 : cntD l ≤ 9) (h2 : l.length ≤ 10) (h3 : bs (itoS v) = bs l) (hv : v = sgnN l) : parseI l = (v, true) := by
 unfold parseI
 rw [if_pos ⟨h1, h2, by rw [← hv]; exact bs_inj h3⟩, hv]
theorem parseI_sn {l : List UInt8} {v : Int} (h : 9 < cntD l ∨ 10 < l.length ∨ ¬ bs (itoS v) = bs l) (hv : v = sgnN l) : parseI l = (0, false) := by
 unfold parseI
 rw [if_neg]
 rintro ⟨h1, h2, h3⟩
 rcases h with h | h | h
 · omega
 · omega
 · exact h (by rw [hv, h3])
theorem sgn_neg {l : List UInt8} {b : UInt8} (hb : l[0]? = some b) (h : (b.toNat : Int) = 45) : sgnN l = -(accN l : Int) := by
 have e : b = 45 := UInt8.toNat_inj.1 (show b.toNat = 45 by omega)
 unfold sgnN
 rw [List.head?_eq_getElem?, hb, e, if_pos rfl]
theorem sgn_pos {l : List UInt8} {b : UInt8} (h : l.length = 0 ∨ l[0]? = some b ∧ ¬ (b.toNat : Int) = 45) : sgnN l = (accN l : Int) := by
 unfold sgnN
 rw [if_neg]
 rw [List.head?_eq_getElem?]
 rcases h with h | ⟨h, h2⟩
 · rw [List.getElem?_eq_none (by omega)]; simp
 · rw [h]
   intro e
   exact h2 (by rw [Option.some.inj e]; rfl)
theorem tmod_neg (m : Nat) : Int.tmod (-(m : Int)) 10 = -((m % 10 : Nat) : Int) := by rw [Int.neg_tmod]; rfl
theorem tdiv_neg (m : Nat) : Int.tdiv (-(m : Int)) 10 = -((m / 10 : Nat) : Int) := by rw [Int.neg_tdiv]; rfl
theorem three_bytes {x : List UInt8} (h : x.length = 3) : ∃ a b c, x = [a, b, c] := by
 match x, h with
 | [a, b, c], _ => exact ⟨a, b, c, rfl⟩
end Go.Q
namespace Go.Proofs.YtbkhopfpejhnlaaGreatDoor
open Go.RowKit Go.Q Go.D
theorem implParseIntS (l : List UInt8) (n : Int) (h : Lib.atoi l = some n) : FnT Tryz.prog 64 [.one (.v (.string (bs l)))] (.tup [.one (.v (.int .i64 (parseI l).1)), .one (.v (.bool (parseI l).2))]) := by
 refine FnT.walk Tryz.func64 U (by kernel_rfl) Tryz.ntmps64 U fun hlen w0 => ?_
 try simp [cEdge, cGraph, cChange, cBatch, cHistory] at hlen
 have hsz := bs_size l
 refine AW.sr ?_
 refine AWl.ac ?_
 refine AWl.ac ?_
 refine AWl.nil (AW.seq ?_)
 refine AW.sr ?_
 refine AWl.mv ?_
 refine AWl.p (R_len_s U (.no U) U (.tm U) Tryz.underlying9) U ?_
 refine AWl.p (R_gt U (.no U) U (.tm U) (.const U)) U ?_
 refine AWl.nil ?_
 refine AW.cond (.tm U) (fun h8 => ?_) (fun h8 => ?_)
 · skip
   try simp at h8
   refine AW.sr ?_
   refine AWl.ac ?_
   refine AWl.ac ?_
   refine AWl.nil (AW.ret ?_)
   refine Res.many U (.tmp U (.tmp U .nil)) U ?_ (by simp)
   rw [parseI_long (by omega)]; rfl
 · skip
   try simp at h8
   have hlt := atoi_lt h (by omega)
   refine AW.skip ?_
   refine AW.sr ?_
   refine AWl.mv ?_
   refine AWl.p (R_callz (FnT.fr (strconvAtoi l n (by omega) h)) U (.no U) U (.cons (.tm U) U .nil)) U ?_
   refine AWl.p (R_movet U (.no U) U U fun _ => rfl) U ?_
   refine AWl.p (R_extract U (.no U) U U (fun _ => rfl) U) U ?_
   refine AWl.p (R_extract U (.no U) U U (fun _ => rfl) U) U ?_
   refine AWl.av ?_
   refine AWl.av ?_
   refine AWl.nil (AW.seq ?_)
   refine AW.seq ?_
   refine AW.le (σ' := ⟨_, [(0, _), (2, _), (3, _), (4, _), (5, _)], []⟩) (Le.sub0 U ⟨U, U, U, U, U, Y⟩ trivial) ?_
   refine AW.region ?_
   refine AWl.mv ?_
   refine AWl.p (R_nenil0 U (.no U) U (.tm U) (.const U) (by kernel_rfl)) U ?_
   refine AWl.mv ?_
   refine AWl.p (R_move U (by exact .not1 U U U U) U (.tmp U (by exact fun _ => rfl))) U ?_
   refine AWl.p (R_callz (FnT.fr (strconvItoaA n (by omega) (by omega))) U (by exact .not1 U U U U) U (.cons (.tmp U (by exact fun _ => rfl)) U .nil)) U ?_
   refine AWl.p (R_move U (by exact .not1 U U U U) U (.tmp U (by exact fun _ => rfl))) U ?_
   refine AWl.p (R_nestr U (by exact .not1 U U U U) U (.tmp U (by exact fun _ => rfl)) (.tmp U (by exact fun _ => rfl))) U ?_
   refine AWl.p (R_or U (.no U) U (.tm U) (.tmp U (by exact fun _ => rfl))) U ?_
   refine AWl.mv ?_
   refine AWl.p (R_move U (by exact .not1 U U U U) U (.tmp U (by exact fun _ => rfl))) U ?_
   refine AWl.p (R_callz (FnT.fr (implwithin n (-999999999) 999999999)) U (by exact .not1 U U U U) U (.cons (.tmp U (by exact id)) U (.cons (.const U) U (.cons (.const U) U .nil)))) U ?_
   refine AWl.p (R_not U (by exact .not1 U U U U) U (.tmp U (by exact id))) U ?_
   refine AWl.p (R_or U (.no U) U (.tm U) (.tmp U (by exact id))) U ?_
   refine AWl.nil ?_
   refine AW.cond (.tm U) (fun h26 => ?_) (fun h26 => ?_)
   · skip
     try simp at h26
     refine AW.seq ?_
     refine AW.le (σ' := ⟨_, [(0, _), (2, _), (3, _), (4, _), (5, _)], []⟩) (Le.sub0 U ⟨U, U, U, U, U, Y⟩ trivial) ?_
     refine AW.region ?_
     refine AWl.ac ?_
     refine AWl.ac ?_
     refine AWl.nil (AW.ret ?_)
     refine Res.many U (.tmp U (.tmp U .nil)) U ?_ (by simp)
     rw [parseI_bad h (by grind)]; rfl
   · skip
     try simp at h26
     refine AW.skip ?_
     refine AW.seq ?_
     refine AW.le (σ' := ⟨_, [(0, _), (2, _), (3, _), (4, _), (5, _)], []⟩) (Le.sub0 U ⟨U, U, U, U, U, Y⟩ trivial) ?_
     refine AW.region ?_
     refine AWl.mv ?_
     refine AWl.av ?_
     refine AWl.ac ?_
     refine AWl.nil (AW.ret ?_)
     refine Res.many U (.tmp U (.tmp U .nil)) U ?_ (by simp)
     rw [parseI_yes h (by omega) (by grind) (by grind)]; rfl
theorem implParseIntN (l : List UInt8) (h : Lib.atoi l = none) : FnT Tryz.prog 64 [.one (.v (.string (bs l)))] (.tup [.one (.v (.int .i64 (parseI l).1)), .one (.v (.bool (parseI l).2))]) := by
 refine FnT.walk Tryz.func64 U (by kernel_rfl) Tryz.ntmps64 U fun hlen w0 => ?_
 try simp [cEdge, cGraph, cChange, cBatch, cHistory] at hlen
 have hsz := bs_size l
 refine AW.sr ?_
 refine AWl.ac ?_
 refine AWl.ac ?_
 refine AWl.nil (AW.seq ?_)
 refine AW.sr ?_
 refine AWl.mv ?_
 refine AWl.p (R_len_s U (.no U) U (.tm U) Tryz.underlying9) U ?_
 refine AWl.p (R_gt U (.no U) U (.tm U) (.const U)) U ?_
 refine AWl.nil ?_
 refine AW.cond (.tm U) (fun h8 => ?_) (fun h8 => ?_)
 · skip
   try simp at h8
   refine AW.sr ?_
   refine AWl.ac ?_
   refine AWl.ac ?_
   refine AWl.nil (AW.ret ?_)
   refine Res.many U (.tmp U (.tmp U .nil)) U ?_ (by simp)
   rw [parseI_none h]; rfl
 · skip
   try simp at h8
   refine AW.skip ?_
   refine AW.sr ?_
   refine AWl.mv ?_
   refine AWl.opE (R_calle (strconvAtoiE l (by omega) h) U U U (.cons (.tm U) U .nil)) ?_
   rintro _ ⟨_, ⟨N11, rfl⟩, rfl⟩
   refine AWl.p (R_movet U (.no U) U U fun _ => rfl) U ?_
   refine AWl.p (R_extract U (.no U) U U (fun _ => rfl) U) U ?_
   refine AWl.p (R_extract U (.no U) U U (fun _ => rfl) U) U ?_
   refine AWl.av ?_
   refine AWl.av ?_
   refine AWl.nil (AW.seq ?_)
   refine AW.seq ?_
   refine AW.le (σ' := ⟨_, [(0, _), (2, _), (3, _), (4, _), (5, _)], []⟩) (Le.sub0 U ⟨U, U, U, U, U, Y⟩ trivial) ?_
   refine AW.region ?_
   refine AWl.mv ?_
   refine AWl.p (R_nenil1 U (.no U) U (.tm U) (.const U) (by kernel_rfl)) U ?_
   refine AWl.mv ?_
   refine AWl.p (R_move U (by exact .not1 U U U U) U (.tmp U (by exact fun _ => rfl))) U ?_
   refine AWl.p (R_callz (FnT.fr (strconvItoaA 0 (by omega) (by omega))) U (by exact .not1 U U U U) U (.cons (.tmp U (by exact id)) U .nil)) U ?_
   refine AWl.p (R_move U (by exact .not1 U U U U) U (.tmp U (by exact fun _ => rfl))) U ?_
   refine AWl.p (R_nestr U (by exact .not1 U U U U) U (.tmp U (by exact id)) (.tmp U (by exact id))) U ?_
   refine AWl.p (R_or U (.no U) U (.tm U) (.tmp U (by exact id))) U ?_
   refine AWl.mv ?_
   refine AWl.p (R_move U (by exact .not1 U U U U) U (.tmp U (by exact fun _ => rfl))) U ?_
   refine AWl.p (R_callz (FnT.fr (implwithin 0 (-999999999) 999999999)) U (by exact .not1 U U U U) U (.cons (.tmp U (by exact id)) U (.cons (.const U) U (.cons (.const U) U .nil)))) U ?_
   refine AWl.p (R_not U (by exact .not1 U U U U) U (.tmp U (by exact id))) U ?_
   refine AWl.p (R_or U (.no U) U (.tm U) (.tmp U (by exact id))) U ?_
   refine AWl.nil ?_
   refine AW.cond (.tm U) (fun h26 => ?_) (fun h26 => ?_)
   · skip
     try simp at h26
     refine AW.seq ?_
     refine AW.le (σ' := ⟨_, [(0, _), (2, _), (3, _), (4, _), (5, _)], []⟩) (Le.sub0 U ⟨U, U, U, U, U, Y⟩ trivial) ?_
     refine AW.region ?_
     refine AWl.ac ?_
     refine AWl.ac ?_
     refine AWl.nil (AW.ret ?_)
     refine Res.many U (.tmp U (.tmp U .nil)) U ?_ (by simp)
     rw [parseI_none h]; rfl
   · exact absurd h26 (by simp)
theorem implParseInt (l : List UInt8) : FnT Tryz.prog 64 [.one (.v (.string (bs l)))] (.tup [.one (.v (.int .i64 (parseI l).1)), .one (.v (.bool (parseI l).2))]) := by
 cases h : Lib.atoi l with
 | none => exact implParseIntN l h
 | some n => exact implParseIntS l n h
theorem specFormatIntN (n : Int) (h0 : n < 0) (h1 : -1000000000000 < n) : FnT Tryz.prog 67 [.one (.v (.int .i64 n))] (.a (.one (.v (.string (bs (itoS n)))))) := by
 obtain ⟨m0, rfl⟩ : ∃ m0 : Nat, n = -(m0 : Int) := ⟨n.natAbs, by omega⟩
 have hi : itoS (-(m0 : Int)) = 45 :: Lib.decDigits m0 := by unfold itoS Lib.itoa; rw [if_pos h0, Int.natAbs_neg]; rfl
 rw [hi]
 refine FnT.walk Tryz.func67 U (by kernel_rfl) Tryz.ntmps67 U fun hlen w0 => ?_
 try simp [cEdge, cGraph, cChange, cBatch, cHistory] at hlen
 have hn0 : 0 < m0 ∧ m0 < 1000000000000 := by omega
 refine AW.sr ?_
 refine AWl.ac ?_
 refine AWl.nil (AW.seq ?_)
 refine AW.sr ?_
 refine AWl.mv ?_
 refine AWl.p (R_eq U (.no U) U (.tm U) (.const U)) U ?_
 refine AWl.nil ?_
 refine AW.cond (.tm U) (fun h7 => ?_) (fun h7 => ?_)
 · exact absurd h7 (by simp <;> omega)
 · skip
   try simp at h7
   refine AW.skip ?_
   refine AW.sr ?_
   refine AWl.ac ?_
   refine AWl.nil (AW.sr ?_)
   refine AWl.mv ?_
   refine AWl.p (R_lt U (.no U) U (.tm U) (.const U)) U ?_
   refine AWl.av ?_
   refine AWl.nil (AW.seq ?_)
   refine AW.block ?_
   refine AW.loop2 (fun (m : Nat) (O : ByteArray) => (m < 1000000000000 ∧ O.size + m ≤ 1000000000000) ∧ bs (restD m0) = bs (restD m) ++ O) (fun (m : Nat) (O : ByteArray) => ⟨_, [(0, (true, .a (.one (.t (.v (.int .i64 (-(m : Int)))))))), (3, (true, .a (.one (.t (.v (.string O)))))), (2, _), (4, _)], []⟩) (fun (m : Nat) (O : ByteArray) => m) (m0) (⟨#[]⟩) ⟨⟨by omega, by simp [ByteArray.size]; omega⟩, (by rw [show (⟨#[]⟩ : ByteArray) = bs [] from U, bs_append, List.append_nil])⟩ (Le.sub0 U ⟨U, U, U, U, Y⟩ trivial) ?_
   rintro m O ⟨hk, he⟩
   refine AW.seq ?_
   refine AW.sr ?_
   refine AWl.mv ?_
   refine AWl.p (R_ne U (.no U) U (.tm U) (.const U)) U ?_
   refine AWl.nil ?_
   refine AW.cond (.tm U) (fun h11 => ?_) (fun h11 => ?_)
   · skip
     try simp at h11
     have hm0 : m ≠ 0 := by (first | omega | (simp at h11; omega))
     refine AW.skip ?_
     refine AW.block ?_
     refine AW.sr ?_
     refine AWl.mv ?_
     refine AWl.p (R_remS (-((m % 10 : Nat) : Int)) U (.no U) U (.tm U) (.const U) (fun _ => ⟨by omega, tmod_neg m⟩)) U ?_
     refine AWl.av ?_
     refine AWl.nil (AW.seq ?_)
     refine AW.sr ?_
     refine AWl.mv ?_
     refine AWl.p (R_lt U (.no U) U (.tm U) (.const U)) U ?_
     refine AWl.nil ?_
     refine AW.cond (.tm U) (fun h15 => ?_) (fun h15 => ?_)
     · skip
       try simp at h15
       refine AW.le (σ' := ⟨_, [(0, _), (2, _), (3, _), (4, _), (5, _)], []⟩) (Le.sub0 U ⟨U, U, U, U, U, Y⟩ trivial) ?_
       refine AW.region ?_
       refine AWl.mv ?_
       refine AWl.p (R_neg U (.no U) U (.tm U) (fun _ => by omega)) U ?_
       refine AWl.av ?_
       refine AWl.nil (AW.sr ?_)
       refine AWl.mv ?_
       refine AWl.p (R_add U (.no U) U (.const U) (.tm U) (fun _ => by omega)) U ?_
       refine AWl.p (R_conv U (.no U) U (.tm U) (by rw [Tryz.underlying3]; rfl) Tryz.underlying5 (fun _ => (show IntKind.u8.wrap _ = (48 + (m : Int) % 10) by simp [IntKind.wrap, IntKind.bits]; omega))) U ?_
       refine AWl.p (R_listz (xs := [.tmp 20]) (rows := [[.v (.int .u8 (48 + (m : Int) % 10))]]) U U U (.cons (.tm U) U U .nil) Tryz.underlying22 in5 U U (U)) U ?_
       refine AWl.p (R_byteStr U (.no U) U (.tm U) Tryz.underlying22 Tryz.underlying5 Tryz.underlying9) U ?_
       refine AWl.mv ?_
       refine AWl.p (R_cat U (.no U) U (.tm U) (.tm U) (fun _ => by have : (⟨#[UInt8.ofNat ((48 + (m : Int) % 10)).toNat]⟩ : ByteArray).size = 1 := U; omega)) U ?_
       refine AWl.av ?_
       refine AWl.nil ?_
       refine AW.le (σ' := ⟨_, [(0, _), (2, _), (3, _), (4, _), (5, _)], []⟩) (Le.sub0 U ⟨U, U, U, U, U, Y⟩ trivial) ?_
       refine AW.region ?_
       refine AWl.mv ?_
       refine AWl.p (R_quoS (-((m / 10 : Nat) : Int)) U (.no U) U (.tm U) (.const U) (fun _ => ⟨by omega, by rw [tdiv_neg]; exact wrapI (by omega)⟩)) U ?_
       refine AWl.av ?_
       refine AWl.nil ?_
       repeat (with_reducible refine BlockQ.nor ?_)
       refine Round2.next (m / 10) (((ByteArray.mk #[UInt8.ofNat ((48 + (m : Int) % 10)).toNat]) ++ O)) ⟨⟨by omega, (by rw [ByteArray.size_append]; have : (⟨#[UInt8.ofNat ((48 + (m : Int) % 10)).toNat]⟩ : ByteArray).size = 1 := rfl; omega)⟩, (by rw [he, restD_step (by omega), ← bs_append, show (48 + (m : Int) % 10).toNat = 48 + m % 10 by omega]; rw [ByteArray.append_assoc]; rfl)⟩ (by omega) (Le.sub0 rfl ⟨rfl, rfl, rfl, rfl, Y⟩ trivial)
     · skip
       try simp at h15
       refine AW.skip ?_
       refine AW.seq ?_
       refine AW.le (σ' := ⟨_, [(0, _), (2, _), (3, _), (4, _), (5, _)], []⟩) (Le.sub0 U ⟨U, U, U, U, U, Y⟩ trivial) ?_
       refine AW.region ?_
       refine AWl.mv ?_
       refine AWl.p (R_add U (.no U) U (.const U) (.tm U) (fun _ => by omega)) U ?_
       refine AWl.p (R_conv U (.no U) U (.tm U) (by rw [Tryz.underlying3]; rfl) Tryz.underlying5 (fun _ => (show IntKind.u8.wrap _ = (48 + (m : Int) % 10) by simp [IntKind.wrap, IntKind.bits]; omega))) U ?_
       refine AWl.p (R_listz (xs := [.tmp 20]) (rows := [[.v (.int .u8 (48 + (m : Int) % 10))]]) U U U (.cons (.tm U) U U .nil) Tryz.underlying22 in5 U U (U)) U ?_
       refine AWl.p (R_byteStr U (.no U) U (.tm U) Tryz.underlying22 Tryz.underlying5 Tryz.underlying9) U ?_
       refine AWl.mv ?_
       refine AWl.p (R_cat U (.no U) U (.tm U) (.tm U) (fun _ => by have : (⟨#[UInt8.ofNat ((48 + (m : Int) % 10)).toNat]⟩ : ByteArray).size = 1 := U; omega)) U ?_
       refine AWl.av ?_
       refine AWl.nil ?_
       refine AW.le (σ' := ⟨_, [(0, _), (2, _), (3, _), (4, _), (5, _)], []⟩) (Le.sub0 U ⟨U, U, U, U, U, Y⟩ trivial) ?_
       refine AW.region ?_
       refine AWl.mv ?_
       refine AWl.p (R_quoS (-((m / 10 : Nat) : Int)) U (.no U) U (.tm U) (.const U) (fun _ => ⟨by omega, by rw [tdiv_neg]; exact wrapI (by omega)⟩)) U ?_
       refine AWl.av ?_
       refine AWl.nil ?_
       repeat (with_reducible refine BlockQ.nor ?_)
       refine Round2.next (m / 10) (((ByteArray.mk #[UInt8.ofNat ((48 + (m : Int) % 10)).toNat]) ++ O)) ⟨⟨by omega, (by rw [ByteArray.size_append]; have : (⟨#[UInt8.ofNat ((48 + (m : Int) % 10)).toNat]⟩ : ByteArray).size = 1 := rfl; omega)⟩, (by rw [he, restD_step (by omega), ← bs_append, show (48 + (m : Int) % 10).toNat = 48 + m % 10 by omega]; rw [ByteArray.append_assoc]; rfl)⟩ (by omega) (Le.sub0 rfl ⟨rfl, rfl, rfl, rfl, Y⟩ trivial)
   · skip
     try simp at h11
     refine AW.exit ?_
     refine AW.seq ?_
     refine AW.sr ?_
     refine AWl.mv ?_
     refine AWl.nil ?_
     refine AW.cond (.tm U) (fun h27 => ?_) (fun h27 => ?_)
     · skip
       try simp at h27
       refine AW.sr ?_
       refine AWl.mv ?_
       refine AWl.p (R_cat U (.no U) U (.const U) (.tm U) (fun _ => by have : (⟨#[45]⟩ : ByteArray).size = 1 := U; omega)) U ?_
       refine AWl.av ?_
       refine AWl.nil (AW.ret ?_)
       refine Res.v U U ?_
       (have e : m = 0 := (by omega); rw [e] at he; unfold restD at he; rw [if_neg (by omega), if_pos rfl] at he; rw [show (45 :: Lib.decDigits m0) = [45] ++ Lib.decDigits m0 from rfl, ← bs_append, he, bs_nil_append]; rfl)
     · exact absurd h27 (by simp <;> omega)
theorem specFormatIntB (n : Int) (h0 : -1000000000000 < n) (h1 : n < 1000000000000) : FnT Tryz.prog 67 [.one (.v (.int .i64 n))] (.a (.one (.v (.string (bs (itoS n)))))) := by
 by_cases h : n < 0
 · exact specFormatIntN n h h0
 · exact specFormatIntP n (by omega) h1
theorem specParseInt (l : List UInt8) (hz : l.length ≤ 1073741824) : FnT Tryz.prog 104 [.one (.v (.string (bs l)))] (.tup [.one (.v (.int .i64 (parseI l).1)), .one (.v (.bool (parseI l).2))]) := by
 obtain ⟨b0, hb0⟩ : ∃ b0, 0 < l.length → l[0]? = some b0 := ⟨l[0]?.getD 0, fun h => by rw [List.getElem?_eq_getElem h]; rfl⟩
 refine FnT.walk Tryz.func104 U (by kernel_rfl) Tryz.ntmps104 U fun hlen w0 => ?_
 try simp [cEdge, cGraph, cChange, cBatch, cHistory] at hlen
 have hsz := bs_size l
 refine AW.sr ?_
 refine AWl.ac ?_
 refine AWl.ac ?_
 refine AWl.nil (AW.sr ?_)
 refine AWl.ac ?_
 refine AWl.nil (AW.sr ?_)
 refine AWl.ac ?_
 refine AWl.nil (AW.seq ?_)
 refine AW.sr ?_
 refine AWl.ac ?_
 refine AWl.nil (AW.block ?_)
 refine AW.loop3 (fun (i : Nat) (n : Int) (k : Int) => ((i ≤ l.length ∧ i ≤ 11) ∧ (0 ≤ n ∧ n < 100000000000) ∧ 0 ≤ k ∧ k ≤ 11) ∧ n = (accN (l.take i) : Int) ∧ k = (cntD (l.take i) : Int)) (fun (i : Nat) (n : Int) (k : Int) => ⟨_, [(6, (true, .a (.one (.t (.v (.int .i64 (i : Nat))))))), (4, (true, .a (.one (.t (.v (.int .i64 n)))))), (5, (true, .a (.one (.t (.v (.int .i64 k)))))), (0, _), (2, _), (3, _)], []⟩) (fun (i : Nat) (n : Int) (k : Int) => 11 - i) (0) (0) (0) ⟨⟨⟨by omega, by omega⟩, ⟨by omega, by omega⟩, by omega, by omega⟩, by simp [accN], by simp [cntD]⟩ (Le.sub0 U ⟨U, U, U, U, U, U, Y⟩ trivial) ?_
 rintro i n k ⟨hk, he⟩
 refine AW.seq ?_
 refine AW.sr ?_
 refine AWl.mv ?_
 refine AWl.mv ?_
 refine AWl.p (R_len_s U (.no U) U (.tm U) Tryz.underlying9) U ?_
 refine AWl.p (R_lt U (.no U) U (.tm U) (.tm U)) U ?_
 refine AWl.mv ?_
 refine AWl.p (R_move U (by exact .yes1 U U U U) U (.tmp U (by exact fun _ => rfl))) U ?_
 refine AWl.p (R_lt U (by exact .yes1 U U U U) U (.tmp U (by exact id)) (.const U)) U ?_
 refine AWl.p (R_and U (.no U) U (.tm U) (.tmp U (by exact id))) U ?_
 refine AWl.nil ?_
 refine AW.cond (.tm U) (fun h14 => ?_) (fun h14 => ?_)
 · skip
   try simp at h14
   obtain ⟨b, hb⟩ : ∃ ξ, l[i]? = some ξ := ⟨_, List.getElem?_eq_getElem (by omega)⟩
   have hb8 : b.toNat < 256 := b.toNat_lt
   refine AW.skip ?_
   refine AW.seq ?_
   refine AW.block ?_
   refine AW.seq ?_
   refine AW.le (σ' := ⟨_, [(0, _), (2, _), (3, _), (4, _), (5, _), (6, _)], []⟩) (Le.sub0 U ⟨U, U, U, U, U, U, Y⟩ trivial) ?_
   refine AW.region ?_
   refine AWl.mv ?_
   refine AWl.mv ?_
   refine AWl.p (R_strIndex U (.no U) U (.tm U) (.tm U) Tryz.underlying9 (fun _ => ⟨by omega, (by rw [bs_get]; exact hb)⟩)) U ?_
   refine AWl.p (R_ge U (.no U) U (.tm U) (.const U)) U ?_
   refine AWl.mv ?_
   refine AWl.p (R_move U (by exact .yes1 U U U U) U (.tmp U (by exact fun _ => rfl))) U ?_
   refine AWl.p (R_move U (by exact .yes1 U U U U) U (.tmp U (by exact fun _ => rfl))) U ?_
   refine AWl.p (R_strIndex U (by exact .yes1 U U U U) U (.tmp U (by exact id)) (.tmp U (by exact id)) Tryz.underlying9 (fun _ => ⟨by omega, (by rw [bs_get]; exact hb)⟩)) U ?_
   refine AWl.p (R_le U (by exact .yes1 U U U U) U (.tmp U (by exact id)) (.const U)) U ?_
   refine AWl.p (R_and U (.no U) U (.tm U) (.tmp U (by exact id))) U ?_
   refine AWl.nil ?_
   refine AW.cond (.tm U) (fun h26 => ?_) (fun h26 => ?_)
   · skip
     try simp at h26
     have hA := accN_at hb
     have hC := cntD_at hb
     rw [if_pos (isDg_yes h26)] at hA hC
     refine AW.seq ?_
     refine AW.le (σ' := ⟨_, [(0, _), (2, _), (3, _), (4, _), (5, _), (6, _)], []⟩) (Le.sub0 U ⟨U, U, U, U, U, U, Y⟩ trivial) ?_
     refine AW.region ?_
     refine AWl.mv ?_
     refine AWl.p (R_mul U (.no U) U (.tm U) (.const U) (fun _ => by omega)) U ?_
     refine AWl.mv ?_
     refine AWl.mv ?_
     refine AWl.p (R_strIndex U (.no U) U (.tm U) (.tm U) Tryz.underlying9 (fun _ => ⟨by omega, (by rw [bs_get]; exact hb)⟩)) U ?_
     refine AWl.p (R_subS ((b.toNat : Int) - 48) U (.no U) U (.tm U) (.const U) (fun _ => by simp [IntKind.wrap, IntKind.bits]; omega)) U ?_
     refine AWl.p (R_conv U (.no U) U (.tm U) (by rw [Tryz.underlying5]; rfl) Tryz.underlying3 (fun _ => (show IntKind.i64.wrap ((b.toNat : Int) - 48) = ((b.toNat : Int) - 48) from wrapI (by omega)))) U ?_
     refine AWl.p (R_add U (.no U) U (.tm U) (.tm U) (fun _ => by omega)) U ?_
     refine AWl.av ?_
     refine AWl.nil ?_
     refine AW.le (σ' := ⟨_, [(0, _), (2, _), (3, _), (4, _), (5, _), (6, _)], []⟩) (Le.sub0 U ⟨U, U, U, U, U, U, Y⟩ trivial) ?_
     refine AW.region ?_
     refine AWl.mv ?_
     refine AWl.p (R_add U (.no U) U (.tm U) (.const U) (fun _ => by omega)) U ?_
     refine AWl.av ?_
     refine AWl.nil (AW.region ?_)
     refine AWl.mv ?_
     refine AWl.p (R_add U (.no U) U (.tm U) (.const U) (fun _ => by omega)) U ?_
     refine AWl.av ?_
     refine AWl.nil ?_
     repeat (with_reducible refine BlockQ.nor ?_)
     refine Round3.next (i + 1) ((n * 10 + ((b.toNat : Int) - 48))) ((k + 1)) ⟨⟨⟨by omega, by omega⟩, ⟨by omega, by (have := accN_11 l (i + 1) (by omega); rw [hA] at this; omega)⟩, by omega, by (have := cntD_le (l.take (i + 1)); rw [hC, List.length_take] at this; omega)⟩, (by rw [hA, he.1]; omega), (by rw [hC, he.2]; omega)⟩ (by omega) (Le.sub0 rfl ⟨rfl, rfl, rfl, rfl, rfl, rfl, Y⟩ trivial)
   · skip
     try simp at h26
     refine AW.skip ?_
     refine AW.le (σ' := ⟨_, [(0, _), (2, _), (3, _), (4, _), (5, _), (6, _)], []⟩) (Le.sub0 U ⟨U, U, U, U, U, U, Y⟩ trivial) ?_
     refine AW.region ?_
     refine AWl.mv ?_
     refine AWl.p (R_add U (.no U) U (.tm U) (.const U) (fun _ => by omega)) U ?_
     refine AWl.av ?_
     refine AWl.nil ?_
     repeat (with_reducible refine BlockQ.nor ?_)
     refine Round3.next (i + 1) (n) (k) ⟨⟨⟨by omega, by omega⟩, hk.2.1, hk.2.2⟩, (by rw [accN_at hb, if_neg (by rw [isDg_no h26]; decide)]; exact he.1), (by rw [cntD_at hb, if_neg (by rw [isDg_no h26]; decide)]; exact he.2)⟩ (by omega) (Le.sub0 rfl ⟨rfl, rfl, rfl, rfl, rfl, rfl, Y⟩ trivial)
 · skip
   try simp at h14
   have hex : l.length ≤ 10 → l.take i = l := fun hl => List.take_of_length_le (by omega)
   refine AW.exit ?_
   refine AW.seq ?_
   refine AW.seq ?_
   refine AW.le (σ' := ⟨_, [(0, _), (2, _), (3, _), (4, _), (5, _), (6, _)], []⟩) (Le.sub0 U ⟨U, U, U, U, U, U, Y⟩ trivial) ?_
   refine AW.region ?_
   refine AWl.mv ?_
   refine AWl.p (R_len_s U (.no U) U (.tm U) Tryz.underlying9) U ?_
   refine AWl.p (R_gt U (.no U) U (.tm U) (.const U)) U ?_
   refine AWl.mv ?_
   refine AWl.p (R_move U (by exact .yes1 U U U U) U (.tmp U (by exact fun _ => rfl))) U ?_
   refine AWl.p (R_strIndex U (by exact .yes1 U U U U) U (.tmp U (by exact id)) (.const U) Tryz.underlying9 (fun hq => ⟨by omega, by rw [bs_get]; exact hb0 (by simp at hq; omega)⟩)) U ?_
   refine AWl.p (R_eq U (by exact .yes1 U U U U) U (.tmp U (by exact id)) (.const U)) U ?_
   refine AWl.p (R_and U (.no U) U (.tm U) (.tmp U (by exact id))) U ?_
   refine AWl.nil ?_
   refine AW.cond (.tm U) (fun h44 => ?_) (fun h44 => ?_)
   · skip
     try simp at h44
     refine AW.le (σ' := ⟨_, [(0, _), (2, _), (3, _), (4, _), (5, _), (6, _)], []⟩) (Le.sub0 U ⟨U, U, U, U, U, U, Y⟩ trivial) ?_
     refine AW.region ?_
     refine AWl.mv ?_
     refine AWl.p (R_neg U (.no U) U (.tm U) (fun _ => by omega)) U ?_
     refine AWl.av ?_
     refine AWl.nil (AW.seq ?_)
     refine AW.sr ?_
     refine AWl.mv ?_
     refine AWl.p (R_gt U (.no U) U (.tm U) (.const U)) U ?_
     refine AWl.mv ?_
     refine AWl.p (R_move U (by exact .not1 U U U U) U (.tmp U (by exact fun _ => rfl))) U ?_
     refine AWl.p (R_len_s U (by exact .not1 U U U U) U (.tmp U (by exact id)) Tryz.underlying9) U ?_
     refine AWl.p (R_gt U (by exact .not1 U U U U) U (.tmp U (by exact id)) (.const U)) U ?_
     refine AWl.p (R_or U (.no U) U (.tm U) (.tmp U (by exact id))) U ?_
     refine AWl.mv ?_
     refine AWl.p (R_move U (by exact .not1 U U U U) U (.tmp U (by exact fun _ => rfl))) U ?_
     refine AWl.p (R_callz (FnT.fr (specFormatIntB _ (by omega) (by omega))) U (by exact .not1 U U U U) U (.cons (.tmp U (by exact id)) U .nil)) U ?_
     refine AWl.p (R_move U (by exact .not1 U U U U) U (.tmp U (by exact fun _ => rfl))) U ?_
     refine AWl.p (R_nestr U (by exact .not1 U U U U) U (.tmp U (by exact id)) (.tmp U (by exact id))) U ?_
     refine AWl.p (R_or U (.no U) U (.tm U) (.tmp U (by exact id))) U ?_
     refine AWl.nil ?_
     refine AW.cond (.tm U) (fun h59 => ?_) (fun h59 => ?_)
     · skip
       try simp at h59
       refine AW.seq ?_
       refine AW.le (σ' := ⟨_, [(0, _), (2, _), (3, _), (4, _), (5, _), (6, _)], []⟩) (Le.sub0 U ⟨U, U, U, U, U, U, Y⟩ trivial) ?_
       refine AW.region ?_
       refine AWl.ac ?_
       refine AWl.ac ?_
       refine AWl.nil (AW.ret ?_)
       refine Res.many U (.tmp U (.tmp U .nil)) U ?_ (by simp)
       rcases Nat.lt_or_ge 10 l.length with hl | hl; (rw [parseI_long hl]; rfl); (rw [hex hl] at he; rw [parseI_sn (v := -n) (by grind) (by rw [sgn_neg (hb0 (by omega)) h44.2, he.1])]; rfl)
     · skip
       try simp at h59
       refine AW.skip ?_
       refine AW.seq ?_
       refine AW.le (σ' := ⟨_, [(0, _), (2, _), (3, _), (4, _), (5, _), (6, _)], []⟩) (Le.sub0 U ⟨U, U, U, U, U, U, Y⟩ trivial) ?_
       refine AW.region ?_
       refine AWl.mv ?_
       refine AWl.av ?_
       refine AWl.ac ?_
       refine AWl.nil (AW.ret ?_)
       refine Res.many U (.tmp U (.tmp U .nil)) U ?_ (by simp)
       have hl : l.length ≤ 10 := (by omega); rw [hex hl] at he; rw [parseI_sp (v := -n) (by omega) hl h59.2 (by rw [sgn_neg (hb0 (by omega)) h44.2, he.1])]; rfl
   · skip
     try simp at h44
     refine AW.skip ?_
     refine AW.seq ?_
     refine AW.seq ?_
     refine AW.le (σ' := ⟨_, [(0, _), (2, _), (3, _), (4, _), (5, _), (6, _)], []⟩) (Le.sub0 U ⟨U, U, U, U, U, U, Y⟩ trivial) ?_
     refine AW.region ?_
     refine AWl.mv ?_
     refine AWl.p (R_gt U (.no U) U (.tm U) (.const U)) U ?_
     refine AWl.mv ?_
     refine AWl.p (R_move U (by exact .not1 U U U U) U (.tmp U (by exact fun _ => rfl))) U ?_
     refine AWl.p (R_len_s U (by exact .not1 U U U U) U (.tmp U (by exact id)) Tryz.underlying9) U ?_
     refine AWl.p (R_gt U (by exact .not1 U U U U) U (.tmp U (by exact id)) (.const U)) U ?_
     refine AWl.p (R_or U (.no U) U (.tm U) (.tmp U (by exact id))) U ?_
     refine AWl.mv ?_
     refine AWl.p (R_move U (by exact .not1 U U U U) U (.tmp U (by exact fun _ => rfl))) U ?_
     refine AWl.p (R_callz (FnT.fr (specFormatIntB _ (by omega) (by omega))) U (by exact .not1 U U U U) U (.cons (.tmp U (by exact id)) U .nil)) U ?_
     refine AWl.p (R_move U (by exact .not1 U U U U) U (.tmp U (by exact fun _ => rfl))) U ?_
     refine AWl.p (R_nestr U (by exact .not1 U U U U) U (.tmp U (by exact id)) (.tmp U (by exact id))) U ?_
     refine AWl.p (R_or U (.no U) U (.tm U) (.tmp U (by exact id))) U ?_
     refine AWl.nil ?_
     refine AW.cond (.tm U) (fun h59 => ?_) (fun h59 => ?_)
     · skip
       try simp at h59
       refine AW.seq ?_
       refine AW.le (σ' := ⟨_, [(0, _), (2, _), (3, _), (4, _), (5, _), (6, _)], []⟩) (Le.sub0 U ⟨U, U, U, U, U, U, Y⟩ trivial) ?_
       refine AW.region ?_
       refine AWl.ac ?_
       refine AWl.ac ?_
       refine AWl.nil (AW.ret ?_)
       refine Res.many U (.tmp U (.tmp U .nil)) U ?_ (by simp)
       rcases Nat.lt_or_ge 10 l.length with hl | hl; (rw [parseI_long hl]; rfl); (rw [hex hl] at he; rw [parseI_sn (v := n) (by grind) (by rw [sgn_pos (b := b0) (by rcases Nat.eq_zero_or_pos l.length with g | g; exact .inl g; exact .inr ⟨hb0 g, h44 (by omega)⟩), he.1])]; rfl)
     · skip
       try simp at h59
       refine AW.skip ?_
       refine AW.seq ?_
       refine AW.le (σ' := ⟨_, [(0, _), (2, _), (3, _), (4, _), (5, _), (6, _)], []⟩) (Le.sub0 U ⟨U, U, U, U, U, U, Y⟩ trivial) ?_
       refine AW.region ?_
       refine AWl.mv ?_
       refine AWl.av ?_
       refine AWl.ac ?_
       refine AWl.nil (AW.ret ?_)
       refine Res.many U (.tmp U (.tmp U .nil)) U ?_ (by simp)
       have hl : l.length ≤ 10 := (by omega); rw [hex hl] at he; rw [parseI_sp (v := n) (by omega) hl h59.2 (by rw [sgn_pos (b := b0) (by rcases Nat.eq_zero_or_pos l.length with g | g; exact .inl g; exact .inr ⟨hb0 g, h44 (by omega)⟩), he.1])]; rfl
theorem specParseLetter (s : List UInt8) : FnT Tryz.prog 150 [.one (.v (.string (bs s)))] (.tup [.one (.v (.int .i64 (letP s).1)), .one (.v (.bool (letP s).2))]) := by
 refine FnT.walk Tryz.func150 U (by kernel_rfl) Tryz.ntmps150 U fun hlen w0 => ?_
 try simp [cEdge, cGraph, cChange, cBatch, cHistory] at hlen
 refine AW.sr ?_
 refine AWl.ac ?_
 refine AWl.ac ?_
 refine AWl.nil (AW.seq ?_)
 refine AW.sr ?_
 refine AWl.ac ?_
 refine AWl.nil (AW.block ?_)
 refine AW.loop1 (fun (k : Nat) => (k ≤ 9 ∧ ∀ j : Nat, j < k → letS (j : Nat) ≠ s) ∧ True) (fun (k : Nat) => ⟨_, [(4, (true, .a (.one (.t (.v (.int .i64 (k : Nat))))))), (0, _)], []⟩) (fun (k : Nat) => 9 - k) (0) ⟨⟨by omega, fun j hj => by omega⟩, Y⟩ (Le.sub0 U ⟨U, U, Y⟩ trivial) ?_
 rintro k ⟨hk, he⟩
 refine AW.seq ?_
 refine AW.sr ?_
 refine AWl.mv ?_
 refine AWl.p (R_lt U (.no U) U (.tm U) (.const U)) U ?_
 refine AWl.nil ?_
 refine AW.cond (.tm U) (fun h6 => ?_) (fun h6 => ?_)
 · skip
   try simp at h6
   refine AW.skip ?_
   refine AW.seq ?_
   refine AW.block ?_
   refine AW.sr ?_
   refine AWl.mv ?_
   refine AWl.p (R_callz (FnT.fr (specFormatLetter (k : Int) (by omega) (by omega))) U (.no U) U (.cons (.tm U) U .nil)) U ?_
   refine AWl.mv ?_
   refine AWl.p (R_eqstr U (.no U) U (.tm U) (.tm U)) U ?_
   refine AWl.nil ?_
   refine AW.cond (.tm U) (fun h12 => ?_) (fun h12 => ?_)
   · skip
     try simp at h12
     refine AW.seq ?_
     refine AW.le (σ' := ⟨_, [(0, _), (4, _)], []⟩) (Le.sub0 U ⟨U, U, Y⟩ trivial) ?_
     refine AW.region ?_
     refine AWl.mv ?_
     refine AWl.av ?_
     refine AWl.ac ?_
     refine AWl.nil (AW.ret ?_)
     refine Res.many U (.tmp U (.tmp U .nil)) U ?_ (by simp)
     rw [letP_at (k := k) (by omega) (bs_inj h12) hk.2]; rfl
   · skip
     try simp at h12
     refine AW.skip ?_
     refine AW.le (σ' := ⟨_, [(0, _), (4, _)], []⟩) (Le.sub0 U ⟨U, U, Y⟩ trivial) ?_
     refine AW.region ?_
     refine AWl.mv ?_
     refine AWl.p (R_add U (.no U) U (.tm U) (.const U) (fun _ => by omega)) U ?_
     refine AWl.av ?_
     refine AWl.nil ?_
     repeat (with_reducible refine BlockQ.nor ?_)
     refine Round1.next (k + 1) ⟨⟨by omega, fun j hj => (by by_cases e : j = k; (subst e; exact fun e2 => h12 (by rw [e2])); exact hk.2 j (by omega))⟩, Y⟩ (by omega) (Le.sub0 rfl ⟨rfl, rfl, Y⟩ trivial)
 · skip
   try simp at h6
   refine AW.exit ?_
   refine AW.sr ?_
   refine AWl.ac ?_
   refine AWl.ac ?_
   refine AWl.nil (AW.ret ?_)
   refine Res.many U (.tmp U (.tmp U .nil)) U ?_ (by simp)
   rw [letP_no fun j hj => hk.2 j (by omega)]; rfl
end Go.Proofs.YtbkhopfpejhnlaaGreatDoor
