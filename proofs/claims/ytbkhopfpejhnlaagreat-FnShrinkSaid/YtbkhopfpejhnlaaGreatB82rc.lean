import Derived.Test.YtbkhopfpejhnlaaGreatB28rc
import Derived.Test.YtbkhopfpejhnlaaGreatAbsZrc
set_option linter.unusedVariables false
set_option linter.unusedSimpArgs false
set_option maxHeartbeats 1000000
set_option maxRecDepth 100000
namespace Go.Q
open Go.D
end Go.Q
namespace Go.Proofs.YtbkhopfpejhnlaaGreat
open Go.RowKit Go.Q Go.D
theorem implpairSet' (L : List (List T)) (l : List TPair) (hL : L = l.map cPair) (hz : l.length ≤ 4294967296) : FnT Tryz.prog 127 [.one (.sl 2 L)] (.a (.one (.sl 2 ((setG pless l).map cPair)))) := by
 subst hL; exact implpairSet l hz
theorem implMergePairs (a b : List TPair) (hz : a.length + b.length ≤ 1073741824) : FnT Tryz.prog 109 [.one (.sl 2 (a.map cPair)), .one (.sl 2 (b.map cPair))] (.a (.one (.sl 2 ((pmerge a b).map cPair)))) := by
 refine FnT.walk Tryz.func109 U (by kernel_rfl) Tryz.ntmps109 U fun hlen w0 => ?_
 try simp [cPair, cToken, cExpr, cEdge, cGraph] at hlen
 refine AW.sr ?_
 refine AWl.ac ?_
 refine AWl.nilS (i := 4) 20001 2 U U ?_
 refine AWl.nil (AW.sr ?_)
 refine AWl.add (R_empty 5 U U U Tryz.underlying58 ty63 U) U ?_
 refine AWl.mv ?_
 refine AWl.chgput (R_append U U U (.tm U) U (.tm U) (by exact .t) (by exact isV_map (fun _ => rfl) _) Tryz.underlying58 in63 U (by (simp [chunk]; omega)) (by (unfold maxLen; simp [chunk]; omega))) U ?_
 refine AWl.le (σ' := ⟨_, [(0, _), (1, _), (4, _), (7, _)], [(20001, _), (5, _)]⟩) (Le.sub0 U ⟨U, U, U, U, Y⟩ ⟨U, U, Y⟩) ?_
 refine AWl.mv ?_
 refine AWl.chgput (R_append U U U (.tm U) U (.tm U) (by exact .t) (by exact isV_map (fun _ => rfl) _) Tryz.underlying58 in63 U (by (simp [chunk]; omega)) (by (unfold maxLen; simp [chunk]; omega))) U ?_
 refine AWl.le (σ' := ⟨_, [(0, _), (1, _), (4, _), (9, _)], [(20001, _), (5, _)]⟩) (Le.sub0 U ⟨U, U, U, U, Y⟩ ⟨U, U, Y⟩) ?_
 refine AWl.adds (R_call 1000 (implpairSet' ([] ++ a.map cPair ++ b.map cPair) (a ++ b) (by simp) (by simp; omega)) U U U (.cons (.tm U) U .nil) U U) U ?_
 refine AWl.av ?_
 refine AWl.nil (AW.ret ?_)
 refine Res.one U (.tmp U .nil) U ?_
 rfl
theorem specMergePairs (a b : List TPair) (hz : a.length + b.length ≤ 1073741824) : FnT Tryz.prog 84 [.one (.sl 2 (a.map cPair)), .one (.sl 2 (b.map cPair))] (.a (.one (.sl 2 ((pmerge a b).map cPair)))) := by
 refine FnT.walk Tryz.func84 U (by kernel_rfl) Tryz.ntmps84 U fun hlen w0 => ?_
 try simp [cPair, cToken, cExpr, cEdge, cGraph] at hlen
 refine AW.sr ?_
 refine AWl.ac ?_
 refine AWl.nilS (i := 4) 20001 2 U U ?_
 refine AWl.nil (AW.sr ?_)
 refine AWl.add (R_empty 8 U U U Tryz.underlying58 ty63 U) U ?_
 refine AWl.av ?_
 refine AWl.nil (AW.seq ?_)
 refine AW.sr ?_
 refine AWl.ac ?_
 refine AWl.nil (AW.block ?_)
 refine AW.loop1 (fun (k : Nat) => (k ≤ a.length) ∧ True) (fun (k : Nat) => ⟨_, [(6, (true, .a (.one (.t (.v (.int .i64 (k : Nat))))))), (5, (true, .a (.one (.rf 8)))), (0, _), (1, _), (4, _)], [(8, .row 2 ((setG pless (a.take k)).map cPair))]⟩) (fun (k : Nat) => a.length - k) (0) ⟨Nat.zero_le _, Y⟩ (Le.sub0 U ⟨U, U, U, U, U, Y⟩ ⟨U, Y⟩) ?_
 rintro k ⟨hk, he⟩
 refine AW.seq ?_
 refine AW.sr ?_
 refine AWl.mv ?_
 refine AWl.mv ?_
 refine AWl.p (by exact R_lenm U (.no U) U (.tm U) (by exact .t) Tryz.underlying58) U ?_
 refine AWl.p (R_lt U (.no U) U (.tm U) (.tm U)) U ?_
 refine AWl.nil ?_
 refine AW.cond (.tm U) (fun h12 => ?_) (fun h12 => ?_)
 · skip
   try simp at h12
   obtain ⟨x, hx⟩ : ∃ ξ, a[k]? = some ξ := ⟨_, List.getElem?_eq_getElem (by omega)⟩
   refine AW.skip ?_
   refine AW.seq ?_
   refine AW.block ?_
   refine AW.region ?_
   refine AWl.mv ?_
   refine AWl.mv ?_
   refine AWl.mv ?_
   refine AWl.p (by exact R_indexAddr U (.no U) U (.tm U) (.tm U) Tryz.underlying58 ty63 (fun _ => ⟨by omega, (by exact map_get hx)⟩)) U ?_
   refine AWl.p (by exact R_load U (.no U) U (.tm U) ty63 U U) U ?_
   apply AWl.consume
   case ho =>
    apply R_consume (xo := .tmp 15) 8 (specl15Put (setG pless (a.take k)) x (Nat.le_trans (setG_len _) (by simp; omega))) rfl rfl rfl (.tm rfl)
    case ha => rfl
    case hargs => exact (ArgC.own (ArgRd.agg (.tm rfl) .nil))
    all_goals rfl
   case hd => rfl
   refine AWl.av ?_
   refine AWl.nil ?_
   refine AW.le (σ' := ⟨_, [(0, _), (1, _), (4, _), (5, _), (6, _)], [(8, _)]⟩) (Le.sub0 U ⟨U, U, U, U, U, Y⟩ ⟨U, Y⟩) ?_
   refine AW.region ?_
   refine AWl.mv ?_
   refine AWl.p (R_add U (.no U) U (.tm U) (.const U) (fun _ => by omega)) U ?_
   refine AWl.av ?_
   refine AWl.nil ?_
   repeat (with_reducible refine BlockQ.nor ?_)
   refine Round1.next (k + 1) ⟨by omega, Y⟩ (by omega) (Le.sub0 rfl ⟨rfl, rfl, rfl, rfl, rfl, Y⟩ ⟨(by refine congrArg (fun r => some (R.row 2 r)) ?_; first | (simp [take_at hx, setG, List.foldl_append]; done) | (simp [take_at hy, setG, List.foldl_append]; done)), Y⟩)
 · skip
   try simp at h12
   refine AW.exit ?_
   refine AW.seq ?_
   refine AW.seq ?_
   refine AW.le (σ' := ⟨_, [(0, _), (1, _), (4, _), (5, _), (6, _)], [(8, .row 2 ((setG pless (a ++ b.take 0)).map cPair))]⟩) (Le.sub0 U ⟨U, U, U, U, U, Y⟩ ⟨by refine congrArg (fun r => some (R.row 2 r)) ?_; rw [List.take_of_length_le (by omega)]; simp, Y⟩) ?_
   refine AW.region ?_
   refine AWl.ac ?_
   refine AWl.nil (AW.block ?_)
   refine AW.loop1 (fun (k2 : Nat) => (k2 ≤ b.length) ∧ True) (fun (k2 : Nat) => ⟨_, [(7, (true, .a (.one (.t (.v (.int .i64 (k2 : Nat))))))), (5, (true, .a (.one (.rf 8)))), (1, _), (4, _)], [(8, .row 2 ((setG pless (a ++ b.take k2)).map cPair))]⟩) (fun (k2 : Nat) => b.length - k2) (0) ⟨Nat.zero_le _, Y⟩ (Le.sub0 U ⟨U, U, U, U, Y⟩ ⟨U, Y⟩) ?_
   rintro k2 ⟨hk1, he1⟩
   refine AW.seq ?_
   refine AW.sr ?_
   refine AWl.mv ?_
   refine AWl.mv ?_
   refine AWl.p (by exact R_lenm U (.no U) U (.tm U) (by exact .t) Tryz.underlying58) U ?_
   refine AWl.p (R_lt U (.no U) U (.tm U) (.tm U)) U ?_
   refine AWl.nil ?_
   refine AW.cond (.tm U) (fun h24 => ?_) (fun h24 => ?_)
   · skip
     try simp at h24
     obtain ⟨y, hy⟩ : ∃ ξ, b[k2]? = some ξ := ⟨_, List.getElem?_eq_getElem (by omega)⟩
     refine AW.skip ?_
     refine AW.seq ?_
     refine AW.block ?_
     refine AW.region ?_
     refine AWl.mv ?_
     refine AWl.mv ?_
     refine AWl.mv ?_
     refine AWl.p (by exact R_indexAddr U (.no U) U (.tm U) (.tm U) Tryz.underlying58 ty63 (fun _ => ⟨by omega, (by exact map_get hy)⟩)) U ?_
     refine AWl.p (by exact R_load U (.no U) U (.tm U) ty63 U U) U ?_
     apply AWl.consume
     case ho =>
      apply R_consume (xo := .tmp 27) 8 (specl15Put (setG pless (a ++ b.take k2)) y (Nat.le_trans (setG_len _) (by simp; omega))) rfl rfl rfl (.tm rfl)
      case ha => rfl
      case hargs => exact (ArgC.own (ArgRd.agg (.tm rfl) .nil))
      all_goals rfl
     case hd => rfl
     refine AWl.av ?_
     refine AWl.nil ?_
     refine AW.le (σ' := ⟨_, [(1, _), (4, _), (5, _), (7, _)], [(8, _)]⟩) (Le.sub0 U ⟨U, U, U, U, Y⟩ ⟨U, Y⟩) ?_
     refine AW.region ?_
     refine AWl.mv ?_
     refine AWl.p (R_add U (.no U) U (.tm U) (.const U) (fun _ => by omega)) U ?_
     refine AWl.av ?_
     refine AWl.nil ?_
     repeat (with_reducible refine BlockQ.nor ?_)
     refine Round1.next (k2 + 1) ⟨by omega, Y⟩ (by omega) (Le.sub0 rfl ⟨rfl, rfl, rfl, rfl, Y⟩ ⟨(by refine congrArg (fun r => some (R.row 2 r)) ?_; first | (simp [take_at hx, setG, List.foldl_append]; done) | (simp [take_at hy, setG, List.foldl_append]; done)), Y⟩)
   · skip
     try simp at h24
     refine AW.exit ?_
     refine AW.sr ?_
     refine AWl.mv ?_
     refine AWl.av ?_
     refine AWl.nil (AW.ret ?_)
     refine Res.one U (.tmp U .nil) U ?_
     unfold pmerge; rw [List.take_of_length_le (by omega)]; rfl
end Go.Proofs.YtbkhopfpejhnlaaGreat
set_option maxHeartbeats 1000000
set_option maxRecDepth 100000
namespace Go.Proofs.YtbkhopfpejhnlaaGreat
open Go.RowKit Go.Q Go.D
theorem specFormatInt (n : Int) (h0 : 0 ≤ n) (h1 : n < 100) : FnT Tryz.prog 146 [.one (.v (.int .i64 n))] (.a (.one (.v (.string (bs (numS n)))))) := by
 obtain ⟨n0, rfl⟩ := Int.eq_ofNat_of_zero_le h0
 refine FnT.walk Tryz.func146 U (by kernel_rfl) Tryz.ntmps146 U fun hlen w0 => ?_
 try simp [cPair, cToken, cExpr, cEdge, cGraph] at hlen
 have hn0 : n0 < 100 := by omega
 refine AW.sr ?_
 refine AWl.ac ?_
 refine AWl.nil (AW.seq ?_)
 refine AW.sr ?_
 refine AWl.mv ?_
 refine AWl.p (R_eq U (.no U) U (.tm U) (.const U)) U ?_
 refine AWl.nil ?_
 refine AW.cond (.tm U) (fun h7 => ?_) (fun h7 => ?_)
 · skip
   try simp at h7
   refine AW.sr ?_
   refine AWl.ac ?_
   refine AWl.nil (AW.ret ?_)
   refine Res.v U U ?_
   (have e : n0 = 0 := (by omega); subst e; unfold numS; rw [dig_small (by simp)]; rfl)
 · skip
   try simp at h7
   refine AW.skip ?_
   refine AW.sr ?_
   refine AWl.ac ?_
   refine AWl.nil (AW.sr ?_)
   refine AWl.mv ?_
   refine AWl.p (R_lt U (.no U) U (.tm U) (.const U)) U ?_
   refine AWl.av ?_
   refine AWl.nil (AW.seq ?_)
   refine AW.block ?_
   refine AW.loop2 (fun (m : Nat) (O : ByteArray) => (m < 100 ∧ O.size + 2 * m ≤ 1000) ∧ bs (restD n0) = bs (restD m) ++ O) (fun (m : Nat) (O : ByteArray) => ⟨_, [(0, (true, .a (.one (.t (.v (.int .i64 (m : Nat))))))), (3, (true, .a (.one (.t (.v (.string O)))))), (2, _), (4, _)], []⟩) (fun (m : Nat) (O : ByteArray) => m) (n0) (⟨#[]⟩) ⟨⟨by omega, by simp [ByteArray.size]; omega⟩, (by rw [show (⟨#[]⟩ : ByteArray) = bs [] from U, bs_append, List.append_nil])⟩ (Le.sub0 U ⟨U, U, U, U, Y⟩ trivial) ?_
   rintro m O ⟨hk, he⟩
   refine AW.seq ?_
   refine AW.sr ?_
   refine AWl.mv ?_
   refine AWl.p (R_ne U (.no U) U (.tm U) (.const U)) U ?_
   refine AWl.nil ?_
   refine AW.cond (.tm U) (fun h11 => ?_) (fun h11 => ?_)
   · skip
     try simp at h11
     have hm0 : m ≠ 0 := by (first | omega | (simp at h11; omega))
     refine AW.skip ?_
     refine AW.block ?_
     refine AW.sr ?_
     refine AWl.mv ?_
     refine AWl.p (R_rem U (.no U) U (.tm U) (.const U) (fun _ => by omega)) U ?_
     refine AWl.av ?_
     refine AWl.nil (AW.seq ?_)
     refine AW.sr ?_
     refine AWl.mv ?_
     refine AWl.p (R_lt U (.no U) U (.tm U) (.const U)) U ?_
     refine AWl.nil ?_
     refine AW.cond (.tm U) (fun h15 => ?_) (fun h15 => ?_)
     · exact absurd h15 (by (first | omega | (simp at h15; omega)))
     · skip
       try simp at h15
       refine AW.skip ?_
       refine AW.seq ?_
       refine AW.le (σ' := ⟨_, [(0, _), (2, _), (3, _), (4, _), (5, _)], []⟩) (Le.sub0 U ⟨U, U, U, U, U, Y⟩ trivial) ?_
       refine AW.region ?_
       refine AWl.mv ?_
       refine AWl.p (R_add U (.no U) U (.const U) (.tm U) (fun _ => by omega)) U ?_
       refine AWl.p (R_conv U (.no U) U (.tm U) (by rw [Tryz.underlying3]; rfl) Tryz.underlying5 (fun _ => (show IntKind.u8.wrap _ = (48 + (m : Int) % 10) by simp [IntKind.wrap, IntKind.bits]; omega))) U ?_
       refine AWl.p (R_listz (xs := [.tmp 20]) (rows := [[.v (.int .u8 (48 + (m : Int) % 10))]]) U U U (.cons (.tm U) U U .nil) Tryz.underlying22 in5 U U (U)) U ?_
       refine AWl.p (R_byteStr U (.no U) U (.tm U) Tryz.underlying22 Tryz.underlying5 Tryz.underlying9) U ?_
       refine AWl.mv ?_
       refine AWl.p (R_cat U (.no U) U (.tm U) (.tm U) (fun _ => by have : (⟨#[UInt8.ofNat ((48 + (m : Int) % 10)).toNat]⟩ : ByteArray).size = 1 := U; omega)) U ?_
       refine AWl.av ?_
       refine AWl.nil ?_
       refine AW.le (σ' := ⟨_, [(0, _), (2, _), (3, _), (4, _), (5, _)], []⟩) (Le.sub0 U ⟨U, U, U, U, U, Y⟩ trivial) ?_
       refine AW.region ?_
       refine AWl.mv ?_
       refine AWl.p (R_quo U (.no U) U (.tm U) (.const U) (fun _ => by omega)) U ?_
       refine AWl.av ?_
       refine AWl.nil ?_
       repeat (with_reducible refine BlockQ.nor ?_)
       refine Round2.next (m / 10) (((ByteArray.mk #[UInt8.ofNat ((48 + (m : Int) % 10)).toNat]) ++ O)) ⟨⟨by omega, (by rw [ByteArray.size_append]; have : (⟨#[UInt8.ofNat ((48 + (m : Int) % 10)).toNat]⟩ : ByteArray).size = 1 := rfl; omega)⟩, (by rw [he, restD_step (by omega), ← bs_append, show (48 + (m : Int) % 10).toNat = 48 + m % 10 by omega]; rw [ByteArray.append_assoc]; rfl)⟩ (by omega) (Le.sub0 rfl ⟨rfl, rfl, rfl, rfl, Y⟩ trivial)
   · skip
     try simp at h11
     refine AW.exit ?_
     refine AW.seq ?_
     refine AW.sr ?_
     refine AWl.mv ?_
     refine AWl.nil ?_
     refine AW.cond (.tm U) (fun h27 => ?_) (fun h27 => ?_)
     · exact absurd h27 (by simp)
     · skip
       try simp at h27
       refine AW.skip ?_
       refine AW.sr ?_
       refine AWl.mv ?_
       refine AWl.av ?_
       refine AWl.nil (AW.ret ?_)
       refine Res.v U U ?_
       (have e : m = 0 := (by omega); have e0 : n0 ≠ 0 := (by omega); rw [e] at he; unfold restD at he; rw [if_neg e0, if_pos rfl] at he; unfold numS; rw [Int.toNat_natCast, he, bs_nil_append])
theorem specFormatLetter (k : Int) (h0 : 0 ≤ k) (h8 : k ≤ 8) : FnT Tryz.prog 145 [.one (.v (.int .i64 k))] (.a (.one (.v (.string (bs (letS k)))))) := by
 refine FnT.walk Tryz.func145 U (by kernel_rfl) Tryz.ntmps145 U fun hlen w0 => ?_
 try simp [cPair, cToken, cExpr, cEdge, cGraph] at hlen
 have hl : inB k 0 8 = true := by unfold inB; simp; omega
 refine AW.sr ?_
 refine AWl.ac ?_
 refine AWl.nil (AW.seq ?_)
 refine AW.sr ?_
 refine AWl.mv ?_
 refine AWl.p (R_callz (FnT.fr (specl2Letter k)) U (.no U) U (.cons (.tm U) U .nil)) U ?_
 refine AWl.p (R_not U (.no U) U (.tm U)) U ?_
 refine AWl.nil ?_
 refine AW.cond (.tm U) (fun h5 => ?_) (fun h5 => ?_)
 · exact absurd h5 (by simp [hl] at h5)
 · skip
   try simp at h5
   refine AW.skip ?_
   refine AW.sr ?_
   refine AWl.p (R_listz (xs := [.const (.string ⟨#[97]⟩), .const (.string ⟨#[97, 45]⟩), .const (.string ⟨#[98]⟩), .const (.string ⟨#[98, 45]⟩), .const (.string ⟨#[99]⟩), .const (.string ⟨#[99, 45]⟩), .const (.string ⟨#[48]⟩), .const (.string ⟨#[49]⟩), .const (.string ⟨#[50]⟩)]) (rows := letNames.map cStr) U U U (.cons (.const U) U U (.cons (.const U) U U (.cons (.const U) U U (.cons (.const U) U U (.cons (.const U) U U (.cons (.const U) U U (.cons (.const U) U U (.cons (.const U) U U (.cons (.const U) U U .nil))))))))) Tryz.underlying140 in9 U U (U)) U ?_
   refine AWl.mv ?_
   refine AWl.p (by exact R_indexAddr U (.no U) U (.tm U) (.tm U) Tryz.underlying140 ty9 (fun _ => ⟨by omega, (letS_get h0 h8)⟩)) U ?_
   refine AWl.p (by exact R_load U (.no U) U (.tm U) ty9 U U) U ?_
   refine AWl.av ?_
   refine AWl.nil (AW.ret ?_)
   refine Res.v U U ?_
   rfl
end Go.Proofs.YtbkhopfpejhnlaaGreat
set_option maxHeartbeats 1000000
set_option maxRecDepth 100000
namespace Go.Proofs.YtbkhopfpejhnlaaGreat
open Go.RowKit Go.Q Go.D
theorem specl2Cut (l : List UInt8) (c : UInt8) (hz : l.length ≤ 1073741824) : FnT Tryz.prog 134 [.one (.v (.string (bs l))), .one (.v (.int .u8 c.toNat))] (.a (.one (.sl 1 ((splitL c l).map cStr)))) := by
 refine FnT.walk Tryz.func134 U (by kernel_rfl) Tryz.ntmps134 U fun hlen w0 => ?_
 try simp [cPair, cToken, cExpr, cEdge, cGraph] at hlen
 have hsz := bs_size l
 refine AW.sr ?_
 refine AWl.ac ?_
 refine AWl.nilS (i := 4) 20001 1 U U ?_
 refine AWl.nil (AW.sr ?_)
 refine AWl.add (R_empty 8 U U U Tryz.underlying140 ty9 U) U ?_
 refine AWl.av ?_
 refine AWl.nil (AW.sr ?_)
 refine AWl.ac ?_
 refine AWl.nil (AW.seq ?_)
 refine AW.sr ?_
 refine AWl.ac ?_
 refine AWl.nil (AW.block ?_)
 refine AW.loop3 (fun (i : Nat) (F : Nat) (O : List (List UInt8)) => (F ≤ i ∧ i ≤ l.length ∧ c ∉ (l.take i).drop F ∧ O.length ≤ i) ∧ splitL c l = O ++ splitL c (l.drop F)) (fun (i : Nat) (F : Nat) (O : List (List UInt8)) => ⟨_, [(6, (true, .a (.one (.t (.v (.int .i64 F)))))), (7, (true, .a (.one (.t (.v (.int .i64 i)))))), (5, (true, .a (.one (.rf 8)))), (0, _), (1, _), (4, _)], [(8, .row 1 (O.map cStr))]⟩) (fun (i : Nat) (F : Nat) (O : List (List UInt8)) => l.length - i) (0) (0) ([]) ⟨⟨by omega, by omega, by simp, by simp⟩, (by simp)⟩ (Le.sub0 U ⟨U, U, U, U, U, U, Y⟩ ⟨U, Y⟩) ?_
 rintro i F O ⟨hk, he⟩
 refine AW.seq ?_
 refine AW.sr ?_
 refine AWl.mv ?_
 refine AWl.mv ?_
 refine AWl.p (R_len_s U (.no U) U (.tm U) Tryz.underlying9) U ?_
 refine AWl.p (R_lt U (.no U) U (.tm U) (.tm U)) U ?_
 refine AWl.nil ?_
 refine AW.cond (.tm U) (fun h12 => ?_) (fun h12 => ?_)
 · skip
   try simp at h12
   obtain ⟨b, hb⟩ : ∃ ξ, l[i]? = some ξ := ⟨_, List.getElem?_eq_getElem (by omega)⟩
   refine AW.skip ?_
   refine AW.seq ?_
   refine AW.block ?_
   refine AW.sr ?_
   refine AWl.mv ?_
   refine AWl.mv ?_
   refine AWl.p (R_strIndex U (.no U) U (.tm U) (.tm U) Tryz.underlying9 (fun _ => ⟨by omega, (by rw [bs_get]; exact hb)⟩)) U ?_
   refine AWl.mv ?_
   refine AWl.p (R_eq U (.no U) U (.tm U) (.tm U)) U ?_
   refine AWl.nil ?_
   refine AW.cond (.tm U) (fun h19 => ?_) (fun h19 => ?_)
   · skip
     try simp at h19
     refine AW.seq ?_
     refine AW.le (σ' := ⟨_, [(0, _), (1, _), (4, _), (5, _), (6, _), (7, _)], [(8, _)]⟩) (Le.sub0 U ⟨U, U, U, U, U, U, Y⟩ ⟨U, Y⟩) ?_
     refine AW.region ?_
     refine AWl.mv ?_
     refine AWl.mv ?_
     refine AWl.mv ?_
     refine AWl.mv ?_
     refine AWl.p (R_strSlice (n := F) (m := i) U (.no U) U (.tm U) (.yes (.tm U) (fun _ => by first | omega | (simp <;> omega))) (.yes (.tm U) (fun _ => by first | omega | (simp <;> omega))) Tryz.underlying9 (fun _ => ⟨by omega, by first | omega | (simp; omega)⟩)) U ?_
     refine AWl.absadd (R_list (xs := [.tmp 24]) 25 U U U (.cons (.tm U) U U .nil) Tryz.underlying140 in9 U U U U) U ?_
     refine AWl.chgput (R_append U U U (.tm U) U (.tm U) (by exact .rf U) (by rfl) Tryz.underlying140 in9 U (by (simp [chunk]; omega)) (by (unfold maxLen; simp [chunk]; omega))) U ?_
     refine AWl.le (σ' := ⟨_, [(0, _), (1, _), (4, _), (5, _), (6, _), (7, _), (26, _)], [(8, _), (25, _)]⟩) (Le.sub0 U ⟨U, U, U, U, U, U, U, Y⟩ ⟨U, U, Y⟩) ?_
     refine AWl.av ?_
     refine AWl.nil (AW.region ?_)
     refine AWl.mv ?_
     refine AWl.p (R_add U (.no U) U (.tm U) (.const U) (fun _ => by omega)) U ?_
     refine AWl.av ?_
     refine AWl.nil (AW.region ?_)
     refine AWl.mv ?_
     refine AWl.p (R_add U (.no U) U (.tm U) (.const U) (fun _ => by omega)) U ?_
     refine AWl.av ?_
     refine AWl.nil ?_
     repeat (with_reducible refine BlockQ.nor ?_)
     refine Round3.next (i + 1) (i + 1) (O ++ [(l.take i).drop F]) ⟨⟨by omega, by omega, (by simp), (by rw [List.length_append, List.length_singleton]; omega)⟩, (cut_step hb hk (UInt8.toNat_inj.1 (by omega)) he)⟩ (by omega) (Le.sub0 rfl ⟨rfl, rfl, rfl, rfl, rfl, rfl, Y⟩ ⟨(by refine congrArg (fun r => some (R.row 1 r)) ?_; simp [chunk, cStr, bs_extract]; done), Y⟩)
   · skip
     try simp at h19
     refine AW.skip ?_
     refine AW.le (σ' := ⟨_, [(0, _), (1, _), (4, _), (5, _), (6, _), (7, _)], [(8, _)]⟩) (Le.sub0 U ⟨U, U, U, U, U, U, Y⟩ ⟨U, Y⟩) ?_
     refine AW.region ?_
     refine AWl.mv ?_
     refine AWl.p (R_add U (.no U) U (.tm U) (.const U) (fun _ => by omega)) U ?_
     refine AWl.av ?_
     refine AWl.nil ?_
     repeat (with_reducible refine BlockQ.nor ?_)
     refine Round3.next (i + 1) (F) (O) ⟨⟨by omega, by omega, cut_keep hb hk (fun e => h19 (by rw [e])), by omega⟩, he⟩ (by omega) (Le.sub0 rfl ⟨rfl, rfl, rfl, rfl, rfl, rfl, Y⟩ ⟨(by refine congrArg (fun r => some (R.row 1 r)) ?_; simp [chunk, cStr, bs_extract]; done), Y⟩)
 · skip
   try simp at h12
   refine AW.exit ?_
   refine AW.sr ?_
   refine AWl.mv ?_
   refine AWl.mv ?_
   refine AWl.mv ?_
   refine AWl.p (R_strSlice (n := F) U (.no U) U (.tm U) (.yes (.tm U) (fun _ => by first | omega | (simp <;> omega))) .no Tryz.underlying9 (fun _ => ⟨by omega, by first | omega | (simp; omega)⟩)) U ?_
   refine AWl.absadd (R_list (xs := [.tmp 32]) 33 U U U (.cons (.tm U) U U .nil) Tryz.underlying140 in9 U U U U) U ?_
   refine AWl.chgput (R_append U U U (.tm U) U (.tm U) (by exact .rf U) (by rfl) Tryz.underlying140 in9 U (by (simp [chunk]; omega)) (by (unfold maxLen; simp [chunk]; omega))) U ?_
   refine AWl.le (σ' := ⟨_, [(0, _), (1, _), (4, _), (5, _), (6, _), (7, _), (12, _), (34, _)], [(8, _), (33, _)]⟩) (Le.sub0 U ⟨U, U, U, U, U, U, U, U, Y⟩ ⟨U, U, Y⟩) ?_
   refine AWl.av ?_
   refine AWl.nil (AW.ret ?_)
   refine Res.one U (.tmp U .nil) U ?_
   (have hi : i = l.length := (by omega); subst hi; rw [he, splitL_no (by rw [List.take_of_length_le (Nat.le_refl _)] at hk; exact hk.2.2.1)]; refine congrArg (fun r => [V0.one (T.sl 1 r)]) ?_; simp [chunk, cStr, bs_extract, hsz]; done)
end Go.Proofs.YtbkhopfpejhnlaaGreat
