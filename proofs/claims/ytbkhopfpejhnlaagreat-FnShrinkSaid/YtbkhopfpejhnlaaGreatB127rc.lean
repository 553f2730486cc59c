import Derived.Test.YtbkhopfpejhnlaaGreatB126rc
import Derived.Test.YtbkhopfpejhnlaaGreatDraw3rc
import Derived.Test.YtbkhopfpejhnlaaGreatDraw5rc
import Derived.Test.YtbkhopfpejhnlaaGreatB98rc
import Derived.Test.YtbkhopfpejhnlaaGreatB31rc
set_option linter.unusedVariables false
set_option linter.unusedSimpArgs false
set_option maxHeartbeats 1000000
set_option maxRecDepth 100000
namespace Go.Q
open Go.RowKit Go.D
def knownL : List (List UInt8) := [[97], [97, 32, 98, 32, 46], [97, 32, 42], [97, 32, 98, 32, 124, 32, 42], [97, 32, 97, 45, 32, 46], [97, 32, 42, 32, 98, 32, 46], [97, 32, 98, 32, 42, 32, 46, 32, 99, 32, 46], [97, 32, 97, 32, 124, 32, 42], [97, 32, 98, 32, 46, 32, 42], [48, 32, 97, 32, 46, 32, 42], [97, 32, 49, 32, 46, 32, 98, 32, 46], [97, 32, 123, 48, 44, 50, 125], [97, 32, 98, 32, 124, 32, 123, 49, 44, 51, 125], [40, 41], [33], [97, 45, 32, 42, 32, 97, 32, 46], [97, 32, 98, 45, 32, 46, 32, 42, 32, 99, 32, 124], [97, 32, 42, 32, 97, 32, 42, 32, 46], [97, 32, 48, 32, 124, 32, 42, 32, 98, 32, 46], [97, 32, 97, 32, 46, 32, 42], [97, 32, 98, 32, 46, 32, 98, 32, 97, 32, 46, 32, 124, 32, 42]]
theorem known_len {s : List UInt8} (h : s ∈ knownL) : s.length ≤ 1073741824 := by
 have : ∀ s ∈ knownL, s.length ≤ 100 := by decide
 have := this s h
 omega
def someE (e : TExpr) : Bool := decide (0 < e.Tokens.length) && decide (e.Tokens.length ≤ 30)
theorem someE_iff {e : TExpr} : someE e = true ↔ 0 < e.Tokens.length ∧ e.Tokens.length ≤ 30 := by unfold someE; simp
theorem known_ok {s : List UInt8} (h : s ∈ knownL) : 0 < (parseX s).1.Tokens.length ∧ (parseX s).1.Tokens.length ≤ 30 := by
 have : knownL.all (fun s => someE (parseX s).1) = true := by decide +kernel
 exact someE_iff.1 (List.all_eq_true.1 this s h)
theorem FnD.mono {P : Program} {f : FuncId} {ins : List V0} {τ : Type} {p q : τ → Prop} {out : τ → V} (h : FnD P f ins p out) (hq : ∀ x, p x → q x) : FnD P f ins q out :=
 ⟨h.1, fun w g vs F a b c d => (h.2 w g vs F a b c d).mono fun e w' ⟨x, v, G, h1, h2, h3⟩ => ⟨x, v, G, h1, hq x h2, h3⟩⟩
end Go.Q
namespace Go.Proofs.YtbkhopfpejhnlaaGreat
open Go.RowKit Go.Q Go.D
set_option maxRecDepth 100000 in
theorem specl1Pick (l : List (List UInt8)) (hl : 0 < l.length) : FnD Tryz.prog 123 [.one (.sl 1 (l.map cStr))] (fun x : List UInt8 => x ∈ l) (fun x => .a (.one (.v (.string (bs x))))) := by
 refine FnD.walk Tryz.func123 U (by kernel_rfl) Tryz.ntmps123 U (fun g => rfl) fun w0 g => ?_
 refine AW.sr ?_
 refine AWl.ac ?_
 refine AWl.nil (AW.sr ?_)
 refine AWl.mv ?_
 refine AWl.mv ?_
 refine AWl.mv ?_
 refine AWl.p (by exact R_lenm U (.no U) U (.tm U) (by exact .t) Tryz.underlying140) U ?_
 refine AWl.opE (R_calld 900 (specl1Below _) U U U (.tm U) U U (.cons (.tm U) U .nil) (fun _ => rfl) (fun _ => rfl)) ?_
 rintro _ ⟨z9, hz9, rfl⟩
 try dsimp only at hz9
 refine AWl.p ((by exact R_indexAddr U (.no U) U (.tm U) (.tm U) Tryz.underlying140 ty9 (fun _ => ⟨by simp at hz9; omega, map_get (List.getElem?_eq_getElem (i := z9.toNat) (show z9.toNat < l.length by simp at hz9; omega))⟩))) U ?_
 refine AWl.p (by exact R_load U (.no U) U (.tm U) ty9 U U) U ?_
 refine AWl.av ?_
 refine AWl.nil (AW.ret ?_)
 apply DRes.mk rfl
 case h =>
  refine Res.one U (.tmp U .nil) U ?_
  rfl
 case hp => exact List.getElem_mem _
set_option maxRecDepth 100000 in
theorem specl8Known : FnD Tryz.prog 98 [] (fun e : TExpr => 0 < e.Tokens.length ∧ e.Tokens.length ≤ 30) (fun e => .a (.agg (cExpr e))) := by
 refine FnD.walk Tryz.func98 U (by kernel_rfl) Tryz.ntmps98 U (fun g => rfl) fun w0 g => ?_
 refine AW.sr ?_
 refine AWl.add (R_alloc 2 U U U in30 U U U) U ?_
 refine AWl.nil (AW.sr ?_)
 refine AWl.mv ?_
 refine AWl.absadd (R_list (xs := [.const (.string ⟨#[97]⟩), .const (.string ⟨#[97, 32, 98, 32, 46]⟩), .const (.string ⟨#[97, 32, 42]⟩), .const (.string ⟨#[97, 32, 98, 32, 124, 32, 42]⟩), .const (.string ⟨#[97, 32, 97, 45, 32, 46]⟩), .const (.string ⟨#[97, 32, 42, 32, 98, 32, 46]⟩), .const (.string ⟨#[97, 32, 98, 32, 42, 32, 46, 32, 99, 32, 46]⟩), .const (.string ⟨#[97, 32, 97, 32, 124, 32, 42]⟩), .const (.string ⟨#[97, 32, 98, 32, 46, 32, 42]⟩), .const (.string ⟨#[48, 32, 97, 32, 46, 32, 42]⟩), .const (.string ⟨#[97, 32, 49, 32, 46, 32, 98, 32, 46]⟩), .const (.string ⟨#[97, 32, 123, 48, 44, 50, 125]⟩), .const (.string ⟨#[97, 32, 98, 32, 124, 32, 123, 49, 44, 51, 125]⟩), .const (.string ⟨#[40, 41]⟩), .const (.string ⟨#[33]⟩), .const (.string ⟨#[97, 45, 32, 42, 32, 97, 32, 46]⟩), .const (.string ⟨#[97, 32, 98, 45, 32, 46, 32, 42, 32, 99, 32, 124]⟩), .const (.string ⟨#[97, 32, 42, 32, 97, 32, 42, 32, 46]⟩), .const (.string ⟨#[97, 32, 48, 32, 124, 32, 42, 32, 98, 32, 46]⟩), .const (.string ⟨#[97, 32, 97, 32, 46, 32, 42]⟩), .const (.string ⟨#[97, 32, 98, 32, 46, 32, 98, 32, 97, 32, 46, 32, 124, 32, 42]⟩)]) 7 U U U (.cons (.const U) U U (.cons (.const U) U U (.cons (.const U) U U (.cons (.const U) U U (.cons (.const U) U U (.cons (.const U) U U (.cons (.const U) U U (.cons (.const U) U U (.cons (.const U) U U (.cons (.const U) U U (.cons (.const U) U U (.cons (.const U) U U (.cons (.const U) U U (.cons (.const U) U U (.cons (.const U) U U (.cons (.const U) U U (.cons (.const U) U U (.cons (.const U) U U (.cons (.const U) U U (.cons (.const U) U U (.cons (.const U) U U .nil))))))))))))))))))))) Tryz.underlying140 in9 U U U U) U ?_
 refine AWl.opE (R_calld 800 (specl1Pick knownL (by decide)) U U U (.tm U) U U (.cons (.tm U) U .nil) (fun _ => rfl) (fun _ => rfl)) ?_
 rintro _ ⟨z8, hz8, rfl⟩
 try dsimp only at hz8
 refine AWl.adds (R_call 900 (specParseExpr z8 (known_len hz8)) U U U (.cons (.tm U) U .nil) U U) U ?_
 refine AWl.p (R_movet U (.no U) U U fun _ => rfl) U ?_
 refine AWl.p (R_extract U (.no U) U U (fun _ => rfl) U) U ?_
 refine AWl.p (R_extract U (.no U) U U (fun _ => rfl) U) U ?_
 refine AWl.add (R_alloc 3 U U U in30 U U U) U ?_
 refine AWl.chgb (R_store_pb U U U (.tm U) (.tm U) U ty30 U U U (by kernel_rfl) U) ?_
 refine AWl.le (σ' := ⟨_, [(0, _), (2, _), (3, _), (11, _)], [(888888, _), (2, _), (7, _), (900, _), (3, _)]⟩) (Le.sub0 U ⟨U, U, U, U, Y⟩ ⟨U, U, U, U, U, Y⟩) ?_
 refine AWl.av ?_
 refine AWl.nil (AW.sr ?_)
 refine AWl.p (by exact R_load_pp U (.no U) U (.tm U) U ty30 U U) U ?_
 refine AWl.chgb (R_store_pb U U U (.tm U) (.tm U) U ty30 U U U (by kernel_rfl) U) ?_
 refine AWl.nil (AW.ret ?_)
 apply DRes.mk (x := (parseX z8).1) rfl
 case h =>
  refine Res.one U (.cell U U ty30 U U .nil) U ?_
  rfl
 case hp => exact known_ok hz8
set_option maxRecDepth 100000 in
theorem specLetterExpr (k : Int) : FnT Tryz.prog 130 [.one (.v (.int .i64 k))] (.a (.agg (cExpr ⟨[⟨3, k, 0, 0⟩]⟩))) := by
 refine FnT.walk Tryz.func130 U (by kernel_rfl) Tryz.ntmps130 U fun hlen w0 => ?_
 try simp [cPair, cToken, cExpr, cEdge, cGraph] at hlen
 refine AW.sr ?_
 refine AWl.add (R_alloc 2 U U U in30 U U U) U ?_
 refine AWl.nil (AW.sr ?_)
 refine AWl.mv ?_
 refine AWl.p (R_build (ps := [(0, .const (.int .i64 (3))), (1, .tmp 3)]) U U U in100 U U st100 (.cons (.const U) U U fp100_0 (.cons (.tm U) U U fp100_1 .nil)) U) U ?_
 refine AWl.absadd (R_list (xs := [.tmp 4]) 5 U U U (.cons (.tm U) U U .nil) Tryz.underlying28 in100 U U U U) U ?_
 refine AWl.p (R_build (ps := [(0, .tmp 5)]) U U U in30 U U st30 (.cons (.tm U) U U fp30_0 .nil) U) U ?_
 refine AWl.chgb (R_store_pb U U U (.tm U) (.tm U) U ty30 U U U (by kernel_rfl) U) ?_
 refine AWl.nil (AW.ret ?_)
 refine Res.one U (.cell U U ty30 U U .nil) U ?_
 rfl
set_option maxRecDepth 100000 in
theorem specl8Make1 (n : Int) (b : Nat) (hb : b ≤ 100) (hn : 0 ≤ n ∧ n ≤ 3) (h : n ≠ 0 → FnD Tryz.prog 112 [.one (.v (.int .i64 (n - 1)))] (fun e : TExpr => 0 < e.Tokens.length ∧ e.Tokens.length ≤ b) (fun e => .a (.agg (cExpr e)))) : FnD Tryz.prog 112 [.one (.v (.int .i64 n))] (fun e : TExpr => 0 < e.Tokens.length ∧ e.Tokens.length ≤ 2 * b + 1) (fun e => .a (.agg (cExpr e))) := by
 refine FnD.walk Tryz.func112 U (by kernel_rfl) Tryz.ntmps112 U (fun g => rfl) fun w0 g => ?_
 refine AW.sr ?_
 refine AWl.add (R_alloc 4 U U U in30 U U U) U ?_
 refine AWl.nil (AW.seq ?_)
 refine AW.sr ?_
 refine AWl.mv ?_
 refine AWl.p (R_eq U (.no U) U (.tm U) (.const U)) U ?_
 refine AWl.nil ?_
 refine AW.cond (.tm U) (fun h7 => ?_) (fun h7 => ?_)
 · skip
   try simp at h7
   refine AW.seq ?_
   refine AW.sr ?_
   refine AWl.mv ?_
   refine AWl.opE (R_calld 900 (specl1Once _) U U U (.tm U) U U (.cons (.const U) U .nil) (fun _ => rfl) (fun _ => rfl)) ?_
   rintro _ ⟨z9, hz9, rfl⟩
   try dsimp only at hz9
   refine AWl.nil ?_
   refine AW.cond (.tm U) (fun h9 => ?_) (fun h9 => ?_)
   · skip
     try simp at h9
     refine AW.sr ?_
     refine AWl.mv ?_
     refine AWl.absadd (R_list (xs := [.const (.int .i64 (1)), .const (.int .i64 (2))]) 11 U U U (.cons (.const U) U U (.cons (.const U) U U .nil)) Tryz.underlying24 in3 U U U U) U ?_
     refine AWl.opE (R_calld 1200 (specl1PickInt [1, 2] (by decide)) U U U (.tm U) U U (.cons (.tm U) U .nil) (fun _ => rfl) (fun _ => rfl)) ?_
     rintro _ ⟨z12, hz12, rfl⟩
     try dsimp only at hz12
     refine AWl.adds (R_call 1300 (specl8Leaf z12) U U U (.cons (.tm U) U .nil) U U) U ?_
     refine AWl.chgb (R_store_pb U U U (.tm U) (.tm U) U ty30 U U U (by kernel_rfl) U) ?_
     refine AWl.nil (AW.ret ?_)
     apply DRes.mk (x := ⟨[tok0 z12]⟩) rfl
     case h =>
      refine Res.one U (.cell U U ty30 U U .nil) U ?_
      rfl
     case hp => exact ⟨by simp, by simp⟩
   · skip
     try simp at h9
     refine AW.skip ?_
     refine AW.sr ?_
     refine AWl.mv ?_
     refine AWl.absadd (R_list (xs := [.const (.int .i64 (0)), .const (.int .i64 (0)), .const (.int .i64 (2)), .const (.int .i64 (2)), .const (.int .i64 (1)), .const (.int .i64 (4)), .const (.int .i64 (3)), .const (.int .i64 (6)), .const (.int .i64 (7))]) 15 U U U (.cons (.const U) U U (.cons (.const U) U U (.cons (.const U) U U (.cons (.const U) U U (.cons (.const U) U U (.cons (.const U) U U (.cons (.const U) U U (.cons (.const U) U U (.cons (.const U) U U .nil))))))))) Tryz.underlying24 in3 U U U U) U ?_
     refine AWl.opE (R_calld 1600 (specl1PickInt [0, 0, 2, 2, 1, 4, 3, 6, 7] (by decide)) U U U (.tm U) U U (.cons (.tm U) U .nil) (fun _ => rfl) (fun _ => rfl)) ?_
     rintro _ ⟨z16, hz16, rfl⟩
     try dsimp only at hz16
     refine AWl.adds (R_call 1700 (specLetterExpr z16) U U U (.cons (.tm U) U .nil) U U) U ?_
     refine AWl.chgb (R_store_pb U U U (.tm U) (.tm U) U ty30 U U U (by kernel_rfl) U) ?_
     refine AWl.nil (AW.ret ?_)
     apply DRes.mk (x := ⟨[⟨3, z16, 0, 0⟩]⟩) rfl
     case h =>
      refine Res.one U (.cell U U ty30 U U .nil) U ?_
      rfl
     case hp => exact ⟨by simp, by simp⟩
 · skip
   try simp at h7
   refine AW.skip ?_
   refine AW.seq ?_
   refine AW.sr ?_
   refine AWl.mv ?_
   refine AWl.opE (R_calld 1900 (specl1Below _) U U U (.tm U) U U (.cons (.const U) U .nil) (fun _ => rfl) (fun _ => rfl)) ?_
   rintro _ ⟨z19, hz19, rfl⟩
   try dsimp only at hz19
   refine AWl.nil (AW.block ?_)
   refine AW.seq ?_
   refine AW.sr ?_
   refine AWl.p (R_eq U (.no U) U (.tm U) (.const U)) U ?_
   refine AWl.av ?_
   refine AWl.nil ?_
   refine AW.cond (.tm U) (fun h20 => ?_) (fun h20 => ?_)
   · skip
     try simp at h20
     refine AW.skip ?_
     refine AW.cond (.tm U) (fun h20 => ?_) (fun h20 => ?_)
     · skip
       try simp at h20
       refine AW.sr ?_
       refine AWl.mv ?_
       refine AWl.mv ?_
       refine AWl.p (R_sub U (.no U) U (.tm U) (.const U) (fun _ => by omega)) U ?_
       refine AWl.opE (R_calld 2600 (h (by assumption)) U U U (.tm U) U U (.cons (.tm U) U .nil) (fun _ => rfl) (fun _ => rfl)) ?_
       rintro _ ⟨z26, hz26, rfl⟩
       try dsimp only at hz26
       refine AWl.mv ?_
       refine AWl.mv ?_
       refine AWl.p (R_sub U (.no U) U (.tm U) (.const U) (fun _ => by omega)) U ?_
       refine AWl.opE (R_calld 3000 (h (by assumption)) U U U (.tm U) U U (.cons (.tm U) U .nil) (fun _ => rfl) (fun _ => rfl)) ?_
       rintro _ ⟨z30, hz30, rfl⟩
       try dsimp only at hz30
       refine AWl.p (R_build (ps := [(0, .const (.int .i64 (4)))]) U U U in100 U U st100 (.cons (.const U) U U fp100_0 .nil) U) U ?_
       refine AWl.adds (R_call 3200 (specl8Join z26 z30 ⟨4, 0, 0, 0⟩ (by omega)) U U U (.cons (.tm U) U (.cons (.tm U) U (.cons (.tm U) U .nil))) U U) U ?_
       refine AWl.chgb (R_store_pb U U U (.tm U) (.tm U) U ty30 U U U (by kernel_rfl) U) ?_
       refine AWl.nil (AW.ret ?_)
       apply DRes.mk (x := ⟨z26.Tokens ++ z30.Tokens ++ [⟨4, 0, 0, 0⟩]⟩) rfl
       case h =>
        refine Res.one U (.cell U U ty30 U U .nil) U ?_
        rfl
       case hp => exact ⟨by simp; try omega, by simp; omega⟩
     · exfalso; (try simp at h20); first | contradiction | omega | simp_all | grind
   · skip
     try simp at h20
     refine AW.region ?_
     refine AWl.p (R_eq U (.no U) U (.tm U) (.const U)) U ?_
     refine AWl.av ?_
     refine AWl.nil ?_
     refine AW.cond (.tm U) (fun h20 => ?_) (fun h20 => ?_)
     · skip
       try simp at h20
       refine AW.sr ?_
       refine AWl.mv ?_
       refine AWl.mv ?_
       refine AWl.p (R_sub U (.no U) U (.tm U) (.const U) (fun _ => by omega)) U ?_
       refine AWl.opE (R_calld 2600 (h (by assumption)) U U U (.tm U) U U (.cons (.tm U) U .nil) (fun _ => rfl) (fun _ => rfl)) ?_
       rintro _ ⟨z26, hz26, rfl⟩
       try dsimp only at hz26
       refine AWl.mv ?_
       refine AWl.mv ?_
       refine AWl.p (R_sub U (.no U) U (.tm U) (.const U) (fun _ => by omega)) U ?_
       refine AWl.opE (R_calld 3000 (h (by assumption)) U U U (.tm U) U U (.cons (.tm U) U .nil) (fun _ => rfl) (fun _ => rfl)) ?_
       rintro _ ⟨z30, hz30, rfl⟩
       try dsimp only at hz30
       refine AWl.p (R_build (ps := [(0, .const (.int .i64 (4)))]) U U U in100 U U st100 (.cons (.const U) U U fp100_0 .nil) U) U ?_
       refine AWl.adds (R_call 3200 (specl8Join z26 z30 ⟨4, 0, 0, 0⟩ (by omega)) U U U (.cons (.tm U) U (.cons (.tm U) U (.cons (.tm U) U .nil))) U U) U ?_
       refine AWl.chgb (R_store_pb U U U (.tm U) (.tm U) U ty30 U U U (by kernel_rfl) U) ?_
       refine AWl.nil (AW.ret ?_)
       apply DRes.mk (x := ⟨z26.Tokens ++ z30.Tokens ++ [⟨4, 0, 0, 0⟩]⟩) rfl
       case h =>
        refine Res.one U (.cell U U ty30 U U .nil) U ?_
        rfl
       case hp => exact ⟨by simp; try omega, by simp; omega⟩
     · skip
       try simp at h20
       refine AW.seq ?_
       refine AW.sr ?_
       refine AWl.p (R_eq U (.no U) U (.tm U) (.const U)) U ?_
       refine AWl.av ?_
       refine AWl.nil ?_
       refine AW.cond (.tm U) (fun h33 => ?_) (fun h33 => ?_)
       · skip
         try simp at h33
         refine AW.skip ?_
         refine AW.cond (.tm U) (fun h33 => ?_) (fun h33 => ?_)
         · skip
           try simp at h33
           refine AW.seq ?_
           refine AW.le (σ' := ⟨_, [(0, _), (1, _), (4, _), (19, _), (20, _), (33, _)], [(888888, _), (4, _)]⟩) (Le.sub0 U ⟨U, U, U, U, U, U, Y⟩ ⟨U, U, Y⟩) ?_
           refine AW.region ?_
           refine AWl.mv ?_
           refine AWl.mv ?_
           refine AWl.p (R_sub U (.no U) U (.tm U) (.const U) (fun _ => by omega)) U ?_
           refine AWl.opE (R_calld 3900 (h (by assumption)) U U U (.tm U) U U (.cons (.tm U) U .nil) (fun _ => rfl) (fun _ => rfl)) ?_
           rintro _ ⟨z39, hz39, rfl⟩
           try dsimp only at hz39
           refine AWl.mv ?_
           refine AWl.mv ?_
           refine AWl.p (R_sub U (.no U) U (.tm U) (.const U) (fun _ => by omega)) U ?_
           refine AWl.opE (R_calld 4300 (h (by assumption)) U U U (.tm U) U U (.cons (.tm U) U .nil) (fun _ => rfl) (fun _ => rfl)) ?_
           rintro _ ⟨z43, hz43, rfl⟩
           try dsimp only at hz43
           refine AWl.p (R_build (ps := [(0, .const (.int .i64 (5)))]) U U U in100 U U st100 (.cons (.const U) U U fp100_0 .nil) U) U ?_
           refine AWl.adds (R_call 4500 (specl8Join z39 z43 ⟨5, 0, 0, 0⟩ (by omega)) U U U (.cons (.tm U) U (.cons (.tm U) U (.cons (.tm U) U .nil))) U U) U ?_
           refine AWl.chgb (R_store_pb U U U (.tm U) (.tm U) U ty30 U U U (by kernel_rfl) U) ?_
           refine AWl.nil (AW.ret ?_)
           apply DRes.mk (x := ⟨z39.Tokens ++ z43.Tokens ++ [⟨5, 0, 0, 0⟩]⟩) rfl
           case h =>
            refine Res.one U (.cell U U ty30 U U .nil) U ?_
            rfl
           case hp => exact ⟨by simp; try omega, by simp; omega⟩
         · exfalso; (try simp at h33); first | contradiction | omega | simp_all | grind
       · skip
         try simp at h33
         refine AW.le (σ' := ⟨_, [(0, _), (1, _), (4, _), (19, _), (20, _), (33, _)], [(888888, _), (4, _)]⟩) (Le.sub0 U ⟨U, U, U, U, U, U, Y⟩ ⟨U, U, Y⟩) ?_
         refine AW.region ?_
         refine AWl.p (R_eq U (.no U) U (.tm U) (.const U)) U ?_
         refine AWl.av ?_
         refine AWl.nil ?_
         refine AW.cond (.tm U) (fun h33 => ?_) (fun h33 => ?_)
         · skip
           try simp at h33
           refine AW.sr ?_
           refine AWl.mv ?_
           refine AWl.mv ?_
           refine AWl.p (R_sub U (.no U) U (.tm U) (.const U) (fun _ => by omega)) U ?_
           refine AWl.opE (R_calld 3900 (h (by assumption)) U U U (.tm U) U U (.cons (.tm U) U .nil) (fun _ => rfl) (fun _ => rfl)) ?_
           rintro _ ⟨z39, hz39, rfl⟩
           try dsimp only at hz39
           refine AWl.mv ?_
           refine AWl.mv ?_
           refine AWl.p (R_sub U (.no U) U (.tm U) (.const U) (fun _ => by omega)) U ?_
           refine AWl.opE (R_calld 4300 (h (by assumption)) U U U (.tm U) U U (.cons (.tm U) U .nil) (fun _ => rfl) (fun _ => rfl)) ?_
           rintro _ ⟨z43, hz43, rfl⟩
           try dsimp only at hz43
           refine AWl.p (R_build (ps := [(0, .const (.int .i64 (5)))]) U U U in100 U U st100 (.cons (.const U) U U fp100_0 .nil) U) U ?_
           refine AWl.adds (R_call 4500 (specl8Join z39 z43 ⟨5, 0, 0, 0⟩ (by omega)) U U U (.cons (.tm U) U (.cons (.tm U) U (.cons (.tm U) U .nil))) U U) U ?_
           refine AWl.chgb (R_store_pb U U U (.tm U) (.tm U) U ty30 U U U (by kernel_rfl) U) ?_
           refine AWl.nil (AW.ret ?_)
           apply DRes.mk (x := ⟨z39.Tokens ++ z43.Tokens ++ [⟨5, 0, 0, 0⟩]⟩) rfl
           case h =>
            refine Res.one U (.cell U U ty30 U U .nil) U ?_
            rfl
           case hp => exact ⟨by simp; try omega, by simp; omega⟩
         · skip
           try simp at h33
           refine AW.sr ?_
           refine AWl.p (R_eq U (.no U) U (.tm U) (.const U)) U ?_
           refine AWl.av ?_
           refine AWl.nil ?_
           refine AW.cond (.tm U) (fun h46 => ?_) (fun h46 => ?_)
           · skip
             try simp at h46
             refine AW.sr ?_
             refine AWl.mv ?_
             refine AWl.mv ?_
             refine AWl.p (R_sub U (.no U) U (.tm U) (.const U) (fun _ => by omega)) U ?_
             refine AWl.opE (R_calld 5100 (h (by assumption)) U U U (.tm U) U U (.cons (.tm U) U .nil) (fun _ => rfl) (fun _ => rfl)) ?_
             rintro _ ⟨z51, hz51, rfl⟩
             try dsimp only at hz51
             refine AWl.p (R_build (ps := []) U U U in30 U U st30 .nil U) U ?_
             refine AWl.nilA (i := 52) 20001 4 0 U U U ?_
             refine AWl.p (R_build (ps := [(0, .const (.int .i64 (6)))]) U U U in100 U U st100 (.cons (.const U) U U fp100_0 .nil) U) U ?_
             refine AWl.adds (R_call 5400 (specl8Join z51 ⟨[]⟩ ⟨6, 0, 0, 0⟩ (by simp; omega)) U U U (.cons (.tm U) U (.cons (.tm U) U (.cons (.tm U) U .nil))) U U) U ?_
             refine AWl.chgb (R_store_pb U U U (.tm U) (.tm U) U ty30 U U U (by kernel_rfl) U) ?_
             refine AWl.nil (AW.ret ?_)
             apply DRes.mk (x := ⟨z51.Tokens ++ [] ++ [⟨6, 0, 0, 0⟩]⟩) rfl
             case h =>
              refine Res.one U (.cell U U ty30 U U .nil) U ?_
              rfl
             case hp => exact ⟨by simp; try omega, by simp; omega⟩
           · skip
             try simp at h46
             refine AW.skip ?_
             refine AW.sr ?_
             refine AWl.mv ?_
             refine AWl.opE (R_calld 5600 (specl1Below _) U U U (.tm U) U U (.cons (.const U) U .nil) (fun _ => rfl) (fun _ => rfl)) ?_
             rintro _ ⟨z56, hz56, rfl⟩
             try dsimp only at hz56
             refine AWl.p (R_add U (.no U) U (.const U) (.tm U) (fun _ => by omega)) U ?_
             refine AWl.av ?_
             refine AWl.nil (AW.seq ?_)
             refine AW.le (σ' := ⟨_, [(0, _), (1, _), (4, _), (5, _), (19, _), (20, _), (33, _)], [(888888, _), (4, _)]⟩) (Le.sub0 U ⟨U, U, U, U, U, U, U, Y⟩ ⟨U, U, Y⟩) ?_
             refine AW.region ?_
             refine AWl.mv ?_
             refine AWl.mv ?_
             refine AWl.p (R_sub U (.no U) U (.tm U) (.const U) (fun _ => by omega)) U ?_
             refine AWl.opE (R_calld 6100 (h (by assumption)) U U U (.tm U) U U (.cons (.tm U) U .nil) (fun _ => rfl) (fun _ => rfl)) ?_
             rintro _ ⟨z61, hz61, rfl⟩
             try dsimp only at hz61
             refine AWl.p (R_build (ps := []) U U U in30 U U st30 .nil U) U ?_
             refine AWl.nilA (i := 62) 20002 4 0 U U U ?_
             refine AWl.mv ?_
             refine AWl.mv ?_
             refine AWl.p (R_add U (.no U) U (.tm U) (.const U) (fun _ => by omega)) U ?_
             refine AWl.opE (R_calld 6600 (specl1Below _) U U U (.tm U) U U (.cons (.tm U) U .nil) (fun _ => rfl) (fun _ => rfl)) ?_
             rintro _ ⟨z66, hz66, rfl⟩
             try dsimp only at hz66
             refine AWl.mv ?_
             refine AWl.p (R_build (ps := [(0, .const (.int .i64 (7))), (2, .tmp 66), (3, .tmp 67)]) U U U in100 U U st100 (.cons (.const U) U U fp100_0 (.cons (.tm U) U U fp100_2 (.cons (.tm U) U U fp100_3 .nil))) U) U ?_
             refine AWl.adds (R_call 6900 (specl8Join z61 ⟨[]⟩ ⟨7, 0, z66, 1 + z56⟩ (by simp; omega)) U U U (.cons (.tm U) U (.cons (.tm U) U (.cons (.tm U) U .nil))) U U) U ?_
             refine AWl.chgb (R_store_pb U U U (.tm U) (.tm U) U ty30 U U U (by kernel_rfl) U) ?_
             refine AWl.nil (AW.ret ?_)
             apply DRes.mk (x := ⟨z61.Tokens ++ [] ++ [⟨7, 0, z66, 1 + z56⟩]⟩) rfl
             case h =>
              refine Res.one U (.cell U U ty30 U U .nil) U ?_
              rfl
             case hp => exact ⟨by simp; try omega, by simp; omega⟩
theorem specl8Make (n : Int) (hn : 0 ≤ n ∧ n ≤ 3) : FnD Tryz.prog 112 [.one (.v (.int .i64 n))] (fun e : TExpr => 0 < e.Tokens.length ∧ e.Tokens.length ≤ 30) (fun e => .a (.agg (cExpr e))) := by
 have h0 := specl8Make1 0 0 (by omega) (by omega) fun h => absurd rfl h
 have h1 := specl8Make1 1 1 (by omega) (by omega) fun _ => h0
 have h2 := specl8Make1 2 3 (by omega) (by omega) fun _ => h1
 have h3 := specl8Make1 3 7 (by omega) (by omega) fun _ => h2
 have : n = 0 ∨ n = 1 ∨ n = 2 ∨ n = 3 := by omega
 rcases this with rfl | rfl | rfl | rfl
 · exact h0.mono fun x hx => ⟨hx.1, by omega⟩
 · exact h1.mono fun x hx => ⟨hx.1, by omega⟩
 · exact h2.mono fun x hx => ⟨hx.1, by omega⟩
 · exact h3.mono fun x hx => ⟨hx.1, by omega⟩
set_option maxRecDepth 100000 in
theorem specl8Expr : FnD Tryz.prog 73 [] (fun e : TExpr => 0 < e.Tokens.length ∧ e.Tokens.length ≤ 30) (fun e => .a (.agg (cExpr e))) := by
 refine FnD.walk Tryz.func73 U (by kernel_rfl) Tryz.ntmps73 U (fun g => rfl) fun w0 g => ?_
 refine AW.sr ?_
 refine AWl.add (R_alloc 2 U U U in30 U U U) U ?_
 refine AWl.nil (AW.seq ?_)
 refine AW.sr ?_
 refine AWl.mv ?_
 refine AWl.opE (R_calld 400 (specl1Once _) U U U (.tm U) U U (.cons (.const U) U .nil) (fun _ => rfl) (fun _ => rfl)) ?_
 rintro _ ⟨z4, hz4, rfl⟩
 try dsimp only at hz4
 refine AWl.nil ?_
 refine AW.cond (.tm U) (fun h4 => ?_) (fun h4 => ?_)
 · skip
   try simp at h4
   refine AW.sr ?_
   refine AWl.mv ?_
   refine AWl.opE (R_calld 600 (specl8Known) U U U (.tm U) U U .nil (fun _ => rfl) (fun _ => rfl)) ?_
   rintro _ ⟨z6, hz6, rfl⟩
   try dsimp only at hz6
   refine AWl.chgb (R_store_pb U U U (.tm U) (.tm U) U ty30 U U U (by kernel_rfl) U) ?_
   refine AWl.nil (AW.ret ?_)
   apply DRes.mk (x := z6) rfl
   case h =>
    refine Res.one U (.cell U U ty30 U U .nil) U ?_
    rfl
   case hp => exact hz6
 · skip
   try simp at h4
   refine AW.skip ?_
   refine AW.sr ?_
   refine AWl.mv ?_
   refine AWl.mv ?_
   refine AWl.opE (R_calld 900 (specl1Below _) U U U (.tm U) U U (.cons (.const U) U .nil) (fun _ => rfl) (fun _ => rfl)) ?_
   rintro _ ⟨z9, hz9, rfl⟩
   try dsimp only at hz9
   refine AWl.p (R_add U (.no U) U (.const U) (.tm U) (fun _ => by omega)) U ?_
   refine AWl.opE (R_calld 1100 (specl8Make (1 + z9) (by omega)) U U U (.tm U) U U (.cons (.tm U) U .nil) (fun _ => rfl) (fun _ => rfl)) ?_
   rintro _ ⟨z11, hz11, rfl⟩
   try dsimp only at hz11
   refine AWl.chgb (R_store_pb U U U (.tm U) (.tm U) U ty30 U U U (by kernel_rfl) U) ?_
   refine AWl.nil (AW.ret ?_)
   apply DRes.mk (x := z11) rfl
   case h =>
    refine Res.one U (.cell U U ty30 U U .nil) U ?_
    rfl
   case hp => exact hz11
set_option maxRecDepth 100000 in
theorem specl8Any : FrD Tryz.prog 40 [] (fun e : TExpr => e.Tokens.length ≤ 32) (fun e => .a (.agg (cExpr e))) := by
 refine FrD.walk Tryz.func40 rfl (by kernel_rfl) Tryz.ntmps40 rfl (fun g => rfl) fun w0 g => ?_
 refine AW.sr ?_
 refine AWl.add (R_alloc 2 U U U in30 U U U) U ?_
 refine AWl.nil (AW.sr ?_)
 refine AWl.mv ?_
 refine AWl.opE (R_calld 500 (specl8Expr) U U U (.tm U) U U .nil (fun _ => rfl) (fun _ => rfl)) ?_
 rintro _ ⟨z5, hz5, rfl⟩
 try dsimp only at hz5
 refine AWl.add (R_alloc 3 U U U in30 U U U) U ?_
 refine AWl.chgb (R_store_pb U U U (.tm U) (.tm U) U ty30 U U U (by kernel_rfl) U) ?_
 refine AWl.nil (AW.seq ?_)
 refine AW.sr ?_
 refine AWl.mv ?_
 refine AWl.opE (R_calld 700 (specl1Below _) U U U (.tm U) U U (.cons (.const U) U .nil) (fun _ => rfl) (fun _ => rfl)) ?_
 rintro _ ⟨z7, hz7, rfl⟩
 try dsimp only at hz7
 refine AWl.nil (AW.block ?_)
 refine AW.sr ?_
 refine AWl.p (R_eq U (.no U) U (.tm U) (.const U)) U ?_
 refine AWl.av ?_
 refine AWl.nil ?_
 refine AW.cond (.tm U) (fun h8 => ?_) (fun h8 => ?_)
 · skip
   try simp at h8
   refine AW.region ?_
   refine AWl.p (by exact R_fieldAddr_pp U (.no U) U (.tm U) fl30_0) U ?_
   refine AWl.p (by exact R_load_pp U (.no U) U (.tm U) U ty28 U U) U ?_
   refine AWl.p (R_slice_vwr (n := 1) U (.no U) U (.tm U) U (.yes (.const U) (fun _ => by first | rfl | omega | (simp <;> omega))) .no Tryz.underlying28 ty100 (fun _ => ⟨by simp; omega, by first | omega | (simp; omega)⟩)) U ?_
   refine AWl.p (by exact R_fieldAddr_pp U (.no U) U (.tm U) fl30_0) U ?_
   refine AWl.chgb (R_store_pb U U U (.tm U) (.tm U) U ty28 U U U (by kernel_rfl) U) ?_
   refine AWl.nil (AW.seq ?_)
   refine AW.le (σ' := ⟨_, [(0, _), (2, _), (3, _), (7, _)], [(888888, _), (2, _), (500, _), (3, _)]⟩) (Le.sub0 U ⟨U, U, U, U, Y⟩ ⟨U, U, U, U, Y⟩) ?_
   refine AW.region ?_
   refine AWl.p (by exact R_load_pp U (.no U) U (.tm U) U ty30 U U) U ?_
   refine AWl.chgb (R_store_pb U U U (.tm U) (.tm U) U ty30 U U U (by kernel_rfl) U) ?_
   refine AWl.nil (AW.ret ?_)
   apply DRRes.mk (x := ⟨z5.Tokens.drop 1⟩) rfl
   case h =>
    refine ResR.one U (.cell U U ty30 U U .nil) U ?_
    exact congrArg (fun r => [V0.agg [T.sl 4 r]]) (by rw [List.take_length, List.map_drop])
   case hp => exact (by simp; omega)
 · skip
   try simp at h8
   refine AW.sr ?_
   refine AWl.p (R_eq U (.no U) U (.tm U) (.const U)) U ?_
   refine AWl.av ?_
   refine AWl.nil ?_
   refine AW.cond (.tm U) (fun h14 => ?_) (fun h14 => ?_)
   · skip
     try simp at h14
     obtain ⟨t0, ht0⟩ : ∃ ξ, z5.Tokens[0]? = some ξ := ⟨_, List.getElem?_eq_getElem hz5.1⟩
     refine AW.le (σ' := ⟨_, [(0, _), (2, _), (3, _), (7, _)], [(888888, _), (2, _), (500, _), (3, _)]⟩) (Le.sub0 U ⟨U, U, U, U, Y⟩ ⟨U, U, U, U, Y⟩) ?_
     refine AW.le (σ' := ⟨_, [(0, _), (2, _), (3, _), (7, _)], [(888888, _), (2, _), (500, _), (3, _)]⟩) (Le.sub0 U ⟨U, U, U, U, Y⟩ ⟨U, U, U, U, Y⟩) ?_
     apply AW.drawnH (N := 11) (k := 5) (Hs := [0, 1, 2, 4, 6, 8]) (ms := [[], [3], [3, 5], [3, 5, 7], [3, 5, 7, 9], [3, 5, 7, 9, 10]]) (es := [(0, 3, 1), (1, 5, 2), (2, 7, 3), (3, 9, 4), (4, 10, 5)]) (σ1 := _) (SM := ⟨_, [(0, _), (2, _), (3, _), (7, _), (16, _), (17, _), (18, _), (20, _), (22, _), (24, _)], [(888888, _), (2, _), (500, _), (3, _)]⟩)
     case hm => kernel_rfl
     case hB => kernel_rfl
     case hP => kernel_rfl
     case hL => kernel_rfl
     case hN => rfl
     case hpre =>
      apply PreOk.step (P := Tryz.prog) 0 rfl ((by exact R_fieldAddr_pp rfl (.no rfl) rfl (.tm rfl) fl30_0)) (by exact .pp) rfl rfl rfl
      apply PreOk.step (P := Tryz.prog) 1 rfl ((by exact R_load_pp rfl (.no rfl) rfl (.tm rfl) rfl ty28 rfl rfl)) (by exact HasV.load (x := .tmp 16) (.tm rfl) rfl ty28 rfl rfl) rfl rfl rfl
      apply PreOk.step (P := Tryz.prog) 2 rfl (R_move rfl (.no rfl) rfl (.tm rfl)) (by exact HasV.slot (t := 0) rfl) rfl rfl rfl
      apply PreOk.step (P := Tryz.prog) 4 rfl (R_move rfl (.no rfl) rfl (.tm rfl)) (by exact HasV.slot (t := 0) rfl) rfl rfl rfl
      apply PreOk.step (P := Tryz.prog) 6 rfl (R_move rfl (.no rfl) rfl (.tm rfl)) (by exact HasV.slot (t := 0) rfl) rfl rfl rfl
      apply PreOk.step (P := Tryz.prog) 8 rfl (R_move rfl (.no rfl) rfl (.tm rfl)) (by exact HasV.slot (t := 0) rfl) rfl rfl rfl
      exact PreOk.nil
     case hS => exact Sup.sub0 rfl ⟨rfl, rfl, rfl, rfl, rfl, rfl, rfl, rfl, rfl, rfl, Y⟩ ⟨rfl, rfl, rfl, rfl, Y⟩
     case hH =>
      refine ⟨⟨_, _, _, rfl, rfl, rfl, fun σ' hs => (by exact R_fieldAddr_pp rfl (.no rfl) (hd_sup hs rfl) (.tm (hs.slots _ _ rfl)) fl30_0)⟩, ?_⟩
      refine ⟨⟨_, _, _, rfl, rfl, rfl, fun σ' hs => (by exact R_load_pp rfl (.no rfl) (hd_sup hs rfl) (.tm (hs.slots _ _ rfl)) (hs.res _ _ rfl) ty28 rfl rfl)⟩, ?_⟩
      refine ⟨⟨_, _, _, rfl, rfl, rfl, fun σ' hs => R_move rfl (.no rfl) (hd_sup hs rfl) (.tm (hs.slots _ _ rfl))⟩, ?_⟩
      refine ⟨⟨_, _, _, rfl, rfl, rfl, fun σ' hs => R_move rfl (.no rfl) (hd_sup hs rfl) (.tm (hs.slots _ _ rfl))⟩, ?_⟩
      refine ⟨⟨_, _, _, rfl, rfl, rfl, fun σ' hs => R_move rfl (.no rfl) (hd_sup hs rfl) (.tm (hs.slots _ _ rfl))⟩, ?_⟩
      refine ⟨⟨_, _, _, rfl, rfl, rfl, fun σ' hs => R_move rfl (.no rfl) (hd_sup hs rfl) (.tm (hs.slots _ _ rfl))⟩, ?_⟩
      trivial
     apply Dh.drw0 (i := 3)
     case ha => rfl
     case ho => rfl
     case hE =>
      intro  hp
      obtain _ := hp
      exact R_calld 1900 (specl1Below _) rfl rfl rfl (.tm rfl) rfl rfl (.cons (.const rfl) rfl .nil) (fun _ => rfl) (fun _ => rfl)
     case hb => rfl
     case hL =>
      intro  z19 hp hy
      exact EndQ.eq (Le.sub0 (σ' := ⟨_, [(0, _), (2, _), (3, _), (7, _), (16, _), (17, _), (18, _), (19, _), (20, _), (22, _), (24, _)], [(888888, _), (2, _), (500, _), (3, _)]⟩) U ⟨U, U, U, U, U, U, U, U, U, U, U, Y⟩ ⟨U, U, U, U, Y⟩) U
     case hS => intros; exact Sup.sub0 rfl ⟨rfl, rfl, rfl, rfl, rfl, rfl, rfl, rfl, rfl, rfl, Y⟩ ⟨rfl, rfl, rfl, rfl, Y⟩
     apply Dh.drw1 (i := 5)
     case ha => rfl
     case ho => rfl
     case hE =>
      intro z19 hp
      obtain ⟨_, hz19⟩ := hp
      exact R_calld 2100 (specl1Below _) rfl rfl rfl (.tm rfl) rfl rfl (.cons (.const rfl) rfl .nil) (fun _ => rfl) (fun _ => rfl)
     case hb => rfl
     case hL =>
      intro z19 z21 hp hy
      exact EndQ.eq (Le.sub0 (σ' := ⟨_, [(0, _), (2, _), (3, _), (7, _), (16, _), (17, _), (18, _), (19, _), (20, _), (21, _), (22, _), (24, _)], [(888888, _), (2, _), (500, _), (3, _)]⟩) U ⟨U, U, U, U, U, U, U, U, U, U, U, U, Y⟩ ⟨U, U, U, U, Y⟩) U
     case hS => intros; exact Sup.sub0 rfl ⟨rfl, rfl, rfl, rfl, rfl, rfl, rfl, rfl, rfl, rfl, Y⟩ ⟨rfl, rfl, rfl, rfl, Y⟩
     apply Dh.drw2 (i := 7)
     case ha => rfl
     case ho => rfl
     case hE =>
      intro z19 z21 hp
      obtain ⟨⟨_, hz19⟩, hz21⟩ := hp
      exact R_calld 2300 (specl1Below _) rfl rfl rfl (.tm rfl) rfl rfl (.cons (.const rfl) rfl .nil) (fun _ => rfl) (fun _ => rfl)
     case hb => rfl
     case hL =>
      intro z19 z21 z23 hp hy
      exact EndQ.eq (Le.sub0 (σ' := ⟨_, [(0, _), (2, _), (3, _), (7, _), (16, _), (17, _), (18, _), (19, _), (20, _), (21, _), (22, _), (23, _), (24, _)], [(888888, _), (2, _), (500, _), (3, _)]⟩) U ⟨U, U, U, U, U, U, U, U, U, U, U, U, U, Y⟩ ⟨U, U, U, U, Y⟩) U
     case hS => intros; exact Sup.sub0 rfl ⟨rfl, rfl, rfl, rfl, rfl, rfl, rfl, rfl, rfl, rfl, Y⟩ ⟨rfl, rfl, rfl, rfl, Y⟩
     apply Dh.drw3 (i := 9)
     case ha => rfl
     case ho => rfl
     case hE =>
      intro z19 z21 z23 hp
      obtain ⟨⟨⟨_, hz19⟩, hz21⟩, hz23⟩ := hp
      exact R_calld 2500 (specl1Below _) rfl rfl rfl (.tm rfl) rfl rfl (.cons (.const rfl) rfl .nil) (fun _ => rfl) (fun _ => rfl)
     case hb => rfl
     case hL =>
      intro z19 z21 z23 z25 hp hy
      exact EndQ.eq (Le.sub0 (σ' := ⟨_, [(0, _), (2, _), (3, _), (7, _), (16, _), (17, _), (18, _), (19, _), (20, _), (21, _), (22, _), (23, _), (24, _), (25, _)], [(888888, _), (2, _), (500, _), (3, _)]⟩) U ⟨U, U, U, U, U, U, U, U, U, U, U, U, U, U, Y⟩ ⟨U, U, U, U, Y⟩) U
     case hS => intros; exact Sup.sub0 rfl ⟨rfl, rfl, rfl, rfl, rfl, rfl, rfl, rfl, rfl, rfl, Y⟩ ⟨rfl, rfl, rfl, rfl, Y⟩
     apply Dh.new4 (i := 10)
     case ha | ho | hb => rfl
     case hE =>
      intro w9 z19 z21 z23 z25 hp
      obtain ⟨⟨⟨⟨_, hz19⟩, hz21⟩, hz23⟩, hz25⟩ := hp
      refine AWl.p (R_build (ps := [(0, .tmp 19), (1, .tmp 21), (2, .tmp 23), (3, .tmp 25)]) U U U in100 U U st100 (.cons (.tm U) U U fp100_0 (.cons (.tm U) U U fp100_1 (.cons (.tm U) U U fp100_2 (.cons (.tm U) U U fp100_3 .nil)))) U) U ?_
      refine AWl.nil ?_
      exact EndQ.eq (Le.sub0 (σ' := ⟨_, [(0, _), (2, _), (3, _), (7, _), (16, _), (17, _), (18, _), (20, _), (22, _), (24, _), (26, _)], [(888888, _), (2, _), (500, _), (3, _)]⟩) U ⟨U, U, U, U, U, U, U, U, U, U, U, Y⟩ ⟨U, U, U, U, Y⟩) U
     case hS => intros; exact Sup.sub0 rfl ⟨rfl, rfl, rfl, rfl, rfl, rfl, rfl, rfl, rfl, rfl, Y⟩ ⟨rfl, rfl, rfl, rfl, Y⟩
     refine Dh.fin4 (k := 5) rfl ?_
     intro z19 z21 z23 z25 hp
     obtain ⟨⟨⟨⟨_, hz19⟩, hz21⟩, hz23⟩, hz25⟩ := hp
     refine AWl.p (by exact R_indexAddr_rf U (.no U) U (.tm U) U (.const U) Tryz.underlying28 ty100 (fun _ => ⟨by omega, (map_get ht0)⟩)) U ?_
     refine AWl.absupd (R_store_pr U U U (.tm U) U (.tm U) U (map_get ht0) ty100 U U U U) ?_
     refine AWl.nil (AW.seq ?_)
     refine AW.le (σ' := ⟨_, [(0, _), (2, _), (3, _), (7, _)], [(888888, _), (2, _), (500, _), (3, _)]⟩) (Le.sub0 U ⟨U, U, U, U, Y⟩ ⟨U, U, U, U, Y⟩) ?_
     refine AW.region ?_
     refine AWl.p (by exact R_load_pp U (.no U) U (.tm U) U ty30 U U) U ?_
     refine AWl.chgb (R_store_pb U U U (.tm U) (.tm U) U ty30 U U U (by kernel_rfl) U) ?_
     refine AWl.nil (AW.ret ?_)
     apply DRRes.mk (x := ⟨z5.Tokens.set 0 ⟨z19, z21, z23, z25⟩⟩) rfl
     case h =>
      refine ResR.one U (.cell U U ty30 U U .nil) U ?_
      exact congrArg (fun r => [V0.agg [T.sl 4 r]]) (by rw [List.map_set]; simp [cToken])
     case hp => exact (by simp; omega)
   · skip
     try simp at h14
     refine AW.seq ?_
     refine AW.le (σ' := ⟨_, [(0, _), (2, _), (3, _), (7, _)], [(888888, _), (2, _), (500, _), (3, _)]⟩) (Le.sub0 U ⟨U, U, U, U, Y⟩ ⟨U, U, U, U, Y⟩) ?_
     refine AW.region ?_
     refine AWl.p (R_eq U (.no U) U (.tm U) (.const U)) U ?_
     refine AWl.av ?_
     refine AWl.nil ?_
     refine AW.cond (.tm U) (fun h28 => ?_) (fun h28 => ?_)
     · skip
       try simp at h28
       refine AW.seq ?_
       refine AW.block ?_
       refine AW.loop1 (fun (L : List TToken) => (L.length ≤ 30) ∧ True) (fun (L : List TToken) => ⟨_, [(0, _), (2, _), (3, _)], [(2, .box [.t (.v (.slice none 0 0))]), (3, .box [.rf 500]), (500, .row 4 (L.map cToken)), (888888, .cur g)]⟩) (fun (L : List TToken) => 24 - L.length) (z5.Tokens) ⟨hz5.2, Y⟩ (Le.sub0 U ⟨U, U, U, Y⟩ ⟨U, U, U, U, Y⟩) ?_
       rintro L ⟨hk, he⟩
       refine AW.seq ?_
       refine AW.sr ?_
       refine AWl.p (by exact R_fieldAddr_pp U (.no U) U (.tm U) fl30_0) U ?_
       refine AWl.p (by exact R_load_pp U (.no U) U (.tm U) U ty28 U U) U ?_
       refine AWl.p (by exact R_lenm U (.no U) U (.tm U) (by exact .rf U) Tryz.underlying28) U ?_
       refine AWl.p (R_gt U (.no U) U (.tm U) (.const U)) U ?_
       refine AWl.mv ?_
       refine AWl.p (by exact R_fieldAddr_pp U (by exact .yes1 U U U U) U (.tmp U (by exact fun _ => rfl)) fl30_0) U ?_
       refine AWl.p (by exact R_load_pp U (by exact .yes1 U U U U) U (.tmp U (by exact id)) U ty28 U U) U ?_
       refine AWl.p (by exact R_lenm U (by exact .yes1 U U U U) U (.tmp U (by exact id)) (by exact .rf U) Tryz.underlying28) U ?_
       refine AWl.p (R_lt U (by exact .yes1 U U U U) U (.tmp U (by exact id)) (.const U)) U ?_
       refine AWl.p (R_and U (.no U) U (.tm U) (.tmp U (by exact id))) U ?_
       refine AWl.nil ?_
       refine AW.cond (.tm U) (fun h39 => ?_) (fun h39 => ?_)
       · skip
         skip
         have h39' : 0 < L.length ∧ L.length < 24 := (by have h := h39; simp at h; omega)
         refine AW.skip ?_
         refine AW.block ?_
         refine AW.le (σ' := ⟨_, [(0, _), (2, _), (3, _)], [(2, _), (3, _), (500, _), (888888, _)]⟩) (Le.sub0 U ⟨U, U, U, Y⟩ ⟨U, U, U, U, Y⟩) ?_
         refine AW.region ?_
         refine AWl.p (by exact R_fieldAddr_pp U (.no U) U (.tm U) fl30_0) U ?_
         refine AWl.p (by exact R_load_pp U (.no U) U (.tm U) U ty28 U U) U ?_
         refine AWl.p (R_build (ps := [(0, .const (.int .i64 (6)))]) U U U in100 U U st100 (.cons (.const U) U U fp100_0 .nil) U) U ?_
         refine AWl.absadd (R_list (xs := [.tmp 42]) 43 U U U (.cons (.tm U) U U .nil) Tryz.underlying28 in100 U U U U) U ?_
         refine AWl.chgput (R_append U U U (.tm U) U (.tm U) (by exact .rf U) (by rfl) Tryz.underlying28 in100 U (by (simp [chunk]; omega)) (by (unfold maxLen; simp [chunk]; omega))) U ?_
         refine AWl.le (σ' := ⟨_, [(0, _), (2, _), (3, _), (44, _)], [(2, _), (3, _), (500, _), (888888, _), (43, _)]⟩) (Le.sub0 U ⟨U, U, U, U, Y⟩ ⟨U, U, U, U, U, Y⟩) ?_
         refine AWl.p (by exact R_fieldAddr_pp U (.no U) U (.tm U) fl30_0) U ?_
         refine AWl.chgb (R_store_pb U U U (.tm U) (.tm U) U ty28 U U U (by kernel_rfl) U) ?_
         refine AWl.nil ?_
         repeat (with_reducible refine BlockQ.nor ?_)
         refine Round1.next (L ++ [⟨6, 0, 0, 0⟩]) ⟨by simp; omega, Y⟩ (by simp; omega) (Le.sub0 rfl ⟨rfl, rfl, rfl, Y⟩ ⟨(by rfl), (by rfl), (by (refine congrArg (fun r => some (R.row _ r)) ?_; simp [chunk, List.map_set, cInt, cBool, cIntS, cPair, cToken, cExpr, cEdge, cGraph, cStep, cWalk, cChange, cBatch, cHistory, cPositions, cAutomaton, cProductStep, cPathAtom, cConjunction, cView, cDelta, cRegistered, cRegistry])), (by rfl), Y⟩)
       · skip
         skip
         refine AW.exit ?_
         refine AW.seq ?_
         refine AW.le (σ' := ⟨_, [(0, _), (2, _), (3, _)], [(2, _), (3, _), (500, _), (888888, _)]⟩) (Le.sub0 U ⟨U, U, U, Y⟩ ⟨U, U, U, U, Y⟩) ?_
         refine AW.region ?_
         refine AWl.mv ?_
         refine AWl.opE (R_calld 4700 (specl1Once _) U U U (.tm U) U U (.cons (.const U) U .nil) (fun _ => rfl) (fun _ => rfl)) ?_
         rintro _ ⟨z47, hz47, rfl⟩
         try dsimp only at hz47
         refine AWl.nil ?_
         refine AW.cond (.tm U) (fun h47 => ?_) (fun h47 => ?_)
         · skip
           try simp at h47
           refine AW.region ?_
           refine AWl.p (by exact R_fieldAddr_pp U (.no U) U (.tm U) fl30_0) U ?_
           refine AWl.p (by exact R_load_pp U (.no U) U (.tm U) U ty28 U U) U ?_
           refine AWl.p (R_build (ps := [(0, .const (.int .i64 (6)))]) U U U in100 U U st100 (.cons (.const U) U U fp100_0 .nil) U) U ?_
           refine AWl.absadd (R_list (xs := [.tmp 50]) 51 U U U (.cons (.tm U) U U .nil) Tryz.underlying28 in100 U U U U) U ?_
           refine AWl.chgput (R_append U U U (.tm U) U (.tm U) (by exact .rf U) (by rfl) Tryz.underlying28 in100 U (by (simp [chunk]; omega)) (by (unfold maxLen; simp [chunk]; omega))) U ?_
           refine AWl.le (σ' := ⟨_, [(0, _), (2, _), (3, _), (47, _), (52, _)], [(2, _), (3, _), (500, _), (888888, _), (51, _)]⟩) (Le.sub0 U ⟨U, U, U, U, U, Y⟩ ⟨U, U, U, U, U, Y⟩) ?_
           refine AWl.p (by exact R_fieldAddr_pp U (.no U) U (.tm U) fl30_0) U ?_
           refine AWl.chgb (R_store_pb U U U (.tm U) (.tm U) U ty28 U U U (by kernel_rfl) U) ?_
           refine AWl.nil (AW.sr ?_)
           refine AWl.p (by exact R_load_pp U (.no U) U (.tm U) U ty30 U U) U ?_
           refine AWl.chgb (R_store_pb U U U (.tm U) (.tm U) U ty30 U U U (by kernel_rfl) U) ?_
           refine AWl.nil (AW.ret ?_)
           apply DRRes.mk (x := ⟨L ++ [⟨6, 0, 0, 0⟩]⟩) rfl
           case h =>
            refine ResR.one U (.cell U U ty30 U U .nil) U ?_
            exact congrArg (fun r => [V0.agg [T.sl 4 r]]) (by simp [chunk, cToken])
           case hp => exact (by simp; omega)
         · skip
           try simp at h47
           refine AW.skip ?_
           refine AW.sr ?_
           refine AWl.p (by exact R_load_pp U (.no U) U (.tm U) U ty30 U U) U ?_
           refine AWl.chgb (R_store_pb U U U (.tm U) (.tm U) U ty30 U U U (by kernel_rfl) U) ?_
           refine AWl.nil (AW.ret ?_)
           apply DRRes.mk (x := ⟨L⟩) rfl
           case h =>
            refine ResR.one U (.cell U U ty30 U U .nil) U ?_
            rfl
           case hp => exact (by simp; omega)
     · skip
       try simp at h28
       refine AW.skip ?_
       refine AW.sr ?_
       refine AWl.p (by exact R_load_pp U (.no U) U (.tm U) U ty30 U U) U ?_
       refine AWl.chgb (R_store_pb U U U (.tm U) (.tm U) U ty30 U U U (by kernel_rfl) U) ?_
       refine AWl.nil (AW.ret ?_)
       apply DRRes.mk (x := z5) rfl
       case h =>
        refine ResR.one U (.cell U U ty30 U U .nil) U ?_
        rfl
       case hp => exact (by omega)
end Go.Proofs.YtbkhopfpejhnlaaGreat
