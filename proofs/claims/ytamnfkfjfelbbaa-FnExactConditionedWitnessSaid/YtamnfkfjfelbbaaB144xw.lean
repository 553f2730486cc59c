import Derived.Test.YtamnfkfjfelbbaaB143xw
import Derived.Test.YtamnfkfjfelbbaaKnnxw
import Derived.Test.YtamnfkfjfelbbaaDraw5xw
set_option linter.unusedVariables false
set_option linter.unusedSimpArgs false
set_option maxHeartbeats 1000000
set_option maxRecDepth 100000
namespace Go.Q
open Go.D
def witOk (g : TGraph) (a : TAutomaton) (c x y : Int) : Bool := usefulOk g a x y && inB c 0 4
def condWit (g : TGraph) (a : TAutomaton) (c x y : Int) : TWalk × Bool := if witOk g a c x y = true ∧ 0 ≤ distX g a c x y then (⟨x, gwS g a c y (distX g a c x y).toNat x (2 ^ a.Start.toNat)⟩, true) else (⟨0, []⟩, false)
theorem witOk_of {g : TGraph} {a : TAutomaton} {c x y : Int} (h : witOk g a c x y = true) : validG g = true ∧ validA a = true ∧ (0 ≤ x ∧ x < g.Values.length) ∧ 0 ≤ y ∧ y < g.Values.length := by
 unfold witOk usefulOk at h
 simp only [Bool.and_eq_true] at h
 exact ⟨(good_parts h.1.1).1, (good_parts h.1.1).2.1, (good_parts h.1.1).2.2, (good_parts h.1.2).2.2⟩
theorem up_next {g : TGraph} {a : TAutomaton} {c x : Int} {L : List TNd} (hL : L = expL g a c x) {k : Nat} {d : TNd} (hd : L[k]? = some d) (h0 : 0 ≤ d.from_) : d.from_.toNat < k ∧ upS L k k = upS L d.from_.toNat d.from_.toNat ++ [d.step] := by
 subst hL
 unfold expL at hd ⊢
 have hkl := (List.getElem?_eq_some_iff.1 hd).1
 rcases upS_from hd with ⟨_, h⟩ | ⟨h1, _, h2⟩
 · omega
 · obtain ⟨k, rfl⟩ : ∃ k', k = k' + 1 := ⟨k - 1, by omega⟩
   exact ⟨h2, by rw [upS_step hd h0, upS_fuel d.from_.toNat (f' := d.from_.toNat) (by omega) (by omega) (Nat.le_refl _)]⟩
theorem wit_at {g : TGraph} {a : TAutomaton} (ha : validA a = true) (hg : validG g = true) {c x y : Int} (hx : 0 ≤ x ∧ x < g.Values.length) (hy : 0 ≤ y ∧ y < g.Values.length) (hok : witOk g a c x y = true) {k : Nat} {d : TNd} (hd : (expL g a c x)[k]? = some d) (hb : d.node = y ∧ endN g a d = true) (hn : ∀ i di, i < k → (expL g a c x)[i]? = some di → ¬ (di.node = y ∧ endN g a di = true)) : condWit g a c x y = (⟨x, upS (expL g a c x) k k⟩, true) := by
 rcases Int.lt_or_le (distX g a c x y) 0 with h | h
 · exact absurd hb (wit_none ha hg hx hy h d (List.mem_of_getElem? hd))
 · obtain ⟨k', d', h1, h2, h3, h4⟩ := wit_some ha hg hx hy h
   have e : k' = k := by
    rcases Nat.lt_trichotomy k' k with hl | hl | hl
    · exact absurd h2 (hn k' d' hl h1)
    · exact hl
    · exact absurd hb (h3 k d hl hd)
   subst e
   unfold condWit
   rw [if_pos ⟨hok, h⟩, ← h4]
theorem wit_not {g : TGraph} {a : TAutomaton} (ha : validA a = true) (hg : validG g = true) {c x y : Int} (hx : 0 ≤ x ∧ x < g.Values.length) (hy : 0 ≤ y ∧ y < g.Values.length) (hn : ∀ (i : Nat) di, (expL g a c x)[i]? = some di → ¬ (di.node = y ∧ endN g a di = true)) : condWit g a c x y = (⟨0, []⟩, false) := by
 unfold condWit
 rw [if_neg]
 rintro ⟨_, h⟩
 obtain ⟨k', d', h1, h2, _⟩ := wit_some ha hg hx hy h
 exact hn k' d' h1 h2
theorem gwS_len {g : TGraph} {a : TAutomaton} {c y : Int} : ∀ (r : Nat) (u : Int) (m : Nat), (gwS g a c y r u m).length ≤ r
 | 0, _, _ => by simp [gwS]
 | r + 1, u, m => by
  rw [gwS]
  split
  · simp
  · have := gwS_len (g := g) (a := a) (c := c) (y := y) r; simp [this]
end Go.Q
namespace Go.Proofs.Ytamnfkfjfelbbaa
open Go.RowKit Go.Q Go.D Go.WideMaps Go.ChangeMaps
theorem implnewCounter (g : TGraph) (a : TAutomaton) (hg : validG g = true) (y : Int) (f : Int → Int → Int → Int) : FnNK Try.prog 34 (cGraph g) (cAutomaton a) (.int .i64 y) 1 ((arcsV g).map cArcS) f := by
 refine FnNK.walk Try.func34 rfl (by kernel_rfl) Try.ntmps34 rfl rfl fun g0 g1 a0 a1 a2 K hK w0 => ?_
 refine AW.sr ?_
 refine AWl.p (R_boxz U U U (.tm U) (ts := _) (by rfl)) U ?_
 refine AWl.p (R_boxz U U U (.tm U) (ts := _) (by rfl)) U ?_
 refine AWl.ac ?_
 refine AWl.nil (AW.seq ?_)
 refine AW.le (σ' := ⟨_, [(0, _), (1, _), (2, _), (3, _), (4, _), (6, _)], [(999999, _)]⟩) (Le.sub0 U ⟨U, U, U, U, U, U, Y⟩ ⟨U, Y⟩) ?_
 apply AW.drawnH (N := 6) (k := 3) (Hs := [0, 1, 2, 3]) (ms := [[], [4], [5], [4, 5]]) (es := [(0, 4, 1), (0, 5, 2), (1, 5, 3), (2, 4, 3)]) (σ1 := _) (SM := ⟨_, [(0, _), (1, _), (2, _), (3, _), (4, _), (6, _), (7, _), (8, _), (9, _), (10, _)], [(999999, _)]⟩)
 case hm => kernel_rfl
 case hB => kernel_rfl
 case hP => kernel_rfl
 case hL => kernel_rfl
 case hN => rfl
 case hpre =>
  apply PreOk.step (P := Try.prog) 0 rfl ((by exact R_load rfl (.no rfl) rfl (.tm rfl) ty39 rfl rfl)) (by exact HasV.ld (x := .tmp 3) (.tm rfl) rfl rfl) rfl rfl rfl
  apply PreOk.step (P := Try.prog) 1 rfl ((by exact R_load rfl (.no rfl) rfl (.tm rfl) ty41 rfl rfl)) (by exact HasV.ld (x := .tmp 4) (.tm rfl) rfl rfl) rfl rfl rfl
  apply PreOk.step (P := Try.prog) 2 rfl (R_move rfl (.no rfl) rfl (.tm rfl)) (by exact HasV.slot (t := 2) rfl) rfl rfl rfl
  apply PreOk.step (P := Try.prog) 3 rfl ((by exact R_load rfl (.no rfl) rfl (.tm rfl) ty39 rfl rfl)) (by exact HasV.ld (x := .tmp 3) (.tm rfl) rfl rfl) rfl rfl rfl
  exact PreOk.nil
 case hS => exact Sup.sub0 rfl ⟨rfl, rfl, rfl, rfl, rfl, rfl, rfl, rfl, rfl, rfl, Y⟩ ⟨rfl, Y⟩
 case hH =>
  refine ⟨⟨_, _, _, rfl, rfl, rfl, fun σ' hs => (by exact R_load rfl (.no rfl) (hd_sup hs rfl) (.tm (hs.slots _ _ rfl)) ty39 rfl rfl)⟩, ?_⟩
  refine ⟨⟨_, _, _, rfl, rfl, rfl, fun σ' hs => (by exact R_load rfl (.no rfl) (hd_sup hs rfl) (.tm (hs.slots _ _ rfl)) ty41 rfl rfl)⟩, ?_⟩
  refine ⟨⟨_, _, _, rfl, rfl, rfl, fun σ' hs => R_move rfl (.no rfl) (hd_sup hs rfl) (.tm (hs.slots _ _ rfl))⟩, ?_⟩
  refine ⟨⟨_, _, _, rfl, rfl, rfl, fun σ' hs => (by exact R_load rfl (.no rfl) (hd_sup hs rfl) (.tm (hs.slots _ _ rfl)) ty39 rfl rfl)⟩, ?_⟩
  trivial
 apply Dh.new0 (i := 4)
 case ha | ho | hb => rfl
 case hE =>
  intro w9  hp
  obtain _ := hp
  refine AWl.adds (R_callTk 1100 (FnT.tk (implarcs g hg) hK) U U U U (.cons (.tm U) U .nil) U U) U ?_
  refine AWl.nil ?_
  exact EndQ.eq (Le.sub0 (σ' := ⟨_, [(0, _), (1, _), (2, _), (3, _), (4, _), (6, _), (7, _), (8, _), (9, _), (10, _), (11, _)], [(999999, _), (1100, _)]⟩) U ⟨U, U, U, U, U, U, U, U, U, U, U, Y⟩ ⟨U, U, Y⟩) U
 case hS => intros; exact Sup.sub0 rfl ⟨rfl, rfl, rfl, rfl, rfl, rfl, rfl, rfl, rfl, rfl, Y⟩ ⟨rfl, Y⟩
 apply Dh.drw0 (i := 5)
 case ha => rfl
 case ho => rfl
 case hE =>
  intro  hp
  obtain _ := hp
  exact R_makeMap 888888 (f) rfl rfl rfl rfl
 case hb => rfl
 case hL =>
  intro  z12 hp hy
  exact EndQ.eq (Le.sub0 (σ' := ⟨_, [(0, _), (1, _), (2, _), (3, _), (4, _), (6, _), (7, _), (8, _), (9, _), (10, _), (12, _)], [(999999, _), (888888, _)]⟩) U ⟨U, U, U, U, U, U, U, U, U, U, U, Y⟩ ⟨U, U, Y⟩) U
 case hS => intros; exact Sup.sub0 rfl ⟨rfl, rfl, rfl, rfl, rfl, rfl, rfl, rfl, rfl, rfl, Y⟩ ⟨rfl, Y⟩
 apply Dh.drw0 (i := 5)
 case ha => rfl
 case ho => rfl
 case hE =>
  intro  hp
  obtain _ := hp
  exact R_makeMap 888888 (f) rfl rfl rfl rfl
 case hb => rfl
 case hL =>
  intro  z12 hp hy
  exact EndQ.eq (Le.sub0 (σ' := ⟨_, [(0, _), (1, _), (2, _), (3, _), (4, _), (6, _), (7, _), (8, _), (9, _), (10, _), (11, _), (12, _)], [(999999, _), (1100, _), (888888, _)]⟩) U ⟨U, U, U, U, U, U, U, U, U, U, U, U, Y⟩ ⟨U, U, U, Y⟩) U
 case hS => intros; exact Sup.sub0 rfl ⟨rfl, rfl, rfl, rfl, rfl, rfl, rfl, rfl, rfl, rfl, Y⟩ ⟨rfl, Y⟩
 apply Dh.old1 (i := 4)
 case ha | ho | hb => rfl
 case hE =>
  intro w9 z12 hp
  obtain ⟨_, hz12⟩ := hp
  refine AWl.adds (R_callTk 1100 (FnT.tk (implarcs g hg) hK) U U U U (.cons (.tm U) U .nil) U U) U ?_
  exact AWl.nil (Le.sub0 U ⟨U, U, U, U, U, U, U, U, U, U, U, U, Y⟩ ⟨U, U, U, Y⟩)
 refine Dh.fin1 (k := 3) rfl ?_
 intro z12 hp
 obtain ⟨_, hz12⟩ := hp
 refine AWl.p (R_build (ps := [(0, .tmp 7), (1, .tmp 8), (2, .tmp 9), (3, .tmp 11), (4, .tmp 12)]) U U U in75 U U st75 (.cons (.tm U) U U fp75_0 (.cons (.tm U) U U fp75_1 (.cons (.tm U) U U fp75_2 (.cons (.tm U) U U fp75_3 (.cons (.tm U) U U fp75_4 .nil))))) U) U ?_
 refine AWl.add (R_box 14 U U U (.tm U) U U U) U ?_
 refine AWl.av ?_
 refine AWl.nil (AW.ret ?_)
 show NKRes _ _ _ _ _ _
 exact ⟨_, _, _, _, rfl, rfl, rfl, rfl, rfl⟩
theorem implConditionedWitness (g : TGraph) (a : TAutomaton) (c x y : Int) : FnT Try.prog 9 [.agg (cGraph g), .agg (cAutomaton a), .one (.v (.int .i64 c)), .one (.v (.int .i64 x)), .one (.v (.int .i64 y))] (.tup [.agg (cWalk (condWit g a c x y).1), .one (.v (.bool (condWit g a c x y).2))]) := by
 refine FnT.walk Try.func9 U (by kernel_rfl) Try.ntmps9 U fun hlen w0 => ?_
 try simp [cPair, cToken, cExpr, cEdge, cGraph, cStep, cWalk, cChange, cBatch, cHistory, cPositions, cAutomaton, cProductStep, cPathAtom, cConjunction, cView, cDelta, cRegistered, cRegistry] at hlen
 skip
 refine AW.sr ?_
 refine AWl.p (R_boxz U U U (.tm U) (ts := _) (by rfl)) U ?_
 refine AWl.p (R_boxz U U U (.tm U) (ts := _) (by rfl)) U ?_
 refine AWl.add (R_alloc 10 U U U in34 U U U) U ?_
 refine AWl.nilB (b := 10) 20001 2 1 U U U ?_
 refine AWl.ac ?_
 refine AWl.nil (AW.seq ?_)
 refine AW.sr ?_
 refine AWl.p (by exact R_load U (.no U) U (.tm U) ty39 U U) U ?_
 refine AWl.p (by exact R_load U (.no U) U (.tm U) ty41 U U) U ?_
 refine AWl.mv ?_
 refine AWl.mv ?_
 refine AWl.p (R_listz (xs := [.tmp 17, .tmp 18]) (rows := [cInt x, cInt y]) U U U (.cons (.tm U) U U (.cons (.tm U) U U .nil)) Try.underlying22 in3 U U (U)) U ?_
 refine AWl.p (R_callz (FnT.fr (implbothOk g a [x, y])) U (.no U) U (.cons (.tm U) U (.cons (.tm U) U (.cons (.tm U) U .nil)))) U ?_
 refine AWl.p (R_not U (.no U) U (.tm U)) U ?_
 refine AWl.mv ?_
 refine AWl.p (R_move U (by exact .not1 U U U U) U (.tmp U (by exact fun _ => rfl))) U ?_
 refine AWl.p (R_callq U (by exact .not1 U U U U) U (.cons (.tmp U (by exact id)) U (.cons (.const U) U (.cons (.const U) U .nil))) fun hq => FnT.fr (implwithin c 0 4)) U ?_
 refine AWl.p (R_not U (by exact .not1 U U U U) U (.tmp U (by exact id))) U ?_
 refine AWl.p (R_or U (.no U) U (.tm U) (.tmp U (by exact id))) U ?_
 refine AWl.nil ?_
 refine AW.cond (.tm U) (fun h26 => ?_) (fun h26 => ?_)
 · skip
   try simp at h26
   have hno : witOk g a c x y = false := by (unfold witOk; rw [← useful_both]; revert h26; cases bothB g a [x, y] <;> cases inB c 0 4 <;> simp)
   refine AW.seq ?_
   refine AW.le (σ' := ⟨_, [(0, _), (1, _), (2, _), (3, _), (4, _), (5, _), (6, _), (10, _), (11, _)], [(10, _), (20001, _)]⟩) (Le.sub0 U ⟨U, U, U, U, U, U, U, U, U, Y⟩ ⟨U, U, Y⟩) ?_
   refine AW.region ?_
   refine AWl.p (R_build (ps := []) U U U in34 U U st34 .nil U) U ?_
   refine AWl.nilA (i := 27) 20002 2 1 U U U ?_
   refine AWl.chgb (R_store_pb U U U (.tm U) (.tm U) U ty34 U U U (by kernel_rfl) U) ?_
   refine AWl.le (σ' := ⟨_, [(0, _), (1, _), (2, _), (3, _), (4, _), (5, _), (6, _), (10, _), (11, _)], [(10, _), (20001, _), (20002, _)]⟩) (Le.sub0 U ⟨U, U, U, U, U, U, U, U, U, Y⟩ ⟨U, U, U, Y⟩) ?_
   refine AWl.ac ?_
   refine AWl.nil (AW.ret ?_)
   refine Res.many U (.cell U U ty34 U U (.tmp U .nil)) U ?_ (by simp)
   unfold condWit; rw [if_neg (by rw [hno]; simp)]; rfl
 · skip
   try simp at h26
   have hok : witOk g a c x y = true := by (unfold witOk; rw [← useful_both]; revert h26; cases bothB g a [x, y] <;> cases inB c 0 4 <;> simp)
   obtain ⟨hg, ha, hx, hy⟩ := witOk_of hok
   have hA := validA_len ha
   have hdl := distX_le ha hg (c := c) hx hy
   have hcn := distX_cnt ha hg (c := c) hx hy
   have hsm : 2 ^ a.Start.toNat < 2 ^ a.Accept.length := Nat.pow_lt_pow_right (by omega) (by omega)
   refine AW.skip ?_
   refine AW.seq ?_
   refine AW.le (σ' := ⟨_, [(0, _), (1, _), (2, _), (3, _), (4, _), (5, _), (6, _), (10, _), (11, _)], [(10, _), (20001, _)]⟩) (Le.sub0 U ⟨U, U, U, U, U, U, U, U, U, Y⟩ ⟨U, U, Y⟩) ?_
   refine AW.region ?_
   refine AWl.p (by exact R_load U (.no U) U (.tm U) ty39 U U) U ?_
   refine AWl.mv ?_
   refine AWl.p (R_callz (FnT.fr (implallowedArcs g hg c)) U (.no U) U (.cons (.tm U) U (.cons (.tm U) U .nil))) U ?_
   refine AWl.av ?_
   refine AWl.nil (AW.sr ?_)
   refine AWl.p (by exact R_load U (.no U) U (.tm U) ty39 U U) U ?_
   refine AWl.p (by exact R_load U (.no U) U (.tm U) ty41 U U) U ?_
   refine AWl.mv ?_
   refine AWl.mv ?_
   refine AWl.mv ?_
   refine AWl.p (R_callz (FnT.fr (implallowedLength g a ha hg c x y hx hy)) U (.no U) U (.cons (.tm U) U (.cons (.tm U) U (.cons (.tm U) U (.cons (.tm U) U (.cons (.tm U) U .nil)))))) U ?_
   refine AWl.av ?_
   refine AWl.nil (AW.seq ?_)
   refine AW.seq ?_
   refine AW.le (σ' := ⟨_, [(0, _), (1, _), (2, _), (3, _), (4, _), (5, _), (6, _), (10, _), (11, _), (12, _), (13, _)], [(10, _), (20001, _)]⟩) (Le.sub0 U ⟨U, U, U, U, U, U, U, U, U, U, U, Y⟩ ⟨U, U, Y⟩) ?_
   refine AW.region ?_
   refine AWl.mv ?_
   refine AWl.p (R_lt U (.no U) U (.tm U) (.const U)) U ?_
   refine AWl.nil ?_
   refine AW.cond (.tm U) (fun h38 => ?_) (fun h38 => ?_)
   · skip
     try simp at h38
     have hd : distX g a c x y < 0 := h38
     refine AW.sr ?_
     refine AWl.p (R_build (ps := []) U U U in34 U U st34 .nil U) U ?_
     refine AWl.nilA (i := 39) 20003 2 1 U U U ?_
     refine AWl.chgb (R_store_pb U U U (.tm U) (.tm U) U ty34 U U U (by kernel_rfl) U) ?_
     refine AWl.le (σ' := ⟨_, [(0, _), (1, _), (2, _), (3, _), (4, _), (5, _), (6, _), (10, _), (11, _), (12, _), (13, _), (38, _)], [(10, _), (20001, _), (20003, _)]⟩) (Le.sub0 U ⟨U, U, U, U, U, U, U, U, U, U, U, U, Y⟩ ⟨U, U, U, Y⟩) ?_
     refine AWl.ac ?_
     refine AWl.nil (AW.ret ?_)
     refine Res.many U (.cell U U ty34 U U (.tmp U .nil)) U ?_ (by simp)
     unfold condWit; rw [if_neg (by omega)]; rfl
   · skip
     try simp at h38
     have hd : 0 ≤ distX g a c x y := by (unfold distX; omega)
     have hdn : atI (distC g a c y (valAt g y)) (x * (a.Accept.length : Int) + a.Start) = (((distX g a c x y).toNat : Nat) : Int) := by (rw [Int.toNat_of_nonneg hd]; rfl)
     refine AW.skip ?_
     refine AW.sr ?_
     refine AWl.p (by exact R_load U (.no U) U (.tm U) ty39 U U) U ?_
     refine AWl.p (by exact R_load U (.no U) U (.tm U) ty41 U U) U ?_
     refine AWl.mv ?_
     refine AWl.opE (R_callNK 4300 888888 (knF g a c y) (implnewCounter g a hg y (knF g a c y)) U U U (.tm U) (.tm U) (.tm U) U U U ⟨by decide, by decide⟩) ?_
     rintro _ ⟨mb43, rfl⟩
     refine AWl.av ?_
     refine AWl.nil (AW.seq ?_)
     refine AW.le (σ' := ⟨_, [(0, _), (1, _), (2, _), (3, _), (4, _), (5, _), (6, _), (10, _), (11, _), (12, _), (13, _), (14, _)], [(10, _), (20001, _), (888888, _), (4301, _), (4300, _)]⟩) (Le.sub0 U ⟨U, U, U, U, U, U, U, U, U, U, U, U, Y⟩ ⟨U, U, U, U, U, Y⟩) ?_
     refine AW.region ?_
     refine AWl.mv ?_
     refine AWl.mv ?_
     refine AWl.p (by exact R_nilCheck_pp U (.no U) U (.tm U)) U ?_
     refine AWl.p (by exact R_fieldAddr_pp U (.no U) U (.tm U) fl75_3) U ?_
     refine AWl.chgb (R_store_pb U U U (.tm U) (.tm U) U ty68 U U U (by kernel_rfl) U) ?_
     refine AWl.nil (AW.seq ?_)
     refine AW.le (Le.frz 4300 14 (xs := ctrT g a y (arcsCV g c) mb43) U U U) ?_
     refine AW.region ?_
     refine AWl.mv ?_
     refine AWl.mv ?_
     refine AWl.mv ?_
     refine AWl.mv ?_
     refine AWl.mv ?_
     refine AWl.p (R_callz (FnT.fr (implcounterstart g a ha y (arcsCV g c) mb43 x _)) U (.no U) U (.cons (.tm U) U (.cons (.tm U) U (.cons (.tm U) U .nil)))) U ?_
     refine AWl.adds (R_callK (u := 888888) 5400 ((by rw [hdn]; exact implcounternth g a ha hg c y mb43 (distX g a c x y).toNat (by omega) x hx (2 ^ a.Start.toNat) hsm (hcn.1 hd))) U U U U U (.cons (.tm U) U (.cons (.tm U) U (.cons (.const U) U .nil))) U U) U ?_
     refine AWl.p (R_build (ps := [(0, .tmp 48), (1, .tmp 54)]) U U U in34 U U st34 (.cons (.tm U) U U fp34_0 (.cons (.tm U) U U fp34_1 .nil)) U) U ?_
     refine AWl.chgb (R_store_pb U U U (.tm U) (.tm U) U ty34 U U U (by kernel_rfl) U) ?_
     refine AWl.le (σ' := ⟨_, [(0, _), (1, _), (2, _), (3, _), (4, _), (5, _), (6, _), (10, _), (11, _), (12, _), (13, _), (14, _)], [(10, _), (20001, _), (888888, _), (4301, _), (4300, _), (5400, _)]⟩) (Le.sub0 U ⟨U, U, U, U, U, U, U, U, U, U, U, U, Y⟩ ⟨U, U, U, U, U, U, Y⟩) ?_
     refine AWl.ac ?_
     refine AWl.nil (AW.ret ?_)
     refine Res.many U (.cell U U ty34 U U (.tmp U .nil)) U ?_ (by simp)
     unfold condWit; rw [if_pos ⟨hok, hd⟩]; rfl
theorem specl23Walk (g : TGraph) (a : TAutomaton) (c x : Int) (L : List TNd) (hL : L = expL g a c x) (hl : L.length ≤ 20480) (K : Nat) (hK : K < L.length) : FnT Try.prog 25 [.one (.sl 5 (L.map cNd)), .one (.v (.int .i64 (K : Int)))] (.a (.agg (cWalk ⟨x, upS L K K⟩))) := by
 refine FnT.walk Try.func25 U (by kernel_rfl) Try.ntmps25 U fun hlen w0 => ?_
 try simp [cPair, cToken, cExpr, cEdge, cGraph, cStep, cWalk, cChange, cBatch, cHistory, cPositions, cAutomaton, cProductStep, cPathAtom, cConjunction, cView, cDelta, cRegistered, cRegistry] at hlen
 have h00 : L[0]? = some (startN a x) := by (rw [hL]; exact exp_zero g a c x _)
 refine AW.sr ?_
 refine AWl.add (R_alloc 4 U U U in34 U U U) U ?_
 refine AWl.nilB (b := 4) 20001 2 1 U U U ?_
 refine AWl.nil (AW.sr ?_)
 refine AWl.p (R_build (ps := []) U U U in34 U U st34 .nil U) U ?_
 refine AWl.nilA (i := 6) 20002 2 1 U U U ?_
 refine AWl.add (R_alloc 5 U U U in34 U U U) U ?_
 refine AWl.nilB (b := 5) 20003 2 1 U U U ?_
 refine AWl.chgb (R_store_pb U U U (.tm U) (.tm U) U ty34 U U U (by kernel_rfl) U) ?_
 refine AWl.nil (AW.seq ?_)
 refine AW.block ?_
 refine AW.loop2 (fun (κ : Int) (W : List TStep) => ((0 ≤ κ ∧ κ.toNat < L.length) ∧ W.length + κ.toNat ≤ K) ∧ upS L κ.toNat κ.toNat ++ W = upS L K K) (fun (κ : Int) (W : List TStep) => ⟨_, [(1, (true, .a (.one (.t (.v (.int .i64 κ)))))), (0, _), (4, _), (5, _)], [(4, .box [.t (.v (.int .i64 0)), .rf 20001]), (20001, .row 2 []), (5, .box [.t (.v (.int .i64 0)), .rf 20002]), (20002, .row 2 (W.map cStep))]⟩) (fun (κ : Int) (W : List TStep) => κ.toNat) ((K : Int)) ([]) ⟨⟨⟨by omega, by simpa using hK⟩, by simp⟩, (by simp)⟩ (Le.sub0 U ⟨U, U, U, U, Y⟩ ⟨U, U, U, U, Y⟩) ?_
 rintro κ W ⟨hk, he⟩
 obtain ⟨d, hd⟩ : ∃ ξ, L[κ.toNat]? = some ξ := ⟨_, List.getElem?_eq_getElem hk.1.2⟩
 refine AW.seq ?_
 refine AW.sr ?_
 refine AWl.mv ?_
 refine AWl.p (R_ge U (.no U) U (.tm U) (.const U)) U ?_
 refine AWl.mv ?_
 refine AWl.p (R_move U (by exact .yes1 U U U U) U (.tmp U (by exact fun _ => rfl))) U ?_
 refine AWl.p (R_move U (by exact .yes1 U U U U) U (.tmp U (by exact fun _ => rfl))) U ?_
 refine AWl.p (by exact R_indexAddr U (by exact .yes1 U U U U) U (.tmp U (by exact id)) (.tmp U (by exact id)) Try.underlying56 ty61 (fun hq => by (try simp at hq); exact ⟨by omega, (by exact map_get hd)⟩)) U ?_
 refine AWl.p (by exact R_fieldAddr U (by exact .yes1 U U U U) U (.tmp U (by exact id)) fl61_2) U ?_
 refine AWl.p (by exact R_load U (by exact .yes1 U U U U) U (.tmp U (by exact id)) ty3 U U) U ?_
 refine AWl.p (R_ge U (by exact .yes1 U U U U) U (.tmp U (by exact id)) (.const U)) U ?_
 refine AWl.p (R_and U (.no U) U (.tm U) (.tmp U (by exact id))) U ?_
 refine AWl.nil ?_
 refine AW.cond (.tm U) (fun h16 => ?_) (fun h16 => ?_)
 · skip
   try simp at h16
   have hf0 : 0 ≤ d.from_ := by (first | omega | (simp at h16; omega))
   have hup := up_next hL hd hf0
   refine AW.skip ?_
   refine AW.block ?_
   refine AW.seq ?_
   refine AW.le (σ' := ⟨_, [(0, _), (1, _), (4, _), (5, _)], [(4, _), (20001, _), (5, _), (20002, _)]⟩) (Le.sub0 U ⟨U, U, U, U, Y⟩ ⟨U, U, U, U, Y⟩) ?_
   refine AW.dagn 11 26 [[], [0], [1], [6], [0, 1], [0, 6], [1, 6], [6, 7], [0, 1, 2], [0, 1, 6], [0, 6, 7], [1, 6, 7], [0, 1, 2, 3], [0, 1, 2, 6], [0, 1, 6, 7], [0, 1, 2, 3, 4], [0, 1, 2, 3, 6], [0, 1, 2, 6, 7], [0, 1, 2, 3, 4, 5], [0, 1, 2, 3, 4, 6], [0, 1, 2, 3, 6, 7], [0, 1, 2, 3, 4, 5, 6], [0, 1, 2, 3, 4, 6, 7], [0, 1, 2, 3, 4, 5, 6, 7], [0, 1, 2, 3, 4, 5, 6, 7, 8], [0, 1, 2, 3, 4, 5, 6, 7, 8, 9], [0, 1, 2, 3, 4, 5, 6, 7, 8, 9, 10]] [(0, 0, 1), (0, 1, 2), (0, 6, 3), (1, 1, 4), (2, 0, 4), (1, 6, 5), (3, 0, 5), (2, 6, 6), (3, 1, 6), (3, 7, 7), (4, 2, 8), (4, 6, 9), (6, 0, 9), (5, 1, 9), (5, 7, 10), (7, 0, 10), (6, 7, 11), (7, 1, 11), (8, 3, 12), (8, 6, 13), (9, 2, 13), (9, 7, 14), (11, 0, 14), (10, 1, 14), (12, 4, 15), (12, 6, 16), (13, 3, 16), (13, 7, 17), (14, 2, 17), (15, 5, 18), (15, 6, 19), (16, 4, 19), (16, 7, 20), (17, 3, 20), (18, 6, 21), (19, 5, 21), (19, 7, 22), (20, 4, 22), (21, 7, 23), (22, 5, 23), (23, 8, 24), (24, 9, 25), (25, 10, 26)] (by kernel_rfl) (by kernel_rfl) (by kernel_rfl) ?_
   apply Dag.new (i := 0)
   case ha | ho | hb => rfl
   case hE =>
    intro w9
    refine AWl.mv ?_
    exact AWl.nil (Le.sub0 (σ' := ⟨_, [(0, _), (1, _), (4, _), (5, _), (17, _)], [(4, _), (20001, _), (5, _), (20002, _)]⟩) U ⟨U, U, U, U, U, Y⟩ ⟨U, U, U, U, Y⟩)
   apply Dag.new (i := 1)
   case ha | ho | hb => rfl
   case hE =>
    intro w9
    refine AWl.mv ?_
    exact AWl.nil (Le.sub0 (σ' := ⟨_, [(0, _), (1, _), (4, _), (5, _), (18, _)], [(4, _), (20001, _), (5, _), (20002, _)]⟩) U ⟨U, U, U, U, U, Y⟩ ⟨U, U, U, U, Y⟩)
   apply Dag.new (i := 6)
   case ha | ho | hb => rfl
   case hE =>
    intro w9
    refine AWl.p (by exact R_fieldAddr_pp U (.no U) U (.tm U) fl34_1) U ?_
    exact AWl.nil (Le.sub0 (σ' := ⟨_, [(0, _), (1, _), (4, _), (5, _), (23, _)], [(4, _), (20001, _), (5, _), (20002, _)]⟩) U ⟨U, U, U, U, U, Y⟩ ⟨U, U, U, U, Y⟩)
   apply Dag.new (i := 1)
   case ha | ho | hb => rfl
   case hE =>
    intro w9
    refine AWl.mv ?_
    exact AWl.nil (Le.sub0 (σ' := ⟨_, [(0, _), (1, _), (4, _), (5, _), (17, _), (18, _)], [(4, _), (20001, _), (5, _), (20002, _)]⟩) U ⟨U, U, U, U, U, U, Y⟩ ⟨U, U, U, U, Y⟩)
   apply Dag.old (i := 0)
   case ha | ho | hb => rfl
   case hE =>
    intro w9
    refine AWl.mv ?_
    exact AWl.nil (Le.sub0 U ⟨U, U, U, U, U, U, Y⟩ ⟨U, U, U, U, Y⟩)
   apply Dag.new (i := 6)
   case ha | ho | hb => rfl
   case hE =>
    intro w9
    refine AWl.p (by exact R_fieldAddr_pp U (.no U) U (.tm U) fl34_1) U ?_
    exact AWl.nil (Le.sub0 (σ' := ⟨_, [(0, _), (1, _), (4, _), (5, _), (17, _), (23, _)], [(4, _), (20001, _), (5, _), (20002, _)]⟩) U ⟨U, U, U, U, U, U, Y⟩ ⟨U, U, U, U, Y⟩)
   apply Dag.old (i := 0)
   case ha | ho | hb => rfl
   case hE =>
    intro w9
    refine AWl.mv ?_
    exact AWl.nil (Le.sub0 U ⟨U, U, U, U, U, U, Y⟩ ⟨U, U, U, U, Y⟩)
   apply Dag.new (i := 6)
   case ha | ho | hb => rfl
   case hE =>
    intro w9
    refine AWl.p (by exact R_fieldAddr_pp U (.no U) U (.tm U) fl34_1) U ?_
    exact AWl.nil (Le.sub0 (σ' := ⟨_, [(0, _), (1, _), (4, _), (5, _), (18, _), (23, _)], [(4, _), (20001, _), (5, _), (20002, _)]⟩) U ⟨U, U, U, U, U, U, Y⟩ ⟨U, U, U, U, Y⟩)
   apply Dag.old (i := 1)
   case ha | ho | hb => rfl
   case hE =>
    intro w9
    refine AWl.mv ?_
    exact AWl.nil (Le.sub0 U ⟨U, U, U, U, U, U, Y⟩ ⟨U, U, U, U, Y⟩)
   apply Dag.new (i := 7)
   case ha | ho | hb => rfl
   case hE =>
    intro w9
    refine AWl.p (by exact R_load_pp U (.no U) U (.tm U) U ty32 U U) U ?_
    exact AWl.nil (Le.sub0 (σ' := ⟨_, [(0, _), (1, _), (4, _), (5, _), (24, _)], [(4, _), (20001, _), (5, _), (20002, _)]⟩) U ⟨U, U, U, U, U, Y⟩ ⟨U, U, U, U, Y⟩)
   apply Dag.new (i := 2)
   case ha | ho | hb => rfl
   case hE =>
    intro w9
    refine AWl.p (by exact R_indexAddr U (.no U) U (.tm U) (.tm U) Try.underlying56 ty61 (fun _ => ⟨by omega, (by exact map_get hd)⟩)) U ?_
    exact AWl.nil (Le.sub0 (σ' := ⟨_, [(0, _), (1, _), (4, _), (5, _), (19, _)], [(4, _), (20001, _), (5, _), (20002, _)]⟩) U ⟨U, U, U, U, U, Y⟩ ⟨U, U, U, U, Y⟩)
   apply Dag.new (i := 6)
   case ha | ho | hb => rfl
   case hE =>
    intro w9
    refine AWl.p (by exact R_fieldAddr_pp U (.no U) U (.tm U) fl34_1) U ?_
    exact AWl.nil (Le.sub0 (σ' := ⟨_, [(0, _), (1, _), (4, _), (5, _), (17, _), (18, _), (23, _)], [(4, _), (20001, _), (5, _), (20002, _)]⟩) U ⟨U, U, U, U, U, U, U, Y⟩ ⟨U, U, U, U, Y⟩)
   apply Dag.old (i := 0)
   case ha | ho | hb => rfl
   case hE =>
    intro w9
    refine AWl.mv ?_
    exact AWl.nil (Le.sub0 U ⟨U, U, U, U, U, U, U, Y⟩ ⟨U, U, U, U, Y⟩)
   apply Dag.old (i := 1)
   case ha | ho | hb => rfl
   case hE =>
    intro w9
    refine AWl.mv ?_
    exact AWl.nil (Le.sub0 U ⟨U, U, U, U, U, U, U, Y⟩ ⟨U, U, U, U, Y⟩)
   apply Dag.new (i := 7)
   case ha | ho | hb => rfl
   case hE =>
    intro w9
    refine AWl.p (by exact R_load_pp U (.no U) U (.tm U) U ty32 U U) U ?_
    exact AWl.nil (Le.sub0 (σ' := ⟨_, [(0, _), (1, _), (4, _), (5, _), (17, _), (24, _)], [(4, _), (20001, _), (5, _), (20002, _)]⟩) U ⟨U, U, U, U, U, U, Y⟩ ⟨U, U, U, U, Y⟩)
   apply Dag.old (i := 0)
   case ha | ho | hb => rfl
   case hE =>
    intro w9
    refine AWl.mv ?_
    exact AWl.nil (Le.sub0 U ⟨U, U, U, U, U, U, Y⟩ ⟨U, U, U, U, Y⟩)
   apply Dag.new (i := 7)
   case ha | ho | hb => rfl
   case hE =>
    intro w9
    refine AWl.p (by exact R_load_pp U (.no U) U (.tm U) U ty32 U U) U ?_
    exact AWl.nil (Le.sub0 (σ' := ⟨_, [(0, _), (1, _), (4, _), (5, _), (18, _), (24, _)], [(4, _), (20001, _), (5, _), (20002, _)]⟩) U ⟨U, U, U, U, U, U, Y⟩ ⟨U, U, U, U, Y⟩)
   apply Dag.old (i := 1)
   case ha | ho | hb => rfl
   case hE =>
    intro w9
    refine AWl.mv ?_
    exact AWl.nil (Le.sub0 U ⟨U, U, U, U, U, U, Y⟩ ⟨U, U, U, U, Y⟩)
   apply Dag.new (i := 3)
   case ha | ho | hb => rfl
   case hE =>
    intro w9
    refine AWl.p (by exact R_fieldAddr U (.no U) U (.tm U) fl61_3) U ?_
    exact AWl.nil (Le.sub0 (σ' := ⟨_, [(0, _), (1, _), (4, _), (5, _), (20, _)], [(4, _), (20001, _), (5, _), (20002, _)]⟩) U ⟨U, U, U, U, U, Y⟩ ⟨U, U, U, U, Y⟩)
   apply Dag.new (i := 6)
   case ha | ho | hb => rfl
   case hE =>
    intro w9
    refine AWl.p (by exact R_fieldAddr_pp U (.no U) U (.tm U) fl34_1) U ?_
    exact AWl.nil (Le.sub0 (σ' := ⟨_, [(0, _), (1, _), (4, _), (5, _), (19, _), (23, _)], [(4, _), (20001, _), (5, _), (20002, _)]⟩) U ⟨U, U, U, U, U, U, Y⟩ ⟨U, U, U, U, Y⟩)
   apply Dag.old (i := 2)
   case ha | ho | hb => rfl
   case hE =>
    intro w9
    refine AWl.p (by exact R_indexAddr U (.no U) U (.tm U) (.tm U) Try.underlying56 ty61 (fun _ => ⟨by omega, (by exact map_get hd)⟩)) U ?_
    exact AWl.nil (Le.sub0 U ⟨U, U, U, U, U, U, Y⟩ ⟨U, U, U, U, Y⟩)
   apply Dag.new (i := 7)
   case ha | ho | hb => rfl
   case hE =>
    intro w9
    refine AWl.p (by exact R_load_pp U (.no U) U (.tm U) U ty32 U U) U ?_
    exact AWl.nil (Le.sub0 (σ' := ⟨_, [(0, _), (1, _), (4, _), (5, _), (17, _), (18, _), (24, _)], [(4, _), (20001, _), (5, _), (20002, _)]⟩) U ⟨U, U, U, U, U, U, U, Y⟩ ⟨U, U, U, U, Y⟩)
   apply Dag.old (i := 0)
   case ha | ho | hb => rfl
   case hE =>
    intro w9
    refine AWl.mv ?_
    exact AWl.nil (Le.sub0 U ⟨U, U, U, U, U, U, U, Y⟩ ⟨U, U, U, U, Y⟩)
   apply Dag.old (i := 1)
   case ha | ho | hb => rfl
   case hE =>
    intro w9
    refine AWl.mv ?_
    exact AWl.nil (Le.sub0 U ⟨U, U, U, U, U, U, U, Y⟩ ⟨U, U, U, U, Y⟩)
   apply Dag.new (i := 4)
   case ha | ho | hb => rfl
   case hE =>
    intro w9
    refine AWl.p (by exact R_load U (.no U) U (.tm U) ty59 U U) U ?_
    exact AWl.nil (Le.sub0 (σ' := ⟨_, [(0, _), (1, _), (4, _), (5, _), (21, _)], [(4, _), (20001, _), (5, _), (20002, _)]⟩) U ⟨U, U, U, U, U, Y⟩ ⟨U, U, U, U, Y⟩)
   apply Dag.new (i := 6)
   case ha | ho | hb => rfl
   case hE =>
    intro w9
    refine AWl.p (by exact R_fieldAddr_pp U (.no U) U (.tm U) fl34_1) U ?_
    exact AWl.nil (Le.sub0 (σ' := ⟨_, [(0, _), (1, _), (4, _), (5, _), (20, _), (23, _)], [(4, _), (20001, _), (5, _), (20002, _)]⟩) U ⟨U, U, U, U, U, U, Y⟩ ⟨U, U, U, U, Y⟩)
   apply Dag.old (i := 3)
   case ha | ho | hb => rfl
   case hE =>
    intro w9
    refine AWl.p (by exact R_fieldAddr U (.no U) U (.tm U) fl61_3) U ?_
    exact AWl.nil (Le.sub0 U ⟨U, U, U, U, U, U, Y⟩ ⟨U, U, U, U, Y⟩)
   apply Dag.new (i := 7)
   case ha | ho | hb => rfl
   case hE =>
    intro w9
    refine AWl.p (by exact R_load_pp U (.no U) U (.tm U) U ty32 U U) U ?_
    exact AWl.nil (Le.sub0 (σ' := ⟨_, [(0, _), (1, _), (4, _), (5, _), (19, _), (24, _)], [(4, _), (20001, _), (5, _), (20002, _)]⟩) U ⟨U, U, U, U, U, U, Y⟩ ⟨U, U, U, U, Y⟩)
   apply Dag.old (i := 2)
   case ha | ho | hb => rfl
   case hE =>
    intro w9
    refine AWl.p (by exact R_indexAddr U (.no U) U (.tm U) (.tm U) Try.underlying56 ty61 (fun _ => ⟨by omega, (by exact map_get hd)⟩)) U ?_
    exact AWl.nil (Le.sub0 U ⟨U, U, U, U, U, U, Y⟩ ⟨U, U, U, U, Y⟩)
   apply Dag.new (i := 5)
   case ha | ho | hb => rfl
   case hE =>
    intro w9
    refine AWl.absadd (R_list (xs := [.tmp 21]) 22 U U U (.cons (.tm U) U U .nil) Try.underlying32 in59 U U U U) U ?_
    exact AWl.nil (Le.sub0 (σ' := ⟨_, [(0, _), (1, _), (4, _), (5, _), (22, _)], [(4, _), (20001, _), (5, _), (20002, _), (22, _)]⟩) U ⟨U, U, U, U, U, Y⟩ ⟨U, U, U, U, U, Y⟩)
   apply Dag.new (i := 6)
   case ha | ho | hb => rfl
   case hE =>
    intro w9
    refine AWl.p (by exact R_fieldAddr_pp U (.no U) U (.tm U) fl34_1) U ?_
    exact AWl.nil (Le.sub0 (σ' := ⟨_, [(0, _), (1, _), (4, _), (5, _), (21, _), (23, _)], [(4, _), (20001, _), (5, _), (20002, _)]⟩) U ⟨U, U, U, U, U, U, Y⟩ ⟨U, U, U, U, Y⟩)
   apply Dag.old (i := 4)
   case ha | ho | hb => rfl
   case hE =>
    intro w9
    refine AWl.p (by exact R_load U (.no U) U (.tm U) ty59 U U) U ?_
    exact AWl.nil (Le.sub0 U ⟨U, U, U, U, U, U, Y⟩ ⟨U, U, U, U, Y⟩)
   apply Dag.new (i := 7)
   case ha | ho | hb => rfl
   case hE =>
    intro w9
    refine AWl.p (by exact R_load_pp U (.no U) U (.tm U) U ty32 U U) U ?_
    exact AWl.nil (Le.sub0 (σ' := ⟨_, [(0, _), (1, _), (4, _), (5, _), (20, _), (24, _)], [(4, _), (20001, _), (5, _), (20002, _)]⟩) U ⟨U, U, U, U, U, U, Y⟩ ⟨U, U, U, U, Y⟩)
   apply Dag.old (i := 3)
   case ha | ho | hb => rfl
   case hE =>
    intro w9
    refine AWl.p (by exact R_fieldAddr U (.no U) U (.tm U) fl61_3) U ?_
    exact AWl.nil (Le.sub0 U ⟨U, U, U, U, U, U, Y⟩ ⟨U, U, U, U, Y⟩)
   apply Dag.new (i := 6)
   case ha | ho | hb => rfl
   case hE =>
    intro w9
    refine AWl.p (by exact R_fieldAddr_pp U (.no U) U (.tm U) fl34_1) U ?_
    exact AWl.nil (Le.sub0 (σ' := ⟨_, [(0, _), (1, _), (4, _), (5, _), (22, _), (23, _)], [(4, _), (20001, _), (5, _), (20002, _), (22, _)]⟩) U ⟨U, U, U, U, U, U, Y⟩ ⟨U, U, U, U, U, Y⟩)
   apply Dag.old (i := 5)
   case ha | ho | hb => rfl
   case hE =>
    intro w9
    refine AWl.absadd (R_list (xs := [.tmp 21]) 22 U U U (.cons (.tm U) U U .nil) Try.underlying32 in59 U U U U) U ?_
    exact AWl.nil (Le.sub0 U ⟨U, U, U, U, U, U, Y⟩ ⟨U, U, U, U, U, Y⟩)
   apply Dag.new (i := 7)
   case ha | ho | hb => rfl
   case hE =>
    intro w9
    refine AWl.p (by exact R_load_pp U (.no U) U (.tm U) U ty32 U U) U ?_
    exact AWl.nil (Le.sub0 (σ' := ⟨_, [(0, _), (1, _), (4, _), (5, _), (21, _), (24, _)], [(4, _), (20001, _), (5, _), (20002, _)]⟩) U ⟨U, U, U, U, U, U, Y⟩ ⟨U, U, U, U, Y⟩)
   apply Dag.old (i := 4)
   case ha | ho | hb => rfl
   case hE =>
    intro w9
    refine AWl.p (by exact R_load U (.no U) U (.tm U) ty59 U U) U ?_
    exact AWl.nil (Le.sub0 U ⟨U, U, U, U, U, U, Y⟩ ⟨U, U, U, U, Y⟩)
   apply Dag.new (i := 7)
   case ha | ho | hb => rfl
   case hE =>
    intro w9
    refine AWl.p (by exact R_load_pp U (.no U) U (.tm U) U ty32 U U) U ?_
    exact AWl.nil (Le.sub0 (σ' := ⟨_, [(0, _), (1, _), (4, _), (5, _), (22, _), (24, _)], [(4, _), (20001, _), (5, _), (20002, _), (22, _)]⟩) U ⟨U, U, U, U, U, U, Y⟩ ⟨U, U, U, U, U, Y⟩)
   apply Dag.old (i := 5)
   case ha | ho | hb => rfl
   case hE =>
    intro w9
    refine AWl.absadd (R_list (xs := [.tmp 21]) 22 U U U (.cons (.tm U) U U .nil) Try.underlying32 in59 U U U U) U ?_
    exact AWl.nil (Le.sub0 U ⟨U, U, U, U, U, U, Y⟩ ⟨U, U, U, U, U, Y⟩)
   apply Dag.new (i := 8)
   case ha | ho | hb => rfl
   case hE =>
    intro w9
    refine AWl.chgput (R_append U U U (.tm U) U (.tm U) (by exact .rf U) (by exact isV_map (fun _ => rfl) _) Try.underlying32 in59 U (by (simp [chunk]; omega)) (by (unfold maxLen; simp [chunk]; omega))) U ?_
    exact AWl.nil (Le.sub0 (σ' := ⟨_, [(0, _), (1, _), (4, _), (5, _), (25, _)], [(4, _), (20001, _), (5, _), (20002, _), (22, _)]⟩) U ⟨U, U, U, U, U, Y⟩ ⟨U, U, U, U, U, Y⟩)
   apply Dag.new (i := 9)
   case ha | ho | hb => rfl
   case hE =>
    intro w9
    refine AWl.p (by exact R_fieldAddr_pp U (.no U) U (.tm U) fl34_1) U ?_
    exact AWl.nil (Le.sub0 (σ' := ⟨_, [(0, _), (1, _), (4, _), (5, _), (25, _), (26, _)], [(4, _), (20001, _), (5, _), (20002, _), (22, _)]⟩) U ⟨U, U, U, U, U, U, Y⟩ ⟨U, U, U, U, U, Y⟩)
   apply Dag.new (i := 10)
   case ha | ho | hb => rfl
   case hE =>
    intro w9
    refine AWl.chgb (R_store_pb U U U (.tm U) (.tm U) U ty32 U U U (by kernel_rfl) U) ?_
    exact AWl.nil (Le.sub0 (σ' := ⟨_, [(0, _), (1, _), (4, _), (5, _)], [(4, _), (20001, _), (5, _), (20002, _), (22, _)]⟩) U ⟨U, U, U, U, Y⟩ ⟨U, U, U, U, U, Y⟩)
   refine Dag.fin (k := 26) U ?_
   refine AWl.nil ?_
   refine AW.le (Le.sw 20002 22 _) ?_
   refine AW.region ?_
   refine AWl.mv ?_
   refine AWl.mv ?_
   refine AWl.p (by exact R_indexAddr U (.no U) U (.tm U) (.tm U) Try.underlying56 ty61 (fun _ => ⟨by omega, (by exact map_get hd)⟩)) U ?_
   refine AWl.p (by exact R_fieldAddr U (.no U) U (.tm U) fl61_2) U ?_
   refine AWl.p (by exact R_load U (.no U) U (.tm U) ty3 U U) U ?_
   refine AWl.av ?_
   refine AWl.nil ?_
   repeat (with_reducible refine BlockQ.nor ?_)
   refine Round2.next (d.from_) (d.step :: W) ⟨⟨⟨hf0, by omega⟩, by simp; omega⟩, by rw [← he, hup.2]; simp⟩ (by omega) (Le.sub0 rfl ⟨rfl, rfl, rfl, rfl, Y⟩ ⟨(by rfl), (by rfl), (by rfl), (by rfl), Y⟩)
 · skip
   try simp at h16
   have hfn : d.from_ < 0 := by (first | omega | (simp at h16; omega))
   refine AW.exit ?_
   refine AW.seq ?_
   refine AW.le (σ' := ⟨_, [(0, _), (1, _), (4, _), (5, _)], [(4, _), (20001, _), (5, _), (20002, _)]⟩) (Le.sub0 U ⟨U, U, U, U, Y⟩ ⟨U, U, U, U, Y⟩) ?_
   refine AW.region ?_
   refine AWl.mv ?_
   refine AWl.p (by exact R_indexAddr U (.no U) U (.tm U) (.const U) Try.underlying56 ty61 (fun _ => ⟨by omega, (by exact map_get h00)⟩)) U ?_
   refine AWl.p (by exact R_fieldAddr U (.no U) U (.tm U) fl61_0) U ?_
   refine AWl.p (by exact R_load U (.no U) U (.tm U) ty3 U U) U ?_
   refine AWl.p (by exact R_fieldAddr_pp U (.no U) U (.tm U) fl34_0) U ?_
   refine AWl.chgb (R_store_pb U U U (.tm U) (.tm U) U ty3 U U U (by kernel_rfl) U) ?_
   refine AWl.nil (AW.sr ?_)
   refine AWl.p (by exact R_load_pp U (.no U) U (.tm U) U ty34 U U) U ?_
   refine AWl.chgb (R_store_pb U U U (.tm U) (.tm U) U ty34 U U U (by kernel_rfl) U) ?_
   refine AWl.nil (AW.ret ?_)
   refine Res.one U (.cell U U ty34 U U .nil) U ?_
   (have hu := upS_end (f := κ.toNat) hd hfn); rw [hu, List.nil_append] at he; rw [he]; rfl
theorem specConditionedWitness (g : TGraph) (a : TAutomaton) (c x y : Int) : FnT Try.prog 6 [.agg (cGraph g), .agg (cAutomaton a), .one (.v (.int .i64 c)), .one (.v (.int .i64 x)), .one (.v (.int .i64 y))] (.tup [.agg (cWalk (condWit g a c x y).1), .one (.v (.bool (condWit g a c x y).2))]) := by
 refine FnT.walk Try.func6 U (by kernel_rfl) Try.ntmps6 U fun hlen w0 => ?_
 try simp [cPair, cToken, cExpr, cEdge, cGraph, cStep, cWalk, cChange, cBatch, cHistory, cPositions, cAutomaton, cProductStep, cPathAtom, cConjunction, cView, cDelta, cRegistered, cRegistry] at hlen
 skip
 refine AW.sr ?_
 refine AWl.p (R_boxz U U U (.tm U) (ts := _) (by rfl)) U ?_
 refine AWl.p (R_boxz U U U (.tm U) (ts := _) (by rfl)) U ?_
 refine AWl.add (R_alloc 10 U U U in34 U U U) U ?_
 refine AWl.nilB (b := 10) 20001 2 1 U U U ?_
 refine AWl.ac ?_
 refine AWl.nil (AW.seq ?_)
 refine AW.sr ?_
 refine AWl.p (by exact R_load U (.no U) U (.tm U) ty39 U U) U ?_
 refine AWl.p (by exact R_load U (.no U) U (.tm U) ty41 U U) U ?_
 refine AWl.mv ?_
 refine AWl.p (R_callz (FnT.fr (specl14Good g a x 0)) U (.no U) U (.cons (.tm U) U (.cons (.tm U) U (.cons (.tm U) U (.cons (.const U) U .nil))))) U ?_
 refine AWl.p (R_not U (.no U) U (.tm U)) U ?_
 refine AWl.mv ?_
 refine AWl.p (by exact R_load U (by exact .not1 U U U U) U (.tmp U (by exact fun _ => rfl)) ty39 U U) U ?_
 refine AWl.p (by exact R_load U (by exact .not1 U U U U) U (.tmp U (by exact fun _ => rfl)) ty41 U U) U ?_
 refine AWl.p (R_move U (by exact .not1 U U U U) U (.tmp U (by exact fun _ => rfl))) U ?_
 refine AWl.p (R_callq U (by exact .not1 U U U U) U (.cons (.tmp U (by exact id)) U (.cons (.tmp U (by exact id)) U (.cons (.tmp U (by exact id)) U (.cons (.const U) U .nil)))) fun hq => FnT.fr (specl14Good g a y 0)) U ?_
 refine AWl.p (R_not U (by exact .not1 U U U U) U (.tmp U (by exact id))) U ?_
 refine AWl.p (R_or U (.no U) U (.tm U) (.tmp U (by exact id))) U ?_
 refine AWl.mv ?_
 refine AWl.p (R_move U (by exact .not1 U U U U) U (.tmp U (by exact fun _ => rfl))) U ?_
 refine AWl.p (R_callq U (by exact .not1 U U U U) U (.cons (.tmp U (by exact id)) U (.cons (.const U) U (.cons (.const U) U .nil))) fun hq => FnT.fr (specl1In c 0 4)) U ?_
 refine AWl.p (R_not U (by exact .not1 U U U U) U (.tmp U (by exact id))) U ?_
 refine AWl.p (R_or U (.no U) U (.tm U) (.tmp U (by exact id))) U ?_
 refine AWl.nil ?_
 refine AW.cond (.tm U) (fun h30 => ?_) (fun h30 => ?_)
 · skip
   try simp at h30
   have hno : witOk g a c x y = false := by (unfold witOk usefulOk; revert h30; cases goodB g a x 0 <;> cases goodB g a y 0 <;> cases inB c 0 4 <;> simp)
   refine AW.seq ?_
   refine AW.le (σ' := ⟨_, [(0, _), (1, _), (2, _), (3, _), (4, _), (5, _), (6, _), (10, _), (11, _)], [(10, _), (20001, _)]⟩) (Le.sub0 U ⟨U, U, U, U, U, U, U, U, U, Y⟩ ⟨U, U, Y⟩) ?_
   refine AW.region ?_
   refine AWl.p (R_build (ps := []) U U U in34 U U st34 .nil U) U ?_
   refine AWl.nilA (i := 31) 20002 2 1 U U U ?_
   refine AWl.chgb (R_store_pb U U U (.tm U) (.tm U) U ty34 U U U (by kernel_rfl) U) ?_
   refine AWl.le (σ' := ⟨_, [(0, _), (1, _), (2, _), (3, _), (4, _), (5, _), (6, _), (10, _), (11, _)], [(10, _), (20001, _), (20002, _)]⟩) (Le.sub0 U ⟨U, U, U, U, U, U, U, U, U, Y⟩ ⟨U, U, U, Y⟩) ?_
   refine AWl.ac ?_
   refine AWl.nil (AW.ret ?_)
   refine Res.many U (.cell U U ty34 U U (.tmp U .nil)) U ?_ (by simp)
   unfold condWit; rw [if_neg (by rw [hno]; simp)]; rfl
 · skip
   try simp at h30
   have hok : witOk g a c x y = true := by (unfold witOk usefulOk; revert h30; cases goodB g a x 0 <;> cases goodB g a y 0 <;> cases inB c 0 4 <;> simp)
   obtain ⟨hg, ha, hx, hy⟩ := witOk_of hok
   have hel := expL_len ha hg (c := c) hx
   refine AW.skip ?_
   refine AW.seq ?_
   refine AW.le (σ' := ⟨_, [(0, _), (1, _), (2, _), (3, _), (4, _), (5, _), (6, _), (10, _), (11, _)], [(10, _), (20001, _)]⟩) (Le.sub0 U ⟨U, U, U, U, U, U, U, U, U, Y⟩ ⟨U, U, Y⟩) ?_
   refine AW.region ?_
   refine AWl.p (by exact R_load U (.no U) U (.tm U) ty39 U U) U ?_
   refine AWl.p (by exact R_load U (.no U) U (.tm U) ty41 U U) U ?_
   refine AWl.mv ?_
   refine AWl.mv ?_
   refine AWl.p (R_callz (FnT.fr (specl23Explore g a ha hg c x hx)) U (.no U) U (.cons (.tm U) U (.cons (.tm U) U (.cons (.tm U) U (.cons (.tm U) U .nil))))) U ?_
   refine AWl.av ?_
   refine AWl.nil (AW.seq ?_)
   refine AW.sr ?_
   refine AWl.ac ?_
   refine AWl.nil (AW.block ?_)
   refine AW.loop1 (fun (k : Nat) => (k ≤ (expL g a c x).length ∧ ∀ i di, i < k → (expL g a c x)[i]? = some di → ¬ (di.node = y ∧ endN g a di = true)) ∧ True) (fun (k : Nat) => ⟨_, [(13, (true, .a (.one (.t (.v (.int .i64 (k : Nat))))))), (4, _), (5, _), (6, _), (10, _), (12, _)], [(10, .box [.t (.v (.int .i64 0)), .rf 20001]), (20001, .row 2 [])]⟩) (fun (k : Nat) => (expL g a c x).length - k) (0) ⟨⟨Nat.zero_le _, fun i _ hi => absurd hi (Nat.not_lt_zero i)⟩, Y⟩ (Le.sub0 U ⟨U, U, U, U, U, U, Y⟩ ⟨U, U, Y⟩) ?_
   rintro k ⟨hk, he⟩
   refine AW.seq ?_
   refine AW.sr ?_
   refine AWl.mv ?_
   refine AWl.mv ?_
   refine AWl.p (by exact R_lenm U (.no U) U (.tm U) (by exact .t) Try.underlying56) U ?_
   refine AWl.p (R_lt U (.no U) U (.tm U) (.tm U)) U ?_
   refine AWl.nil ?_
   refine AW.cond (.tm U) (fun h40 => ?_) (fun h40 => ?_)
   · skip
     try simp at h40
     obtain ⟨d, hd⟩ : ∃ ξ, (expL g a c x)[k]? = some ξ := ⟨_, List.getElem?_eq_getElem (by omega)⟩
     have hr := (expL_mem ha hg (c := c) hx).1 (List.mem_map.2 ⟨d, List.mem_of_getElem? hd, rfl⟩)
     have hrr := hr.rng ha hg hx
     refine AW.skip ?_
     refine AW.seq ?_
     refine AW.block ?_
     refine AW.seq ?_
     refine AW.drawn 22 (nthB [[], [], [0, 1], [0, 1, 2], [0, 1, 2, 3], [], [0, 1, 2, 3, 4, 5], [0, 1, 2, 3, 4, 5, 6], [0, 1, 2, 3, 4, 5, 6, 7], [0, 1, 2, 3, 4, 5, 6, 7], [0, 1, 2, 3, 4, 5, 6, 7], [0, 1, 2, 3, 4, 5, 6, 7], [0, 1, 2, 3, 4, 5, 6, 7, 10, 11], [0, 1, 2, 3, 4, 5, 6, 7, 10, 11, 12], [0, 1, 2, 3, 4, 5, 6, 7, 10, 11, 12, 13], [0, 1, 2, 3, 4, 5, 6, 7], [0, 1, 2, 3, 4, 5, 6, 7], [0, 1, 2, 3, 4, 5, 6, 7, 15, 16], [0, 1, 2, 3, 4, 5, 6, 7, 15, 16, 17], [0, 1, 2, 3, 4, 5, 6, 7, 15, 16, 17, 18], [0, 1, 2, 3, 4, 5, 6, 7, 8, 9, 10, 11, 12, 13, 14, 15, 16, 17, 18, 19], [0, 1, 2, 3, 4, 5, 6, 7, 8, 9, 10, 11, 12, 13, 14, 15, 16, 17, 18, 19, 20]]) (by kernel_rfl) (by kernel_rfl) (by kernel_rfl) ?_
     refine DrawC.step U U U (Loc.of U fun σ' hs => R_move U (.no U) (hd_sup hs U) (.tm (hs.slots _ _ U))) ?_
     refine DrawC.step U U U (Loc.of U fun σ' hs => R_move U (.no U) (hd_sup hs U) (.tm (hs.slots _ _ U))) ?_
     refine DrawC.step U U U (Loc.of U fun σ' hs => (by exact R_indexAddr U (.no U) (hd_sup hs U) (.tm (hs.slots _ _ U)) (.tm (hs.slots _ _ U)) Try.underlying56 ty61 (fun _ => ⟨by omega, (by exact map_get hd)⟩))) ?_
     refine DrawC.step U U U (Loc.of U fun σ' hs => (by exact R_fieldAddr U (.no U) (hd_sup hs U) (.tm (hs.slots _ _ U)) fl61_0)) ?_
     refine DrawC.step U U U (Loc.of U fun σ' hs => (by exact R_load U (.no U) (hd_sup hs U) (.tm (hs.slots _ _ U)) ty3 U U)) ?_
     refine DrawC.step U U U (Loc.of U fun σ' hs => R_move U (.no U) (hd_sup hs U) (.tm (hs.slots _ _ U))) ?_
     refine DrawC.step U U U (Loc.of U fun σ' hs => R_eq U (.no U) (hd_sup hs U) (.tm (hs.slots _ _ U)) (.tm (hs.slots _ _ U))) ?_
     refine DrawC.step U U U (Loc.of U fun σ' hs => R_move U (.no U) (hd_sup hs U) (.tm (hs.slots _ _ U))) ?_
     refine DrawC.step U U U (Loc.of U fun σ' hs => (by exact R_load U (by exact .yes1 U U (hs.slots _ _ U) (by rw [hs.n]; rfl)) (hd_sup hs U) (.tmp (hs.slots _ _ U) (by exact fun _ => rfl)) ty39 U U)) ?_
     refine DrawC.step U U U (Loc.of U fun σ' hs => (by exact R_load U (by exact .yes1 U U (hs.slots _ _ U) (by rw [hs.n]; rfl)) (hd_sup hs U) (.tmp (hs.slots _ _ U) (by exact fun _ => rfl)) ty41 U U)) ?_
     refine DrawC.step U U U (Loc.of U fun σ' hs => R_move U (by exact .yes1 U U (hs.slots _ _ U) (by rw [hs.n]; rfl)) (hd_sup hs U) (.tmp (hs.slots _ _ U) (by exact fun _ => rfl))) ?_
     refine DrawC.step U U U (Loc.of U fun σ' hs => R_move U (by exact .yes1 U U (hs.slots _ _ U) (by rw [hs.n]; rfl)) (hd_sup hs U) (.tmp (hs.slots _ _ U) (by exact fun _ => rfl))) ?_
     refine DrawC.step U U U (Loc.of U fun σ' hs => (by exact R_indexAddr U (by exact .yes1 U U (hs.slots _ _ U) (by rw [hs.n]; rfl)) (hd_sup hs U) (.tmp (hs.slots _ _ U) (by exact id)) (.tmp (hs.slots _ _ U) (by exact id)) Try.underlying56 ty61 (fun hq => by (try simp at hq); exact ⟨by omega, (by exact map_get hd)⟩))) ?_
     refine DrawC.step U U U (Loc.of U fun σ' hs => (by exact R_fieldAddr U (by exact .yes1 U U (hs.slots _ _ U) (by rw [hs.n]; rfl)) (hd_sup hs U) (.tmp (hs.slots _ _ U) (by exact id)) fl61_0)) ?_
     refine DrawC.step U U U (Loc.of U fun σ' hs => (by exact R_load U (by exact .yes1 U U (hs.slots _ _ U) (by rw [hs.n]; rfl)) (hd_sup hs U) (.tmp (hs.slots _ _ U) (by exact id)) ty3 U U)) ?_
     refine DrawC.step U U U (Loc.of U fun σ' hs => R_move U (by exact .yes1 U U (hs.slots _ _ U) (by rw [hs.n]; rfl)) (hd_sup hs U) (.tmp (hs.slots _ _ U) (by exact fun _ => rfl))) ?_
     refine DrawC.step U U U (Loc.of U fun σ' hs => R_move U (by exact .yes1 U U (hs.slots _ _ U) (by rw [hs.n]; rfl)) (hd_sup hs U) (.tmp (hs.slots _ _ U) (by exact fun _ => rfl))) ?_
     refine DrawC.step U U U (Loc.of U fun σ' hs => (by exact R_indexAddr U (by exact .yes1 U U (hs.slots _ _ U) (by rw [hs.n]; rfl)) (hd_sup hs U) (.tmp (hs.slots _ _ U) (by exact id)) (.tmp (hs.slots _ _ U) (by exact id)) Try.underlying56 ty61 (fun hq => by (try simp at hq); exact ⟨by omega, (by exact map_get hd)⟩))) ?_
     refine DrawC.step U U U (Loc.of U fun σ' hs => (by exact R_fieldAddr U (by exact .yes1 U U (hs.slots _ _ U) (by rw [hs.n]; rfl)) (hd_sup hs U) (.tmp (hs.slots _ _ U) (by exact id)) fl61_1)) ?_
     refine DrawC.step U U U (Loc.of U fun σ' hs => (by exact R_load U (by exact .yes1 U U (hs.slots _ _ U) (by rw [hs.n]; rfl)) (hd_sup hs U) (.tmp (hs.slots _ _ U) (by exact id)) ty3 U U)) ?_
     refine DrawC.step U U U (Loc.of U fun σ' hs => R_callq U (by exact .yes1 U U (hs.slots _ _ U) (by rw [hs.n]; rfl)) (hd_sup hs U) (.cons (.tmp (hs.slots _ _ U) (by exact id)) (readA_sup hs U) (.cons (.tmp (hs.slots _ _ U) (by exact id)) (readA_sup hs U) (.cons (.tmp (hs.slots _ _ U) (by exact id)) (readA_sup hs U) (.cons (.tmp (hs.slots _ _ U) (by exact id)) (readA_sup hs U) .nil)))) fun hq => FnT.fr (specl18Ends g a ha hg d.node hrr.1 d.set hrr.2)) ?_
     refine DrawC.step U U U (Loc.of U fun σ' hs => R_and U (.no U) (hd_sup hs U) (.tm (hs.slots _ _ U)) (.tmp (hs.slots _ _ U) (by exact id))) ?_
     refine DrawC.fin U U ?_
     refine AWl.nil ?_
     refine AW.cond (.tm U) (fun h64 => ?_) (fun h64 => ?_)
     · skip
       try simp at h64
       have hb : d.node = y ∧ endN g a d = true := by simpa [endN] using h64
       have hkl := (List.getElem?_eq_some_iff.1 hd).1
       refine AW.seq ?_
       refine AW.le (σ' := ⟨_, [(4, _), (5, _), (6, _), (10, _), (12, _), (13, _)], [(10, _), (20001, _)]⟩) (Le.sub0 U ⟨U, U, U, U, U, U, Y⟩ ⟨U, U, Y⟩) ?_
       refine AW.region ?_
       refine AWl.mv ?_
       refine AWl.mv ?_
       refine AWl.adds (R_call 6700 (specl23Walk g a c x (expL g a c x) U hel k hkl) U U U (.cons (.tm U) U (.cons (.tm U) U .nil)) U U) U ?_
       refine AWl.chgb (R_store_pb U U U (.tm U) (.tm U) U ty34 U U U (by kernel_rfl) U) ?_
       refine AWl.le (σ' := ⟨_, [(4, _), (5, _), (6, _), (10, _), (12, _), (13, _)], [(10, _), (20001, _), (6700, _)]⟩) (Le.sub0 U ⟨U, U, U, U, U, U, Y⟩ ⟨U, U, U, Y⟩) ?_
       refine AWl.ac ?_
       refine AWl.nil (AW.ret ?_)
       refine Res.many U (.cell U U ty34 U U (.tmp U .nil)) U ?_ (by simp)
       rw [wit_at ha hg hx hy hok hd hb hk.2]; rfl
     · skip
       try simp at h64
       have hb : ¬ (d.node = y ∧ endN g a d = true) := by simpa [endN] using h64
       refine AW.skip ?_
       refine AW.le (σ' := ⟨_, [(4, _), (5, _), (6, _), (10, _), (12, _), (13, _)], [(10, _), (20001, _)]⟩) (Le.sub0 U ⟨U, U, U, U, U, U, Y⟩ ⟨U, U, Y⟩) ?_
       refine AW.region ?_
       refine AWl.mv ?_
       refine AWl.p (R_add U (.no U) U (.tm U) (.const U) (fun _ => by omega)) U ?_
       refine AWl.av ?_
       refine AWl.nil ?_
       repeat (with_reducible refine BlockQ.nor ?_)
       refine Round1.next (k + 1) ⟨⟨by omega, fun i di hi hdi => (by rcases Nat.lt_or_eq_of_le (Nat.le_of_lt_succ hi) with h | h; (exact hk.2 i di h hdi); (subst h; rw [hd] at hdi; cases hdi; exact hb))⟩, Y⟩ (by omega) (Le.sub0 rfl ⟨rfl, rfl, rfl, rfl, rfl, rfl, Y⟩ ⟨(by rfl), (by rfl), Y⟩)
   · skip
     try simp at h40
     refine AW.exit ?_
     refine AW.sr ?_
     refine AWl.p (R_build (ps := []) U U U in34 U U st34 .nil U) U ?_
     refine AWl.nilA (i := 68) 20003 2 1 U U U ?_
     refine AWl.chgb (R_store_pb U U U (.tm U) (.tm U) U ty34 U U U (by kernel_rfl) U) ?_
     refine AWl.le (σ' := ⟨_, [(4, _), (5, _), (6, _), (10, _), (12, _), (13, _), (40, _)], [(10, _), (20001, _), (20003, _)]⟩) (Le.sub0 U ⟨U, U, U, U, U, U, U, Y⟩ ⟨U, U, U, Y⟩) ?_
     refine AWl.ac ?_
     refine AWl.nil (AW.ret ?_)
     refine Res.many U (.cell U U ty34 U U (.tmp U .nil)) U ?_ (by simp)
     rw [wit_not ha hg hx hy (fun i di hdi => hk.2 i di (by have := (List.getElem?_eq_some_iff.1 hdi).1; first | omega | (simp at h40; omega)) hdi)]; rfl
end Go.Proofs.Ytamnfkfjfelbbaa
