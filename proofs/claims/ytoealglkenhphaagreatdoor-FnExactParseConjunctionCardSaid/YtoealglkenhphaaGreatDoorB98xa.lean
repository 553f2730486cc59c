/- Expressions and conjunctions read: both texts. -/
import Derived.Test.YtoealglkenhphaaGreatDoorB92xa
import Derived.Test.YtoealglkenhphaaGreatDoorB95xa
import Derived.Test.YtoealglkenhphaaGreatDoorB78xa
import Derived.Test.YtoealglkenhphaaGreatDoorAbsXxa
import Derived.Test.YtoealglkenhphaaGreatDoorAbsQxa
import Derived.Shelf.Strings.SlTrimAscii
set_option linter.unusedVariables false
set_option linter.unusedSimpArgs false
set_option maxHeartbeats 1000000
set_option maxRecDepth 100000
namespace Go.Q
open Go.D
theorem ne_of_bs {s t : List UInt8} (h : ¬ bs s = bs t) : s ≠ t := fun e => h (by rw [e])
theorem rdT_let {rest : List UInt8 → TToken} {s : List UInt8} (n : s ≠ [33] ∧ s ≠ [40, 41] ∧ s ≠ [46] ∧ s ≠ [124] ∧ s ≠ [42]) (h : (letP s).2 = true) : rdT rest s = ⟨3, (letP s).1, 0, 0⟩ := by
  obtain ⟨n1, n2, n3, n4, n5⟩ := n
  unfold rdT
  rw [if_neg n1, if_neg n2, if_neg n3, if_neg n4, if_neg n5, if_pos h]
theorem rdT_rest {rest : List UInt8 → TToken} {s : List UInt8} (n : s ≠ [33] ∧ s ≠ [40, 41] ∧ s ≠ [46] ∧ s ≠ [124] ∧ s ≠ [42]) (h : (letP s).2 = false) : rdT rest s = rest s := by
  obtain ⟨n1, n2, n3, n4, n5⟩ := n
  unfold rdT
  rw [if_neg n1, if_neg n2, if_neg n3, if_neg n4, if_neg n5, if_neg (by rw [h]; decide)]
theorem ar_tk {k : Int} (h : k = 1 ∨ k = 2 ∨ k = 4 ∨ k = 5 ∨ k = 6) : 0 ≤ arity (tk0 k) := by
  rcases h with rfl | rfl | rfl | rfl | rfl <;> decide
theorem rd_found {rest : List UInt8 → TToken} {s : List UInt8} {k : Int} (hk : k = 1 ∨ k = 2 ∨ k = 4 ∨ k = 5 ∨ k = 6) (h : tokS (tk0 k) = s) : rdT rest s = tk0 k := by
  rcases hk with rfl | rfl | rfl | rfl | rfl <;> subst h <;> rfl
theorem ne_found {s : List UInt8} (h : ∀ j : Nat, 1 ≤ j → j < 7 → j ≠ 3 → tokS (tk0 (j : Nat)) ≠ s) : s ≠ [33] ∧ s ≠ [40, 41] ∧ s ≠ [46] ∧ s ≠ [124] ∧ s ≠ [42] :=
  ⟨fun e => h 1 (by decide) (by decide) (by decide) (by rw [e]; rfl), fun e => h 2 (by decide) (by decide) (by decide) (by rw [e]; rfl), fun e => h 4 (by decide) (by decide) (by decide) (by rw [e]; rfl), fun e => h 5 (by decide) (by decide) (by decide) (by rw [e]; rfl), fun e => h 6 (by decide) (by decide) (by decide) (by rw [e]; rfl)⟩
theorem five_bytes {x : List UInt8} (h : x.length = 5) : ∃ a b c d e, x = [a, b, c, d, e] := by
  match x, h with
  | [a, b, c, d, e], _ => exact ⟨a, b, c, d, e, rfl⟩
theorem brS_yes {x0 x1 x2 x3 x4 : UInt8} (h0 : (x0.toNat : Int) = 123) (h2 : (x2.toNat : Int) = 44) (h4 : (x4.toNat : Int) = 125) : brS [x0, x1, x2, x3, x4] = ⟨7, 0, (x1.toNat : Int) - 48, (x3.toNat : Int) - 48⟩ := by
  have e0 : x0 = 123 := UInt8.toNat_inj.1 (show x0.toNat = 123 by omega)
  have e2 : x2 = 44 := UInt8.toNat_inj.1 (show x2.toNat = 44 by omega)
  have e4 : x4 = 125 := UInt8.toNat_inj.1 (show x4.toNat = 125 by omega)
  subst e0 e2 e4
  rfl
theorem brS_no {s : List UInt8} {b0 b2 b4 : UInt8} (hb0 : s.length = 5 → s[0]? = some b0) (hb2 : s.length = 5 → s[2]? = some b2) (hb4 : s.length = 5 → s[4]? = some b4) (h : ¬ (((s.length = 5 ∧ (b0.toNat : Int) = 123) ∧ (b2.toNat : Int) = 44) ∧ (b4.toNat : Int) = 125)) : brS s = tk0 0 := by
  unfold brS
  rw [if_neg]
  rintro ⟨h5, h0, h2, h4⟩
  rw [hb0 h5] at h0
  rw [hb2 h5] at h2
  rw [hb4 h5] at h4
  refine h ⟨⟨⟨h5, ?_⟩, ?_⟩, ?_⟩
  · rw [Option.some.inj h0]; rfl
  · rw [Option.some.inj h2]; rfl
  · rw [Option.some.inj h4]; rfl
theorem parseI_rng (l : List UInt8) : -999999999 ≤ (parseI l).1 ∧ (parseI l).1 ≤ 999999999 := by
  by_cases h : (parseI l).2 = true
  · have := parseI_get (l := l) (n := (parseI l).1) (by rw [← h])
    exact this.2
  · have : (parseI l).1 = 0 := by
      unfold parseI at h ⊢
      split
      · rename_i hc; rw [if_pos hc] at h; exact absurd rfl h
      · rfl
    omega
theorem trim_len (l cs : List UInt8) : (Lib.trimS l cs).length ≤ l.length := by
  unfold Lib.trimS Lib.trimLeftS Lib.trimRightS
  refine Nat.le_trans (List.dropWhile_suffix _).length_le ?_
  rw [List.length_reverse]
  refine Nat.le_trans (List.dropWhile_suffix _).length_le ?_
  rw [List.length_reverse]; exact Nat.le_refl _
end Go.Q
namespace Go.Proofs.YtoealglkenhphaaGreatDoor
open Go.RowKit Go.Q Go.D Go.Shelf
def Tryz.lays160_ren:Go.Shelf.Ren:=⟨fun|160=>50|232=>75|231=>74|227=>76|234=>78|233=>77|236=>80|235=>79|228=>98|271=>100|151=>99|197=>61|120=>113|152=>112|260=>87|137=>118|119=>119|224=>65|225=>64|217=>63|266=>88|n=>n,fun|9=>9|4=>4|3=>3|5=>5|117=>94|116=>93|0=>0|124=>97|21=>21|105=>79|46=>83|119=>125|139=>128|138=>127|n=>n,fun|3=>3|4=>4|n=>n⟩
theorem Tryz.lays160:Go.Proofs.Lays.n160 Tryz.prog Tryz.lays160_ren:={
 mixed:=by kernel_rfl
 f119:=Tryz.func119.trans (congrArg some (by kernel_rfl))
 f120:=Tryz.func113.trans (congrArg some (by kernel_rfl))
 f137:=Tryz.func118.trans (congrArg some (by kernel_rfl))
 f151:=Tryz.func99.trans (congrArg some (by kernel_rfl))
 f152:=Tryz.func112.trans (congrArg some (by kernel_rfl))
 f160:=Tryz.func50.trans (congrArg some (by kernel_rfl))
 f197:=Tryz.func61.trans (congrArg some (by kernel_rfl))
 f217:=Tryz.func63.trans (congrArg some (by kernel_rfl))
 f224:=Tryz.func65.trans (congrArg some (by kernel_rfl))
 f225:=Tryz.func64.trans (congrArg some (by kernel_rfl))
 f227:=Tryz.func76.trans (congrArg some (by kernel_rfl))
 f228:=Tryz.func98.trans (congrArg some (by kernel_rfl))
 f231:=Tryz.func74.trans (congrArg some (by kernel_rfl))
 f232:=Tryz.func75.trans (congrArg some (by kernel_rfl))
 f233:=Tryz.func77.trans (congrArg some (by kernel_rfl))
 f234:=Tryz.func78.trans (congrArg some (by kernel_rfl))
 f235:=Tryz.func79.trans (congrArg some (by kernel_rfl))
 f236:=Tryz.func80.trans (congrArg some (by kernel_rfl))
 f260:=Tryz.func87.trans (congrArg some (by kernel_rfl))
 f266:=Tryz.func88.trans (congrArg some (by kernel_rfl))
 f271:=Tryz.func100.trans (congrArg some (by kernel_rfl))
 t0:=Tryz.underlying0
 a0:=Tryz.isAgg0
 z0:=Tryz.sizeOf0
 v0:=Tryz.zeroValue0
 t3:=Tryz.underlying3
 a3:=Tryz.isAgg3
 z3:=Tryz.sizeOf3
 v3:=Tryz.zeroValue3
 t4:=Tryz.underlying4
 a4:=Tryz.isAgg4
 z4:=Tryz.sizeOf4
 v4:=Tryz.zeroValue4
 t5:=Tryz.underlying5
 a5:=Tryz.isAgg5
 z5:=Tryz.sizeOf5
 v5:=Tryz.zeroValue5
 t9:=Tryz.underlying9
 a9:=Tryz.isAgg9
 z9:=Tryz.sizeOf9
 v9:=Tryz.zeroValue9
 t21:=Tryz.underlying21
 a21:=Tryz.isAgg21
 z21:=Tryz.sizeOf21
 v21:=Tryz.zeroValue21
 t46:=Tryz.underlying83
 a46:=Tryz.isAgg83
 z46:=Tryz.sizeOf83
 v46:=Tryz.zeroValue83
 t105:=Tryz.underlying79
 a105:=Tryz.isAgg79
 z105:=Tryz.sizeOf79
 v105:=Tryz.zeroValue79
 t116:=Tryz.underlying93
 a116:=Tryz.isAgg93
 z116:=Tryz.sizeOf93
 t117:=Tryz.underlying94
 a117:=Tryz.isAgg94
 z117:=Tryz.sizeOf94
 v117:=Tryz.zeroValue94
 t119:=Tryz.underlying125
 a119:=Tryz.isAgg125
 z119:=Tryz.sizeOf125
 t124:=Tryz.underlying97
 a124:=Tryz.isAgg97
 z124:=Tryz.sizeOf97
 v124:=Tryz.zeroValue97
 t138:=Tryz.underlying127
 a138:=Tryz.isAgg127
 z138:=Tryz.sizeOf127
 v138:=Tryz.zeroValue127
 t139:=Tryz.underlying128
 a139:=Tryz.isAgg128
 z139:=Tryz.sizeOf128
 v139:=Tryz.zeroValue128
 g3:=by kernel_rfl
 g4:=by kernel_rfl }
set_option maxRecDepth 100000 in
theorem stringsTrim (l : List UInt8) (cs : List UInt8) (hs : l.length ≤ 1073741824) (hc : cs.length ≤ 1000) (ha : ∀ b ∈ cs, b.toNat < 128) : FnT Tryz.prog 50 [.one (.v (.string (bs l))), .one (.v (.string (bs cs)))] (.a (.one (.v (.string (bs (Lib.trimS l cs)))))) := by
  refine ⟨⟨_, Tryz.func50, by kernel_rfl, by kernel_rfl⟩, fun w vs F hG hv => ?_⟩
  obtain ⟨v1, vr, G1, G2, rfl, g1, ⟨v2, vr2, G3, G4, rfl, g2, ⟨rfl, rfl⟩, rfl⟩, rfl⟩ := hv
  simp only [V0r, C] at g1 g2
  obtain ⟨rfl, rfl, _⟩ := g1
  obtain ⟨rfl, rfl, _⟩ := g2
  have hcon := Any.strings_Trim_ascii Tryz.lays160 (fun w => by kernel_rfl) (by kernel_rfl) (bs l) (bs cs) w (by rw [bs_size]; omega) (by rw [bs_size]; omega) (fun j b hj => by rw [bs_list] at hj; exact ha b (List.mem_of_getElem? hj))
  change Calls Tryz.prog 50 _ _ _ at hcon
  rw [bs_list, bs_list] at hcon
  refine hcon.mono ?_
  rintro e w' ⟨rfl, hB⟩
  refine ⟨_, [], rfl, ?_, List.nodup_nil, by simp, hB⟩
  simp [Vr, V0r, C]
  exact ⟨rfl, rfl⟩
theorem implParseLetter (s : List UInt8) : FnT Tryz.prog 49 [.one (.v (.string (bs s)))] (.tup [.one (.v (.int .i64 (letP s).1)), .one (.v (.bool (letP s).2))]) := by
  refine FnT.walk Tryz.func49 rfl (by kernel_rfl) Tryz.ntmps49 rfl fun hlen w0 => ?_
  try simp [cPair, cToken, cExpr, cEdge, cGraph, cStep, cWalk, cChange, cBatch, cHistory, cPositions, cAutomaton, cProductStep, cPathAtom, cConjunction, cView, cDelta, cRegistered, cRegistry] at hlen
  refine AW.seq ?_
  refine AW.region ?_
  refine AWl.put (R_assign rfl (.no rfl) rfl (.const rfl)) rfl ?_
  refine AWl.put (R_assign rfl (.no rfl) rfl (.const rfl)) rfl ?_
  refine AWl.nil ?_
  refine AW.seq ?_
  refine AW.seq ?_
  refine AW.region ?_
  refine AWl.put (R_assign rfl (.no rfl) rfl (.const rfl)) rfl ?_
  refine AWl.nil ?_
  refine AW.block ?_
  refine AW.loop1 (fun (k : Nat) => (k ≤ 9 ∧ ∀ j : Nat, j < k → letS (j : Nat) ≠ s) ∧ True) (fun (k : Nat) => ⟨_, [(4, (true, .a (.one (.t (.v (.int .i64 (k : Nat))))))), (0, _)], []⟩) (fun (k : Nat) => 9 - k) (0) ⟨⟨by omega, fun j hj => by omega⟩, trivial⟩ (Le.sub0 rfl ⟨rfl, rfl, trivial⟩ trivial) ?_
  rintro k ⟨hk, he⟩
  refine AW.seq ?_
  refine AW.seq ?_
  refine AW.region ?_
  refine AWl.put (R_move rfl (.no rfl) rfl (.tmp rfl fun _ => rfl)) rfl ?_
  refine AWl.put (R_lt rfl (.no rfl) rfl (.tmp rfl fun _ => rfl) (.const rfl)) rfl ?_
  refine AWl.nil ?_
  refine AW.cond (.tmp rfl fun _ => rfl) (fun h6 => ?_) (fun h6 => ?_)
  · skip
    try simp at h6
    refine AW.skip ?_
    refine AW.seq ?_
    refine AW.block ?_
    refine AW.seq ?_
    refine AW.region ?_
    refine AWl.put (R_move rfl (.no rfl) rfl (.tmp rfl fun _ => rfl)) rfl ?_
    refine AWl.put (R_callz (FnT.fr (implFormatLetter (k : Int) (by omega) (by omega))) rfl (.no rfl) rfl (.cons (.tmp rfl fun _ => rfl) rfl .nil)) rfl ?_
    refine AWl.put (R_move rfl (.no rfl) rfl (.tmp rfl fun _ => rfl)) rfl ?_
    refine AWl.put (R_eqstr rfl (.no rfl) rfl (.tmp rfl fun _ => rfl) (.tmp rfl fun _ => rfl)) rfl ?_
    refine AWl.nil ?_
    refine AW.cond (.tmp rfl fun _ => rfl) (fun h12 => ?_) (fun h12 => ?_)
    · skip
      try simp at h12
      refine AW.seq ?_
      refine AW.le (σ' := ⟨_, [(0, _), (4, _)], []⟩) (Le.sub0 rfl ⟨rfl, rfl, trivial⟩ trivial) ?_
      refine AW.region ?_
      refine AWl.put (R_move rfl (.no rfl) rfl (.tmp rfl fun _ => rfl)) rfl ?_
      refine AWl.put (R_assign rfl (.no rfl) rfl (.tmp rfl fun _ => rfl)) rfl ?_
      refine AWl.put (R_assign rfl (.no rfl) rfl (.const rfl)) rfl ?_
      refine AWl.nil ?_
      refine AW.ret ?_
      refine Res.many rfl (.tmp rfl (.tmp rfl .nil)) rfl ?_ (by simp)
      rw [letP_at (k := k) (by omega) (bs_inj h12) hk.2]; rfl
    · skip
      try simp at h12
      refine AW.skip ?_
      refine AW.le (σ' := ⟨_, [(0, _), (4, _)], []⟩) (Le.sub0 rfl ⟨rfl, rfl, trivial⟩ trivial) ?_
      refine AW.region ?_
      refine AWl.put (R_move rfl (.no rfl) rfl (.tmp rfl fun _ => rfl)) rfl ?_
      refine AWl.put (R_add rfl (.no rfl) rfl (.tmp rfl fun _ => rfl) (.const rfl) (fun _ => by omega)) rfl ?_
      refine AWl.put (R_assign rfl (.no rfl) rfl (.tmp rfl fun _ => rfl)) rfl ?_
      refine AWl.nil ?_
      repeat (with_reducible refine BlockQ.nor ?_)
      refine Round1.next (k + 1) ⟨⟨by omega, fun j hj => (by by_cases e : j = k; (subst e; exact fun e2 => h12 (by rw [e2])); exact hk.2 j (by omega))⟩, trivial⟩ (by omega) (Le.sub0 rfl ⟨rfl, rfl, trivial⟩ trivial)
  · skip
    try simp at h6
    refine AW.exit ?_
    refine AW.seq ?_
    refine AW.region ?_
    refine AWl.put (R_assign rfl (.no rfl) rfl (.const rfl)) rfl ?_
    refine AWl.put (R_assign rfl (.no rfl) rfl (.const rfl)) rfl ?_
    refine AWl.nil ?_
    refine AW.ret ?_
    refine Res.many rfl (.tmp rfl (.tmp rfl .nil)) rfl ?_ (by simp)
    rw [letP_no fun j hj => hk.2 j (by omega)]; rfl
theorem impltokenOf (s : List UInt8) (hz : s.length ≤ 1073741824) : FnT Tryz.prog 30 [.one (.v (.string (bs s)))] (.a (.agg (cToken (rdT brI s)))) := by
  have htr := stringsTrim s [123, 125] hz (by decide) (by decide)
  have htl := trim_len s [123, 125]
  have hcc := stringsCut (bs (Lib.trimS s [123, 125])) [44] (by rw [bs_size]; omega)
  rw [bs_list] at hcc
  refine FnT.walk Tryz.func30 rfl (by kernel_rfl) Tryz.ntmps30 rfl fun hlen w0 => ?_
  try simp [cPair, cToken, cExpr, cEdge, cGraph, cStep, cWalk, cChange, cBatch, cHistory, cPositions, cAutomaton, cProductStep, cPathAtom, cConjunction, cView, cDelta, cRegistered, cRegistry] at hlen
  refine AW.seq ?_
  refine AW.region ?_
  refine AWl.add (R_alloc 2 rfl rfl rfl in48 rfl rfl rfl) rfl ?_
  refine AWl.nil ?_
  refine AW.seq ?_
  refine AW.seq ?_
  refine AW.region ?_
  refine AWl.put (R_move rfl (.no rfl) rfl (.tmp rfl fun _ => rfl)) rfl ?_
  refine AWl.nil ?_
  refine AW.block ?_
  refine AW.seq ?_
  refine AW.region ?_
  refine AWl.put (R_eqstr rfl (.no rfl) rfl (.tmp rfl fun _ => rfl) (.const rfl)) rfl ?_
  refine AWl.put (R_assign rfl (.no rfl) rfl (.tmp rfl fun _ => rfl)) rfl ?_
  refine AWl.nil ?_
  refine AW.cond (.tmp rfl fun _ => rfl) (fun h10 => ?_) (fun h10 => ?_)
  · skip
    try simp at h10
    refine AW.seq ?_
    refine AW.region ?_
    refine AWl.put (R_build (ps := [(0, .const (.int .i64 (1)))]) rfl rfl rfl in48 rfl rfl st48 (.cons (.const rfl) rfl rfl fp48_0 .nil) rfl) rfl ?_
    refine AWl.chgb (R_store_pb rfl rfl rfl (.tmp rfl fun _ => rfl) (.tmp rfl fun _ => rfl) rfl ty48 rfl rfl rfl (by kernel_rfl) rfl) ?_
    refine AWl.nil ?_
    refine AW.ret ?_
    refine Res.one rfl (.cell rfl rfl ty48 rfl rfl .nil) rfl ?_
    have e : s = [33] := bs_inj (m := [33]) h10; rw [e]; rfl
  · skip
    try simp at h10
    refine AW.seq ?_
    refine AW.region ?_
    refine AWl.put (R_eqstr rfl (.no rfl) rfl (.tmp rfl fun _ => rfl) (.const rfl)) rfl ?_
    refine AWl.put (R_assign rfl (.no rfl) rfl (.tmp rfl fun _ => rfl)) rfl ?_
    refine AWl.nil ?_
    refine AW.cond (.tmp rfl fun _ => rfl) (fun h13 => ?_) (fun h13 => ?_)
    · skip
      try simp at h13
      refine AW.seq ?_
      refine AW.region ?_
      refine AWl.put (R_build (ps := [(0, .const (.int .i64 (2)))]) rfl rfl rfl in48 rfl rfl st48 (.cons (.const rfl) rfl rfl fp48_0 .nil) rfl) rfl ?_
      refine AWl.chgb (R_store_pb rfl rfl rfl (.tmp rfl fun _ => rfl) (.tmp rfl fun _ => rfl) rfl ty48 rfl rfl rfl (by kernel_rfl) rfl) ?_
      refine AWl.nil ?_
      refine AW.ret ?_
      refine Res.one rfl (.cell rfl rfl ty48 rfl rfl .nil) rfl ?_
      have e : s = [40, 41] := bs_inj (m := [40, 41]) h13; rw [e]; rfl
    · skip
      try simp at h13
      refine AW.seq ?_
      refine AW.region ?_
      refine AWl.put (R_eqstr rfl (.no rfl) rfl (.tmp rfl fun _ => rfl) (.const rfl)) rfl ?_
      refine AWl.put (R_assign rfl (.no rfl) rfl (.tmp rfl fun _ => rfl)) rfl ?_
      refine AWl.nil ?_
      refine AW.cond (.tmp rfl fun _ => rfl) (fun h16 => ?_) (fun h16 => ?_)
      · skip
        try simp at h16
        refine AW.seq ?_
        refine AW.le (σ' := ⟨_, [(0, _), (2, _), (9, _)], [(2, _)]⟩) (Le.sub0 rfl ⟨rfl, rfl, rfl, trivial⟩ ⟨rfl, trivial⟩) ?_
        refine AW.region ?_
        refine AWl.put (R_build (ps := [(0, .const (.int .i64 (4)))]) rfl rfl rfl in48 rfl rfl st48 (.cons (.const rfl) rfl rfl fp48_0 .nil) rfl) rfl ?_
        refine AWl.chgb (R_store_pb rfl rfl rfl (.tmp rfl fun _ => rfl) (.tmp rfl fun _ => rfl) rfl ty48 rfl rfl rfl (by kernel_rfl) rfl) ?_
        refine AWl.nil ?_
        refine AW.ret ?_
        refine Res.one rfl (.cell rfl rfl ty48 rfl rfl .nil) rfl ?_
        have e : s = [46] := bs_inj (m := [46]) h16; rw [e]; rfl
      · skip
        try simp at h16
        refine AW.seq ?_
        refine AW.le (σ' := ⟨_, [(0, _), (2, _), (9, _)], [(2, _)]⟩) (Le.sub0 rfl ⟨rfl, rfl, rfl, trivial⟩ ⟨rfl, trivial⟩) ?_
        refine AW.region ?_
        refine AWl.put (R_eqstr rfl (.no rfl) rfl (.tmp rfl fun _ => rfl) (.const rfl)) rfl ?_
        refine AWl.put (R_assign rfl (.no rfl) rfl (.tmp rfl fun _ => rfl)) rfl ?_
        refine AWl.nil ?_
        refine AW.cond (.tmp rfl fun _ => rfl) (fun h19 => ?_) (fun h19 => ?_)
        · skip
          try simp at h19
          refine AW.seq ?_
          refine AW.region ?_
          refine AWl.put (R_build (ps := [(0, .const (.int .i64 (5)))]) rfl rfl rfl in48 rfl rfl st48 (.cons (.const rfl) rfl rfl fp48_0 .nil) rfl) rfl ?_
          refine AWl.chgb (R_store_pb rfl rfl rfl (.tmp rfl fun _ => rfl) (.tmp rfl fun _ => rfl) rfl ty48 rfl rfl rfl (by kernel_rfl) rfl) ?_
          refine AWl.nil ?_
          refine AW.ret ?_
          refine Res.one rfl (.cell rfl rfl ty48 rfl rfl .nil) rfl ?_
          have e : s = [124] := bs_inj (m := [124]) h19; rw [e]; rfl
        · skip
          try simp at h19
          refine AW.seq ?_
          refine AW.region ?_
          refine AWl.put (R_eqstr rfl (.no rfl) rfl (.tmp rfl fun _ => rfl) (.const rfl)) rfl ?_
          refine AWl.put (R_assign rfl (.no rfl) rfl (.tmp rfl fun _ => rfl)) rfl ?_
          refine AWl.nil ?_
          refine AW.cond (.tmp rfl fun _ => rfl) (fun h22 => ?_) (fun h22 => ?_)
          · skip
            try simp at h22
            refine AW.seq ?_
            refine AW.region ?_
            refine AWl.put (R_build (ps := [(0, .const (.int .i64 (6)))]) rfl rfl rfl in48 rfl rfl st48 (.cons (.const rfl) rfl rfl fp48_0 .nil) rfl) rfl ?_
            refine AWl.chgb (R_store_pb rfl rfl rfl (.tmp rfl fun _ => rfl) (.tmp rfl fun _ => rfl) rfl ty48 rfl rfl rfl (by kernel_rfl) rfl) ?_
            refine AWl.nil ?_
            refine AW.ret ?_
            refine Res.one rfl (.cell rfl rfl ty48 rfl rfl .nil) rfl ?_
            have e : s = [42] := bs_inj (m := [42]) h22; rw [e]; rfl
          · skip
            try simp at h22
            have hne : s ≠ [33] ∧ s ≠ [40, 41] ∧ s ≠ [46] ∧ s ≠ [124] ∧ s ≠ [42] := ⟨ne_of_bs h10, ne_of_bs h13, ne_of_bs h16, ne_of_bs h19, ne_of_bs h22⟩
            refine AW.skip ?_
            refine AW.seq ?_
            refine AW.seq ?_
            refine AW.region ?_
            refine AWl.put (R_move rfl (.no rfl) rfl (.tmp rfl fun _ => rfl)) rfl ?_
            refine AWl.put (R_callz (FnT.fr (implParseLetter s)) rfl (.no rfl) rfl (.cons (.tmp rfl fun _ => rfl) rfl .nil)) rfl ?_
            refine AWl.put (R_movet rfl (.no rfl) rfl rfl fun _ => rfl) rfl ?_
            refine AWl.put (R_extract rfl (.no rfl) rfl rfl (fun _ => rfl) rfl) rfl ?_
            refine AWl.put (R_extract rfl (.no rfl) rfl rfl (fun _ => rfl) rfl) rfl ?_
            refine AWl.put (R_assign rfl (.no rfl) rfl (.tmp rfl fun _ => rfl)) rfl ?_
            refine AWl.put (R_assign rfl (.no rfl) rfl (.tmp rfl fun _ => rfl)) rfl ?_
            refine AWl.nil ?_
            refine AW.seq ?_
            refine AW.le (σ' := ⟨_, [(0, _), (2, _), (3, _), (4, _), (9, _)], [(2, _)]⟩) (Le.sub0 rfl ⟨rfl, rfl, rfl, rfl, rfl, trivial⟩ ⟨rfl, trivial⟩) ?_
            refine AW.region ?_
            refine AWl.put (R_move rfl (.no rfl) rfl (.tmp rfl fun _ => rfl)) rfl ?_
            refine AWl.nil ?_
            refine AW.cond (.tmp rfl fun _ => rfl) (fun h30 => ?_) (fun h30 => ?_)
            · skip
              try simp at h30
              refine AW.seq ?_
              refine AW.region ?_
              refine AWl.put (R_move rfl (.no rfl) rfl (.tmp rfl fun _ => rfl)) rfl ?_
              refine AWl.put (R_build (ps := [(0, .const (.int .i64 (3))), (1, .tmp 31)]) rfl rfl rfl in48 rfl rfl st48 (.cons (.const rfl) rfl rfl fp48_0 (.cons (.tmp rfl fun _ => rfl) rfl rfl fp48_1 .nil)) rfl) rfl ?_
              refine AWl.chgb (R_store_pb rfl rfl rfl (.tmp rfl fun _ => rfl) (.tmp rfl fun _ => rfl) rfl ty48 rfl rfl rfl (by kernel_rfl) rfl) ?_
              refine AWl.nil ?_
              refine AW.ret ?_
              refine Res.one rfl (.cell rfl rfl ty48 rfl rfl .nil) rfl ?_
              rw [rdT_let hne h30]; rfl
            · skip
              try simp at h30
              refine AW.skip ?_
              refine AW.seq ?_
              refine AW.region ?_
              refine AWl.put (R_move rfl (.no rfl) rfl (.tmp rfl fun _ => rfl)) rfl ?_
              refine AWl.put (R_callz (FnT.fr (htr)) rfl (.no rfl) rfl (.cons (.tmp rfl fun _ => rfl) rfl (.cons (.const rfl) rfl .nil))) rfl ?_
              refine AWl.put (R_callz (FnT.fr (hcc)) rfl (.no rfl) rfl (.cons (.tmp rfl fun _ => rfl) rfl (.cons (.const rfl) rfl .nil))) rfl ?_
              refine AWl.put (R_movet rfl (.no rfl) rfl rfl fun _ => rfl) rfl ?_
              refine AWl.put (R_extract rfl (.no rfl) rfl rfl (fun _ => rfl) rfl) rfl ?_
              refine AWl.put (R_extract rfl (.no rfl) rfl rfl (fun _ => rfl) rfl) rfl ?_
              refine AWl.put (R_extract rfl (.no rfl) rfl rfl (fun _ => rfl) rfl) rfl ?_
              refine AWl.put (R_assign rfl (.no rfl) rfl (.tmp rfl fun _ => rfl)) rfl ?_
              refine AWl.put (R_assign rfl (.no rfl) rfl (.tmp rfl fun _ => rfl)) rfl ?_
              refine AWl.put (R_assign rfl (.no rfl) rfl (.tmp rfl fun _ => rfl)) rfl ?_
              refine AWl.nil ?_
              refine AW.seq ?_
              refine AW.le (σ' := ⟨_, [(0, _), (2, _), (3, _), (4, _), (5, _), (6, _), (9, _)], [(2, _)]⟩) (Le.sub0 rfl ⟨rfl, rfl, rfl, rfl, rfl, rfl, rfl, trivial⟩ ⟨rfl, trivial⟩) ?_
              refine AW.region ?_
              refine AWl.put (R_build (ps := [(0, .const (.int .i64 (7)))]) rfl rfl rfl in48 rfl rfl st48 (.cons (.const rfl) rfl rfl fp48_0 .nil) rfl) rfl ?_
              refine AWl.add (R_alloc 8 rfl rfl rfl in48 rfl rfl rfl) rfl ?_
              refine AWl.chgb (R_store_pb rfl rfl rfl (.tmp rfl fun _ => rfl) (.tmp rfl fun _ => rfl) rfl ty48 rfl rfl rfl (by kernel_rfl) rfl) ?_
              refine AWl.nil ?_
              refine AW.seq ?_
              refine AW.region ?_
              refine AWl.put (R_move rfl (.no rfl) rfl (.tmp rfl fun _ => rfl)) rfl ?_
              refine AWl.put (R_callz (FnT.fr (implParseInt (Lib.cut (Lib.trimS s [123, 125]) [44]).1)) rfl (.no rfl) rfl (.cons (.tmp rfl fun _ => rfl) rfl .nil)) rfl ?_
              refine AWl.put (R_movet rfl (.no rfl) rfl rfl fun _ => rfl) rfl ?_
              refine AWl.put (R_extract rfl (.no rfl) rfl rfl (fun _ => rfl) rfl) rfl ?_
              refine AWl.put (R_extract rfl (.no rfl) rfl rfl (fun _ => rfl) rfl) rfl ?_
              refine AWl.put ((by first | exact R_fieldAddr rfl (.no rfl) rfl (.tmp rfl fun _ => rfl) fl48_2 | exact R_fieldAddr_pp rfl (.no rfl) rfl (.tmp rfl fun _ => rfl) fl48_2 | exact R_fieldAddr_vw rfl (.no rfl) rfl (.tmp rfl fun _ => rfl) fl48_2 | exact R_fieldAddr_pr rfl (.no rfl) rfl (.tmp rfl fun _ => rfl) fl48_2)) rfl ?_
              refine AWl.chgb (R_store_pb rfl rfl rfl (.tmp rfl fun _ => rfl) (.tmp rfl fun _ => rfl) rfl ty3 rfl rfl rfl (by kernel_rfl) rfl) ?_
              refine AWl.nil ?_
              refine AW.seq ?_
              refine AW.le (σ' := ⟨_, [(0, _), (2, _), (3, _), (4, _), (5, _), (6, _), (8, _), (9, _)], [(2, _), (8, _)]⟩) (Le.sub0 rfl ⟨rfl, rfl, rfl, rfl, rfl, rfl, rfl, rfl, trivial⟩ ⟨rfl, rfl, trivial⟩) ?_
              refine AW.region ?_
              refine AWl.put (R_move rfl (.no rfl) rfl (.tmp rfl fun _ => rfl)) rfl ?_
              refine AWl.put (R_callz (FnT.fr (implParseInt (Lib.cut (Lib.trimS s [123, 125]) [44]).2.1)) rfl (.no rfl) rfl (.cons (.tmp rfl fun _ => rfl) rfl .nil)) rfl ?_
              refine AWl.put (R_movet rfl (.no rfl) rfl rfl fun _ => rfl) rfl ?_
              refine AWl.put (R_extract rfl (.no rfl) rfl rfl (fun _ => rfl) rfl) rfl ?_
              refine AWl.put (R_extract rfl (.no rfl) rfl rfl (fun _ => rfl) rfl) rfl ?_
              refine AWl.put ((by first | exact R_fieldAddr rfl (.no rfl) rfl (.tmp rfl fun _ => rfl) fl48_3 | exact R_fieldAddr_pp rfl (.no rfl) rfl (.tmp rfl fun _ => rfl) fl48_3 | exact R_fieldAddr_vw rfl (.no rfl) rfl (.tmp rfl fun _ => rfl) fl48_3 | exact R_fieldAddr_pr rfl (.no rfl) rfl (.tmp rfl fun _ => rfl) fl48_3)) rfl ?_
              refine AWl.chgb (R_store_pb rfl rfl rfl (.tmp rfl fun _ => rfl) (.tmp rfl fun _ => rfl) rfl ty3 rfl rfl rfl (by kernel_rfl) rfl) ?_
              refine AWl.nil ?_
              refine AW.seq ?_
              refine AW.le (σ' := ⟨_, [(0, _), (2, _), (3, _), (4, _), (5, _), (6, _), (8, _), (9, _)], [(2, _), (8, _)]⟩) (Le.sub0 rfl ⟨rfl, rfl, rfl, rfl, rfl, rfl, rfl, rfl, trivial⟩ ⟨rfl, rfl, trivial⟩) ?_
              refine AW.region ?_
              refine AWl.put ((by first | exact R_load rfl (.no rfl) rfl (.tmp rfl fun _ => rfl) ty48 rfl rfl | exact R_load_pp rfl (.no rfl) rfl (.tmp rfl fun _ => rfl) rfl ty48 rfl rfl | exact R_load_vw rfl (.no rfl) rfl (.tmp rfl fun _ => rfl) ty48 rfl rfl | exact R_load_pr rfl (.no rfl) rfl (.tmp rfl fun _ => rfl) rfl (by first | assumption | exact map_get (by assumption)) ty48 rfl rfl)) rfl ?_
              refine AWl.chgb (R_store_pb rfl rfl rfl (.tmp rfl fun _ => rfl) (.tmp rfl fun _ => rfl) rfl ty48 rfl rfl rfl (by kernel_rfl) rfl) ?_
              refine AWl.nil ?_
              refine AW.ret ?_
              refine Res.one rfl (.cell rfl rfl ty48 rfl rfl .nil) rfl ?_
              rw [rdT_rest hne h30]; rfl
theorem specl8Read (s : List UInt8) : FnT Tryz.prog 20 [.one (.v (.string (bs s)))] (.a (.agg (cToken (rdT brS s)))) := by
  obtain ⟨b0, hb0⟩ : ∃ b, s.length = 5 → s[0]? = some b := ⟨s[0]?.getD 0, fun h => by rw [List.getElem?_eq_getElem (by omega)]; rfl⟩
  obtain ⟨b2, hb2⟩ : ∃ b, s.length = 5 → s[2]? = some b := ⟨s[2]?.getD 0, fun h => by rw [List.getElem?_eq_getElem (by omega)]; rfl⟩
  obtain ⟨b4, hb4⟩ : ∃ b, s.length = 5 → s[4]? = some b := ⟨s[4]?.getD 0, fun h => by rw [List.getElem?_eq_getElem (by omega)]; rfl⟩
  refine FnT.walk Tryz.func20 rfl (by kernel_rfl) Tryz.ntmps20 rfl fun hlen w0 => ?_
  try simp [cPair, cToken, cExpr, cEdge, cGraph, cStep, cWalk, cChange, cBatch, cHistory, cPositions, cAutomaton, cProductStep, cPathAtom, cConjunction, cView, cDelta, cRegistered, cRegistry] at hlen
  have hsz := bs_size s
  refine AW.seq ?_
  refine AW.region ?_
  refine AWl.add (R_alloc 2 rfl rfl rfl in48 rfl rfl rfl) rfl ?_
  refine AWl.nil ?_
  refine AW.seq ?_
  refine AW.seq ?_
  refine AW.region ?_
  refine AWl.put (R_assign rfl (.no rfl) rfl (.const rfl)) rfl ?_
  refine AWl.nil ?_
  refine AW.block ?_
  refine AW.loop1 (fun (k : Nat) => ((1 ≤ k ∧ k ≤ 7) ∧ ∀ j : Nat, 1 ≤ j → j < k → j ≠ 3 → tokS (tk0 (j : Nat)) ≠ s) ∧ True) (fun (k : Nat) => ⟨_, [(3, (true, .a (.one (.t (.v (.int .i64 (k : Nat))))))), (0, _), (2, _)], [(2, .box [.t (.v (.int .i64 0)), .t (.v (.int .i64 0)), .t (.v (.int .i64 0)), .t (.v (.int .i64 0))])]⟩) (fun (k : Nat) => 7 - k) (1) ⟨⟨⟨by omega, by omega⟩, fun j h1 h2 => by omega⟩, trivial⟩ (Le.sub0 rfl ⟨rfl, rfl, rfl, trivial⟩ ⟨rfl, trivial⟩) ?_
  rintro k ⟨hk, he⟩
  refine AW.seq ?_
  refine AW.seq ?_
  refine AW.region ?_
  refine AWl.put (R_move rfl (.no rfl) rfl (.tmp rfl fun _ => rfl)) rfl ?_
  refine AWl.put (R_le rfl (.no rfl) rfl (.tmp rfl fun _ => rfl) (.const rfl)) rfl ?_
  refine AWl.nil ?_
  refine AW.cond (.tmp rfl fun _ => rfl) (fun h7 => ?_) (fun h7 => ?_)
  · skip
    try simp at h7
    refine AW.skip ?_
    refine AW.seq ?_
    refine AW.block ?_
    refine AW.seq ?_
    refine AW.region ?_
    refine AWl.put (R_move rfl (.no rfl) rfl (.tmp rfl fun _ => rfl)) rfl ?_
    refine AWl.put (R_ne rfl (.no rfl) rfl (.tmp rfl fun _ => rfl) (.const rfl)) rfl ?_
    refine AWl.put (R_move rfl (.no rfl) rfl (.tmp rfl fun _ => rfl)) rfl ?_
    refine AWl.put (R_move rfl (by first | exact .yes1 rfl rfl rfl rfl | exact .yes rfl rfl rfl rfl) rfl (.tmp rfl (by first | exact fun _ => rfl | exact id | simp))) rfl ?_
    refine AWl.put (R_grd (by first | exact .yes1 rfl rfl rfl rfl | exact .yes rfl rfl rfl rfl) rfl fun hq => R_build (ps := [(0, .tmp 13)]) rfl rfl rfl in48 rfl rfl st48 (.cons (.tmp rfl (by first | exact fun _ => rfl | exact fun _ => hq | simp_all)) rfl rfl fp48_0 .nil) rfl) rfl ?_
    refine AWl.put (R_callq rfl (by first | exact .yes1 rfl rfl rfl rfl | exact .yes rfl rfl rfl rfl) rfl (.cons (.tmp rfl (by first | exact fun _ => rfl | exact id | simp)) rfl .nil) fun hq => FnT.fr (specl8Token (tk0 (k : Int)) (ar_tk (by simp at hq; omega)))) rfl ?_
    refine AWl.put (R_move rfl (by first | exact .yes1 rfl rfl rfl rfl | exact .yes rfl rfl rfl rfl) rfl (.tmp rfl (by first | exact fun _ => rfl | exact id | simp))) rfl ?_
    refine AWl.put (R_eqstr rfl (by first | exact .yes1 rfl rfl rfl rfl | exact .yes rfl rfl rfl rfl) rfl (.tmp rfl (by first | exact fun _ => rfl | exact id | simp)) (.tmp rfl (by first | exact fun _ => rfl | exact id | simp))) rfl ?_
    refine AWl.put (R_and rfl (.no rfl) rfl (.tmp rfl fun _ => rfl) (.tmp rfl (by first | exact fun _ => rfl | exact id | simp))) rfl ?_
    refine AWl.nil ?_
    refine AW.cond (.tmp rfl fun _ => rfl) (fun h18 => ?_) (fun h18 => ?_)
    · skip
      try simp at h18
      refine AW.seq ?_
      refine AW.le (σ' := ⟨_, [(0, _), (2, _), (3, _)], [(2, _)]⟩) (Le.sub0 rfl ⟨rfl, rfl, rfl, trivial⟩ ⟨rfl, trivial⟩) ?_
      refine AW.region ?_
      refine AWl.put (R_move rfl (.no rfl) rfl (.tmp rfl fun _ => rfl)) rfl ?_
      refine AWl.put (R_build (ps := [(0, .tmp 19)]) rfl rfl rfl in48 rfl rfl st48 (.cons (.tmp rfl fun _ => rfl) rfl rfl fp48_0 .nil) rfl) rfl ?_
      refine AWl.chgb (R_store_pb rfl rfl rfl (.tmp rfl fun _ => rfl) (.tmp rfl fun _ => rfl) rfl ty48 rfl rfl rfl (by kernel_rfl) rfl) ?_
      refine AWl.nil ?_
      refine AW.ret ?_
      refine Res.one rfl (.cell rfl rfl ty48 rfl rfl .nil) rfl ?_
      rw [rd_found (k := (k : Int)) (by omega) (bs_inj h18.2)]; rfl
    · skip
      try simp at h18
      refine AW.skip ?_
      refine AW.le (σ' := ⟨_, [(0, _), (2, _), (3, _)], [(2, _)]⟩) (Le.sub0 rfl ⟨rfl, rfl, rfl, trivial⟩ ⟨rfl, trivial⟩) ?_
      refine AW.region ?_
      refine AWl.put (R_move rfl (.no rfl) rfl (.tmp rfl fun _ => rfl)) rfl ?_
      refine AWl.put (R_add rfl (.no rfl) rfl (.tmp rfl fun _ => rfl) (.const rfl) (fun _ => by omega)) rfl ?_
      refine AWl.put (R_assign rfl (.no rfl) rfl (.tmp rfl fun _ => rfl)) rfl ?_
      refine AWl.nil ?_
      repeat (with_reducible refine BlockQ.nor ?_)
      refine Round1.next (k + 1) ⟨⟨⟨by omega, by omega⟩, fun j h1 h2 h3 => (by by_cases e : j = k; (subst e; exact fun e2 => h18 (by omega) (by rw [e2])); exact hk.2 j h1 (by omega) h3)⟩, trivial⟩ (by omega) (Le.sub0 rfl ⟨rfl, rfl, rfl, trivial⟩ ⟨(by first | rfl | (refine congrArg (fun r => some (R.row _ r)) ?_; simp [chunk, List.map_set, cInt, cBool, cIntS, cPair, cToken, cExpr, cEdge, cGraph, cStep, cWalk, cChange, cBatch, cHistory, cPositions, cAutomaton, cProductStep, cPathAtom, cConjunction, cView, cDelta, cRegistered, cRegistry])), trivial⟩)
  · skip
    try simp at h7
    refine AW.exit ?_
    refine AW.seq ?_
    refine AW.region ?_
    refine AWl.put (R_move rfl (.no rfl) rfl (.tmp rfl fun _ => rfl)) rfl ?_
    refine AWl.put (R_callz (FnT.fr (specParseLetter s)) rfl (.no rfl) rfl (.cons (.tmp rfl fun _ => rfl) rfl .nil)) rfl ?_
    refine AWl.put (R_movet rfl (.no rfl) rfl rfl fun _ => rfl) rfl ?_
    refine AWl.put (R_extract rfl (.no rfl) rfl rfl (fun _ => rfl) rfl) rfl ?_
    refine AWl.put (R_extract rfl (.no rfl) rfl rfl (fun _ => rfl) rfl) rfl ?_
    refine AWl.put (R_assign rfl (.no rfl) rfl (.tmp rfl fun _ => rfl)) rfl ?_
    refine AWl.put (R_assign rfl (.no rfl) rfl (.tmp rfl fun _ => rfl)) rfl ?_
    refine AWl.nil ?_
    refine AW.seq ?_
    refine AW.seq ?_
    refine AW.le (σ' := ⟨_, [(0, _), (2, _), (3, _), (4, _), (5, _)], [(2, _)]⟩) (Le.sub0 rfl ⟨rfl, rfl, rfl, rfl, rfl, trivial⟩ ⟨rfl, trivial⟩) ?_
    refine AW.region ?_
    refine AWl.put (R_move rfl (.no rfl) rfl (.tmp rfl fun _ => rfl)) rfl ?_
    refine AWl.nil ?_
    refine AW.cond (.tmp rfl fun _ => rfl) (fun h26 => ?_) (fun h26 => ?_)
    · skip
      try simp at h26
      have hne := ne_found fun j h1 h2 h3 => hk.2 j h1 (by omega) h3
      refine AW.seq ?_
      refine AW.region ?_
      refine AWl.put (R_move rfl (.no rfl) rfl (.tmp rfl fun _ => rfl)) rfl ?_
      refine AWl.put (R_build (ps := [(0, .const (.int .i64 (3))), (1, .tmp 27)]) rfl rfl rfl in48 rfl rfl st48 (.cons (.const rfl) rfl rfl fp48_0 (.cons (.tmp rfl fun _ => rfl) rfl rfl fp48_1 .nil)) rfl) rfl ?_
      refine AWl.chgb (R_store_pb rfl rfl rfl (.tmp rfl fun _ => rfl) (.tmp rfl fun _ => rfl) rfl ty48 rfl rfl rfl (by kernel_rfl) rfl) ?_
      refine AWl.nil ?_
      refine AW.ret ?_
      refine Res.one rfl (.cell rfl rfl ty48 rfl rfl .nil) rfl ?_
      rw [rdT_let hne h26]; rfl
    · skip
      try simp at h26
      have hne := ne_found fun j h1 h2 h3 => hk.2 j h1 (by omega) h3
      refine AW.skip ?_
      refine AW.seq ?_
      refine AW.seq ?_
      refine AW.region ?_
      refine AWl.put (R_move rfl (.no rfl) rfl (.tmp rfl fun _ => rfl)) rfl ?_
      refine AWl.put (R_len_s rfl (.no rfl) rfl (.tmp rfl fun _ => rfl) Tryz.underlying9) rfl ?_
      refine AWl.put (R_eq rfl (.no rfl) rfl (.tmp rfl fun _ => rfl) (.const rfl)) rfl ?_
      refine AWl.put (R_move rfl (.no rfl) rfl (.tmp rfl fun _ => rfl)) rfl ?_
      refine AWl.put (R_move rfl (by first | exact .yes1 rfl rfl rfl rfl | exact .yes rfl rfl rfl rfl) rfl (.tmp rfl (by first | exact fun _ => rfl | exact id | simp))) rfl ?_
      refine AWl.put (R_strIndex rfl (by first | exact .yes1 rfl rfl rfl rfl | exact .yes rfl rfl rfl rfl) rfl (.tmp rfl (by first | exact fun _ => rfl | exact id | simp)) (.const rfl) Tryz.underlying9 (fun hq => ⟨by omega, by rw [bs_get]; exact hb0 (by simp at hq; omega)⟩)) rfl ?_
      refine AWl.put (R_eq rfl (by first | exact .yes1 rfl rfl rfl rfl | exact .yes rfl rfl rfl rfl) rfl (.tmp rfl (by first | exact fun _ => rfl | exact id | simp)) (.const rfl)) rfl ?_
      refine AWl.put (R_and rfl (.no rfl) rfl (.tmp rfl fun _ => rfl) (.tmp rfl (by first | exact fun _ => rfl | exact id | simp))) rfl ?_
      refine AWl.put (R_move rfl (.no rfl) rfl (.tmp rfl fun _ => rfl)) rfl ?_
      refine AWl.put (R_move rfl (by first | exact .yes1 rfl rfl rfl rfl | exact .yes rfl rfl rfl rfl) rfl (.tmp rfl (by first | exact fun _ => rfl | exact id | simp))) rfl ?_
      refine AWl.put (R_strIndex rfl (by first | exact .yes1 rfl rfl rfl rfl | exact .yes rfl rfl rfl rfl) rfl (.tmp rfl (by first | exact fun _ => rfl | exact id | simp)) (.const rfl) Tryz.underlying9 (fun hq => ⟨by omega, by rw [bs_get]; exact hb2 (by simp at hq; omega)⟩)) rfl ?_
      refine AWl.put (R_eq rfl (by first | exact .yes1 rfl rfl rfl rfl | exact .yes rfl rfl rfl rfl) rfl (.tmp rfl (by first | exact fun _ => rfl | exact id | simp)) (.const rfl)) rfl ?_
      refine AWl.put (R_and rfl (.no rfl) rfl (.tmp rfl fun _ => rfl) (.tmp rfl (by first | exact fun _ => rfl | exact id | simp))) rfl ?_
      refine AWl.put (R_move rfl (.no rfl) rfl (.tmp rfl fun _ => rfl)) rfl ?_
      refine AWl.put (R_move rfl (by first | exact .yes1 rfl rfl rfl rfl | exact .yes rfl rfl rfl rfl) rfl (.tmp rfl (by first | exact fun _ => rfl | exact id | simp))) rfl ?_
      refine AWl.put (R_strIndex rfl (by first | exact .yes1 rfl rfl rfl rfl | exact .yes rfl rfl rfl rfl) rfl (.tmp rfl (by first | exact fun _ => rfl | exact id | simp)) (.const rfl) Tryz.underlying9 (fun hq => ⟨by omega, by rw [bs_get]; exact hb4 (by simp at hq; omega)⟩)) rfl ?_
      refine AWl.put (R_eq rfl (by first | exact .yes1 rfl rfl rfl rfl | exact .yes rfl rfl rfl rfl) rfl (.tmp rfl (by first | exact fun _ => rfl | exact id | simp)) (.const rfl)) rfl ?_
      refine AWl.put (R_and rfl (.no rfl) rfl (.tmp rfl fun _ => rfl) (.tmp rfl (by first | exact fun _ => rfl | exact id | simp))) rfl ?_
      refine AWl.nil ?_
      refine AW.cond (.tmp rfl fun _ => rfl) (fun h46 => ?_) (fun h46 => ?_)
      · skip
        try simp at h46
        obtain ⟨x0, x1, x2, x3, x4, hx⟩ := five_bytes (x := s) (by omega)
        have hx1 : x1.toNat < 256 := x1.toNat_lt
        have hx3 : x3.toNat < 256 := x3.toNat_lt
        have e0 : b0 = x0 := by (have := hb0 (by rw [hx]; rfl); rw [hx] at this; exact (Option.some.inj this).symm)
        have e2 : b2 = x2 := by (have := hb2 (by rw [hx]; rfl); rw [hx] at this; exact (Option.some.inj this).symm)
        have e4 : b4 = x4 := by (have := hb4 (by rw [hx]; rfl); rw [hx] at this; exact (Option.some.inj this).symm)
        refine AW.seq ?_
        refine AW.le (σ' := ⟨_, [(0, _), (2, _), (3, _), (4, _), (5, _)], [(2, _)]⟩) (Le.sub0 rfl ⟨rfl, rfl, rfl, rfl, rfl, trivial⟩ ⟨rfl, trivial⟩) ?_
        refine AW.le (σ' := ⟨_, [(0, _), (2, _), (3, _), (4, _), (5, _)], [(2, _)]⟩) (Le.sub0 rfl ⟨rfl, rfl, rfl, rfl, rfl, trivial⟩ ⟨rfl, trivial⟩) ?_
        refine AW.mixn 10 8 2 [0, 1, 2, 3, 4, 5, 6, 7] [] [[], [0], [0, 1], [0, 1, 2], [], [4], [4, 5], [4, 5, 6], [0, 1, 2, 3, 4, 5, 6, 7], [0, 1, 2, 3, 4, 5, 6, 7, 8]] [[0, 1, 2, 3, 4, 5, 6, 7], [0, 1, 2, 3, 4, 5, 6, 7, 8], [0, 1, 2, 3, 4, 5, 6, 7, 8, 9]] [(0, 8, 1), (1, 9, 2)] [(0, [0, 1, 2, 3, 4, 5, 6, 7])] (by kernel_rfl) (by kernel_rfl) (by kernel_rfl) (by kernel_rfl) rfl rfl ?_
        refine DrawG.step rfl rfl (Loc.of rfl fun σ' hs => R_move rfl (.no rfl) (hd_sup hs rfl) (.tmp (hs.slots _ _ rfl) fun _ => rfl)) ?_
        refine DrawG.step rfl rfl (Loc.of rfl fun σ' hs => R_strIndex rfl (.no rfl) (hd_sup hs rfl) (.tmp (hs.slots _ _ rfl) fun _ => rfl) (.const rfl) Tryz.underlying9 (fun _ => ⟨by omega, by rw [bs_get, hx]; rfl⟩)) ?_
        refine DrawG.step rfl rfl (Loc.of rfl fun σ' hs => R_conv rfl (.no rfl) (hd_sup hs rfl) (.tmp (hs.slots _ _ rfl) fun _ => rfl) (by rw [Tryz.underlying5]; rfl) Tryz.underlying3 (fun _ => (show IntKind.i64.wrap (x1.toNat : Int) = (x1.toNat : Int) from wrapI (by omega)))) ?_
        refine DrawG.step rfl rfl (Loc.of rfl fun σ' hs => R_sub rfl (.no rfl) (hd_sup hs rfl) (.tmp (hs.slots _ _ rfl) fun _ => rfl) (.const rfl) (fun _ => by omega)) ?_
        refine DrawG.step rfl rfl (Loc.of rfl fun σ' hs => R_move rfl (.no rfl) (hd_sup hs rfl) (.tmp (hs.slots _ _ rfl) fun _ => rfl)) ?_
        refine DrawG.step rfl rfl (Loc.of rfl fun σ' hs => R_strIndex rfl (.no rfl) (hd_sup hs rfl) (.tmp (hs.slots _ _ rfl) fun _ => rfl) (.const rfl) Tryz.underlying9 (fun _ => ⟨by omega, by rw [bs_get, hx]; rfl⟩)) ?_
        refine DrawG.step rfl rfl (Loc.of rfl fun σ' hs => R_conv rfl (.no rfl) (hd_sup hs rfl) (.tmp (hs.slots _ _ rfl) fun _ => rfl) (by rw [Tryz.underlying5]; rfl) Tryz.underlying3 (fun _ => (show IntKind.i64.wrap (x3.toNat : Int) = (x3.toNat : Int) from wrapI (by omega)))) ?_
        refine DrawG.step rfl rfl (Loc.of rfl fun σ' hs => R_sub rfl (.no rfl) (hd_sup hs rfl) (.tmp (hs.slots _ _ rfl) fun _ => rfl) (.const rfl) (fun _ => by omega)) ?_
        refine DrawG.fin rfl (FinX.mk rfl rfl ?_)
        refine MixD.add ⟨_, [(0, _), (2, _), (3, _), (4, _), (5, _), (47, _), (48, _), (49, _), (50, _), (51, _), (52, _), (53, _), (54, _)], [(2, _)]⟩ rfl (Le.sub0 rfl ⟨rfl, rfl, rfl, rfl, rfl, rfl, rfl, rfl, rfl, rfl, rfl, rfl, rfl, trivial⟩ ⟨rfl, trivial⟩) ?_
        refine MixD.go ?_
        apply Dag.new (i := 8)
        case ha => rfl
        case ho => rfl
        case hb => rfl
        case hE =>
          intro w9
          refine AWl.put (R_build (ps := [(0, .const (.int .i64 (7))), (2, .tmp 50), (3, .tmp 54)]) rfl rfl rfl in48 rfl rfl st48 (.cons (.const rfl) rfl rfl fp48_0 (.cons (.tmp rfl fun _ => rfl) rfl rfl fp48_2 (.cons (.tmp rfl fun _ => rfl) rfl rfl fp48_3 .nil))) rfl) rfl ?_
          refine AWl.nil ?_
          exact Le.sub0 (σ' := ⟨_, [(0, _), (2, _), (3, _), (4, _), (5, _), (55, _)], [(2, _)]⟩) rfl ⟨rfl, rfl, rfl, rfl, rfl, rfl, trivial⟩ ⟨rfl, trivial⟩
        apply Dag.new (i := 9)
        case ha => rfl
        case ho => rfl
        case hb => rfl
        case hE =>
          intro w9
          refine AWl.chgb (R_store_pb rfl rfl rfl (.tmp rfl fun _ => rfl) (.tmp rfl fun _ => rfl) rfl ty48 rfl rfl rfl (by kernel_rfl) rfl) ?_
          refine AWl.nil ?_
          exact Le.sub0 (σ' := ⟨_, [(0, _), (2, _), (3, _), (4, _), (5, _)], [(2, _)]⟩) rfl ⟨rfl, rfl, rfl, rfl, rfl, trivial⟩ ⟨rfl, trivial⟩
        refine Dag.fin (k := 2) rfl ?_
        refine AWl.nil ?_
        refine AW.ret ?_
        refine Res.one rfl (.cell rfl rfl ty48 rfl rfl .nil) rfl ?_
        rw [rdT_rest hne h26, hx, brS_yes (by rw [← e0]; exact h46.1.1.2) (by rw [← e2]; exact h46.1.2) (by rw [← e4]; exact h46.2)]; rfl
      · skip
        try simp at h46
        refine AW.skip ?_
        refine AW.seq ?_
        refine AW.le (σ' := ⟨_, [(0, _), (2, _), (3, _), (4, _), (5, _)], [(2, _)]⟩) (Le.sub0 rfl ⟨rfl, rfl, rfl, rfl, rfl, trivial⟩ ⟨rfl, trivial⟩) ?_
        refine AW.region ?_
        refine AWl.put (R_build (ps := []) rfl rfl rfl in48 rfl rfl st48 .nil rfl) rfl ?_
        refine AWl.chgb (R_store_pb rfl rfl rfl (.tmp rfl fun _ => rfl) (.tmp rfl fun _ => rfl) rfl ty48 rfl rfl rfl (by kernel_rfl) rfl) ?_
        refine AWl.nil ?_
        refine AW.ret ?_
        refine Res.one rfl (.cell rfl rfl ty48 rfl rfl .nil) rfl ?_
        rw [rdT_rest hne h26, brS_no hb0 hb2 hb4 (by intro hh; grind)]; rfl
theorem implParseExpr (l : List UInt8) (hz : l.length ≤ 1073741824) : FnT Tryz.prog 15 [.one (.v (.string (bs l)))] (.tup [.agg (cExpr (parseX l).1), .one (.v (.bool (parseX l).2))]) := by
  have hcs := stringsSplit (bs l) 32 (by rw [bs_size]; omega)
  rw [bs_list] at hcs
  refine FnT.walk Tryz.func15 rfl (by kernel_rfl) Tryz.ntmps15 rfl fun hlen w0 => ?_
  try simp [cPair, cToken, cExpr, cEdge, cGraph, cStep, cWalk, cChange, cBatch, cHistory, cPositions, cAutomaton, cProductStep, cPathAtom, cConjunction, cView, cDelta, cRegistered, cRegistry] at hlen
  have hsz := bs_size l
  have hcl := splitL_len 32 l
  have hcl2 := List.count_le_length (a := 32) (l := l)
  refine AW.seq ?_
  refine AW.region ?_
  refine AWl.add (R_alloc 2 rfl rfl rfl in34 rfl rfl rfl) rfl ?_
  refine AWl.put (R_assign rfl (.no rfl) rfl (.const rfl)) rfl ?_
  refine AWl.nil ?_
  refine AW.seq ?_
  refine AW.region ?_
  refine AWl.put (R_build (ps := []) rfl rfl rfl in34 rfl rfl st34 .nil rfl) rfl ?_
  refine AWl.nilA (i := 7) 20001 4 0 rfl rfl rfl ?_
  refine AWl.add (R_alloc 4 rfl rfl rfl in34 rfl rfl rfl) rfl ?_
  refine AWl.chgb (R_store_pb rfl rfl rfl (.tmp rfl fun _ => rfl) (.tmp rfl fun _ => rfl) rfl ty34 rfl rfl rfl (by kernel_rfl) rfl) ?_
  refine AWl.nil ?_
  refine AW.seq ?_
  refine AW.seq ?_
  refine AW.region ?_
  refine AWl.put (R_move rfl (.no rfl) rfl (.tmp rfl fun _ => rfl)) rfl ?_
  refine AWl.put (R_callz (FnT.fr (hcs)) rfl (.no rfl) rfl (.cons (.tmp rfl fun _ => rfl) rfl (.cons (.const rfl) rfl .nil))) rfl ?_
  refine AWl.put ((by first | exact R_lenm rfl (.no rfl) rfl (.tmp rfl fun _ => rfl) (by first | exact .t | exact .rf rfl | exact .vw | exact .nil) Tryz.underlying30 | exact R_len rfl (.no rfl) rfl (.tmp rfl fun _ => rfl) (by first | exact .t | exact .rf rfl | exact .vw | exact .nil) Tryz.underlying30)) rfl ?_
  refine AWl.put (R_move rfl (.no rfl) rfl (.const rfl)) rfl ?_
  refine AWl.nil ?_
  refine AW.block ?_
  refine AW.loop1 (fun (k : Nat) => (k ≤ (splitL 32 l).length) ∧ True) (fun (k : Nat) => ⟨_, [(11, (true, .a (.one (.t (.v (.int .i64 (k : Nat))))))), (0, _), (2, _), (3, _), (4, _), (9, _), (10, _)], [(2, .box [.t (.v (.slice none 0 0))]), (4, .box [.rf 20001]), (20001, .row 4 ((((splitL 32 l).take k).map (rdT brI)).map cToken))]⟩) (fun (k : Nat) => (splitL 32 l).length - k) (0) ⟨Nat.zero_le _, trivial⟩ (Le.sub0 rfl ⟨rfl, rfl, rfl, rfl, rfl, rfl, rfl, trivial⟩ ⟨rfl, rfl, rfl, trivial⟩) ?_
  rintro k ⟨hk, he⟩
  refine AW.seq ?_
  refine AW.region ?_
  refine AWl.put (R_lt rfl (.no rfl) rfl (.tmp rfl fun _ => rfl) (.tmp rfl fun _ => rfl)) rfl ?_
  refine AWl.nil ?_
  refine AW.seq ?_
  refine AW.cond (.tmp rfl fun _ => rfl) (fun h12 => ?_) (fun h12 => ?_)
  · skip
    try simp at h12
    obtain ⟨x, hx⟩ : ∃ ξ, (splitL 32 l)[k]? = some ξ := ⟨_, List.getElem?_eq_getElem (by omega)⟩
    have hxl := (splitL_mem (c := 32) (l := l) (x := x) (List.mem_of_getElem? hx)).2
    refine AW.skip ?_
    refine AW.seq ?_
    refine AW.block ?_
    refine AW.seq ?_
    refine AW.region ?_
    refine AWl.put ((by first | exact R_indexAddr rfl (.no rfl) rfl (.tmp rfl fun _ => rfl) (.tmp rfl fun _ => rfl) Tryz.underlying30 ty9 (fun _ => ⟨by omega, (map_get hx)⟩) | exact R_indexAddr_vw rfl (.no rfl) rfl (.tmp rfl fun _ => rfl) (.tmp rfl fun _ => rfl) Tryz.underlying30 ty9 (fun _ => ⟨by omega, (map_get hx)⟩) | exact R_indexAddr_rf rfl (.no rfl) rfl (.tmp rfl fun _ => rfl) rfl (.tmp rfl fun _ => rfl) Tryz.underlying30 ty9 (fun _ => ⟨by omega, (map_get hx)⟩))) rfl ?_
    refine AWl.put ((by first | exact R_load rfl (.no rfl) rfl (.tmp rfl fun _ => rfl) ty9 rfl rfl | exact R_load_pp rfl (.no rfl) rfl (.tmp rfl fun _ => rfl) rfl ty9 rfl rfl | exact R_load_vw rfl (.no rfl) rfl (.tmp rfl fun _ => rfl) ty9 rfl rfl | exact R_load_pr rfl (.no rfl) rfl (.tmp rfl fun _ => rfl) rfl (map_get hx) ty9 rfl rfl)) rfl ?_
    refine AWl.put (R_assign rfl (.no rfl) rfl (.tmp rfl fun _ => rfl)) rfl ?_
    refine AWl.nil ?_
    refine AW.dagn 8 14 [[], [0], [2], [0, 1], [0, 2], [2, 3], [0, 1, 2], [0, 2, 3], [2, 3, 4], [0, 1, 2, 3], [0, 2, 3, 4], [0, 1, 2, 3, 4], [0, 1, 2, 3, 4, 5], [0, 1, 2, 3, 4, 5, 6], [0, 1, 2, 3, 4, 5, 6, 7]] [(0, 0, 1), (0, 2, 2), (1, 1, 3), (1, 2, 4), (2, 0, 4), (2, 3, 5), (3, 2, 6), (4, 1, 6), (4, 3, 7), (5, 0, 7), (5, 4, 8), (6, 3, 9), (7, 1, 9), (7, 4, 10), (8, 0, 10), (9, 4, 11), (10, 1, 11), (11, 5, 12), (12, 6, 13), (13, 7, 14)] (by kernel_rfl) (by kernel_rfl) (by kernel_rfl) ?_
    apply Dag.new (i := 0)
    case ha => rfl
    case ho => rfl
    case hb => rfl
    case hE =>
      intro w9
      refine AWl.put ((by first | exact R_fieldAddr rfl (.no rfl) rfl (.tmp rfl fun _ => rfl) fl34_0 | exact R_fieldAddr_pp rfl (.no rfl) rfl (.tmp rfl fun _ => rfl) fl34_0 | exact R_fieldAddr_vw rfl (.no rfl) rfl (.tmp rfl fun _ => rfl) fl34_0 | exact R_fieldAddr_pr rfl (.no rfl) rfl (.tmp rfl fun _ => rfl) fl34_0)) rfl ?_
      refine AWl.nil ?_
      exact Le.sub0 (σ' := ⟨_, [(0, _), (2, _), (3, _), (4, _), (6, _), (9, _), (10, _), (11, _), (12, _), (15, _)], [(2, _), (4, _), (20001, _)]⟩) rfl ⟨rfl, rfl, rfl, rfl, rfl, rfl, rfl, rfl, rfl, rfl, trivial⟩ ⟨rfl, rfl, rfl, trivial⟩
    apply Dag.new (i := 2)
    case ha => rfl
    case ho => rfl
    case hb => rfl
    case hE =>
      intro w9
      refine AWl.put (R_move rfl (.no rfl) rfl (.tmp rfl fun _ => rfl)) rfl ?_
      refine AWl.nil ?_
      exact Le.sub0 (σ' := ⟨_, [(0, _), (2, _), (3, _), (4, _), (6, _), (9, _), (10, _), (11, _), (12, _), (17, _)], [(2, _), (4, _), (20001, _)]⟩) rfl ⟨rfl, rfl, rfl, rfl, rfl, rfl, rfl, rfl, rfl, rfl, trivial⟩ ⟨rfl, rfl, rfl, trivial⟩
    apply Dag.new (i := 1)
    case ha => rfl
    case ho => rfl
    case hb => rfl
    case hE =>
      intro w9
      refine AWl.put ((by first | exact R_load rfl (.no rfl) rfl (.tmp rfl fun _ => rfl) ty32 rfl rfl | exact R_load_pp rfl (.no rfl) rfl (.tmp rfl fun _ => rfl) rfl ty32 rfl rfl | exact R_load_vw rfl (.no rfl) rfl (.tmp rfl fun _ => rfl) ty32 rfl rfl | exact R_load_pr rfl (.no rfl) rfl (.tmp rfl fun _ => rfl) rfl (map_get hx) ty32 rfl rfl)) rfl ?_
      refine AWl.nil ?_
      exact Le.sub0 (σ' := ⟨_, [(0, _), (2, _), (3, _), (4, _), (6, _), (9, _), (10, _), (11, _), (12, _), (16, _)], [(2, _), (4, _), (20001, _)]⟩) rfl ⟨rfl, rfl, rfl, rfl, rfl, rfl, rfl, rfl, rfl, rfl, trivial⟩ ⟨rfl, rfl, rfl, trivial⟩
    apply Dag.new (i := 2)
    case ha => rfl
    case ho => rfl
    case hb => rfl
    case hE =>
      intro w9
      refine AWl.put (R_move rfl (.no rfl) rfl (.tmp rfl fun _ => rfl)) rfl ?_
      refine AWl.nil ?_
      exact Le.sub0 (σ' := ⟨_, [(0, _), (2, _), (3, _), (4, _), (6, _), (9, _), (10, _), (11, _), (12, _), (15, _), (17, _)], [(2, _), (4, _), (20001, _)]⟩) rfl ⟨rfl, rfl, rfl, rfl, rfl, rfl, rfl, rfl, rfl, rfl, rfl, trivial⟩ ⟨rfl, rfl, rfl, trivial⟩
    apply Dag.old (i := 0)
    case ha => rfl
    case ho => rfl
    case hb => rfl
    case hE =>
      intro w9
      refine AWl.put ((by first | exact R_fieldAddr rfl (.no rfl) rfl (.tmp rfl fun _ => rfl) fl34_0 | exact R_fieldAddr_pp rfl (.no rfl) rfl (.tmp rfl fun _ => rfl) fl34_0 | exact R_fieldAddr_vw rfl (.no rfl) rfl (.tmp rfl fun _ => rfl) fl34_0 | exact R_fieldAddr_pr rfl (.no rfl) rfl (.tmp rfl fun _ => rfl) fl34_0)) rfl ?_
      refine AWl.nil ?_
      exact Le.sub0 rfl ⟨rfl, rfl, rfl, rfl, rfl, rfl, rfl, rfl, rfl, rfl, rfl, trivial⟩ ⟨rfl, rfl, rfl, trivial⟩
    apply Dag.new (i := 3)
    case ha => rfl
    case ho => rfl
    case hb => rfl
    case hE =>
      intro w9
      refine AWl.put (R_callz (FnT.fr (impltokenOf x (by omega))) rfl (.no rfl) rfl (.cons (.tmp rfl fun _ => rfl) rfl .nil)) rfl ?_
      refine AWl.nil ?_
      exact Le.sub0 (σ' := ⟨_, [(0, _), (2, _), (3, _), (4, _), (6, _), (9, _), (10, _), (11, _), (12, _), (18, _)], [(2, _), (4, _), (20001, _)]⟩) rfl ⟨rfl, rfl, rfl, rfl, rfl, rfl, rfl, rfl, rfl, rfl, trivial⟩ ⟨rfl, rfl, rfl, trivial⟩
    apply Dag.new (i := 2)
    case ha => rfl
    case ho => rfl
    case hb => rfl
    case hE =>
      intro w9
      refine AWl.put (R_move rfl (.no rfl) rfl (.tmp rfl fun _ => rfl)) rfl ?_
      refine AWl.nil ?_
      exact Le.sub0 (σ' := ⟨_, [(0, _), (2, _), (3, _), (4, _), (6, _), (9, _), (10, _), (11, _), (12, _), (16, _), (17, _)], [(2, _), (4, _), (20001, _)]⟩) rfl ⟨rfl, rfl, rfl, rfl, rfl, rfl, rfl, rfl, rfl, rfl, rfl, trivial⟩ ⟨rfl, rfl, rfl, trivial⟩
    apply Dag.old (i := 1)
    case ha => rfl
    case ho => rfl
    case hb => rfl
    case hE =>
      intro w9
      refine AWl.put ((by first | exact R_load rfl (.no rfl) rfl (.tmp rfl fun _ => rfl) ty32 rfl rfl | exact R_load_pp rfl (.no rfl) rfl (.tmp rfl fun _ => rfl) rfl ty32 rfl rfl | exact R_load_vw rfl (.no rfl) rfl (.tmp rfl fun _ => rfl) ty32 rfl rfl | exact R_load_pr rfl (.no rfl) rfl (.tmp rfl fun _ => rfl) rfl (map_get hx) ty32 rfl rfl)) rfl ?_
      refine AWl.nil ?_
      exact Le.sub0 rfl ⟨rfl, rfl, rfl, rfl, rfl, rfl, rfl, rfl, rfl, rfl, rfl, trivial⟩ ⟨rfl, rfl, rfl, trivial⟩
    apply Dag.new (i := 3)
    case ha => rfl
    case ho => rfl
    case hb => rfl
    case hE =>
      intro w9
      refine AWl.put (R_callz (FnT.fr (impltokenOf x (by omega))) rfl (.no rfl) rfl (.cons (.tmp rfl fun _ => rfl) rfl .nil)) rfl ?_
      refine AWl.nil ?_
      exact Le.sub0 (σ' := ⟨_, [(0, _), (2, _), (3, _), (4, _), (6, _), (9, _), (10, _), (11, _), (12, _), (15, _), (18, _)], [(2, _), (4, _), (20001, _)]⟩) rfl ⟨rfl, rfl, rfl, rfl, rfl, rfl, rfl, rfl, rfl, rfl, rfl, trivial⟩ ⟨rfl, rfl, rfl, trivial⟩
    apply Dag.old (i := 0)
    case ha => rfl
    case ho => rfl
    case hb => rfl
    case hE =>
      intro w9
      refine AWl.put ((by first | exact R_fieldAddr rfl (.no rfl) rfl (.tmp rfl fun _ => rfl) fl34_0 | exact R_fieldAddr_pp rfl (.no rfl) rfl (.tmp rfl fun _ => rfl) fl34_0 | exact R_fieldAddr_vw rfl (.no rfl) rfl (.tmp rfl fun _ => rfl) fl34_0 | exact R_fieldAddr_pr rfl (.no rfl) rfl (.tmp rfl fun _ => rfl) fl34_0)) rfl ?_
      refine AWl.nil ?_
      exact Le.sub0 rfl ⟨rfl, rfl, rfl, rfl, rfl, rfl, rfl, rfl, rfl, rfl, rfl, trivial⟩ ⟨rfl, rfl, rfl, trivial⟩
    apply Dag.new (i := 4)
    case ha => rfl
    case ho => rfl
    case hb => rfl
    case hE =>
      intro w9
      refine AWl.absadd (R_list (xs := [.tmp 18]) 19 rfl rfl rfl (.cons (.tmp rfl fun _ => rfl) rfl rfl .nil) Tryz.underlying32 in48 rfl rfl rfl rfl) rfl ?_
      refine AWl.nil ?_
      exact Le.sub0 (σ' := ⟨_, [(0, _), (2, _), (3, _), (4, _), (6, _), (9, _), (10, _), (11, _), (12, _), (19, _)], [(2, _), (4, _), (20001, _), (19, _)]⟩) rfl ⟨rfl, rfl, rfl, rfl, rfl, rfl, rfl, rfl, rfl, rfl, trivial⟩ ⟨rfl, rfl, rfl, rfl, trivial⟩
    apply Dag.new (i := 3)
    case ha => rfl
    case ho => rfl
    case hb => rfl
    case hE =>
      intro w9
      refine AWl.put (R_callz (FnT.fr (impltokenOf x (by omega))) rfl (.no rfl) rfl (.cons (.tmp rfl fun _ => rfl) rfl .nil)) rfl ?_
      refine AWl.nil ?_
      exact Le.sub0 (σ' := ⟨_, [(0, _), (2, _), (3, _), (4, _), (6, _), (9, _), (10, _), (11, _), (12, _), (16, _), (18, _)], [(2, _), (4, _), (20001, _)]⟩) rfl ⟨rfl, rfl, rfl, rfl, rfl, rfl, rfl, rfl, rfl, rfl, rfl, trivial⟩ ⟨rfl, rfl, rfl, trivial⟩
    apply Dag.old (i := 1)
    case ha => rfl
    case ho => rfl
    case hb => rfl
    case hE =>
      intro w9
      refine AWl.put ((by first | exact R_load rfl (.no rfl) rfl (.tmp rfl fun _ => rfl) ty32 rfl rfl | exact R_load_pp rfl (.no rfl) rfl (.tmp rfl fun _ => rfl) rfl ty32 rfl rfl | exact R_load_vw rfl (.no rfl) rfl (.tmp rfl fun _ => rfl) ty32 rfl rfl | exact R_load_pr rfl (.no rfl) rfl (.tmp rfl fun _ => rfl) rfl (map_get hx) ty32 rfl rfl)) rfl ?_
      refine AWl.nil ?_
      exact Le.sub0 rfl ⟨rfl, rfl, rfl, rfl, rfl, rfl, rfl, rfl, rfl, rfl, rfl, trivial⟩ ⟨rfl, rfl, rfl, trivial⟩
    apply Dag.new (i := 4)
    case ha => rfl
    case ho => rfl
    case hb => rfl
    case hE =>
      intro w9
      refine AWl.absadd (R_list (xs := [.tmp 18]) 19 rfl rfl rfl (.cons (.tmp rfl fun _ => rfl) rfl rfl .nil) Tryz.underlying32 in48 rfl rfl rfl rfl) rfl ?_
      refine AWl.nil ?_
      exact Le.sub0 (σ' := ⟨_, [(0, _), (2, _), (3, _), (4, _), (6, _), (9, _), (10, _), (11, _), (12, _), (15, _), (19, _)], [(2, _), (4, _), (20001, _), (19, _)]⟩) rfl ⟨rfl, rfl, rfl, rfl, rfl, rfl, rfl, rfl, rfl, rfl, rfl, trivial⟩ ⟨rfl, rfl, rfl, rfl, trivial⟩
    apply Dag.old (i := 0)
    case ha => rfl
    case ho => rfl
    case hb => rfl
    case hE =>
      intro w9
      refine AWl.put ((by first | exact R_fieldAddr rfl (.no rfl) rfl (.tmp rfl fun _ => rfl) fl34_0 | exact R_fieldAddr_pp rfl (.no rfl) rfl (.tmp rfl fun _ => rfl) fl34_0 | exact R_fieldAddr_vw rfl (.no rfl) rfl (.tmp rfl fun _ => rfl) fl34_0 | exact R_fieldAddr_pr rfl (.no rfl) rfl (.tmp rfl fun _ => rfl) fl34_0)) rfl ?_
      refine AWl.nil ?_
      exact Le.sub0 rfl ⟨rfl, rfl, rfl, rfl, rfl, rfl, rfl, rfl, rfl, rfl, rfl, trivial⟩ ⟨rfl, rfl, rfl, rfl, trivial⟩
    apply Dag.new (i := 4)
    case ha => rfl
    case ho => rfl
    case hb => rfl
    case hE =>
      intro w9
      refine AWl.absadd (R_list (xs := [.tmp 18]) 19 rfl rfl rfl (.cons (.tmp rfl fun _ => rfl) rfl rfl .nil) Tryz.underlying32 in48 rfl rfl rfl rfl) rfl ?_
      refine AWl.nil ?_
      exact Le.sub0 (σ' := ⟨_, [(0, _), (2, _), (3, _), (4, _), (6, _), (9, _), (10, _), (11, _), (12, _), (16, _), (19, _)], [(2, _), (4, _), (20001, _), (19, _)]⟩) rfl ⟨rfl, rfl, rfl, rfl, rfl, rfl, rfl, rfl, rfl, rfl, rfl, trivial⟩ ⟨rfl, rfl, rfl, rfl, trivial⟩
    apply Dag.old (i := 1)
    case ha => rfl
    case ho => rfl
    case hb => rfl
    case hE =>
      intro w9
      refine AWl.put ((by first | exact R_load rfl (.no rfl) rfl (.tmp rfl fun _ => rfl) ty32 rfl rfl | exact R_load_pp rfl (.no rfl) rfl (.tmp rfl fun _ => rfl) rfl ty32 rfl rfl | exact R_load_vw rfl (.no rfl) rfl (.tmp rfl fun _ => rfl) ty32 rfl rfl | exact R_load_pr rfl (.no rfl) rfl (.tmp rfl fun _ => rfl) rfl (map_get hx) ty32 rfl rfl)) rfl ?_
      refine AWl.nil ?_
      exact Le.sub0 rfl ⟨rfl, rfl, rfl, rfl, rfl, rfl, rfl, rfl, rfl, rfl, rfl, trivial⟩ ⟨rfl, rfl, rfl, rfl, trivial⟩
    apply Dag.new (i := 5)
    case ha => rfl
    case ho => rfl
    case hb => rfl
    case hE =>
      intro w9
      refine AWl.chgput (R_append rfl rfl rfl (.tmp rfl fun _ => rfl) rfl (.tmp rfl fun _ => rfl) (by first | exact .t | exact .rf rfl | exact .vw | exact .nil) (by first | rfl | exact isV_map (fun _ => rfl) _ | exact isV_part (fun _ => rfl) _ _ _) Tryz.underlying32 in48 rfl (by first | omega | (simp [chunk]; omega) | (simp only [List.length_map, List.length_append, List.length_cons, List.length_nil, chunk]; omega)) (by first | omega | (unfold maxLen; omega) | (unfold maxLen; simp [chunk]; omega) | (unfold maxLen; simp only [List.length_map, List.length_append, List.length_cons, List.length_nil, chunk]; omega))) rfl ?_
      refine AWl.nil ?_
      exact Le.sub0 (σ' := ⟨_, [(0, _), (2, _), (3, _), (4, _), (6, _), (9, _), (10, _), (11, _), (12, _), (20, _)], [(2, _), (4, _), (20001, _), (19, _)]⟩) rfl ⟨rfl, rfl, rfl, rfl, rfl, rfl, rfl, rfl, rfl, rfl, trivial⟩ ⟨rfl, rfl, rfl, rfl, trivial⟩
    apply Dag.new (i := 6)
    case ha => rfl
    case ho => rfl
    case hb => rfl
    case hE =>
      intro w9
      refine AWl.put ((by first | exact R_fieldAddr rfl (.no rfl) rfl (.tmp rfl fun _ => rfl) fl34_0 | exact R_fieldAddr_pp rfl (.no rfl) rfl (.tmp rfl fun _ => rfl) fl34_0 | exact R_fieldAddr_vw rfl (.no rfl) rfl (.tmp rfl fun _ => rfl) fl34_0 | exact R_fieldAddr_pr rfl (.no rfl) rfl (.tmp rfl fun _ => rfl) fl34_0)) rfl ?_
      refine AWl.nil ?_
      exact Le.sub0 (σ' := ⟨_, [(0, _), (2, _), (3, _), (4, _), (6, _), (9, _), (10, _), (11, _), (12, _), (20, _), (21, _)], [(2, _), (4, _), (20001, _), (19, _)]⟩) rfl ⟨rfl, rfl, rfl, rfl, rfl, rfl, rfl, rfl, rfl, rfl, rfl, trivial⟩ ⟨rfl, rfl, rfl, rfl, trivial⟩
    apply Dag.new (i := 7)
    case ha => rfl
    case ho => rfl
    case hb => rfl
    case hE =>
      intro w9
      refine AWl.chgb (R_store_pb rfl rfl rfl (.tmp rfl fun _ => rfl) (.tmp rfl fun _ => rfl) rfl ty32 rfl rfl rfl (by kernel_rfl) rfl) ?_
      refine AWl.nil ?_
      exact Le.sub0 (σ' := ⟨_, [(0, _), (2, _), (3, _), (4, _), (6, _), (9, _), (10, _), (11, _), (12, _)], [(2, _), (4, _), (20001, _), (19, _)]⟩) rfl ⟨rfl, rfl, rfl, rfl, rfl, rfl, rfl, rfl, rfl, trivial⟩ ⟨rfl, rfl, rfl, rfl, trivial⟩
    refine Dag.fin (k := 14) rfl ?_
    refine AWl.nil ?_
    refine AW.region ?_
    refine AWl.put (R_add rfl (.no rfl) rfl (.tmp rfl fun _ => rfl) (.const rfl) (fun _ => by omega)) rfl ?_
    refine AWl.put (R_move rfl (.no rfl) rfl (.tmp rfl fun _ => rfl)) rfl ?_
    refine AWl.nil ?_
    repeat (with_reducible refine BlockQ.nor ?_)
    refine Round1.next (k + 1) ⟨by omega, trivial⟩ (by omega) (Le.sub0 rfl ⟨rfl, rfl, rfl, rfl, rfl, rfl, rfl, trivial⟩ ⟨(by first | rfl | (refine congrArg (fun r => some (R.row _ r)) ?_; simp [chunk, List.map_set, cInt, cBool, cIntS, cPair, cToken, cExpr, cEdge, cGraph, cStep, cWalk, cChange, cBatch, cHistory, cPositions, cAutomaton, cProductStep, cPathAtom, cConjunction, cView, cDelta, cRegistered, cRegistry])), (by first | rfl | (refine congrArg (fun r => some (R.row _ r)) ?_; simp [chunk, List.map_set, cInt, cBool, cIntS, cPair, cToken, cExpr, cEdge, cGraph, cStep, cWalk, cChange, cBatch, cHistory, cPositions, cAutomaton, cProductStep, cPathAtom, cConjunction, cView, cDelta, cRegistered, cRegistry])), (by refine congrArg (fun r => some (R.row 4 r)) ?_; rw [take_at hx]; simp [chunk, cToken]; done), trivial⟩)
  · skip
    try simp at h12
    refine AW.exit ?_
    refine AW.seq ?_
    refine AW.seq ?_
    refine AW.le (σ' := ⟨_, [(0, _), (2, _), (3, _), (4, _), (9, _), (10, _), (11, _)], [(2, _), (4, _), (20001, .row 4 (((splitL 32 l).map (rdT brI)).map cToken))]⟩) (Le.sub0 rfl ⟨rfl, rfl, rfl, rfl, rfl, rfl, rfl, trivial⟩ ⟨rfl, rfl, by rw [List.take_of_length_le (l := splitL 32 l) (by omega)]; rfl, trivial⟩) ?_
    refine AW.region ?_
    refine AWl.put (R_move rfl (.no rfl) rfl (.tmp rfl fun _ => rfl)) rfl ?_
    refine AWl.put (R_eqstr rfl (.no rfl) rfl (.tmp rfl fun _ => rfl) (.const rfl)) rfl ?_
    refine AWl.put (R_move rfl (.no rfl) rfl (.tmp rfl fun _ => rfl)) rfl ?_
    refine AWl.put ((by first | exact R_load rfl (by first | exact .not1 rfl rfl rfl rfl | exact .not rfl rfl rfl rfl) rfl (.tmp rfl (by first | exact fun _ => rfl | exact id | simp)) ty34 rfl rfl | exact R_load_pp rfl (by first | exact .not1 rfl rfl rfl rfl | exact .not rfl rfl rfl rfl) rfl (.tmp rfl (by first | exact fun _ => rfl | exact id | simp)) rfl ty34 rfl rfl | exact R_load_vw rfl (by first | exact .not1 rfl rfl rfl rfl | exact .not rfl rfl rfl rfl) rfl (.tmp rfl (by first | exact fun _ => rfl | exact id | simp)) ty34 rfl rfl | exact R_load_pr rfl (by first | exact .not1 rfl rfl rfl rfl | exact .not rfl rfl rfl rfl) rfl (.tmp rfl (by first | exact fun _ => rfl | exact id | simp)) rfl (map_get hx) ty34 rfl rfl)) rfl ?_
    refine AWl.put (R_callz (FnT.fr (implFormatExpr (exI l))) rfl (by first | exact .not1 rfl rfl rfl rfl | exact .not rfl rfl rfl rfl) rfl (.cons (.tmp rfl (by first | exact fun _ => rfl | exact id | simp)) rfl .nil)) rfl ?_
    refine AWl.put (R_move rfl (by first | exact .not1 rfl rfl rfl rfl | exact .not rfl rfl rfl rfl) rfl (.tmp rfl (by first | exact fun _ => rfl | exact id | simp))) rfl ?_
    refine AWl.put (R_nestr rfl (by first | exact .not1 rfl rfl rfl rfl | exact .not rfl rfl rfl rfl) rfl (.tmp rfl (by first | exact fun _ => rfl | exact id | simp)) (.tmp rfl (by first | exact fun _ => rfl | exact id | simp))) rfl ?_
    refine AWl.put (R_or rfl (.no rfl) rfl (.tmp rfl fun _ => rfl) (.tmp rfl (by first | exact fun _ => rfl | exact id | simp))) rfl ?_
    refine AWl.nil ?_
    refine AW.cond (.tmp rfl fun _ => rfl) (fun h30 => ?_) (fun h30 => ?_)
    · skip
      try simp at h30
      refine AW.seq ?_
      refine AW.le (σ' := ⟨_, [(0, _), (2, _), (3, _), (4, _), (9, _), (10, _), (11, _)], [(2, _), (4, _), (20001, _)]⟩) (Le.sub0 rfl ⟨rfl, rfl, rfl, rfl, rfl, rfl, rfl, trivial⟩ ⟨rfl, rfl, rfl, trivial⟩) ?_
      refine AW.region ?_
      refine AWl.put (R_build (ps := []) rfl rfl rfl in34 rfl rfl st34 .nil rfl) rfl ?_
      refine AWl.nilA (i := 31) 20002 4 0 rfl rfl rfl ?_
      refine AWl.chgb (R_store_pb rfl rfl rfl (.tmp rfl fun _ => rfl) (.tmp rfl fun _ => rfl) rfl ty34 rfl rfl rfl (by kernel_rfl) rfl) ?_
      refine AWl.le (σ' := ⟨_, [(0, _), (2, _), (3, _), (4, _), (9, _), (10, _), (11, _)], [(2, _), (4, _), (20001, _), (20002, _)]⟩) (Le.sub0 rfl ⟨rfl, rfl, rfl, rfl, rfl, rfl, rfl, trivial⟩ ⟨rfl, rfl, rfl, rfl, trivial⟩) ?_
      refine AWl.put (R_assign rfl (.no rfl) rfl (.const rfl)) rfl ?_
      refine AWl.nil ?_
      refine AW.ret ?_
      refine Res.many rfl (.cell rfl rfl ty34 rfl rfl (.tmp rfl .nil)) rfl ?_ (by simp)
      rw [parseX_impl, if_pos (h30.imp (fun h => bs_inj (m := []) h) fun h e => h (by rw [e]))]; rfl
    · skip
      try simp at h30
      refine AW.skip ?_
      refine AW.seq ?_
      refine AW.le (σ' := ⟨_, [(0, _), (2, _), (3, _), (4, _), (9, _), (10, _), (11, _)], [(2, _), (4, _), (20001, _)]⟩) (Le.sub0 rfl ⟨rfl, rfl, rfl, rfl, rfl, rfl, rfl, trivial⟩ ⟨rfl, rfl, rfl, trivial⟩) ?_
      refine AW.region ?_
      refine AWl.put ((by first | exact R_load rfl (.no rfl) rfl (.tmp rfl fun _ => rfl) ty34 rfl rfl | exact R_load_pp rfl (.no rfl) rfl (.tmp rfl fun _ => rfl) rfl ty34 rfl rfl | exact R_load_vw rfl (.no rfl) rfl (.tmp rfl fun _ => rfl) ty34 rfl rfl | exact R_load_pr rfl (.no rfl) rfl (.tmp rfl fun _ => rfl) rfl (map_get hx) ty34 rfl rfl)) rfl ?_
      refine AWl.chgb (R_store_pb rfl rfl rfl (.tmp rfl fun _ => rfl) (.tmp rfl fun _ => rfl) rfl ty34 rfl rfl rfl (by kernel_rfl) rfl) ?_
      refine AWl.le (σ' := ⟨_, [(0, _), (2, _), (3, _), (4, _), (9, _), (10, _), (11, _)], [(2, _), (4, _), (20001, _)]⟩) (Le.sub0 rfl ⟨rfl, rfl, rfl, rfl, rfl, rfl, rfl, trivial⟩ ⟨rfl, rfl, rfl, trivial⟩) ?_
      refine AWl.put (R_assign rfl (.no rfl) rfl (.const rfl)) rfl ?_
      refine AWl.nil ?_
      refine AW.ret ?_
      refine Res.many rfl (.cell rfl rfl ty34 rfl rfl (.tmp rfl .nil)) rfl ?_ (by simp)
      rw [parseX_impl, if_neg (fun hh => hh.elim (fun e => h30.1 (by rw [e]; rfl)) fun h => h (bs_inj h30.2))]; rfl
theorem specParseExpr (l : List UInt8) (hz : l.length ≤ 1073741824) : FnT Tryz.prog 10 [.one (.v (.string (bs l)))] (.tup [.agg (cExpr (parseX l).1), .one (.v (.bool (parseX l).2))]) := by
  refine FnT.walk Tryz.func10 rfl (by kernel_rfl) Tryz.ntmps10 rfl fun hlen w0 => ?_
  try simp [cPair, cToken, cExpr, cEdge, cGraph, cStep, cWalk, cChange, cBatch, cHistory, cPositions, cAutomaton, cProductStep, cPathAtom, cConjunction, cView, cDelta, cRegistered, cRegistry] at hlen
  have hsz := bs_size l
  have hcl := splitL_len 32 l
  have hcl2 := List.count_le_length (a := 32) (l := l)
  refine AW.seq ?_
  refine AW.region ?_
  refine AWl.add (R_alloc 2 rfl rfl rfl in34 rfl rfl rfl) rfl ?_
  refine AWl.put (R_assign rfl (.no rfl) rfl (.const rfl)) rfl ?_
  refine AWl.nil ?_
  refine AW.seq ?_
  refine AW.region ?_
  refine AWl.put (R_build (ps := []) rfl rfl rfl in34 rfl rfl st34 .nil rfl) rfl ?_
  refine AWl.nilA (i := 7) 20001 4 0 rfl rfl rfl ?_
  refine AWl.add (R_alloc 4 rfl rfl rfl in34 rfl rfl rfl) rfl ?_
  refine AWl.chgb (R_store_pb rfl rfl rfl (.tmp rfl fun _ => rfl) (.tmp rfl fun _ => rfl) rfl ty34 rfl rfl rfl (by kernel_rfl) rfl) ?_
  refine AWl.nil ?_
  refine AW.seq ?_
  refine AW.region ?_
  refine AWl.put (R_move rfl (.no rfl) rfl (.tmp rfl fun _ => rfl)) rfl ?_
  refine AWl.put (R_callz (FnT.fr (specl2Cut l 32 hz)) rfl (.no rfl) rfl (.cons (.tmp rfl fun _ => rfl) rfl (.cons (.const rfl) rfl .nil))) rfl ?_
  refine AWl.put (R_assign rfl (.no rfl) rfl (.tmp rfl fun _ => rfl)) rfl ?_
  refine AWl.nil ?_
  refine AW.seq ?_
  refine AW.seq ?_
  refine AW.region ?_
  refine AWl.put (R_assign rfl (.no rfl) rfl (.const rfl)) rfl ?_
  refine AWl.nil ?_
  refine AW.block ?_
  refine AW.loop1 (fun (k : Nat) => (k ≤ (splitL 32 l).length ∧ k ≤ 25) ∧ True) (fun (k : Nat) => ⟨_, [(6, (true, .a (.one (.t (.v (.int .i64 (k : Nat))))))), (2, _), (3, _), (4, _), (5, _)], [(2, .box [.t (.v (.slice none 0 0))]), (4, .box [.rf 20001]), (20001, .row 4 ((((splitL 32 l).take k).map (rdT brS)).map cToken))]⟩) (fun (k : Nat) => (splitL 32 l).length - k) (0) ⟨⟨Nat.zero_le _, by omega⟩, trivial⟩ (Le.sub0 rfl ⟨rfl, rfl, rfl, rfl, rfl, trivial⟩ ⟨rfl, rfl, rfl, trivial⟩) ?_
  rintro k ⟨hk, he⟩
  refine AW.seq ?_
  refine AW.seq ?_
  refine AW.region ?_
  refine AWl.put (R_move rfl (.no rfl) rfl (.tmp rfl fun _ => rfl)) rfl ?_
  refine AWl.put (R_move rfl (.no rfl) rfl (.tmp rfl fun _ => rfl)) rfl ?_
  refine AWl.put ((by first | exact R_lenm rfl (.no rfl) rfl (.tmp rfl fun _ => rfl) (by first | exact .t | exact .rf rfl | exact .vw | exact .nil) Tryz.underlying30 | exact R_len rfl (.no rfl) rfl (.tmp rfl fun _ => rfl) (by first | exact .t | exact .rf rfl | exact .vw | exact .nil) Tryz.underlying30)) rfl ?_
  refine AWl.put (R_lt rfl (.no rfl) rfl (.tmp rfl fun _ => rfl) (.tmp rfl fun _ => rfl)) rfl ?_
  refine AWl.put (R_move rfl (.no rfl) rfl (.tmp rfl fun _ => rfl)) rfl ?_
  refine AWl.put (R_move rfl (by first | exact .yes1 rfl rfl rfl rfl | exact .yes rfl rfl rfl rfl) rfl (.tmp rfl (by first | exact fun _ => rfl | exact id | simp))) rfl ?_
  refine AWl.put (R_le rfl (by first | exact .yes1 rfl rfl rfl rfl | exact .yes rfl rfl rfl rfl) rfl (.tmp rfl (by first | exact fun _ => rfl | exact id | simp)) (.const rfl)) rfl ?_
  refine AWl.put (R_and rfl (.no rfl) rfl (.tmp rfl fun _ => rfl) (.tmp rfl (by first | exact fun _ => rfl | exact id | simp))) rfl ?_
  refine AWl.nil ?_
  refine AW.cond (.tmp rfl fun _ => rfl) (fun h17 => ?_) (fun h17 => ?_)
  · skip
    try simp at h17
    obtain ⟨x, hx⟩ : ∃ ξ, (splitL 32 l)[k]? = some ξ := ⟨_, List.getElem?_eq_getElem (by omega)⟩
    refine AW.skip ?_
    refine AW.seq ?_
    refine AW.block ?_
    refine AW.le (σ' := ⟨_, [(2, _), (3, _), (4, _), (5, _), (6, _)], [(2, _), (4, _), (20001, _)]⟩) (Le.sub0 rfl ⟨rfl, rfl, rfl, rfl, rfl, trivial⟩ ⟨rfl, rfl, rfl, trivial⟩) ?_
    refine AW.dagn 11 26 [[], [0], [2], [3], [0, 1], [0, 2], [0, 3], [2, 3], [0, 1, 2], [0, 1, 3], [0, 2, 3], [2, 3, 4], [0, 1, 2, 3], [0, 2, 3, 4], [2, 3, 4, 5], [0, 1, 2, 3, 4], [0, 2, 3, 4, 5], [2, 3, 4, 5, 6], [0, 1, 2, 3, 4, 5], [0, 2, 3, 4, 5, 6], [2, 3, 4, 5, 6, 7], [0, 1, 2, 3, 4, 5, 6], [0, 2, 3, 4, 5, 6, 7], [0, 1, 2, 3, 4, 5, 6, 7], [0, 1, 2, 3, 4, 5, 6, 7, 8], [0, 1, 2, 3, 4, 5, 6, 7, 8, 9], [0, 1, 2, 3, 4, 5, 6, 7, 8, 9, 10]] [(0, 0, 1), (0, 2, 2), (0, 3, 3), (1, 1, 4), (1, 2, 5), (2, 0, 5), (1, 3, 6), (3, 0, 6), (2, 3, 7), (3, 2, 7), (4, 2, 8), (5, 1, 8), (4, 3, 9), (6, 1, 9), (5, 3, 10), (7, 0, 10), (6, 2, 10), (7, 4, 11), (8, 3, 12), (10, 1, 12), (9, 2, 12), (10, 4, 13), (11, 0, 13), (11, 5, 14), (12, 4, 15), (13, 1, 15), (13, 5, 16), (14, 0, 16), (14, 6, 17), (15, 5, 18), (16, 1, 18), (16, 6, 19), (17, 0, 19), (17, 7, 20), (18, 6, 21), (19, 1, 21), (19, 7, 22), (20, 0, 22), (21, 7, 23), (22, 1, 23), (23, 8, 24), (24, 9, 25), (25, 10, 26)] (by kernel_rfl) (by kernel_rfl) (by kernel_rfl) ?_
    apply Dag.new (i := 0)
    case ha => rfl
    case ho => rfl
    case hb => rfl
    case hE =>
      intro w9
      refine AWl.put ((by first | exact R_fieldAddr rfl (.no rfl) rfl (.tmp rfl fun _ => rfl) fl34_0 | exact R_fieldAddr_pp rfl (.no rfl) rfl (.tmp rfl fun _ => rfl) fl34_0 | exact R_fieldAddr_vw rfl (.no rfl) rfl (.tmp rfl fun _ => rfl) fl34_0 | exact R_fieldAddr_pr rfl (.no rfl) rfl (.tmp rfl fun _ => rfl) fl34_0)) rfl ?_
      refine AWl.nil ?_
      exact Le.sub0 (σ' := ⟨_, [(2, _), (3, _), (4, _), (5, _), (6, _), (20, _)], [(2, _), (4, _), (20001, _)]⟩) rfl ⟨rfl, rfl, rfl, rfl, rfl, rfl, trivial⟩ ⟨rfl, rfl, rfl, trivial⟩
    apply Dag.new (i := 2)
    case ha => rfl
    case ho => rfl
    case hb => rfl
    case hE =>
      intro w9
      refine AWl.put (R_move rfl (.no rfl) rfl (.tmp rfl fun _ => rfl)) rfl ?_
      refine AWl.nil ?_
      exact Le.sub0 (σ' := ⟨_, [(2, _), (3, _), (4, _), (5, _), (6, _), (22, _)], [(2, _), (4, _), (20001, _)]⟩) rfl ⟨rfl, rfl, rfl, rfl, rfl, rfl, trivial⟩ ⟨rfl, rfl, rfl, trivial⟩
    apply Dag.new (i := 3)
    case ha => rfl
    case ho => rfl
    case hb => rfl
    case hE =>
      intro w9
      refine AWl.put (R_move rfl (.no rfl) rfl (.tmp rfl fun _ => rfl)) rfl ?_
      refine AWl.nil ?_
      exact Le.sub0 (σ' := ⟨_, [(2, _), (3, _), (4, _), (5, _), (6, _), (23, _)], [(2, _), (4, _), (20001, _)]⟩) rfl ⟨rfl, rfl, rfl, rfl, rfl, rfl, trivial⟩ ⟨rfl, rfl, rfl, trivial⟩
    apply Dag.new (i := 1)
    case ha => rfl
    case ho => rfl
    case hb => rfl
    case hE =>
      intro w9
      refine AWl.put ((by first | exact R_load rfl (.no rfl) rfl (.tmp rfl fun _ => rfl) ty32 rfl rfl | exact R_load_pp rfl (.no rfl) rfl (.tmp rfl fun _ => rfl) rfl ty32 rfl rfl | exact R_load_vw rfl (.no rfl) rfl (.tmp rfl fun _ => rfl) ty32 rfl rfl | exact R_load_pr rfl (.no rfl) rfl (.tmp rfl fun _ => rfl) rfl (map_get hx) ty32 rfl rfl)) rfl ?_
      refine AWl.nil ?_
      exact Le.sub0 (σ' := ⟨_, [(2, _), (3, _), (4, _), (5, _), (6, _), (21, _)], [(2, _), (4, _), (20001, _)]⟩) rfl ⟨rfl, rfl, rfl, rfl, rfl, rfl, trivial⟩ ⟨rfl, rfl, rfl, trivial⟩
    apply Dag.new (i := 2)
    case ha => rfl
    case ho => rfl
    case hb => rfl
    case hE =>
      intro w9
      refine AWl.put (R_move rfl (.no rfl) rfl (.tmp rfl fun _ => rfl)) rfl ?_
      refine AWl.nil ?_
      exact Le.sub0 (σ' := ⟨_, [(2, _), (3, _), (4, _), (5, _), (6, _), (20, _), (22, _)], [(2, _), (4, _), (20001, _)]⟩) rfl ⟨rfl, rfl, rfl, rfl, rfl, rfl, rfl, trivial⟩ ⟨rfl, rfl, rfl, trivial⟩
    apply Dag.old (i := 0)
    case ha => rfl
    case ho => rfl
    case hb => rfl
    case hE =>
      intro w9
      refine AWl.put ((by first | exact R_fieldAddr rfl (.no rfl) rfl (.tmp rfl fun _ => rfl) fl34_0 | exact R_fieldAddr_pp rfl (.no rfl) rfl (.tmp rfl fun _ => rfl) fl34_0 | exact R_fieldAddr_vw rfl (.no rfl) rfl (.tmp rfl fun _ => rfl) fl34_0 | exact R_fieldAddr_pr rfl (.no rfl) rfl (.tmp rfl fun _ => rfl) fl34_0)) rfl ?_
      refine AWl.nil ?_
      exact Le.sub0 rfl ⟨rfl, rfl, rfl, rfl, rfl, rfl, rfl, trivial⟩ ⟨rfl, rfl, rfl, trivial⟩
    apply Dag.new (i := 3)
    case ha => rfl
    case ho => rfl
    case hb => rfl
    case hE =>
      intro w9
      refine AWl.put (R_move rfl (.no rfl) rfl (.tmp rfl fun _ => rfl)) rfl ?_
      refine AWl.nil ?_
      exact Le.sub0 (σ' := ⟨_, [(2, _), (3, _), (4, _), (5, _), (6, _), (20, _), (23, _)], [(2, _), (4, _), (20001, _)]⟩) rfl ⟨rfl, rfl, rfl, rfl, rfl, rfl, rfl, trivial⟩ ⟨rfl, rfl, rfl, trivial⟩
    apply Dag.old (i := 0)
    case ha => rfl
    case ho => rfl
    case hb => rfl
    case hE =>
      intro w9
      refine AWl.put ((by first | exact R_fieldAddr rfl (.no rfl) rfl (.tmp rfl fun _ => rfl) fl34_0 | exact R_fieldAddr_pp rfl (.no rfl) rfl (.tmp rfl fun _ => rfl) fl34_0 | exact R_fieldAddr_vw rfl (.no rfl) rfl (.tmp rfl fun _ => rfl) fl34_0 | exact R_fieldAddr_pr rfl (.no rfl) rfl (.tmp rfl fun _ => rfl) fl34_0)) rfl ?_
      refine AWl.nil ?_
      exact Le.sub0 rfl ⟨rfl, rfl, rfl, rfl, rfl, rfl, rfl, trivial⟩ ⟨rfl, rfl, rfl, trivial⟩
    apply Dag.new (i := 3)
    case ha => rfl
    case ho => rfl
    case hb => rfl
    case hE =>
      intro w9
      refine AWl.put (R_move rfl (.no rfl) rfl (.tmp rfl fun _ => rfl)) rfl ?_
      refine AWl.nil ?_
      exact Le.sub0 (σ' := ⟨_, [(2, _), (3, _), (4, _), (5, _), (6, _), (22, _), (23, _)], [(2, _), (4, _), (20001, _)]⟩) rfl ⟨rfl, rfl, rfl, rfl, rfl, rfl, rfl, trivial⟩ ⟨rfl, rfl, rfl, trivial⟩
    apply Dag.old (i := 2)
    case ha => rfl
    case ho => rfl
    case hb => rfl
    case hE =>
      intro w9
      refine AWl.put (R_move rfl (.no rfl) rfl (.tmp rfl fun _ => rfl)) rfl ?_
      refine AWl.nil ?_
      exact Le.sub0 rfl ⟨rfl, rfl, rfl, rfl, rfl, rfl, rfl, trivial⟩ ⟨rfl, rfl, rfl, trivial⟩
    apply Dag.new (i := 2)
    case ha => rfl
    case ho => rfl
    case hb => rfl
    case hE =>
      intro w9
      refine AWl.put (R_move rfl (.no rfl) rfl (.tmp rfl fun _ => rfl)) rfl ?_
      refine AWl.nil ?_
      exact Le.sub0 (σ' := ⟨_, [(2, _), (3, _), (4, _), (5, _), (6, _), (21, _), (22, _)], [(2, _), (4, _), (20001, _)]⟩) rfl ⟨rfl, rfl, rfl, rfl, rfl, rfl, rfl, trivial⟩ ⟨rfl, rfl, rfl, trivial⟩
    apply Dag.old (i := 1)
    case ha => rfl
    case ho => rfl
    case hb => rfl
    case hE =>
      intro w9
      refine AWl.put ((by first | exact R_load rfl (.no rfl) rfl (.tmp rfl fun _ => rfl) ty32 rfl rfl | exact R_load_pp rfl (.no rfl) rfl (.tmp rfl fun _ => rfl) rfl ty32 rfl rfl | exact R_load_vw rfl (.no rfl) rfl (.tmp rfl fun _ => rfl) ty32 rfl rfl | exact R_load_pr rfl (.no rfl) rfl (.tmp rfl fun _ => rfl) rfl (map_get hx) ty32 rfl rfl)) rfl ?_
      refine AWl.nil ?_
      exact Le.sub0 rfl ⟨rfl, rfl, rfl, rfl, rfl, rfl, rfl, trivial⟩ ⟨rfl, rfl, rfl, trivial⟩
    apply Dag.new (i := 3)
    case ha => rfl
    case ho => rfl
    case hb => rfl
    case hE =>
      intro w9
      refine AWl.put (R_move rfl (.no rfl) rfl (.tmp rfl fun _ => rfl)) rfl ?_
      refine AWl.nil ?_
      exact Le.sub0 (σ' := ⟨_, [(2, _), (3, _), (4, _), (5, _), (6, _), (21, _), (23, _)], [(2, _), (4, _), (20001, _)]⟩) rfl ⟨rfl, rfl, rfl, rfl, rfl, rfl, rfl, trivial⟩ ⟨rfl, rfl, rfl, trivial⟩
    apply Dag.old (i := 1)
    case ha => rfl
    case ho => rfl
    case hb => rfl
    case hE =>
      intro w9
      refine AWl.put ((by first | exact R_load rfl (.no rfl) rfl (.tmp rfl fun _ => rfl) ty32 rfl rfl | exact R_load_pp rfl (.no rfl) rfl (.tmp rfl fun _ => rfl) rfl ty32 rfl rfl | exact R_load_vw rfl (.no rfl) rfl (.tmp rfl fun _ => rfl) ty32 rfl rfl | exact R_load_pr rfl (.no rfl) rfl (.tmp rfl fun _ => rfl) rfl (map_get hx) ty32 rfl rfl)) rfl ?_
      refine AWl.nil ?_
      exact Le.sub0 rfl ⟨rfl, rfl, rfl, rfl, rfl, rfl, rfl, trivial⟩ ⟨rfl, rfl, rfl, trivial⟩
    apply Dag.new (i := 3)
    case ha => rfl
    case ho => rfl
    case hb => rfl
    case hE =>
      intro w9
      refine AWl.put (R_move rfl (.no rfl) rfl (.tmp rfl fun _ => rfl)) rfl ?_
      refine AWl.nil ?_
      exact Le.sub0 (σ' := ⟨_, [(2, _), (3, _), (4, _), (5, _), (6, _), (20, _), (22, _), (23, _)], [(2, _), (4, _), (20001, _)]⟩) rfl ⟨rfl, rfl, rfl, rfl, rfl, rfl, rfl, rfl, trivial⟩ ⟨rfl, rfl, rfl, trivial⟩
    apply Dag.old (i := 0)
    case ha => rfl
    case ho => rfl
    case hb => rfl
    case hE =>
      intro w9
      refine AWl.put ((by first | exact R_fieldAddr rfl (.no rfl) rfl (.tmp rfl fun _ => rfl) fl34_0 | exact R_fieldAddr_pp rfl (.no rfl) rfl (.tmp rfl fun _ => rfl) fl34_0 | exact R_fieldAddr_vw rfl (.no rfl) rfl (.tmp rfl fun _ => rfl) fl34_0 | exact R_fieldAddr_pr rfl (.no rfl) rfl (.tmp rfl fun _ => rfl) fl34_0)) rfl ?_
      refine AWl.nil ?_
      exact Le.sub0 rfl ⟨rfl, rfl, rfl, rfl, rfl, rfl, rfl, rfl, trivial⟩ ⟨rfl, rfl, rfl, trivial⟩
    apply Dag.old (i := 2)
    case ha => rfl
    case ho => rfl
    case hb => rfl
    case hE =>
      intro w9
      refine AWl.put (R_move rfl (.no rfl) rfl (.tmp rfl fun _ => rfl)) rfl ?_
      refine AWl.nil ?_
      exact Le.sub0 rfl ⟨rfl, rfl, rfl, rfl, rfl, rfl, rfl, rfl, trivial⟩ ⟨rfl, rfl, rfl, trivial⟩
    apply Dag.new (i := 4)
    case ha => rfl
    case ho => rfl
    case hb => rfl
    case hE =>
      intro w9
      refine AWl.put ((by first | exact R_indexAddr rfl (.no rfl) rfl (.tmp rfl fun _ => rfl) (.tmp rfl fun _ => rfl) Tryz.underlying30 ty9 (fun _ => ⟨by omega, (map_get hx)⟩) | exact R_indexAddr_vw rfl (.no rfl) rfl (.tmp rfl fun _ => rfl) (.tmp rfl fun _ => rfl) Tryz.underlying30 ty9 (fun _ => ⟨by omega, (map_get hx)⟩) | exact R_indexAddr_rf rfl (.no rfl) rfl (.tmp rfl fun _ => rfl) rfl (.tmp rfl fun _ => rfl) Tryz.underlying30 ty9 (fun _ => ⟨by omega, (map_get hx)⟩))) rfl ?_
      refine AWl.nil ?_
      exact Le.sub0 (σ' := ⟨_, [(2, _), (3, _), (4, _), (5, _), (6, _), (24, _)], [(2, _), (4, _), (20001, _)]⟩) rfl ⟨rfl, rfl, rfl, rfl, rfl, rfl, trivial⟩ ⟨rfl, rfl, rfl, trivial⟩
    apply Dag.new (i := 3)
    case ha => rfl
    case ho => rfl
    case hb => rfl
    case hE =>
      intro w9
      refine AWl.put (R_move rfl (.no rfl) rfl (.tmp rfl fun _ => rfl)) rfl ?_
      refine AWl.nil ?_
      exact Le.sub0 (σ' := ⟨_, [(2, _), (3, _), (4, _), (5, _), (6, _), (21, _), (22, _), (23, _)], [(2, _), (4, _), (20001, _)]⟩) rfl ⟨rfl, rfl, rfl, rfl, rfl, rfl, rfl, rfl, trivial⟩ ⟨rfl, rfl, rfl, trivial⟩
    apply Dag.old (i := 1)
    case ha => rfl
    case ho => rfl
    case hb => rfl
    case hE =>
      intro w9
      refine AWl.put ((by first | exact R_load rfl (.no rfl) rfl (.tmp rfl fun _ => rfl) ty32 rfl rfl | exact R_load_pp rfl (.no rfl) rfl (.tmp rfl fun _ => rfl) rfl ty32 rfl rfl | exact R_load_vw rfl (.no rfl) rfl (.tmp rfl fun _ => rfl) ty32 rfl rfl | exact R_load_pr rfl (.no rfl) rfl (.tmp rfl fun _ => rfl) rfl (map_get hx) ty32 rfl rfl)) rfl ?_
      refine AWl.nil ?_
      exact Le.sub0 rfl ⟨rfl, rfl, rfl, rfl, rfl, rfl, rfl, rfl, trivial⟩ ⟨rfl, rfl, rfl, trivial⟩
    apply Dag.old (i := 2)
    case ha => rfl
    case ho => rfl
    case hb => rfl
    case hE =>
      intro w9
      refine AWl.put (R_move rfl (.no rfl) rfl (.tmp rfl fun _ => rfl)) rfl ?_
      refine AWl.nil ?_
      exact Le.sub0 rfl ⟨rfl, rfl, rfl, rfl, rfl, rfl, rfl, rfl, trivial⟩ ⟨rfl, rfl, rfl, trivial⟩
    apply Dag.new (i := 4)
    case ha => rfl
    case ho => rfl
    case hb => rfl
    case hE =>
      intro w9
      refine AWl.put ((by first | exact R_indexAddr rfl (.no rfl) rfl (.tmp rfl fun _ => rfl) (.tmp rfl fun _ => rfl) Tryz.underlying30 ty9 (fun _ => ⟨by omega, (map_get hx)⟩) | exact R_indexAddr_vw rfl (.no rfl) rfl (.tmp rfl fun _ => rfl) (.tmp rfl fun _ => rfl) Tryz.underlying30 ty9 (fun _ => ⟨by omega, (map_get hx)⟩) | exact R_indexAddr_rf rfl (.no rfl) rfl (.tmp rfl fun _ => rfl) rfl (.tmp rfl fun _ => rfl) Tryz.underlying30 ty9 (fun _ => ⟨by omega, (map_get hx)⟩))) rfl ?_
      refine AWl.nil ?_
      exact Le.sub0 (σ' := ⟨_, [(2, _), (3, _), (4, _), (5, _), (6, _), (20, _), (24, _)], [(2, _), (4, _), (20001, _)]⟩) rfl ⟨rfl, rfl, rfl, rfl, rfl, rfl, rfl, trivial⟩ ⟨rfl, rfl, rfl, trivial⟩
    apply Dag.old (i := 0)
    case ha => rfl
    case ho => rfl
    case hb => rfl
    case hE =>
      intro w9
      refine AWl.put ((by first | exact R_fieldAddr rfl (.no rfl) rfl (.tmp rfl fun _ => rfl) fl34_0 | exact R_fieldAddr_pp rfl (.no rfl) rfl (.tmp rfl fun _ => rfl) fl34_0 | exact R_fieldAddr_vw rfl (.no rfl) rfl (.tmp rfl fun _ => rfl) fl34_0 | exact R_fieldAddr_pr rfl (.no rfl) rfl (.tmp rfl fun _ => rfl) fl34_0)) rfl ?_
      refine AWl.nil ?_
      exact Le.sub0 rfl ⟨rfl, rfl, rfl, rfl, rfl, rfl, rfl, trivial⟩ ⟨rfl, rfl, rfl, trivial⟩
    apply Dag.new (i := 5)
    case ha => rfl
    case ho => rfl
    case hb => rfl
    case hE =>
      intro w9
      refine AWl.put ((by first | exact R_load rfl (.no rfl) rfl (.tmp rfl fun _ => rfl) ty9 rfl rfl | exact R_load_pp rfl (.no rfl) rfl (.tmp rfl fun _ => rfl) rfl ty9 rfl rfl | exact R_load_vw rfl (.no rfl) rfl (.tmp rfl fun _ => rfl) ty9 rfl rfl | exact R_load_pr rfl (.no rfl) rfl (.tmp rfl fun _ => rfl) rfl (map_get hx) ty9 rfl rfl)) rfl ?_
      refine AWl.nil ?_
      exact Le.sub0 (σ' := ⟨_, [(2, _), (3, _), (4, _), (5, _), (6, _), (25, _)], [(2, _), (4, _), (20001, _)]⟩) rfl ⟨rfl, rfl, rfl, rfl, rfl, rfl, trivial⟩ ⟨rfl, rfl, rfl, trivial⟩
    apply Dag.new (i := 4)
    case ha => rfl
    case ho => rfl
    case hb => rfl
    case hE =>
      intro w9
      refine AWl.put ((by first | exact R_indexAddr rfl (.no rfl) rfl (.tmp rfl fun _ => rfl) (.tmp rfl fun _ => rfl) Tryz.underlying30 ty9 (fun _ => ⟨by omega, (map_get hx)⟩) | exact R_indexAddr_vw rfl (.no rfl) rfl (.tmp rfl fun _ => rfl) (.tmp rfl fun _ => rfl) Tryz.underlying30 ty9 (fun _ => ⟨by omega, (map_get hx)⟩) | exact R_indexAddr_rf rfl (.no rfl) rfl (.tmp rfl fun _ => rfl) rfl (.tmp rfl fun _ => rfl) Tryz.underlying30 ty9 (fun _ => ⟨by omega, (map_get hx)⟩))) rfl ?_
      refine AWl.nil ?_
      exact Le.sub0 (σ' := ⟨_, [(2, _), (3, _), (4, _), (5, _), (6, _), (21, _), (24, _)], [(2, _), (4, _), (20001, _)]⟩) rfl ⟨rfl, rfl, rfl, rfl, rfl, rfl, rfl, trivial⟩ ⟨rfl, rfl, rfl, trivial⟩
    apply Dag.old (i := 1)
    case ha => rfl
    case ho => rfl
    case hb => rfl
    case hE =>
      intro w9
      refine AWl.put ((by first | exact R_load rfl (.no rfl) rfl (.tmp rfl fun _ => rfl) ty32 rfl rfl | exact R_load_pp rfl (.no rfl) rfl (.tmp rfl fun _ => rfl) rfl ty32 rfl rfl | exact R_load_vw rfl (.no rfl) rfl (.tmp rfl fun _ => rfl) ty32 rfl rfl | exact R_load_pr rfl (.no rfl) rfl (.tmp rfl fun _ => rfl) rfl (map_get hx) ty32 rfl rfl)) rfl ?_
      refine AWl.nil ?_
      exact Le.sub0 rfl ⟨rfl, rfl, rfl, rfl, rfl, rfl, rfl, trivial⟩ ⟨rfl, rfl, rfl, trivial⟩
    apply Dag.new (i := 5)
    case ha => rfl
    case ho => rfl
    case hb => rfl
    case hE =>
      intro w9
      refine AWl.put ((by first | exact R_load rfl (.no rfl) rfl (.tmp rfl fun _ => rfl) ty9 rfl rfl | exact R_load_pp rfl (.no rfl) rfl (.tmp rfl fun _ => rfl) rfl ty9 rfl rfl | exact R_load_vw rfl (.no rfl) rfl (.tmp rfl fun _ => rfl) ty9 rfl rfl | exact R_load_pr rfl (.no rfl) rfl (.tmp rfl fun _ => rfl) rfl (map_get hx) ty9 rfl rfl)) rfl ?_
      refine AWl.nil ?_
      exact Le.sub0 (σ' := ⟨_, [(2, _), (3, _), (4, _), (5, _), (6, _), (20, _), (25, _)], [(2, _), (4, _), (20001, _)]⟩) rfl ⟨rfl, rfl, rfl, rfl, rfl, rfl, rfl, trivial⟩ ⟨rfl, rfl, rfl, trivial⟩
    apply Dag.old (i := 0)
    case ha => rfl
    case ho => rfl
    case hb => rfl
    case hE =>
      intro w9
      refine AWl.put ((by first | exact R_fieldAddr rfl (.no rfl) rfl (.tmp rfl fun _ => rfl) fl34_0 | exact R_fieldAddr_pp rfl (.no rfl) rfl (.tmp rfl fun _ => rfl) fl34_0 | exact R_fieldAddr_vw rfl (.no rfl) rfl (.tmp rfl fun _ => rfl) fl34_0 | exact R_fieldAddr_pr rfl (.no rfl) rfl (.tmp rfl fun _ => rfl) fl34_0)) rfl ?_
      refine AWl.nil ?_
      exact Le.sub0 rfl ⟨rfl, rfl, rfl, rfl, rfl, rfl, rfl, trivial⟩ ⟨rfl, rfl, rfl, trivial⟩
    apply Dag.new (i := 6)
    case ha => rfl
    case ho => rfl
    case hb => rfl
    case hE =>
      intro w9
      refine AWl.put (R_callz (FnT.fr (specl8Read x)) rfl (.no rfl) rfl (.cons (.tmp rfl fun _ => rfl) rfl .nil)) rfl ?_
      refine AWl.nil ?_
      exact Le.sub0 (σ' := ⟨_, [(2, _), (3, _), (4, _), (5, _), (6, _), (26, _)], [(2, _), (4, _), (20001, _)]⟩) rfl ⟨rfl, rfl, rfl, rfl, rfl, rfl, trivial⟩ ⟨rfl, rfl, rfl, trivial⟩
    apply Dag.new (i := 5)
    case ha => rfl
    case ho => rfl
    case hb => rfl
    case hE =>
      intro w9
      refine AWl.put ((by first | exact R_load rfl (.no rfl) rfl (.tmp rfl fun _ => rfl) ty9 rfl rfl | exact R_load_pp rfl (.no rfl) rfl (.tmp rfl fun _ => rfl) rfl ty9 rfl rfl | exact R_load_vw rfl (.no rfl) rfl (.tmp rfl fun _ => rfl) ty9 rfl rfl | exact R_load_pr rfl (.no rfl) rfl (.tmp rfl fun _ => rfl) rfl (map_get hx) ty9 rfl rfl)) rfl ?_
      refine AWl.nil ?_
      exact Le.sub0 (σ' := ⟨_, [(2, _), (3, _), (4, _), (5, _), (6, _), (21, _), (25, _)], [(2, _), (4, _), (20001, _)]⟩) rfl ⟨rfl, rfl, rfl, rfl, rfl, rfl, rfl, trivial⟩ ⟨rfl, rfl, rfl, trivial⟩
    apply Dag.old (i := 1)
    case ha => rfl
    case ho => rfl
    case hb => rfl
    case hE =>
      intro w9
      refine AWl.put ((by first | exact R_load rfl (.no rfl) rfl (.tmp rfl fun _ => rfl) ty32 rfl rfl | exact R_load_pp rfl (.no rfl) rfl (.tmp rfl fun _ => rfl) rfl ty32 rfl rfl | exact R_load_vw rfl (.no rfl) rfl (.tmp rfl fun _ => rfl) ty32 rfl rfl | exact R_load_pr rfl (.no rfl) rfl (.tmp rfl fun _ => rfl) rfl (map_get hx) ty32 rfl rfl)) rfl ?_
      refine AWl.nil ?_
      exact Le.sub0 rfl ⟨rfl, rfl, rfl, rfl, rfl, rfl, rfl, trivial⟩ ⟨rfl, rfl, rfl, trivial⟩
    apply Dag.new (i := 6)
    case ha => rfl
    case ho => rfl
    case hb => rfl
    case hE =>
      intro w9
      refine AWl.put (R_callz (FnT.fr (specl8Read x)) rfl (.no rfl) rfl (.cons (.tmp rfl fun _ => rfl) rfl .nil)) rfl ?_
      refine AWl.nil ?_
      exact Le.sub0 (σ' := ⟨_, [(2, _), (3, _), (4, _), (5, _), (6, _), (20, _), (26, _)], [(2, _), (4, _), (20001, _)]⟩) rfl ⟨rfl, rfl, rfl, rfl, rfl, rfl, rfl, trivial⟩ ⟨rfl, rfl, rfl, trivial⟩
    apply Dag.old (i := 0)
    case ha => rfl
    case ho => rfl
    case hb => rfl
    case hE =>
      intro w9
      refine AWl.put ((by first | exact R_fieldAddr rfl (.no rfl) rfl (.tmp rfl fun _ => rfl) fl34_0 | exact R_fieldAddr_pp rfl (.no rfl) rfl (.tmp rfl fun _ => rfl) fl34_0 | exact R_fieldAddr_vw rfl (.no rfl) rfl (.tmp rfl fun _ => rfl) fl34_0 | exact R_fieldAddr_pr rfl (.no rfl) rfl (.tmp rfl fun _ => rfl) fl34_0)) rfl ?_
      refine AWl.nil ?_
      exact Le.sub0 rfl ⟨rfl, rfl, rfl, rfl, rfl, rfl, rfl, trivial⟩ ⟨rfl, rfl, rfl, trivial⟩
    apply Dag.new (i := 7)
    case ha => rfl
    case ho => rfl
    case hb => rfl
    case hE =>
      intro w9
      refine AWl.absadd (R_list (xs := [.tmp 26]) 27 rfl rfl rfl (.cons (.tmp rfl fun _ => rfl) rfl rfl .nil) Tryz.underlying32 in48 rfl rfl rfl rfl) rfl ?_
      refine AWl.nil ?_
      exact Le.sub0 (σ' := ⟨_, [(2, _), (3, _), (4, _), (5, _), (6, _), (27, _)], [(2, _), (4, _), (20001, _), (27, _)]⟩) rfl ⟨rfl, rfl, rfl, rfl, rfl, rfl, trivial⟩ ⟨rfl, rfl, rfl, rfl, trivial⟩
    apply Dag.new (i := 6)
    case ha => rfl
    case ho => rfl
    case hb => rfl
    case hE =>
      intro w9
      refine AWl.put (R_callz (FnT.fr (specl8Read x)) rfl (.no rfl) rfl (.cons (.tmp rfl fun _ => rfl) rfl .nil)) rfl ?_
      refine AWl.nil ?_
      exact Le.sub0 (σ' := ⟨_, [(2, _), (3, _), (4, _), (5, _), (6, _), (21, _), (26, _)], [(2, _), (4, _), (20001, _)]⟩) rfl ⟨rfl, rfl, rfl, rfl, rfl, rfl, rfl, trivial⟩ ⟨rfl, rfl, rfl, trivial⟩
    apply Dag.old (i := 1)
    case ha => rfl
    case ho => rfl
    case hb => rfl
    case hE =>
      intro w9
      refine AWl.put ((by first | exact R_load rfl (.no rfl) rfl (.tmp rfl fun _ => rfl) ty32 rfl rfl | exact R_load_pp rfl (.no rfl) rfl (.tmp rfl fun _ => rfl) rfl ty32 rfl rfl | exact R_load_vw rfl (.no rfl) rfl (.tmp rfl fun _ => rfl) ty32 rfl rfl | exact R_load_pr rfl (.no rfl) rfl (.tmp rfl fun _ => rfl) rfl (map_get hx) ty32 rfl rfl)) rfl ?_
      refine AWl.nil ?_
      exact Le.sub0 rfl ⟨rfl, rfl, rfl, rfl, rfl, rfl, rfl, trivial⟩ ⟨rfl, rfl, rfl, trivial⟩
    apply Dag.new (i := 7)
    case ha => rfl
    case ho => rfl
    case hb => rfl
    case hE =>
      intro w9
      refine AWl.absadd (R_list (xs := [.tmp 26]) 27 rfl rfl rfl (.cons (.tmp rfl fun _ => rfl) rfl rfl .nil) Tryz.underlying32 in48 rfl rfl rfl rfl) rfl ?_
      refine AWl.nil ?_
      exact Le.sub0 (σ' := ⟨_, [(2, _), (3, _), (4, _), (5, _), (6, _), (20, _), (27, _)], [(2, _), (4, _), (20001, _), (27, _)]⟩) rfl ⟨rfl, rfl, rfl, rfl, rfl, rfl, rfl, trivial⟩ ⟨rfl, rfl, rfl, rfl, trivial⟩
    apply Dag.old (i := 0)
    case ha => rfl
    case ho => rfl
    case hb => rfl
    case hE =>
      intro w9
      refine AWl.put ((by first | exact R_fieldAddr rfl (.no rfl) rfl (.tmp rfl fun _ => rfl) fl34_0 | exact R_fieldAddr_pp rfl (.no rfl) rfl (.tmp rfl fun _ => rfl) fl34_0 | exact R_fieldAddr_vw rfl (.no rfl) rfl (.tmp rfl fun _ => rfl) fl34_0 | exact R_fieldAddr_pr rfl (.no rfl) rfl (.tmp rfl fun _ => rfl) fl34_0)) rfl ?_
      refine AWl.nil ?_
      exact Le.sub0 rfl ⟨rfl, rfl, rfl, rfl, rfl, rfl, rfl, trivial⟩ ⟨rfl, rfl, rfl, rfl, trivial⟩
    apply Dag.new (i := 7)
    case ha => rfl
    case ho => rfl
    case hb => rfl
    case hE =>
      intro w9
      refine AWl.absadd (R_list (xs := [.tmp 26]) 27 rfl rfl rfl (.cons (.tmp rfl fun _ => rfl) rfl rfl .nil) Tryz.underlying32 in48 rfl rfl rfl rfl) rfl ?_
      refine AWl.nil ?_
      exact Le.sub0 (σ' := ⟨_, [(2, _), (3, _), (4, _), (5, _), (6, _), (21, _), (27, _)], [(2, _), (4, _), (20001, _), (27, _)]⟩) rfl ⟨rfl, rfl, rfl, rfl, rfl, rfl, rfl, trivial⟩ ⟨rfl, rfl, rfl, rfl, trivial⟩
    apply Dag.old (i := 1)
    case ha => rfl
    case ho => rfl
    case hb => rfl
    case hE =>
      intro w9
      refine AWl.put ((by first | exact R_load rfl (.no rfl) rfl (.tmp rfl fun _ => rfl) ty32 rfl rfl | exact R_load_pp rfl (.no rfl) rfl (.tmp rfl fun _ => rfl) rfl ty32 rfl rfl | exact R_load_vw rfl (.no rfl) rfl (.tmp rfl fun _ => rfl) ty32 rfl rfl | exact R_load_pr rfl (.no rfl) rfl (.tmp rfl fun _ => rfl) rfl (map_get hx) ty32 rfl rfl)) rfl ?_
      refine AWl.nil ?_
      exact Le.sub0 rfl ⟨rfl, rfl, rfl, rfl, rfl, rfl, rfl, trivial⟩ ⟨rfl, rfl, rfl, rfl, trivial⟩
    apply Dag.new (i := 8)
    case ha => rfl
    case ho => rfl
    case hb => rfl
    case hE =>
      intro w9
      refine AWl.chgput (R_append rfl rfl rfl (.tmp rfl fun _ => rfl) rfl (.tmp rfl fun _ => rfl) (by first | exact .t | exact .rf rfl | exact .vw | exact .nil) (by first | rfl | exact isV_map (fun _ => rfl) _ | exact isV_part (fun _ => rfl) _ _ _) Tryz.underlying32 in48 rfl (by first | omega | (simp [chunk]; omega) | (simp only [List.length_map, List.length_append, List.length_cons, List.length_nil, chunk]; omega)) (by first | omega | (unfold maxLen; omega) | (unfold maxLen; simp [chunk]; omega) | (unfold maxLen; simp only [List.length_map, List.length_append, List.length_cons, List.length_nil, chunk]; omega))) rfl ?_
      refine AWl.nil ?_
      exact Le.sub0 (σ' := ⟨_, [(2, _), (3, _), (4, _), (5, _), (6, _), (28, _)], [(2, _), (4, _), (20001, _), (27, _)]⟩) rfl ⟨rfl, rfl, rfl, rfl, rfl, rfl, trivial⟩ ⟨rfl, rfl, rfl, rfl, trivial⟩
    apply Dag.new (i := 9)
    case ha => rfl
    case ho => rfl
    case hb => rfl
    case hE =>
      intro w9
      refine AWl.put ((by first | exact R_fieldAddr rfl (.no rfl) rfl (.tmp rfl fun _ => rfl) fl34_0 | exact R_fieldAddr_pp rfl (.no rfl) rfl (.tmp rfl fun _ => rfl) fl34_0 | exact R_fieldAddr_vw rfl (.no rfl) rfl (.tmp rfl fun _ => rfl) fl34_0 | exact R_fieldAddr_pr rfl (.no rfl) rfl (.tmp rfl fun _ => rfl) fl34_0)) rfl ?_
      refine AWl.nil ?_
      exact Le.sub0 (σ' := ⟨_, [(2, _), (3, _), (4, _), (5, _), (6, _), (28, _), (29, _)], [(2, _), (4, _), (20001, _), (27, _)]⟩) rfl ⟨rfl, rfl, rfl, rfl, rfl, rfl, rfl, trivial⟩ ⟨rfl, rfl, rfl, rfl, trivial⟩
    apply Dag.new (i := 10)
    case ha => rfl
    case ho => rfl
    case hb => rfl
    case hE =>
      intro w9
      refine AWl.chgb (R_store_pb rfl rfl rfl (.tmp rfl fun _ => rfl) (.tmp rfl fun _ => rfl) rfl ty32 rfl rfl rfl (by kernel_rfl) rfl) ?_
      refine AWl.nil ?_
      exact Le.sub0 (σ' := ⟨_, [(2, _), (3, _), (4, _), (5, _), (6, _)], [(2, _), (4, _), (20001, _), (27, _)]⟩) rfl ⟨rfl, rfl, rfl, rfl, rfl, trivial⟩ ⟨rfl, rfl, rfl, rfl, trivial⟩
    refine Dag.fin (k := 26) rfl ?_
    refine AWl.nil ?_
    refine AW.region ?_
    refine AWl.put (R_move rfl (.no rfl) rfl (.tmp rfl fun _ => rfl)) rfl ?_
    refine AWl.put (R_add rfl (.no rfl) rfl (.tmp rfl fun _ => rfl) (.const rfl) (fun _ => by omega)) rfl ?_
    refine AWl.put (R_assign rfl (.no rfl) rfl (.tmp rfl fun _ => rfl)) rfl ?_
    refine AWl.nil ?_
    repeat (with_reducible refine BlockQ.nor ?_)
    refine Round1.next (k + 1) ⟨⟨by omega, by omega⟩, trivial⟩ (by omega) (Le.sub0 rfl ⟨rfl, rfl, rfl, rfl, rfl, trivial⟩ ⟨(by first | rfl | (refine congrArg (fun r => some (R.row _ r)) ?_; simp [chunk, List.map_set, cInt, cBool, cIntS, cPair, cToken, cExpr, cEdge, cGraph, cStep, cWalk, cChange, cBatch, cHistory, cPositions, cAutomaton, cProductStep, cPathAtom, cConjunction, cView, cDelta, cRegistered, cRegistry])), (by first | rfl | (refine congrArg (fun r => some (R.row _ r)) ?_; simp [chunk, List.map_set, cInt, cBool, cIntS, cPair, cToken, cExpr, cEdge, cGraph, cStep, cWalk, cChange, cBatch, cHistory, cPositions, cAutomaton, cProductStep, cPathAtom, cConjunction, cView, cDelta, cRegistered, cRegistry])), (by refine congrArg (fun r => some (R.row 4 r)) ?_; rw [take_at hx]; simp [chunk, cToken]; done), trivial⟩)
  · skip
    try simp at h17
    refine AW.exit ?_
    refine AW.seq ?_
    refine AW.seq ?_
    refine AW.le (σ' := ⟨_, [(2, _), (3, _), (4, _), (5, _), (6, _)], [(2, _), (4, _), (20001, _)]⟩) (Le.sub0 rfl ⟨rfl, rfl, rfl, rfl, rfl, trivial⟩ ⟨rfl, rfl, rfl, trivial⟩) ?_
    refine AW.region ?_
    refine AWl.put ((by first | exact R_load rfl (.no rfl) rfl (.tmp rfl fun _ => rfl) ty34 rfl rfl | exact R_load_pp rfl (.no rfl) rfl (.tmp rfl fun _ => rfl) rfl ty34 rfl rfl | exact R_load_vw rfl (.no rfl) rfl (.tmp rfl fun _ => rfl) ty34 rfl rfl | exact R_load_pr rfl (.no rfl) rfl (.tmp rfl fun _ => rfl) rfl (map_get hx) ty34 rfl rfl)) rfl ?_
    refine AWl.put (R_callz (FnT.fr (specIsValidExpr ⟨((splitL 32 l).take k).map (rdT brS)⟩)) rfl (.no rfl) rfl (.cons (.tmp rfl fun _ => rfl) rfl .nil)) rfl ?_
    refine AWl.put (R_not rfl (.no rfl) rfl (.tmp rfl fun _ => rfl)) rfl ?_
    refine AWl.nil ?_
    refine AW.cond (.tmp rfl fun _ => rfl) (fun h32 => ?_) (fun h32 => ?_)
    · skip
      try simp at h32
      refine AW.seq ?_
      refine AW.region ?_
      refine AWl.put (R_build (ps := []) rfl rfl rfl in34 rfl rfl st34 .nil rfl) rfl ?_
      refine AWl.nilA (i := 33) 20002 4 0 rfl rfl rfl ?_
      refine AWl.chgb (R_store_pb rfl rfl rfl (.tmp rfl fun _ => rfl) (.tmp rfl fun _ => rfl) rfl ty34 rfl rfl rfl (by kernel_rfl) rfl) ?_
      refine AWl.le (σ' := ⟨_, [(2, _), (3, _), (4, _), (5, _), (6, _), (32, _)], [(2, _), (4, _), (20001, _), (20002, _)]⟩) (Le.sub0 rfl ⟨rfl, rfl, rfl, rfl, rfl, rfl, trivial⟩ ⟨rfl, rfl, rfl, rfl, trivial⟩) ?_
      refine AWl.put (R_assign rfl (.no rfl) rfl (.const rfl)) rfl ?_
      refine AWl.nil ?_
      refine AW.ret ?_
      refine Res.many rfl (.cell rfl rfl ty34 rfl rfl (.tmp rfl .nil)) rfl ?_ (by simp)
      rw [parseX_spec (k := k) (by omega), if_neg (by simpa using h32)]; rfl
    · skip
      try simp at h32
      refine AW.skip ?_
      refine AW.seq ?_
      refine AW.region ?_
      refine AWl.put ((by first | exact R_load rfl (.no rfl) rfl (.tmp rfl fun _ => rfl) ty34 rfl rfl | exact R_load_pp rfl (.no rfl) rfl (.tmp rfl fun _ => rfl) rfl ty34 rfl rfl | exact R_load_vw rfl (.no rfl) rfl (.tmp rfl fun _ => rfl) ty34 rfl rfl | exact R_load_pr rfl (.no rfl) rfl (.tmp rfl fun _ => rfl) rfl (map_get hx) ty34 rfl rfl)) rfl ?_
      refine AWl.chgb (R_store_pb rfl rfl rfl (.tmp rfl fun _ => rfl) (.tmp rfl fun _ => rfl) rfl ty34 rfl rfl rfl (by kernel_rfl) rfl) ?_
      refine AWl.le (σ' := ⟨_, [(2, _), (3, _), (4, _), (5, _), (6, _), (32, _)], [(2, _), (4, _), (20001, _)]⟩) (Le.sub0 rfl ⟨rfl, rfl, rfl, rfl, rfl, rfl, trivial⟩ ⟨rfl, rfl, rfl, trivial⟩) ?_
      refine AWl.put (R_assign rfl (.no rfl) rfl (.const rfl)) rfl ?_
      refine AWl.nil ?_
      refine AW.ret ?_
      refine Res.many rfl (.cell rfl rfl ty34 rfl rfl (.tmp rfl .nil)) rfl ?_ (by simp)
      rw [parseX_spec (k := k) (by omega), if_pos (by simpa using h32)]; rfl
end Go.Proofs.YtoealglkenhphaaGreatDoor
