/- Merged texts. -/
import Derived.Test.YtoealglkenhphaaDoorB80xb
import Derived.Test.YtoealglkenhphaaDoorB81xb
import Derived.Test.YtoealglkenhphaaDoorAbsWxb
import Derived.Shelf.Strconv.Atoi
import Derived.Shelf.Strconv.AtoiErr
set_option linter.unusedVariables false
set_option linter.unusedSimpArgs false
set_option maxHeartbeats 1000000
set_option maxRecDepth 100000
namespace Go.Q
open Go.D
theorem decFrom_snoc : ∀ (l : List UInt8) (acc : Nat) (b : UInt8) (n d : Nat), Lib.decFrom acc l = some n → Lib.digitVal b = some d → Lib.decFrom acc (l ++ [b]) = some (n * 10 + d)
  | [], acc, b, n, d, h, hd => by
    simp only [Lib.decFrom, Option.some.injEq] at h
    subst h
    rw [List.nil_append]
    unfold Lib.decFrom
    rw [hd]; rfl
  | x :: l, acc, b, n, d, h, hd => by
    rw [List.cons_append]
    unfold Lib.decFrom at h ⊢
    cases hx : Lib.digitVal x with
    | none => rw [hx] at h; cases h
    | some v =>
      rw [hx] at h
      exact decFrom_snoc l _ b n d h hd
theorem digitVal_of {d : Nat} (h : d < 10) : Lib.digitVal (UInt8.ofNat (48 + d)) = some d := by
  have e : (UInt8.ofNat (48 + d)).toNat = 48 + d := by rw [UInt8.toNat_ofNat']; omega
  unfold Lib.digitVal
  rw [e, if_pos (by omega)]
  congr 1; omega
theorem decFrom_dig : ∀ (k u : Nat), u < k → Lib.decFrom 0 (Lib.decDigits u) = some u
  | 0, _, h => by omega
  | k + 1, u, h => by
    by_cases h1 : u < 10
    · rw [dig_small h1]
      have := decFrom_snoc [] 0 _ 0 u rfl (digitVal_of h1)
      rw [List.nil_append] at this
      rw [this]; congr 1; omega
    · rw [dig_more (by omega), decFrom_snoc _ 0 _ _ _ (decFrom_dig k (u / 10) (by omega)) (digitVal_of (Nat.mod_lt u (by decide)))]
      congr 1; omega
theorem decNat_dig (u : Nat) : Lib.decNat (Lib.decDigits u) = some u := by
  unfold Lib.decNat
  rw [if_neg (by simpa using dig_ne u)]
  exact decFrom_dig (u + 1) u (by omega)
theorem dig_first {u : Nat} {b : UInt8} {r : List UInt8} (h : Lib.decDigits u = b :: r) : b ≠ 45 ∧ b ≠ 43 := by
  have h1 := List.all_eq_true.1 (dig_all (u + 1) u (by omega)) b (by rw [h]; simp)
  constructor
  · rintro rfl; exact absurd h1 (by decide)
  · rintro rfl; exact absurd h1 (by decide)
theorem atoi_itoS (n : Int) : Lib.atoi (itoS n) = some n := by
  unfold itoS Lib.itoa
  by_cases h : n < 0
  · rw [if_pos h]
    have e : Lib.atoi (45 :: Lib.decDigits n.natAbs) = (Lib.decNat (Lib.decDigits n.natAbs)).map fun (m : Nat) => -(m : Int) := rfl
    rw [e, decNat_dig]
    simp only [Option.map_some, Option.some.injEq]; omega
  · rw [if_neg h]
    have hd := decNat_dig n.toNat
    cases hl : Lib.decDigits n.toNat with
    | nil => exact absurd hl (dig_ne _)
    | cons b r =>
      rw [hl] at hd
      have hb := dig_first hl
      show (if (b == 45) = true then _ else if (b == 43) = true then _ else (Lib.decNat (b :: r)).map fun (m : Nat) => (m : Int)) = some n
      rw [if_neg (by simpa using hb.1), if_neg (by simpa using hb.2), hd]
      simp only [Option.map_some, Option.some.injEq]; omega
/-- What impl reads. -/
theorem parseI_atoi (l : List UInt8) : parseI l = match Lib.atoi l with
    | some n => if l.length ≤ 10 ∧ itoS n = l ∧ -999999999 ≤ n ∧ n ≤ 999999999 then (n, true) else (0, false)
    | none => (0, false) := by
  cases h : Lib.atoi l with
  | none =>
    exact parseI_no fun n e => by rw [← e, atoi_itoS] at h; cases h
  | some n =>
    simp only
    by_cases e : itoS n = l
    · rw [parseI_of e]
      have hl : (-999999999 ≤ n ∧ n ≤ 999999999) → l.length ≤ 10 := fun hb => by
        have h1 := (dig_le 9 n.natAbs (by decide)).1 (by omega)
        rw [← e]
        unfold itoS Lib.itoa
        split
        · rw [List.length_cons]; omega
        · rw [show n.toNat = n.natAbs by omega]; omega
      by_cases hb : -999999999 ≤ n ∧ n ≤ 999999999
      · rw [if_pos hb, if_pos ⟨hl hb, e, hb⟩]
      · rw [if_neg hb, if_neg fun hh => hb hh.2.2]
    · rw [if_neg fun hh => e hh.2.1]
      exact parseI_no fun m em => by
        have := atoi_itoS m
        rw [em, h] at this
        cases this
        exact e em
end Go.Q
set_option linter.unusedVariables false
set_option linter.unusedSimpArgs false
set_option maxHeartbeats 1000000
set_option maxRecDepth 100000
namespace Go.Proofs.YtoealglkenhphaaDoor
open Go.RowKit Go.Q Go.D Go.Shelf
def Tryd.lays172_ren:Go.Shelf.Ren:=⟨fun|172=>36|244=>50|245=>51|247=>63|279=>64|280=>65|281=>66|282=>67|287=>79|316=>80|171=>37|205=>81|321=>89|322=>90|243=>52|246=>68|283=>82|284=>83|285=>84|286=>85|129=>92|317=>91|318=>93|319=>94|320=>95|337=>98|338=>99|n=>n,fun|9=>9|3=>3|75=>61|76=>62|4=>4|5=>5|167=>76|37=>65|0=>0|85=>77|2=>2|168=>79|53=>92|175=>93|46=>91|210=>97|127=>104|145=>115|143=>113|21=>21|171=>99|173=>102|212=>117|51=>109|20=>20|213=>118|232=>124|233=>125|80=>88|n=>n,fun|15=>1|16=>2|17=>5|18=>6|19=>7|n=>n⟩
theorem Tryd.lays172:Go.Proofs.Lays.n172 Tryd.prog Tryd.lays172_ren:={
 mixed:=by kernel_rfl
 f129:=Tryd.func92.trans (congrArg some (by kernel_rfl))
 f171:=Tryd.func37.trans (congrArg some (by kernel_rfl))
 f172:=Tryd.func36.trans (congrArg some (by kernel_rfl))
 f205:=Tryd.func81.trans (congrArg some (by kernel_rfl))
 f243:=Tryd.func52.trans (congrArg some (by kernel_rfl))
 f244:=Tryd.func50.trans (congrArg some (by kernel_rfl))
 f245:=Tryd.func51.trans (congrArg some (by kernel_rfl))
 f246:=Tryd.func68.trans (congrArg some (by kernel_rfl))
 f247:=Tryd.func63.trans (congrArg some (by kernel_rfl))
 f279:=Tryd.func64.trans (congrArg some (by kernel_rfl))
 f280:=Tryd.func65.trans (congrArg some (by kernel_rfl))
 f281:=Tryd.func66.trans (congrArg some (by kernel_rfl))
 f282:=Tryd.func67.trans (congrArg some (by kernel_rfl))
 f283:=Tryd.func82.trans (congrArg some (by kernel_rfl))
 f284:=Tryd.func83.trans (congrArg some (by kernel_rfl))
 f285:=Tryd.func84.trans (congrArg some (by kernel_rfl))
 f286:=Tryd.func85.trans (congrArg some (by kernel_rfl))
 f287:=Tryd.func79.trans (congrArg some (by kernel_rfl))
 f316:=Tryd.func80.trans (congrArg some (by kernel_rfl))
 f317:=Tryd.func91.trans (congrArg some (by kernel_rfl))
 f318:=Tryd.func93.trans (congrArg some (by kernel_rfl))
 f319:=Tryd.func94.trans (congrArg some (by kernel_rfl))
 f320:=Tryd.func95.trans (congrArg some (by kernel_rfl))
 f321:=Tryd.func89.trans (congrArg some (by kernel_rfl))
 f322:=Tryd.func90.trans (congrArg some (by kernel_rfl))
 f337:=Tryd.func98.trans (congrArg some (by kernel_rfl))
 f338:=Tryd.func99.trans (congrArg some (by kernel_rfl))
 t0:=Tryd.underlying0
 a0:=Tryd.isAgg0
 z0:=Tryd.sizeOf0
 v0:=Tryd.zeroValue0
 t2:=Tryd.underlying2
 a2:=Tryd.isAgg2
 z2:=Tryd.sizeOf2
 v2:=Tryd.zeroValue2
 t3:=Tryd.underlying3
 a3:=Tryd.isAgg3
 z3:=Tryd.sizeOf3
 v3:=Tryd.zeroValue3
 t4:=Tryd.underlying4
 a4:=Tryd.isAgg4
 z4:=Tryd.sizeOf4
 v4:=Tryd.zeroValue4
 t5:=Tryd.underlying5
 a5:=Tryd.isAgg5
 z5:=Tryd.sizeOf5
 v5:=Tryd.zeroValue5
 t9:=Tryd.underlying9
 a9:=Tryd.isAgg9
 z9:=Tryd.sizeOf9
 v9:=Tryd.zeroValue9
 t20:=Tryd.underlying20
 a20:=Tryd.isAgg20
 z20:=Tryd.sizeOf20
 v20:=Tryd.zeroValue20
 t21:=Tryd.underlying21
 a21:=Tryd.isAgg21
 z21:=Tryd.sizeOf21
 v21:=Tryd.zeroValue21
 t37:=Tryd.underlying65
 a37:=Tryd.isAgg65
 z37:=Tryd.sizeOf65
 v37:=Tryd.zeroValue65
 t46:=Tryd.underlying91
 a46:=Tryd.isAgg91
 z46:=Tryd.sizeOf91
 v46:=Tryd.zeroValue91
 t51:=Tryd.underlying109
 a51:=Tryd.isAgg109
 z51:=Tryd.sizeOf109
 v51:=Tryd.zeroValue109
 t53:=Tryd.underlying92
 a53:=Tryd.isAgg92
 z53:=Tryd.sizeOf92
 v53:=Tryd.zeroValue92
 t75:=Tryd.underlying61
 a75:=Tryd.isAgg61
 z75:=Tryd.sizeOf61
 v75:=Tryd.zeroValue61
 t76:=Tryd.underlying62
 a76:=Tryd.isAgg62
 z76:=Tryd.sizeOf62
 v76:=Tryd.zeroValue62
 t85:=Tryd.underlying77
 a85:=Tryd.isAgg77
 z85:=Tryd.sizeOf77
 v85:=Tryd.zeroValue77
 t127:=Tryd.underlying104
 a127:=Tryd.isAgg104
 z127:=Tryd.sizeOf104
 v127:=Tryd.zeroValue104
 t143:=Tryd.underlying113
 a143:=Tryd.isAgg113
 z143:=Tryd.sizeOf113
 v143:=Tryd.zeroValue113
 t145:=Tryd.underlying115
 a145:=Tryd.isAgg115
 z145:=Tryd.sizeOf115
 v145:=Tryd.zeroValue115
 t167:=Tryd.underlying76
 a167:=Tryd.isAgg76
 z167:=Tryd.sizeOf76
 v167:=Tryd.zeroValue76
 t168:=Tryd.underlying79
 a168:=Tryd.isAgg79
 z168:=Tryd.sizeOf79
 v168:=Tryd.zeroValue79
 t171:=Tryd.underlying99
 a171:=Tryd.isAgg99
 z171:=Tryd.sizeOf99
 v171:=Tryd.zeroValue99
 t173:=Tryd.underlying102
 a173:=Tryd.isAgg102
 z173:=Tryd.sizeOf102
 v173:=Tryd.zeroValue102
 t175:=Tryd.underlying93
 a175:=Tryd.isAgg93
 z175:=Tryd.sizeOf93
 v175:=Tryd.zeroValue93
 t210:=Tryd.underlying97
 a210:=Tryd.isAgg97
 z210:=Tryd.sizeOf97
 v210:=Tryd.zeroValue97
 t212:=Tryd.underlying117
 a212:=Tryd.isAgg117
 z212:=Tryd.sizeOf117
 v212:=Tryd.zeroValue117
 t213:=Tryd.underlying118
 a213:=Tryd.isAgg118
 z213:=Tryd.sizeOf118
 t232:=Tryd.underlying124
 a232:=Tryd.isAgg124
 z232:=Tryd.sizeOf124
 v232:=Tryd.zeroValue124
 t233:=Tryd.underlying125
 a233:=Tryd.isAgg125
 z233:=Tryd.sizeOf125
 v233:=Tryd.zeroValue125
 g15:=by kernel_rfl
 g16:=by kernel_rfl
 g17:=by kernel_rfl
 g18:=by kernel_rfl
 g19:=by kernel_rfl }
theorem strconvAtoi (l : List UInt8) (n : Int) (hl : l.length ≤ 18) (h : Lib.atoi l = some n) : FnT Tryd.prog 36 [.one (.v (.string (bs l)))] (.tup [.one (.v (.int .i64 n)), .one (.v .nilIface)]) := by
  refine ⟨⟨_, Tryd.func36, by kernel_rfl, by kernel_rfl⟩, fun w vs F hG hv => ?_⟩
  obtain ⟨v1, vr, G1, G2, rfl, g1, ⟨rfl, rfl⟩, rfl⟩ := hv
  simp only [V0r, C] at g1
  obtain ⟨rfl, rfl, _⟩ := g1
  have hcon := Any.strconv_Atoi Tryd.lays172 (bs l) n (by rw [bs_size]; exact hl) (by rw [bs_list]; exact h) w
  change Calls Tryd.prog 36 _ _ _ at hcon
  refine hcon.mono ?_
  rintro e w' ⟨rfl, t, rfl⟩
  exact ⟨_, [], rfl, ⟨_, rfl, V0s_vs [.int .i64 n, .nilIface] rfl⟩, List.nodup_nil, by simp, Lib.bytesWorld_below _ _ _⟩
def Tryd.laysC172_ren:Go.Shelf.Ren:=⟨fun|172=>36|244=>50|245=>51|247=>63|279=>64|280=>65|281=>66|282=>67|287=>79|316=>80|171=>37|205=>81|321=>89|322=>90|243=>52|246=>68|283=>82|284=>83|285=>84|286=>85|129=>92|317=>91|318=>93|319=>94|320=>95|337=>98|338=>99|n=>n,fun|9=>9|3=>3|75=>61|76=>62|4=>4|5=>5|167=>76|37=>65|0=>0|85=>77|2=>2|168=>79|53=>92|175=>93|46=>91|210=>97|127=>104|145=>115|143=>113|21=>21|171=>99|173=>102|212=>117|51=>109|20=>20|213=>118|232=>124|233=>125|80=>88|n=>n,fun|15=>1|16=>2|17=>5|18=>6|19=>7|n=>n⟩
theorem Tryd.laysC172:Go.Proofs.LaysC.n172 Tryd.prog Tryd.laysC172_ren:={
 mixed:=by kernel_rfl
 f129:=Tryd.func92.trans (congrArg some (by kernel_rfl))
 f171:=Tryd.func37.trans (congrArg some (by kernel_rfl))
 f172:=Tryd.func36.trans (congrArg some (by kernel_rfl))
 f205:=Tryd.func81.trans (congrArg some (by kernel_rfl))
 f243:=Tryd.func52.trans (congrArg some (by kernel_rfl))
 f244:=Tryd.func50.trans (congrArg some (by kernel_rfl))
 f245:=Tryd.func51.trans (congrArg some (by kernel_rfl))
 f246:=Tryd.func68.trans (congrArg some (by kernel_rfl))
 f247:=Tryd.func63.trans (congrArg some (by kernel_rfl))
 f279:=Tryd.func64.trans (congrArg some (by kernel_rfl))
 f280:=Tryd.func65.trans (congrArg some (by kernel_rfl))
 f281:=Tryd.func66.trans (congrArg some (by kernel_rfl))
 f282:=Tryd.func67.trans (congrArg some (by kernel_rfl))
 f283:=Tryd.func82.trans (congrArg some (by kernel_rfl))
 f284:=Tryd.func83.trans (congrArg some (by kernel_rfl))
 f285:=Tryd.func84.trans (congrArg some (by kernel_rfl))
 f286:=Tryd.func85.trans (congrArg some (by kernel_rfl))
 f287:=Tryd.func79.trans (congrArg some (by kernel_rfl))
 f316:=Tryd.func80.trans (congrArg some (by kernel_rfl))
 f317:=Tryd.func91.trans (congrArg some (by kernel_rfl))
 f318:=Tryd.func93.trans (congrArg some (by kernel_rfl))
 f319:=Tryd.func94.trans (congrArg some (by kernel_rfl))
 f320:=Tryd.func95.trans (congrArg some (by kernel_rfl))
 f321:=Tryd.func89.trans (congrArg some (by kernel_rfl))
 f322:=Tryd.func90.trans (congrArg some (by kernel_rfl))
 f337:=Tryd.func98.trans (congrArg some (by kernel_rfl))
 f338:=Tryd.func99.trans (congrArg some (by kernel_rfl))
 t0:=Tryd.underlying0
 a0:=Tryd.isAgg0
 z0:=Tryd.sizeOf0
 v0:=Tryd.zeroValue0
 t2:=Tryd.underlying2
 a2:=Tryd.isAgg2
 z2:=Tryd.sizeOf2
 v2:=Tryd.zeroValue2
 t3:=Tryd.underlying3
 a3:=Tryd.isAgg3
 z3:=Tryd.sizeOf3
 v3:=Tryd.zeroValue3
 t4:=Tryd.underlying4
 a4:=Tryd.isAgg4
 z4:=Tryd.sizeOf4
 v4:=Tryd.zeroValue4
 t5:=Tryd.underlying5
 a5:=Tryd.isAgg5
 z5:=Tryd.sizeOf5
 v5:=Tryd.zeroValue5
 t9:=Tryd.underlying9
 a9:=Tryd.isAgg9
 z9:=Tryd.sizeOf9
 v9:=Tryd.zeroValue9
 t20:=Tryd.underlying20
 a20:=Tryd.isAgg20
 z20:=Tryd.sizeOf20
 v20:=Tryd.zeroValue20
 t21:=Tryd.underlying21
 a21:=Tryd.isAgg21
 z21:=Tryd.sizeOf21
 v21:=Tryd.zeroValue21
 t37:=Tryd.underlying65
 a37:=Tryd.isAgg65
 z37:=Tryd.sizeOf65
 v37:=Tryd.zeroValue65
 t46:=Tryd.underlying91
 a46:=Tryd.isAgg91
 z46:=Tryd.sizeOf91
 v46:=Tryd.zeroValue91
 t51:=Tryd.underlying109
 a51:=Tryd.isAgg109
 z51:=Tryd.sizeOf109
 v51:=Tryd.zeroValue109
 t53:=Tryd.underlying92
 a53:=Tryd.isAgg92
 z53:=Tryd.sizeOf92
 v53:=Tryd.zeroValue92
 t75:=Tryd.underlying61
 a75:=Tryd.isAgg61
 z75:=Tryd.sizeOf61
 v75:=Tryd.zeroValue61
 t76:=Tryd.underlying62
 a76:=Tryd.isAgg62
 z76:=Tryd.sizeOf62
 v76:=Tryd.zeroValue62
 t85:=Tryd.underlying77
 a85:=Tryd.isAgg77
 z85:=Tryd.sizeOf77
 v85:=Tryd.zeroValue77
 t127:=Tryd.underlying104
 a127:=Tryd.isAgg104
 z127:=Tryd.sizeOf104
 v127:=Tryd.zeroValue104
 t143:=Tryd.underlying113
 a143:=Tryd.isAgg113
 z143:=Tryd.sizeOf113
 v143:=Tryd.zeroValue113
 t145:=Tryd.underlying115
 a145:=Tryd.isAgg115
 z145:=Tryd.sizeOf115
 v145:=Tryd.zeroValue115
 t167:=Tryd.underlying76
 a167:=Tryd.isAgg76
 z167:=Tryd.sizeOf76
 v167:=Tryd.zeroValue76
 t168:=Tryd.underlying79
 a168:=Tryd.isAgg79
 z168:=Tryd.sizeOf79
 v168:=Tryd.zeroValue79
 t171:=Tryd.underlying99
 a171:=Tryd.isAgg99
 z171:=Tryd.sizeOf99
 v171:=Tryd.zeroValue99
 t173:=Tryd.underlying102
 a173:=Tryd.isAgg102
 z173:=Tryd.sizeOf102
 v173:=Tryd.zeroValue102
 t175:=Tryd.underlying93
 a175:=Tryd.isAgg93
 z175:=Tryd.sizeOf93
 v175:=Tryd.zeroValue93
 t210:=Tryd.underlying97
 a210:=Tryd.isAgg97
 z210:=Tryd.sizeOf97
 v210:=Tryd.zeroValue97
 t212:=Tryd.underlying117
 a212:=Tryd.isAgg117
 z212:=Tryd.sizeOf117
 v212:=Tryd.zeroValue117
 t213:=Tryd.underlying118
 a213:=Tryd.isAgg118
 z213:=Tryd.sizeOf118
 t232:=Tryd.underlying124
 a232:=Tryd.isAgg124
 z232:=Tryd.sizeOf124
 v232:=Tryd.zeroValue124
 t233:=Tryd.underlying125
 a233:=Tryd.isAgg125
 z233:=Tryd.sizeOf125
 v233:=Tryd.zeroValue125
 g15:=by kernel_rfl
 g16:=by kernel_rfl
 g17:=by kernel_rfl
 g18:=by kernel_rfl
 g19:=by kernel_rfl
 t80:=Tryd.underlying88
 a80:=Tryd.isAgg88
 z80:=Tryd.sizeOf88
 v80:=Tryd.zeroValue88
 i0:=by kernel_rfl
 i2:=by kernel_rfl
 i3:=by kernel_rfl
 i4:=by kernel_rfl
 i5:=by kernel_rfl
 i9:=by kernel_rfl
 i20:=by kernel_rfl
 i21:=by kernel_rfl
 i37:=by kernel_rfl
 i46:=by kernel_rfl
 i51:=by kernel_rfl
 i53:=by kernel_rfl
 i75:=by kernel_rfl
 i76:=by kernel_rfl
 i80:=by kernel_rfl
 i85:=by kernel_rfl
 i127:=by kernel_rfl
 i143:=by kernel_rfl
 i145:=by kernel_rfl
 i167:=by kernel_rfl
 i168:=by kernel_rfl
 i171:=by kernel_rfl
 i173:=by kernel_rfl
 i175:=by kernel_rfl
 i210:=by kernel_rfl
 i212:=by kernel_rfl
 i232:=by kernel_rfl
 i233:=by kernel_rfl
 m15:=by kernel_rfl
 m16:=by kernel_rfl
 m17:=by kernel_rfl
 m18:=by kernel_rfl
 m19:=by kernel_rfl
 c0:=by kernel_rfl
 c2:=by kernel_rfl
 c3:=by kernel_rfl
 c4:=by kernel_rfl
 c5:=by kernel_rfl
 c9:=by kernel_rfl
 c20:=by kernel_rfl
 c21:=by kernel_rfl
 c37:=by kernel_rfl
 c46:=by kernel_rfl
 c51:=by kernel_rfl
 c53:=by kernel_rfl
 c75:=by kernel_rfl
 c76:=by kernel_rfl
 c80:=by kernel_rfl
 c85:=by kernel_rfl
 c127:=by kernel_rfl
 c143:=by kernel_rfl
 c145:=by kernel_rfl
 c167:=by kernel_rfl
 c168:=by kernel_rfl
 c171:=by kernel_rfl
 c173:=by kernel_rfl
 c175:=by kernel_rfl
 c210:=by kernel_rfl
 c212:=by kernel_rfl
 c213:=by kernel_rfl
 c232:=by kernel_rfl
 c233:=by kernel_rfl }
theorem strconvAtoiE (l : List UInt8) (hl : l.length ≤ 18) (h : Lib.atoi l = none) : FrE Tryd.prog 36 [.one (.v (.string (bs l)))] fun out => ∃ N : Nat, out = .tup [.one (.v (.int .i64 0)), .one (.v (.iface (Tryd.laysC172_ren.t 168) (.pointer (some ⟨N, 0, none⟩))))] := by
  refine ⟨⟨_, Tryd.func36, by kernel_rfl, by kernel_rfl⟩, fun w vs F hG hv => ?_⟩
  obtain ⟨v1, vr, G1, G2, rfl, g1, ⟨rfl, rfl⟩, rfl⟩ := hv
  simp only [V0r, C] at g1
  obtain ⟨rfl, rfl, _⟩ := g1
  obtain ⟨tp, p, hvar⟩ : ∃ tp p, w.cell? ⟨Tryd.laysC172_ren.g 15, 0, none⟩ = some (.iface tp p) := by
    obtain ⟨w0, ⟨_, _, tp, p, h2⟩, h3⟩ := hG.ex
    have h4 := World.var?_cell Tryd.laysC172.m15 h2 0
    have hgl : Tryd.laysC172_ren.g 15 < Tryd.prog.low := Nat.lt_trans (of_decide_eq_true (by kernel_rfl)) low_lt
    exact ⟨tp, p, (World.cell?_of_block (a := ⟨Tryd.laysC172_ren.g 15, 0, none⟩) (h3 _ hgl)).trans (by simpa using h4)⟩
  have hcon := Any.strconv_Atoi_err Tryd.laysC172 (bs l) (by rw [bs_size]; exact hl) (by rw [bs_list]; exact h) (.iface tp p) w hvar (.inr ⟨tp, p, rfl⟩)
  change Calls Tryd.prog 36 _ _ _ at hcon
  refine hcon.mono ?_
  rintro e w' ⟨N, rfl, _, _, hB⟩
  exact ⟨_, ⟨N, rfl⟩, _, [], rfl, ⟨_, rfl, V0s_vs [.int .i64 0, .iface (Tryd.laysC172_ren.t 168) (.pointer (some ⟨N, 0, none⟩))] rfl⟩, by simp, hB⟩
end Go.Proofs.YtoealglkenhphaaDoor
