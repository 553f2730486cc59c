/- Merged texts. -/
import Derived.Test.YtoealglkenhphaaGreatDoorB80xa
import Derived.Test.YtoealglkenhphaaGreatDoorB81xa
import Derived.Test.YtoealglkenhphaaGreatDoorAbsXxa
import Derived.Shelf.Strconv.Atoi
import Derived.Shelf.Strconv.AtoiErr
import Derived.Test.YtoealglkenhphaaGreatDoorB02xa
import Derived.Test.YtoealglkenhphaaGreatDoorB84xa
import Derived.Test.YtoealglkenhphaaGreatDoorB82xa
import Derived.Lib.IndexMore
set_option linter.unusedVariables false
set_option linter.unusedSimpArgs false
set_option maxHeartbeats 1000000
set_option maxRecDepth 100000
namespace Go.Q
open Go.D
theorem decFrom_snoc : ∀ (l : List UInt8) (acc : Nat) (b : UInt8) (n d : Nat), Lib.decFrom acc l = some n → Lib.digitVal b = some d → Lib.decFrom acc (l ++ [b]) = some (n * 10 + d)
  | [], acc, b, n, d, h, hd => by
    simp only [Lib.decFrom, Option.some.injEq] at h
    subst h
    rw [List.nil_append]
    unfold Lib.decFrom
    rw [hd]; rfl
  | x :: l, acc, b, n, d, h, hd => by
    rw [List.cons_append]
    unfold Lib.decFrom at h ⊢
    cases hx : Lib.digitVal x with
    | none => rw [hx] at h; cases h
    | some v =>
      rw [hx] at h
      exact decFrom_snoc l _ b n d h hd
theorem digitVal_of {d : Nat} (h : d < 10) : Lib.digitVal (UInt8.ofNat (48 + d)) = some d := by
  have e : (UInt8.ofNat (48 + d)).toNat = 48 + d := by rw [UInt8.toNat_ofNat']; omega
  unfold Lib.digitVal
  rw [e, if_pos (by omega)]
  congr 1; omega
theorem decFrom_dig : ∀ (k u : Nat), u < k → Lib.decFrom 0 (Lib.decDigits u) = some u
  | 0, _, h => by omega
  | k + 1, u, h => by
    by_cases h1 : u < 10
    · rw [dig_small h1]
      have := decFrom_snoc [] 0 _ 0 u rfl (digitVal_of h1)
      rw [List.nil_append] at this
      rw [this]; congr 1; omega
    · rw [dig_more (by omega), decFrom_snoc _ 0 _ _ _ (decFrom_dig k (u / 10) (by omega)) (digitVal_of (Nat.mod_lt u (by decide)))]
      congr 1; omega
theorem decNat_dig (u : Nat) : Lib.decNat (Lib.decDigits u) = some u := by
  unfold Lib.decNat
  rw [if_neg (by simpa using dig_ne u)]
  exact decFrom_dig (u + 1) u (by omega)
theorem dig_first {u : Nat} {b : UInt8} {r : List UInt8} (h : Lib.decDigits u = b :: r) : b ≠ 45 ∧ b ≠ 43 := by
  have h1 := List.all_eq_true.1 (dig_all (u + 1) u (by omega)) b (by rw [h]; simp)
  constructor
  · rintro rfl; exact absurd h1 (by decide)
  · rintro rfl; exact absurd h1 (by decide)
theorem atoi_itoS (n : Int) : Lib.atoi (itoS n) = some n := by
  unfold itoS Lib.itoa
  by_cases h : n < 0
  · rw [if_pos h]
    have e : Lib.atoi (45 :: Lib.decDigits n.natAbs) = (Lib.decNat (Lib.decDigits n.natAbs)).map fun (m : Nat) => -(m : Int) := rfl
    rw [e, decNat_dig]
    simp only [Option.map_some, Option.some.injEq]; omega
  · rw [if_neg h]
    have hd := decNat_dig n.toNat
    cases hl : Lib.decDigits n.toNat with
    | nil => exact absurd hl (dig_ne _)
    | cons b r =>
      rw [hl] at hd
      have hb := dig_first hl
      show (if (b == 45) = true then _ else if (b == 43) = true then _ else (Lib.decNat (b :: r)).map fun (m : Nat) => (m : Int)) = some n
      rw [if_neg (by simpa using hb.1), if_neg (by simpa using hb.2), hd]
      simp only [Option.map_some, Option.some.injEq]; omega
/-- What impl reads. -/
theorem parseI_atoi (l : List UInt8) : parseI l = match Lib.atoi l with
    | some n => if l.length ≤ 10 ∧ itoS n = l ∧ -999999999 ≤ n ∧ n ≤ 999999999 then (n, true) else (0, false)
    | none => (0, false) := by
  cases h : Lib.atoi l with
  | none =>
    exact parseI_no fun n e => by rw [← e, atoi_itoS] at h; cases h
  | some n =>
    simp only
    by_cases e : itoS n = l
    · rw [parseI_of e]
      have hl : (-999999999 ≤ n ∧ n ≤ 999999999) → l.length ≤ 10 := fun hb => by
        have h1 := (dig_le 9 n.natAbs (by decide)).1 (by omega)
        rw [← e]
        unfold itoS Lib.itoa
        split
        · rw [List.length_cons]; omega
        · rw [show n.toNat = n.natAbs by omega]; omega
      by_cases hb : -999999999 ≤ n ∧ n ≤ 999999999
      · rw [if_pos hb, if_pos ⟨hl hb, e, hb⟩]
      · rw [if_neg hb, if_neg fun hh => hb hh.2.2]
    · rw [if_neg fun hh => e hh.2.1]
      exact parseI_no fun m em => by
        have := atoi_itoS m
        rw [em, h] at this
        cases this
        exact e em
end Go.Q
set_option linter.unusedVariables false
set_option linter.unusedSimpArgs false
set_option maxHeartbeats 1000000
set_option maxRecDepth 100000
namespace Go.Proofs.YtoealglkenhphaaGreatDoor
open Go.RowKit Go.Q Go.D Go.Shelf
def Tryz.lays172_ren:Go.Shelf.Ren:=⟨fun|172=>27|244=>46|245=>47|247=>67|279=>68|280=>69|281=>70|282=>71|287=>90|316=>91|171=>28|205=>92|321=>105|322=>106|243=>48|246=>72|283=>93|284=>94|285=>95|286=>96|129=>108|317=>107|318=>109|319=>110|320=>111|337=>116|338=>117|n=>n,fun|9=>9|3=>3|75=>56|76=>57|4=>4|5=>5|167=>84|37=>64|0=>0|85=>85|2=>2|168=>87|53=>105|175=>106|46=>83|210=>110|127=>99|145=>132|143=>130|21=>21|171=>112|173=>115|212=>134|51=>102|20=>20|213=>135|232=>145|233=>146|80=>75|n=>n,fun|15=>1|16=>2|17=>5|18=>6|19=>7|n=>n⟩
theorem Tryz.lays172:Go.Proofs.Lays.n172 Tryz.prog Tryz.lays172_ren:={
 mixed:=by kernel_rfl
 f129:=Tryz.func108.trans (congrArg some (by kernel_rfl))
 f171:=Tryz.func28.trans (congrArg some (by kernel_rfl))
 f172:=Tryz.func27.trans (congrArg some (by kernel_rfl))
 f205:=Tryz.func92.trans (congrArg some (by kernel_rfl))
 f243:=Tryz.func48.trans (congrArg some (by kernel_rfl))
 f244:=Tryz.func46.trans (congrArg some (by kernel_rfl))
 f245:=Tryz.func47.trans (congrArg some (by kernel_rfl))
 f246:=Tryz.func72.trans (congrArg some (by kernel_rfl))
 f247:=Tryz.func67.trans (congrArg some (by kernel_rfl))
 f279:=Tryz.func68.trans (congrArg some (by kernel_rfl))
 f280:=Tryz.func69.trans (congrArg some (by kernel_rfl))
 f281:=Tryz.func70.trans (congrArg some (by kernel_rfl))
 f282:=Tryz.func71.trans (congrArg some (by kernel_rfl))
 f283:=Tryz.func93.trans (congrArg some (by kernel_rfl))
 f284:=Tryz.func94.trans (congrArg some (by kernel_rfl))
 f285:=Tryz.func95.trans (congrArg some (by kernel_rfl))
 f286:=Tryz.func96.trans (congrArg some (by kernel_rfl))
 f287:=Tryz.func90.trans (congrArg some (by kernel_rfl))
 f316:=Tryz.func91.trans (congrArg some (by kernel_rfl))
 f317:=Tryz.func107.trans (congrArg some (by kernel_rfl))
 f318:=Tryz.func109.trans (congrArg some (by kernel_rfl))
 f319:=Tryz.func110.trans (congrArg some (by kernel_rfl))
 f320:=Tryz.func111.trans (congrArg some (by kernel_rfl))
 f321:=Tryz.func105.trans (congrArg some (by kernel_rfl))
 f322:=Tryz.func106.trans (congrArg some (by kernel_rfl))
 f337:=Tryz.func116.trans (congrArg some (by kernel_rfl))
 f338:=Tryz.func117.trans (congrArg some (by kernel_rfl))
 t0:=Tryz.underlying0
 a0:=Tryz.isAgg0
 z0:=Tryz.sizeOf0
 v0:=Tryz.zeroValue0
 t2:=Tryz.underlying2
 a2:=Tryz.isAgg2
 z2:=Tryz.sizeOf2
 v2:=Tryz.zeroValue2
 t3:=Tryz.underlying3
 a3:=Tryz.isAgg3
 z3:=Tryz.sizeOf3
 v3:=Tryz.zeroValue3
 t4:=Tryz.underlying4
 a4:=Tryz.isAgg4
 z4:=Tryz.sizeOf4
 v4:=Tryz.zeroValue4
 t5:=Tryz.underlying5
 a5:=Tryz.isAgg5
 z5:=Tryz.sizeOf5
 v5:=Tryz.zeroValue5
 t9:=Tryz.underlying9
 a9:=Tryz.isAgg9
 z9:=Tryz.sizeOf9
 v9:=Tryz.zeroValue9
 t20:=Tryz.underlying20
 a20:=Tryz.isAgg20
 z20:=Tryz.sizeOf20
 v20:=Tryz.zeroValue20
 t21:=Tryz.underlying21
 a21:=Tryz.isAgg21
 z21:=Tryz.sizeOf21
 v21:=Tryz.zeroValue21
 t37:=Tryz.underlying64
 a37:=Tryz.isAgg64
 z37:=Tryz.sizeOf64
 v37:=Tryz.zeroValue64
 t46:=Tryz.underlying83
 a46:=Tryz.isAgg83
 z46:=Tryz.sizeOf83
 v46:=Tryz.zeroValue83
 t51:=Tryz.underlying102
 a51:=Tryz.isAgg102
 z51:=Tryz.sizeOf102
 v51:=Tryz.zeroValue102
 t53:=Tryz.underlying105
 a53:=Tryz.isAgg105
 z53:=Tryz.sizeOf105
 v53:=Tryz.zeroValue105
 t75:=Tryz.underlying56
 a75:=Tryz.isAgg56
 z75:=Tryz.sizeOf56
 v75:=Tryz.zeroValue56
 t76:=Tryz.underlying57
 a76:=Tryz.isAgg57
 z76:=Tryz.sizeOf57
 v76:=Tryz.zeroValue57
 t85:=Tryz.underlying85
 a85:=Tryz.isAgg85
 z85:=Tryz.sizeOf85
 v85:=Tryz.zeroValue85
 t127:=Tryz.underlying99
 a127:=Tryz.isAgg99
 z127:=Tryz.sizeOf99
 v127:=Tryz.zeroValue99
 t143:=Tryz.underlying130
 a143:=Tryz.isAgg130
 z143:=Tryz.sizeOf130
 v143:=Tryz.zeroValue130
 t145:=Tryz.underlying132
 a145:=Tryz.isAgg132
 z145:=Tryz.sizeOf132
 v145:=Tryz.zeroValue132
 t167:=Tryz.underlying84
 a167:=Tryz.isAgg84
 z167:=Tryz.sizeOf84
 v167:=Tryz.zeroValue84
 t168:=Tryz.underlying87
 a168:=Tryz.isAgg87
 z168:=Tryz.sizeOf87
 v168:=Tryz.zeroValue87
 t171:=Tryz.underlying112
 a171:=Tryz.isAgg112
 z171:=Tryz.sizeOf112
 v171:=Tryz.zeroValue112
 t173:=Tryz.underlying115
 a173:=Tryz.isAgg115
 z173:=Tryz.sizeOf115
 v173:=Tryz.zeroValue115
 t175:=Tryz.underlying106
 a175:=Tryz.isAgg106
 z175:=Tryz.sizeOf106
 v175:=Tryz.zeroValue106
 t210:=Tryz.underlying110
 a210:=Tryz.isAgg110
 z210:=Tryz.sizeOf110
 v210:=Tryz.zeroValue110
 t212:=Tryz.underlying134
 a212:=Tryz.isAgg134
 z212:=Tryz.sizeOf134
 v212:=Tryz.zeroValue134
 t213:=Tryz.underlying135
 a213:=Tryz.isAgg135
 z213:=Tryz.sizeOf135
 t232:=Tryz.underlying145
 a232:=Tryz.isAgg145
 z232:=Tryz.sizeOf145
 v232:=Tryz.zeroValue145
 t233:=Tryz.underlying146
 a233:=Tryz.isAgg146
 z233:=Tryz.sizeOf146
 v233:=Tryz.zeroValue146
 g15:=by kernel_rfl
 g16:=by kernel_rfl
 g17:=by kernel_rfl
 g18:=by kernel_rfl
 g19:=by kernel_rfl }
theorem strconvAtoi (l : List UInt8) (n : Int) (hl : l.length ≤ 18) (h : Lib.atoi l = some n) : FnT Tryz.prog 27 [.one (.v (.string (bs l)))] (.tup [.one (.v (.int .i64 n)), .one (.v .nilIface)]) := by
  refine ⟨⟨_, Tryz.func27, by kernel_rfl, by kernel_rfl⟩, fun w vs F hG hv => ?_⟩
  obtain ⟨v1, vr, G1, G2, rfl, g1, ⟨rfl, rfl⟩, rfl⟩ := hv
  simp only [V0r, C] at g1
  obtain ⟨rfl, rfl, _⟩ := g1
  have hcon := Any.strconv_Atoi Tryz.lays172 (bs l) n (by rw [bs_size]; exact hl) (by rw [bs_list]; exact h) w
  change Calls Tryz.prog 27 _ _ _ at hcon
  refine hcon.mono ?_
  rintro e w' ⟨rfl, t, rfl⟩
  exact ⟨_, [], rfl, ⟨_, rfl, V0s_vs [.int .i64 n, .nilIface] rfl⟩, List.nodup_nil, by simp, Lib.bytesWorld_below _ _ _⟩
def Tryz.laysC172_ren:Go.Shelf.Ren:=⟨fun|172=>27|244=>46|245=>47|247=>67|279=>68|280=>69|281=>70|282=>71|287=>90|316=>91|171=>28|205=>92|321=>105|322=>106|243=>48|246=>72|283=>93|284=>94|285=>95|286=>96|129=>108|317=>107|318=>109|319=>110|320=>111|337=>116|338=>117|n=>n,fun|9=>9|3=>3|75=>56|76=>57|4=>4|5=>5|167=>84|37=>64|0=>0|85=>85|2=>2|168=>87|53=>105|175=>106|46=>83|210=>110|127=>99|145=>132|143=>130|21=>21|171=>112|173=>115|212=>134|51=>102|20=>20|213=>135|232=>145|233=>146|80=>75|n=>n,fun|15=>1|16=>2|17=>5|18=>6|19=>7|n=>n⟩
theorem Tryz.laysC172:Go.Proofs.LaysC.n172 Tryz.prog Tryz.laysC172_ren:={
 mixed:=by kernel_rfl
 f129:=Tryz.func108.trans (congrArg some (by kernel_rfl))
 f171:=Tryz.func28.trans (congrArg some (by kernel_rfl))
 f172:=Tryz.func27.trans (congrArg some (by kernel_rfl))
 f205:=Tryz.func92.trans (congrArg some (by kernel_rfl))
 f243:=Tryz.func48.trans (congrArg some (by kernel_rfl))
 f244:=Tryz.func46.trans (congrArg some (by kernel_rfl))
 f245:=Tryz.func47.trans (congrArg some (by kernel_rfl))
 f246:=Tryz.func72.trans (congrArg some (by kernel_rfl))
 f247:=Tryz.func67.trans (congrArg some (by kernel_rfl))
 f279:=Tryz.func68.trans (congrArg some (by kernel_rfl))
 f280:=Tryz.func69.trans (congrArg some (by kernel_rfl))
 f281:=Tryz.func70.trans (congrArg some (by kernel_rfl))
 f282:=Tryz.func71.trans (congrArg some (by kernel_rfl))
 f283:=Tryz.func93.trans (congrArg some (by kernel_rfl))
 f284:=Tryz.func94.trans (congrArg some (by kernel_rfl))
 f285:=Tryz.func95.trans (congrArg some (by kernel_rfl))
 f286:=Tryz.func96.trans (congrArg some (by kernel_rfl))
 f287:=Tryz.func90.trans (congrArg some (by kernel_rfl))
 f316:=Tryz.func91.trans (congrArg some (by kernel_rfl))
 f317:=Tryz.func107.trans (congrArg some (by kernel_rfl))
 f318:=Tryz.func109.trans (congrArg some (by kernel_rfl))
 f319:=Tryz.func110.trans (congrArg some (by kernel_rfl))
 f320:=Tryz.func111.trans (congrArg some (by kernel_rfl))
 f321:=Tryz.func105.trans (congrArg some (by kernel_rfl))
 f322:=Tryz.func106.trans (congrArg some (by kernel_rfl))
 f337:=Tryz.func116.trans (congrArg some (by kernel_rfl))
 f338:=Tryz.func117.trans (congrArg some (by kernel_rfl))
 t0:=Tryz.underlying0
 a0:=Tryz.isAgg0
 z0:=Tryz.sizeOf0
 v0:=Tryz.zeroValue0
 t2:=Tryz.underlying2
 a2:=Tryz.isAgg2
 z2:=Tryz.sizeOf2
 v2:=Tryz.zeroValue2
 t3:=Tryz.underlying3
 a3:=Tryz.isAgg3
 z3:=Tryz.sizeOf3
 v3:=Tryz.zeroValue3
 t4:=Tryz.underlying4
 a4:=Tryz.isAgg4
 z4:=Tryz.sizeOf4
 v4:=Tryz.zeroValue4
 t5:=Tryz.underlying5
 a5:=Tryz.isAgg5
 z5:=Tryz.sizeOf5
 v5:=Tryz.zeroValue5
 t9:=Tryz.underlying9
 a9:=Tryz.isAgg9
 z9:=Tryz.sizeOf9
 v9:=Tryz.zeroValue9
 t20:=Tryz.underlying20
 a20:=Tryz.isAgg20
 z20:=Tryz.sizeOf20
 v20:=Tryz.zeroValue20
 t21:=Tryz.underlying21
 a21:=Tryz.isAgg21
 z21:=Tryz.sizeOf21
 v21:=Tryz.zeroValue21
 t37:=Tryz.underlying64
 a37:=Tryz.isAgg64
 z37:=Tryz.sizeOf64
 v37:=Tryz.zeroValue64
 t46:=Tryz.underlying83
 a46:=Tryz.isAgg83
 z46:=Tryz.sizeOf83
 v46:=Tryz.zeroValue83
 t51:=Tryz.underlying102
 a51:=Tryz.isAgg102
 z51:=Tryz.sizeOf102
 v51:=Tryz.zeroValue102
 t53:=Tryz.underlying105
 a53:=Tryz.isAgg105
 z53:=Tryz.sizeOf105
 v53:=Tryz.zeroValue105
 t75:=Tryz.underlying56
 a75:=Tryz.isAgg56
 z75:=Tryz.sizeOf56
 v75:=Tryz.zeroValue56
 t76:=Tryz.underlying57
 a76:=Tryz.isAgg57
 z76:=Tryz.sizeOf57
 v76:=Tryz.zeroValue57
 t85:=Tryz.underlying85
 a85:=Tryz.isAgg85
 z85:=Tryz.sizeOf85
 v85:=Tryz.zeroValue85
 t127:=Tryz.underlying99
 a127:=Tryz.isAgg99
 z127:=Tryz.sizeOf99
 v127:=Tryz.zeroValue99
 t143:=Tryz.underlying130
 a143:=Tryz.isAgg130
 z143:=Tryz.sizeOf130
 v143:=Tryz.zeroValue130
 t145:=Tryz.underlying132
 a145:=Tryz.isAgg132
 z145:=Tryz.sizeOf132
 v145:=Tryz.zeroValue132
 t167:=Tryz.underlying84
 a167:=Tryz.isAgg84
 z167:=Tryz.sizeOf84
 v167:=Tryz.zeroValue84
 t168:=Tryz.underlying87
 a168:=Tryz.isAgg87
 z168:=Tryz.sizeOf87
 v168:=Tryz.zeroValue87
 t171:=Tryz.underlying112
 a171:=Tryz.isAgg112
 z171:=Tryz.sizeOf112
 v171:=Tryz.zeroValue112
 t173:=Tryz.underlying115
 a173:=Tryz.isAgg115
 z173:=Tryz.sizeOf115
 v173:=Tryz.zeroValue115
 t175:=Tryz.underlying106
 a175:=Tryz.isAgg106
 z175:=Tryz.sizeOf106
 v175:=Tryz.zeroValue106
 t210:=Tryz.underlying110
 a210:=Tryz.isAgg110
 z210:=Tryz.sizeOf110
 v210:=Tryz.zeroValue110
 t212:=Tryz.underlying134
 a212:=Tryz.isAgg134
 z212:=Tryz.sizeOf134
 v212:=Tryz.zeroValue134
 t213:=Tryz.underlying135
 a213:=Tryz.isAgg135
 z213:=Tryz.sizeOf135
 t232:=Tryz.underlying145
 a232:=Tryz.isAgg145
 z232:=Tryz.sizeOf145
 v232:=Tryz.zeroValue145
 t233:=Tryz.underlying146
 a233:=Tryz.isAgg146
 z233:=Tryz.sizeOf146
 v233:=Tryz.zeroValue146
 g15:=by kernel_rfl
 g16:=by kernel_rfl
 g17:=by kernel_rfl
 g18:=by kernel_rfl
 g19:=by kernel_rfl
 t80:=Tryz.underlying75
 a80:=Tryz.isAgg75
 z80:=Tryz.sizeOf75
 v80:=Tryz.zeroValue75
 i0:=by kernel_rfl
 i2:=by kernel_rfl
 i3:=by kernel_rfl
 i4:=by kernel_rfl
 i5:=by kernel_rfl
 i9:=by kernel_rfl
 i20:=by kernel_rfl
 i21:=by kernel_rfl
 i37:=by kernel_rfl
 i46:=by kernel_rfl
 i51:=by kernel_rfl
 i53:=by kernel_rfl
 i75:=by kernel_rfl
 i76:=by kernel_rfl
 i80:=by kernel_rfl
 i85:=by kernel_rfl
 i127:=by kernel_rfl
 i143:=by kernel_rfl
 i145:=by kernel_rfl
 i167:=by kernel_rfl
 i168:=by kernel_rfl
 i171:=by kernel_rfl
 i173:=by kernel_rfl
 i175:=by kernel_rfl
 i210:=by kernel_rfl
 i212:=by kernel_rfl
 i232:=by kernel_rfl
 i233:=by kernel_rfl
 m15:=by kernel_rfl
 m16:=by kernel_rfl
 m17:=by kernel_rfl
 m18:=by kernel_rfl
 m19:=by kernel_rfl
 c0:=by kernel_rfl
 c2:=by kernel_rfl
 c3:=by kernel_rfl
 c4:=by kernel_rfl
 c5:=by kernel_rfl
 c9:=by kernel_rfl
 c20:=by kernel_rfl
 c21:=by kernel_rfl
 c37:=by kernel_rfl
 c46:=by kernel_rfl
 c51:=by kernel_rfl
 c53:=by kernel_rfl
 c75:=by kernel_rfl
 c76:=by kernel_rfl
 c80:=by kernel_rfl
 c85:=by kernel_rfl
 c127:=by kernel_rfl
 c143:=by kernel_rfl
 c145:=by kernel_rfl
 c167:=by kernel_rfl
 c168:=by kernel_rfl
 c171:=by kernel_rfl
 c173:=by kernel_rfl
 c175:=by kernel_rfl
 c210:=by kernel_rfl
 c212:=by kernel_rfl
 c213:=by kernel_rfl
 c232:=by kernel_rfl
 c233:=by kernel_rfl }
theorem strconvAtoiE (l : List UInt8) (hl : l.length ≤ 18) (h : Lib.atoi l = none) : FrE Tryz.prog 27 [.one (.v (.string (bs l)))] fun out => ∃ N : Nat, out = .tup [.one (.v (.int .i64 0)), .one (.v (.iface (Tryz.laysC172_ren.t 168) (.pointer (some ⟨N, 0, none⟩))))] := by
  refine ⟨⟨_, Tryz.func27, by kernel_rfl, by kernel_rfl⟩, fun w vs F hG hv => ?_⟩
  obtain ⟨v1, vr, G1, G2, rfl, g1, ⟨rfl, rfl⟩, rfl⟩ := hv
  simp only [V0r, C] at g1
  obtain ⟨rfl, rfl, _⟩ := g1
  obtain ⟨tp, p, hvar⟩ : ∃ tp p, w.cell? ⟨Tryz.laysC172_ren.g 15, 0, none⟩ = some (.iface tp p) := by
    obtain ⟨w0, ⟨_, _, tp, p, h2⟩, h3⟩ := hG.ex
    have h4 := World.var?_cell Tryz.laysC172.m15 h2 0
    have hgl : Tryz.laysC172_ren.g 15 < Tryz.prog.low := Nat.lt_trans (of_decide_eq_true (by kernel_rfl)) low_lt
    exact ⟨tp, p, (World.cell?_of_block (a := ⟨Tryz.laysC172_ren.g 15, 0, none⟩) (h3 _ hgl)).trans (by simpa using h4)⟩
  have hcon := Any.strconv_Atoi_err Tryz.laysC172 (bs l) (by rw [bs_size]; exact hl) (by rw [bs_list]; exact h) (.iface tp p) w hvar (.inr ⟨tp, p, rfl⟩)
  change Calls Tryz.prog 27 _ _ _ at hcon
  refine hcon.mono ?_
  rintro e w' ⟨N, rfl, _, _, hB⟩
  exact ⟨_, ⟨N, rfl⟩, _, [], rfl, ⟨_, rfl, V0s_vs [.int .i64 0, .iface (Tryz.laysC172_ren.t 168) (.pointer (some ⟨N, 0, none⟩))] rfl⟩, by simp, hB⟩
end Go.Proofs.YtoealglkenhphaaGreatDoor
set_option linter.unusedVariables false
set_option linter.unusedSimpArgs false
namespace Go.Q
open Go.D
theorem range_succ {p : Nat → Bool} {k : Nat} (h : ∀ j, j < k → p j = true) (hp : p k = true) : ∀ j, j < k + 1 → p j = true := fun j hj => by
  rcases Nat.lt_or_eq_of_le (Nat.le_of_lt_succ hj) with h1 | rfl
  · exact h j h1
  · exact hp
end Go.Q
namespace Go.Proofs.YtoealglkenhphaaGreatDoor
open Go.RowKit Go.Q Go.D
end Go.Proofs.YtoealglkenhphaaGreatDoor
set_option linter.unusedVariables false
set_option linter.unusedSimpArgs false
set_option maxHeartbeats 1000000
set_option maxRecDepth 100000
namespace Go.Q
open Go.D
end Go.Q
set_option linter.unusedVariables false
set_option linter.unusedSimpArgs false
set_option maxHeartbeats 1000000
set_option maxRecDepth 100000
namespace Go.Proofs.YtoealglkenhphaaGreatDoor
open Go.RowKit Go.Q Go.D
end Go.Proofs.YtoealglkenhphaaGreatDoor
set_option linter.unusedVariables false
set_option linter.unusedSimpArgs false
set_option maxHeartbeats 1000000
set_option maxRecDepth 100000
namespace Go.Q
open Go.D
/-! ### Numbers -/
theorem parseI_numS {n : Int} (h : 0 ≤ n ∧ n ≤ 999999999) : parseI (numS n) = (n, true) := by
  rw [← itoS_num h.1, parseI_of rfl, if_pos (by omega)]
theorem numS_dg (n : Int) : (numS n).all isDg = true := dig_all (n.toNat + 1) n.toNat (by omega)
theorem numS_no {n : Int} {c : UInt8} (h : isDg c = false) : c ∉ numS n := fun hm => by
  have := List.all_eq_true.1 (numS_dg n) c hm
  rw [h] at this; cases this
theorem numS_one {n : Int} (h : 0 ≤ n ∧ n ≤ 9) : numS n = [UInt8.ofNat (48 + n.toNat)] := by unfold numS; exact dig_small (by omega)
/-! ### Cut at one byte -/
theorem occ1 {l : List UInt8} {i : Nat} {a : UInt8} : Lib.occAt l [a] i = true ↔ l[i]? = some a := by
  unfold Lib.occAt
  have e1 : l[i]? = (l.drop i)[0]? := by simp
  rw [e1]
  match l.drop i with
  | [] => simp
  | x :: r => simp [List.isPrefixOf]; exact ⟨fun h => h.symm, fun h => h.symm⟩
theorem cut1_at {c : UInt8} {x y : List UInt8} (h : c ∉ x) : Lib.cut (x ++ c :: y) [c] = (x, y, true) := by
  have hi : Lib.index (x ++ c :: y) [c] = (x.length : Nat) := by
    refine Lib.index_first (by simp) (occ1.2 (by simp)) fun j hj => Bool.eq_false_iff.2 fun hh => ?_
    have := occ1.1 hh
    rw [List.getElem?_append_left hj] at this
    exact h (List.mem_of_getElem? this)
  unfold Lib.cut
  rw [hi, if_pos (by omega)]
  simp
theorem cut1_len (l : List UInt8) (c : UInt8) : (Lib.cut l [c]).1.length ≤ l.length ∧ (Lib.cut l [c]).2.1.length ≤ l.length := by
  unfold Lib.cut
  split <;> simp <;> omega
theorem ofN {k : Nat} (h : k < 256) : (UInt8.ofNat k).toNat = k := by rw [UInt8.toNat_ofNat']; omega
/-- What spec reads of a letter. -/
def letP (s : List UInt8) : Int × Bool := match (List.range 9).find? (fun k => decide (letS (k : Nat) = s)) with
  | some k => ((k : Int), true)
  | none => (0, false)
theorem letP_at {s : List UInt8} {k : Nat} (hk : k < 9) (h : letS (k : Nat) = s) (hn : ∀ j, j < k → letS (j : Nat) ≠ s) : letP s = ((k : Int), true) := by
  have : (List.range 9).find? (fun k => decide (letS (k : Nat) = s)) = some k := by
    rw [List.find?_range_eq_some]
    exact ⟨decide_eq_true h, List.mem_range.2 hk, fun j hj => by simpa using hn j hj⟩
  unfold letP
  rw [this]
theorem letP_no {s : List UInt8} (hn : ∀ j, j < 9 → letS (j : Nat) ≠ s) : letP s = (0, false) := by
  have : (List.range 9).find? (fun k => decide (letS (k : Nat) = s)) = none := by
    rw [List.find?_eq_none]
    intro x hx
    simpa using hn x (List.mem_range.1 hx)
  unfold letP
  rw [this]
end Go.Q
