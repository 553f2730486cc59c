import Derived.Test.YtdhojcaoljhbiaaGreatDoorB80xk
import Derived.Test.YtdhojcaoljhbiaaGreatDoorB78xk
import Derived.Test.YtdhojcaoljhbiaaGreatDoorPvxk
import Derived.Shelf.Strconv.Atoi
import Derived.Shelf.Strconv.AtoiErr
import Derived.Test.YtdhojcaoljhbiaaGreatDoorB107xk
import Derived.Lib.IndexMore
import Derived.Lib.SlTrimSet
set_option linter.unusedVariables false
set_option linter.unusedSimpArgs false
set_option maxHeartbeats 1000000
set_option maxRecDepth 100000
namespace Go.Q
open Go.D
theorem decFrom_snoc:∀ (l:List UInt8) (acc:Nat) (b:UInt8) (n d:Nat),Lib.decFrom acc l=some n→Lib.digitVal b=some d→Lib.decFrom acc (l++[b])=some (n*10+d)
 | [],acc,b,n,d,h,hd=>by
  simp only [Lib.decFrom,Option.some.injEq] at h
  subst h
  rw [List.nil_append]
  unfold Lib.decFrom
  rw [hd];rfl
 | x::l,acc,b,n,d,h,hd=>by
  rw [List.cons_append]
  unfold Lib.decFrom at h ⊢
  cases hx:Lib.digitVal x with
  | none=>rw [hx] at h;cases h
  | some v=>
   rw [hx] at h
   exact decFrom_snoc l _ b n d h hd
theorem digitVal_of {d:Nat} (h:d<10):Lib.digitVal (UInt8.ofNat (48+d))=some d:=by
 have e:(UInt8.ofNat (48+d)).toNat=48+d:=by rw [UInt8.toNat_ofNat'];omega
 unfold Lib.digitVal
 rw [e,if_pos (by omega)]
 congr 1;omega
theorem decFrom_dig:∀ (k u:Nat),u<k→Lib.decFrom 0 (Lib.decDigits u)=some u
 | 0,_,h=>by omega
 | k+1,u,h=>by
  by_cases h1:u<10
  · rw [dig_small h1]
    have:=decFrom_snoc [] 0 _ 0 u rfl (digitVal_of h1)
    rw [List.nil_append] at this
    rw [this];congr 1;omega
  rw [dig_more (by omega),decFrom_snoc _ 0 _ _ _ (decFrom_dig k (u / 10) (by omega)) (digitVal_of (Nat.mod_lt u (by decide)))]
  congr 1;omega
theorem decNat_dig (u:Nat):Lib.decNat (Lib.decDigits u)=some u:=by
 unfold Lib.decNat
 rw [if_neg (by simpa using dig_ne u)]
 exact decFrom_dig (u+1) u (by omega)
theorem dig_first {u:Nat} {b:UInt8} {r:List UInt8} (h:Lib.decDigits u=b::r):b≠45∧b≠43:=by
 have h1:=List.all_eq_true.1 (dig_all (u+1) u (by omega)) b (by rw [h];simp)
 constructor
 · rintro rfl;exact absurd h1 (by decide)
 rintro rfl;exact absurd h1 (by decide)
theorem atoi_itoS (n:Int):Lib.atoi (itoS n)=some n:=by
 unfold itoS Lib.itoa
 by_cases h:n<0
 · rw [if_pos h]
   have e:Lib.atoi (45::Lib.decDigits n.natAbs)=(Lib.decNat (Lib.decDigits n.natAbs)).map fun (m:Nat)=> -(m:Int):=rfl
   rw [e,decNat_dig]
   simp only [Option.map_some,Option.some.injEq];omega
 rw [if_neg h]
 have hd:=decNat_dig n.toNat
 cases hl:Lib.decDigits n.toNat with
 | nil=>exact absurd hl (dig_ne _)
 | cons b r=>
  rw [hl] at hd
  have hb:=dig_first hl
  show (if (b == 45)=true then _ else if (b == 43)=true then _ else (Lib.decNat (b::r)).map fun (m:Nat)=>(m:Int))=some n
  rw [if_neg (by simpa using hb.1),if_neg (by simpa using hb.2),hd]
  simp only [Option.map_some,Option.some.injEq];omega
theorem parseI_atoi (l:List UInt8):parseI l=match Lib.atoi l with
 | some n=>if l.length≤10∧itoS n=l∧ -999999999≤n∧n≤999999999 then (n,true) else (0,false)
 | none=>(0,false):=by
 cases h:Lib.atoi l with
 | none=>
  exact parseI_no fun n e=>by rw [←e,atoi_itoS] at h;cases h
 | some n=>
  simp only
  by_cases e:itoS n=l
  · rw [parseI_of e]
    have hl:(-999999999≤n∧n≤999999999)→l.length≤10:=fun hb=>by
     have h1:=(dig_le 9 n.natAbs (by decide)).1 (by omega)
     rw [←e]
     unfold itoS Lib.itoa
     split
     · rw [List.length_cons];omega
     rw [show n.toNat=n.natAbs by omega];omega
    by_cases hb:-999999999≤n∧n≤999999999
    · rw [if_pos hb,if_pos ⟨hl hb,e,hb⟩]
    rw [if_neg hb,if_neg fun hh=>hb hh.2.2]
  rw [if_neg fun hh=>e hh.2.1]
  exact parseI_no fun m em=>by
   have:=atoi_itoS m
   rw [em,h] at this
   cases this
   exact e em
end Go.Q
set_option maxHeartbeats 1000000
set_option maxRecDepth 100000
namespace Go.Proofs.YtdhojcaoljhbiaaGreatDoor
open Go.RowKit Go.Q Go.D Go.Shelf
def Tryz.lays172_ren:Go.Shelf.Ren:=⟨fun|172=>112|244=>150|245=>151|247=>199|279=>200|280=>201|281=>202|282=>203|287=>241|316=>242|171=>105|205=>243|321=>260|322=>261|243=>142|246=>189|283=>235|284=>236|285=>237|286=>238|129=>163|317=>256|318=>257|319=>258|320=>259|337=>268|338=>269|n=>n,fun|9=>9|3=>3|75=>150|76=>151|4=>4|5=>5|167=>220|37=>22|0=>0|85=>221|2=>2|168=>223|53=>197|175=>259|46=>158|210=>263|127=>182|145=>285|143=>283|21=>21|171=>253|173=>255|212=>275|51=>195|20=>20|213=>276|232=>295|233=>296|80=>153|n=>n,fun|15=>1|16=>2|17=>3|18=>6|19=>7|n=>n⟩
theorem Tryz.lays172:Go.Proofs.Lays.n172 Tryz.prog Tryz.lays172_ren:={
 mixed:=by kernel_rfl
 f129:=Tryz.func163.trans (congrArg some (by kernel_rfl))
 f171:=Tryz.func105.trans (congrArg some (by kernel_rfl))
 f172:=Tryz.func112.trans (congrArg some (by kernel_rfl))
 f205:=Tryz.func243.trans (congrArg some (by kernel_rfl))
 f243:=Tryz.func142.trans (congrArg some (by kernel_rfl))
 f244:=Tryz.func150.trans (congrArg some (by kernel_rfl))
 f245:=Tryz.func151.trans (congrArg some (by kernel_rfl))
 f246:=Tryz.func189.trans (congrArg some (by kernel_rfl))
 f247:=Tryz.func199.trans (congrArg some (by kernel_rfl))
 f279:=Tryz.func200.trans (congrArg some (by kernel_rfl))
 f280:=Tryz.func201.trans (congrArg some (by kernel_rfl))
 f281:=Tryz.func202.trans (congrArg some (by kernel_rfl))
 f282:=Tryz.func203.trans (congrArg some (by kernel_rfl))
 f283:=Tryz.func235.trans (congrArg some (by kernel_rfl))
 f284:=Tryz.func236.trans (congrArg some (by kernel_rfl))
 f285:=Tryz.func237.trans (congrArg some (by kernel_rfl))
 f286:=Tryz.func238.trans (congrArg some (by kernel_rfl))
 f287:=Tryz.func241.trans (congrArg some (by kernel_rfl))
 f316:=Tryz.func242.trans (congrArg some (by kernel_rfl))
 f317:=Tryz.func256.trans (congrArg some (by kernel_rfl))
 f318:=Tryz.func257.trans (congrArg some (by kernel_rfl))
 f319:=Tryz.func258.trans (congrArg some (by kernel_rfl))
 f320:=Tryz.func259.trans (congrArg some (by kernel_rfl))
 f321:=Tryz.func260.trans (congrArg some (by kernel_rfl))
 f322:=Tryz.func261.trans (congrArg some (by kernel_rfl))
 f337:=Tryz.func268.trans (congrArg some (by kernel_rfl))
 f338:=Tryz.func269.trans (congrArg some (by kernel_rfl))
 t0:=Tryz.underlying0
 a0:=Tryz.isAgg0
 z0:=Tryz.sizeOf0
 v0:=Tryz.zeroValue0
 t2:=Tryz.underlying2
 a2:=Tryz.isAgg2
 z2:=Tryz.sizeOf2
 v2:=Tryz.zeroValue2
 t3:=Tryz.underlying3
 a3:=Tryz.isAgg3
 z3:=Tryz.sizeOf3
 v3:=Tryz.zeroValue3
 t4:=Tryz.underlying4
 a4:=Tryz.isAgg4
 z4:=Tryz.sizeOf4
 v4:=Tryz.zeroValue4
 t5:=Tryz.underlying5
 a5:=Tryz.isAgg5
 z5:=Tryz.sizeOf5
 v5:=Tryz.zeroValue5
 t9:=Tryz.underlying9
 a9:=Tryz.isAgg9
 z9:=Tryz.sizeOf9
 v9:=Tryz.zeroValue9
 t20:=Tryz.underlying20
 a20:=Tryz.isAgg20
 z20:=Tryz.sizeOf20
 v20:=Tryz.zeroValue20
 t21:=Tryz.underlying21
 a21:=Tryz.isAgg21
 z21:=Tryz.sizeOf21
 v21:=Tryz.zeroValue21
 t37:=Tryz.underlying22
 a37:=Tryz.isAgg22
 z37:=Tryz.sizeOf22
 v37:=Tryz.zeroValue22
 t46:=Tryz.underlying158
 a46:=Tryz.isAgg158
 z46:=Tryz.sizeOf158
 v46:=Tryz.zeroValue158
 t51:=Tryz.underlying195
 a51:=Tryz.isAgg195
 z51:=Tryz.sizeOf195
 v51:=Tryz.zeroValue195
 t53:=Tryz.underlying197
 a53:=Tryz.isAgg197
 z53:=Tryz.sizeOf197
 v53:=Tryz.zeroValue197
 t75:=Tryz.underlying150
 a75:=Tryz.isAgg150
 z75:=Tryz.sizeOf150
 v75:=Tryz.zeroValue150
 t76:=Tryz.underlying151
 a76:=Tryz.isAgg151
 z76:=Tryz.sizeOf151
 v76:=Tryz.zeroValue151
 t85:=Tryz.underlying221
 a85:=Tryz.isAgg221
 z85:=Tryz.sizeOf221
 v85:=Tryz.zeroValue221
 t127:=Tryz.underlying182
 a127:=Tryz.isAgg182
 z127:=Tryz.sizeOf182
 v127:=Tryz.zeroValue182
 t143:=Tryz.underlying283
 a143:=Tryz.isAgg283
 z143:=Tryz.sizeOf283
 v143:=Tryz.zeroValue283
 t145:=Tryz.underlying285
 a145:=Tryz.isAgg285
 z145:=Tryz.sizeOf285
 v145:=Tryz.zeroValue285
 t167:=Tryz.underlying220
 a167:=Tryz.isAgg220
 z167:=Tryz.sizeOf220
 v167:=Tryz.zeroValue220
 t168:=Tryz.underlying223
 a168:=Tryz.isAgg223
 z168:=Tryz.sizeOf223
 v168:=Tryz.zeroValue223
 t171:=Tryz.underlying253
 a171:=Tryz.isAgg253
 z171:=Tryz.sizeOf253
 v171:=Tryz.zeroValue253
 t173:=Tryz.underlying255
 a173:=Tryz.isAgg255
 z173:=Tryz.sizeOf255
 v173:=Tryz.zeroValue255
 t175:=Tryz.underlying259
 a175:=Tryz.isAgg259
 z175:=Tryz.sizeOf259
 v175:=Tryz.zeroValue259
 t210:=Tryz.underlying263
 a210:=Tryz.isAgg263
 z210:=Tryz.sizeOf263
 v210:=Tryz.zeroValue263
 t212:=Tryz.underlying275
 a212:=Tryz.isAgg275
 z212:=Tryz.sizeOf275
 v212:=Tryz.zeroValue275
 t213:=Tryz.underlying276
 a213:=Tryz.isAgg276
 z213:=Tryz.sizeOf276
 t232:=Tryz.underlying295
 a232:=Tryz.isAgg295
 z232:=Tryz.sizeOf295
 v232:=Tryz.zeroValue295
 t233:=Tryz.underlying296
 a233:=Tryz.isAgg296
 z233:=Tryz.sizeOf296
 v233:=Tryz.zeroValue296
 g15:=by kernel_rfl
 g16:=by kernel_rfl
 g17:=by kernel_rfl
 g18:=by kernel_rfl
 g19:=by kernel_rfl }
theorem strconvAtoi (l:List UInt8) (n:Int) (hl:l.length≤18) (h:Lib.atoi l=some n):FnT Tryz.prog 112 [.one (.v (.string (bs l)))] (.tup [.one (.v (.int .i64 n)),.one (.v .nilIface)]):=by
 refine⟨⟨_,Tryz.func112,by kernel_rfl,by kernel_rfl⟩,fun w vs F hG hv=>?_⟩
 obtain⟨v1,vr,G1,G2,rfl,g1,⟨rfl,rfl⟩,rfl⟩:=hv
 simp only [V0r,C] at g1
 obtain⟨rfl,rfl,_⟩:=g1
 have hcon:=Any.strconv_Atoi Tryz.lays172 (bs l) n (by rw [bs_size];exact hl) (by rw [bs_list];exact h) w
 change Calls Tryz.prog 112 _ _ _ at hcon
 refine hcon.mono ?_
 rintro e w' ⟨rfl,t,rfl⟩
 exact⟨_,[],rfl,⟨_,rfl,V0s_vs [.int .i64 n,.nilIface] rfl⟩,List.nodup_nil,by simp,Lib.bytesWorld_below _ _ _⟩
def Tryz.laysC172_ren:Go.Shelf.Ren:=⟨fun|172=>112|244=>150|245=>151|247=>199|279=>200|280=>201|281=>202|282=>203|287=>241|316=>242|171=>105|205=>243|321=>260|322=>261|243=>142|246=>189|283=>235|284=>236|285=>237|286=>238|129=>163|317=>256|318=>257|319=>258|320=>259|337=>268|338=>269|n=>n,fun|9=>9|3=>3|75=>150|76=>151|4=>4|5=>5|167=>220|37=>22|0=>0|85=>221|2=>2|168=>223|53=>197|175=>259|46=>158|210=>263|127=>182|145=>285|143=>283|21=>21|171=>253|173=>255|212=>275|51=>195|20=>20|213=>276|232=>295|233=>296|80=>153|n=>n,fun|15=>1|16=>2|17=>3|18=>6|19=>7|n=>n⟩
theorem Tryz.laysC172:Go.Proofs.LaysC.n172 Tryz.prog Tryz.laysC172_ren:={
 mixed:=by kernel_rfl
 f129:=Tryz.func163.trans (congrArg some (by kernel_rfl))
 f171:=Tryz.func105.trans (congrArg some (by kernel_rfl))
 f172:=Tryz.func112.trans (congrArg some (by kernel_rfl))
 f205:=Tryz.func243.trans (congrArg some (by kernel_rfl))
 f243:=Tryz.func142.trans (congrArg some (by kernel_rfl))
 f244:=Tryz.func150.trans (congrArg some (by kernel_rfl))
 f245:=Tryz.func151.trans (congrArg some (by kernel_rfl))
 f246:=Tryz.func189.trans (congrArg some (by kernel_rfl))
 f247:=Tryz.func199.trans (congrArg some (by kernel_rfl))
 f279:=Tryz.func200.trans (congrArg some (by kernel_rfl))
 f280:=Tryz.func201.trans (congrArg some (by kernel_rfl))
 f281:=Tryz.func202.trans (congrArg some (by kernel_rfl))
 f282:=Tryz.func203.trans (congrArg some (by kernel_rfl))
 f283:=Tryz.func235.trans (congrArg some (by kernel_rfl))
 f284:=Tryz.func236.trans (congrArg some (by kernel_rfl))
 f285:=Tryz.func237.trans (congrArg some (by kernel_rfl))
 f286:=Tryz.func238.trans (congrArg some (by kernel_rfl))
 f287:=Tryz.func241.trans (congrArg some (by kernel_rfl))
 f316:=Tryz.func242.trans (congrArg some (by kernel_rfl))
 f317:=Tryz.func256.trans (congrArg some (by kernel_rfl))
 f318:=Tryz.func257.trans (congrArg some (by kernel_rfl))
 f319:=Tryz.func258.trans (congrArg some (by kernel_rfl))
 f320:=Tryz.func259.trans (congrArg some (by kernel_rfl))
 f321:=Tryz.func260.trans (congrArg some (by kernel_rfl))
 f322:=Tryz.func261.trans (congrArg some (by kernel_rfl))
 f337:=Tryz.func268.trans (congrArg some (by kernel_rfl))
 f338:=Tryz.func269.trans (congrArg some (by kernel_rfl))
 t0:=Tryz.underlying0
 a0:=Tryz.isAgg0
 z0:=Tryz.sizeOf0
 v0:=Tryz.zeroValue0
 t2:=Tryz.underlying2
 a2:=Tryz.isAgg2
 z2:=Tryz.sizeOf2
 v2:=Tryz.zeroValue2
 t3:=Tryz.underlying3
 a3:=Tryz.isAgg3
 z3:=Tryz.sizeOf3
 v3:=Tryz.zeroValue3
 t4:=Tryz.underlying4
 a4:=Tryz.isAgg4
 z4:=Tryz.sizeOf4
 v4:=Tryz.zeroValue4
 t5:=Tryz.underlying5
 a5:=Tryz.isAgg5
 z5:=Tryz.sizeOf5
 v5:=Tryz.zeroValue5
 t9:=Tryz.underlying9
 a9:=Tryz.isAgg9
 z9:=Tryz.sizeOf9
 v9:=Tryz.zeroValue9
 t20:=Tryz.underlying20
 a20:=Tryz.isAgg20
 z20:=Tryz.sizeOf20
 v20:=Tryz.zeroValue20
 t21:=Tryz.underlying21
 a21:=Tryz.isAgg21
 z21:=Tryz.sizeOf21
 v21:=Tryz.zeroValue21
 t37:=Tryz.underlying22
 a37:=Tryz.isAgg22
 z37:=Tryz.sizeOf22
 v37:=Tryz.zeroValue22
 t46:=Tryz.underlying158
 a46:=Tryz.isAgg158
 z46:=Tryz.sizeOf158
 v46:=Tryz.zeroValue158
 t51:=Tryz.underlying195
 a51:=Tryz.isAgg195
 z51:=Tryz.sizeOf195
 v51:=Tryz.zeroValue195
 t53:=Tryz.underlying197
 a53:=Tryz.isAgg197
 z53:=Tryz.sizeOf197
 v53:=Tryz.zeroValue197
 t75:=Tryz.underlying150
 a75:=Tryz.isAgg150
 z75:=Tryz.sizeOf150
 v75:=Tryz.zeroValue150
 t76:=Tryz.underlying151
 a76:=Tryz.isAgg151
 z76:=Tryz.sizeOf151
 v76:=Tryz.zeroValue151
 t85:=Tryz.underlying221
 a85:=Tryz.isAgg221
 z85:=Tryz.sizeOf221
 v85:=Tryz.zeroValue221
 t127:=Tryz.underlying182
 a127:=Tryz.isAgg182
 z127:=Tryz.sizeOf182
 v127:=Tryz.zeroValue182
 t143:=Tryz.underlying283
 a143:=Tryz.isAgg283
 z143:=Tryz.sizeOf283
 v143:=Tryz.zeroValue283
 t145:=Tryz.underlying285
 a145:=Tryz.isAgg285
 z145:=Tryz.sizeOf285
 v145:=Tryz.zeroValue285
 t167:=Tryz.underlying220
 a167:=Tryz.isAgg220
 z167:=Tryz.sizeOf220
 v167:=Tryz.zeroValue220
 t168:=Tryz.underlying223
 a168:=Tryz.isAgg223
 z168:=Tryz.sizeOf223
 v168:=Tryz.zeroValue223
 t171:=Tryz.underlying253
 a171:=Tryz.isAgg253
 z171:=Tryz.sizeOf253
 v171:=Tryz.zeroValue253
 t173:=Tryz.underlying255
 a173:=Tryz.isAgg255
 z173:=Tryz.sizeOf255
 v173:=Tryz.zeroValue255
 t175:=Tryz.underlying259
 a175:=Tryz.isAgg259
 z175:=Tryz.sizeOf259
 v175:=Tryz.zeroValue259
 t210:=Tryz.underlying263
 a210:=Tryz.isAgg263
 z210:=Tryz.sizeOf263
 v210:=Tryz.zeroValue263
 t212:=Tryz.underlying275
 a212:=Tryz.isAgg275
 z212:=Tryz.sizeOf275
 v212:=Tryz.zeroValue275
 t213:=Tryz.underlying276
 a213:=Tryz.isAgg276
 z213:=Tryz.sizeOf276
 t232:=Tryz.underlying295
 a232:=Tryz.isAgg295
 z232:=Tryz.sizeOf295
 v232:=Tryz.zeroValue295
 t233:=Tryz.underlying296
 a233:=Tryz.isAgg296
 z233:=Tryz.sizeOf296
 v233:=Tryz.zeroValue296
 g15:=by kernel_rfl
 g16:=by kernel_rfl
 g17:=by kernel_rfl
 g18:=by kernel_rfl
 g19:=by kernel_rfl
 t80:=Tryz.underlying153
 a80:=Tryz.isAgg153
 z80:=Tryz.sizeOf153
 v80:=Tryz.zeroValue153
 i0:=by kernel_rfl
 i2:=by kernel_rfl
 i3:=by kernel_rfl
 i4:=by kernel_rfl
 i5:=by kernel_rfl
 i9:=by kernel_rfl
 i20:=by kernel_rfl
 i21:=by kernel_rfl
 i37:=by kernel_rfl
 i46:=by kernel_rfl
 i51:=by kernel_rfl
 i53:=by kernel_rfl
 i75:=by kernel_rfl
 i76:=by kernel_rfl
 i80:=by kernel_rfl
 i85:=by kernel_rfl
 i127:=by kernel_rfl
 i143:=by kernel_rfl
 i145:=by kernel_rfl
 i167:=by kernel_rfl
 i168:=by kernel_rfl
 i171:=by kernel_rfl
 i173:=by kernel_rfl
 i175:=by kernel_rfl
 i210:=by kernel_rfl
 i212:=by kernel_rfl
 i232:=by kernel_rfl
 i233:=by kernel_rfl
 m15:=by kernel_rfl
 m16:=by kernel_rfl
 m17:=by kernel_rfl
 m18:=by kernel_rfl
 m19:=by kernel_rfl
 c0:=by kernel_rfl
 c2:=by kernel_rfl
 c3:=by kernel_rfl
 c4:=by kernel_rfl
 c5:=by kernel_rfl
 c9:=by kernel_rfl
 c20:=by kernel_rfl
 c21:=by kernel_rfl
 c37:=by kernel_rfl
 c46:=by kernel_rfl
 c51:=by kernel_rfl
 c53:=by kernel_rfl
 c75:=by kernel_rfl
 c76:=by kernel_rfl
 c80:=by kernel_rfl
 c85:=by kernel_rfl
 c127:=by kernel_rfl
 c143:=by kernel_rfl
 c145:=by kernel_rfl
 c167:=by kernel_rfl
 c168:=by kernel_rfl
 c171:=by kernel_rfl
 c173:=by kernel_rfl
 c175:=by kernel_rfl
 c210:=by kernel_rfl
 c212:=by kernel_rfl
 c213:=by kernel_rfl
 c232:=by kernel_rfl
 c233:=by kernel_rfl }
theorem strconvAtoiE (l:List UInt8) (hl:l.length≤18) (h:Lib.atoi l=none):FrE Tryz.prog 112 [.one (.v (.string (bs l)))] fun out=>∃ N:Nat,out=.tup [.one (.v (.int .i64 0)),.one (.v (.iface (Tryz.laysC172_ren.t 168) (.pointer (some ⟨N,0,none⟩))))]:=by
 refine⟨⟨_,Tryz.func112,by kernel_rfl,by kernel_rfl⟩,fun w vs F hG hv=>?_⟩
 obtain⟨v1,vr,G1,G2,rfl,g1,⟨rfl,rfl⟩,rfl⟩:=hv
 simp only [V0r,C] at g1
 obtain⟨rfl,rfl,_⟩:=g1
 obtain⟨tp,p,hvar⟩:∃ tp p,w.cell? ⟨Tryz.laysC172_ren.g 15,0,none⟩=some (.iface tp p):=by
  obtain⟨w0,⟨_,_,tp,p,h2⟩,h3⟩:=hG.ex
  have h4:=World.var?_cell Tryz.laysC172.m15 h2 0
  have hgl:Tryz.laysC172_ren.g 15<Tryz.prog.low:=Nat.lt_trans (of_decide_eq_true (by kernel_rfl)) low_lt
  exact⟨tp,p,(World.cell?_of_block (a:=⟨Tryz.laysC172_ren.g 15,0,none⟩) (h3 _ hgl)).trans (by simpa using h4)⟩
 have hcon:=Any.strconv_Atoi_err Tryz.laysC172 (bs l) (by rw [bs_size];exact hl) (by rw [bs_list];exact h) (.iface tp p) w hvar (.inr ⟨tp,p,rfl⟩)
 change Calls Tryz.prog 112 _ _ _ at hcon
 refine hcon.mono ?_
 rintro e w' ⟨N,rfl,_,_,hB⟩
 exact⟨_,⟨N,rfl⟩,_,[],rfl,⟨_,rfl,V0s_vs [.int .i64 0,.iface (Tryz.laysC172_ren.t 168) (.pointer (some ⟨N,0,none⟩))] rfl⟩,by simp,hB⟩
end Go.Proofs.YtdhojcaoljhbiaaGreatDoor
set_option maxHeartbeats 1000000
set_option maxRecDepth 100000
namespace Go.Q
open Go.D
end Go.Q
set_option maxHeartbeats 1000000
set_option maxRecDepth 100000
namespace Go.Proofs.YtdhojcaoljhbiaaGreatDoor
open Go.RowKit Go.Q Go.D
end Go.Proofs.YtdhojcaoljhbiaaGreatDoor
set_option maxHeartbeats 1000000
set_option maxRecDepth 100000
namespace Go.Q
open Go.D
theorem parseI_numS {n:Int} (h:0≤n∧n≤999999999):parseI (numS n)=(n,true):=by
 rw [←itoS_num h.1,parseI_of rfl,if_pos (by omega)]
theorem numS_dg (n:Int):(numS n).all isDg=true:=dig_all (n.toNat+1) n.toNat (by omega)
theorem numS_no {n:Int} {c:UInt8} (h:isDg c=false):c∉numS n:=fun hm=>by
 have:=List.all_eq_true.1 (numS_dg n) c hm
 rw [h] at this;cases this
theorem numS_one {n:Int} (h:0≤n∧n≤9):numS n=[UInt8.ofNat (48+n.toNat)]:=by unfold numS;exact dig_small (by omega)
theorem occ1 {l:List UInt8} {i:Nat} {a:UInt8}:Lib.occAt l [a] i=true↔l[i]?=some a:=by
 unfold Lib.occAt
 have e1:l[i]?=(l.drop i)[0]?:=by simp
 rw [e1]
 match l.drop i with
 | []=>simp
 | x::r=>simp [List.isPrefixOf];exact⟨fun h=>h.symm,fun h=>h.symm⟩
theorem cut1_at {c:UInt8} {x y:List UInt8} (h:c∉x):Lib.cut (x++c::y) [c]=(x,y,true):=by
 have hi:Lib.index (x++c::y) [c]=(x.length:Nat):=by
  refine Lib.index_first (by simp) (occ1.2 (by simp)) fun j hj=>Bool.eq_false_iff.2 fun hh=>?_
  have:=occ1.1 hh
  rw [List.getElem?_append_left hj] at this
  exact h (List.mem_of_getElem? this)
 unfold Lib.cut
 rw [hi,if_pos (by omega)]
 simp
theorem cut1_len (l:List UInt8) (c:UInt8):(Lib.cut l [c]).1.length≤l.length∧(Lib.cut l [c]).2.1.length≤l.length:=by
 unfold Lib.cut
 split<;>simp<;>omega
theorem ofN {k:Nat} (h:k<256):(UInt8.ofNat k).toNat=k:=by rw [UInt8.toNat_ofNat'];omega
def letP (s:List UInt8):Int×Bool:=match (List.range 9).find? (fun k=>decide (letS (k:Nat)=s)) with
 | some k=>((k:Int),true)
 | none=>(0,false)
theorem letP_at {s:List UInt8} {k:Nat} (hk:k<9) (h:letS (k:Nat)=s) (hn:∀ j,j<k→letS (j:Nat)≠s):letP s=((k:Int),true):=by
 have:(List.range 9).find? (fun k=>decide (letS (k:Nat)=s))=some k:=by
  rw [List.find?_range_eq_some]
  exact⟨decide_eq_true h,List.mem_range.2 hk,fun j hj=>by simpa using hn j hj⟩
 unfold letP
 rw [this]
theorem letP_no {s:List UInt8} (hn:∀ j,j<9→letS (j:Nat)≠s):letP s=(0,false):=by
 have:(List.range 9).find? (fun k=>decide (letS (k:Nat)=s))=none:=by
  rw [List.find?_eq_none]
  intro x hx
  simpa using hn x (List.mem_range.1 hx)
 unfold letP
 rw [this]
end Go.Q
set_option maxHeartbeats 1000000
set_option maxRecDepth 100000
namespace Go.Q
open Go.D
theorem atoi_lt {l:List UInt8} {n:Int} (h:Lib.atoi l=some n) (hl:l.length≤18):-1000000000000000000<n∧n<1000000000000000000:=by
 obtain⟨b0,r,rfl,h1⟩:=Lib.atoi_cases h
 simp only [List.length_cons] at hl
 rcases h1 with ⟨_,m,_,h2,rfl⟩|⟨_,m,_,h2,rfl⟩|⟨_,_,m,h2,rfl⟩
 · have:=Lib.decFrom_lt18 h2 (by omega);omega
 · have:=Lib.decFrom_lt18 h2 (by omega);omega
 have:=Lib.decFrom_lt18 h2 (by simp;omega);omega
theorem parseI_long {l:List UInt8} (h:10<l.length):parseI l=(0,false):=by unfold parseI;rw [if_neg (by omega)]
theorem parseI_none {l:List UInt8} (h:Lib.atoi l=none):parseI l=(0,false):=by rw [parseI_atoi,h]
theorem parseI_yes {l:List UInt8} {n:Int} (h:Lib.atoi l=some n) (hl:l.length≤10) (h1:bs (itoS n)=bs l) (h2:inB n (-999999999) 999999999=true):parseI l=(n,true):=by
 rw [parseI_atoi,h]
 unfold inB at h2
 simp only [Bool.and_eq_true,decide_eq_true_eq] at h2
 simp only
 rw [if_pos ⟨hl,bs_inj h1,h2⟩]
theorem parseI_bad {l:List UInt8} {n:Int} (h:Lib.atoi l=some n) (h1:¬ (bs (itoS n)=bs l∧inB n (-999999999) 999999999=true)):parseI l=(0,false):=by
 rw [parseI_atoi,h]
 simp only
 rw [if_neg]
 rintro⟨_,h2,h3⟩
 refine h1 ⟨by rw [h2],?_⟩
 unfold inB
 simp only [Bool.and_eq_true,decide_eq_true_eq];exact h3
end Go.Q
namespace Go.Proofs.YtdhojcaoljhbiaaGreatDoor
open Go.RowKit Go.Q Go.D
theorem implParseIntS (l:List UInt8) (n:Int) (h:Lib.atoi l=some n):FnT Tryz.prog 65 [.one (.v (.string (bs l)))] (.tup [.one (.v (.int .i64 (parseI l).1)),.one (.v (.bool (parseI l).2))]):=by
 refine Ay Tryz.func65 U (by kernel_rfl) Tryz.ntmps65 U fun hlen w0=>?_
 try simp at hlen
 have hsz:=bs_size l
 refine Ae (Ak ?_);refine Ak ?_;refine Aa (Ac (Ae (Ab ?_)));refine Ag (R_len_s U (.no U) U (.tm U) Tryz.underlying9) U ?_;refine AWl.gc ?_;refine Aa (Ai (.tm U) (fun h8=>?_) (fun h8=>?_))
 · try simp at h8
   refine Ae (Ak ?_);refine Ak ?_;refine Aa (Al (Cz U (.tmp U (.tmp U .nil)) U ?_ (by simp)))
   rw [parseI_long (by omega)];rfl
 try simp at h8
 have hlt:=atoi_lt h (by omega)
 refine Aj (Ae (Ab ?_));refine Ag (A3 (FnT.fr (strconvAtoi l n (by omega) h)) U (.no U) U (.cons (.tm U) U .nil)) U ?_;refine Ag (Db U (.no U) U U fun _=>rfl) U ?_;refine Ag (Bn U (.no U) U U (fun _=>rfl) U) U ?_;refine Ag (Bn U (.no U) U U (fun _=>rfl) U) U ?_;refine Ah ?_;refine Ah ?_;refine Aa (Ac (Ac (Am (As [0,2,3,4,5] []) ?_)));refine Ad (Ab ?_);refine Ag (R_nenil0 U (.no U) U (.tm U) (.const U) (by kernel_rfl)) U ?_;refine Ab ?_;refine Dj ?_;refine Ag (A3 (FnT.fr (strconvItoaA n (by omega) (by omega))) U (by exact .not1 U U U U) U (.cons (.tmp U (by exact fun _=>rfl)) U .nil)) U ?_;refine Dj ?_;refine Ag (R_nestr U (by exact .not1 U U U U) U (.tmp U (by exact fun _=>rfl)) (.tmp U (by exact fun _=>rfl))) U ?_;refine Ag (R_or U (.no U) U (.tm U) (.tmp U (by exact fun _=>rfl))) U ?_;refine Ab ?_;refine Dj ?_
 refine Ag (A3 (FnT.fr (implwithin n (-999999999) 999999999)) U (by exact .not1 U U U U) U (.cons (.tmp U (by exact id)) U (.cons (.const U) U (.cons (.const U) U .nil)))) U ?_;refine Ag (Cy U (by exact .not1 U U U U) U (.tmp U (by exact id))) U ?_;refine Cf ?_;refine Aa (Ai (.tm U) (fun h26=>?_) (fun h26=>?_))
 · try simp at h26
   refine Ac (Am (As [0,2,3,4,5] []) ?_);refine Ad (Ak ?_);refine Ak ?_;refine Aa (Al (Cz U (.tmp U (.tmp U .nil)) U ?_ (by simp)))
   rw [parseI_bad h (by grind)];rfl
 try simp at h26
 refine Aj (Ac (Am (As [0,2,3,4,5] []) ?_));refine Ad (Ab ?_);refine Ah ?_;refine Ak ?_;refine Aa (Al (Cz U (.tmp U (.tmp U .nil)) U ?_ (by simp)))
 rw [parseI_yes h (by omega) (by grind) (by grind)];rfl
theorem implParseIntN (l:List UInt8) (h:Lib.atoi l=none):FnT Tryz.prog 65 [.one (.v (.string (bs l)))] (.tup [.one (.v (.int .i64 (parseI l).1)),.one (.v (.bool (parseI l).2))]):=by
 refine Ay Tryz.func65 U (by kernel_rfl) Tryz.ntmps65 U fun hlen w0=>?_
 try simp at hlen
 have hsz:=bs_size l
 refine Ae (Ak ?_);refine Ak ?_;refine Aa (Ac (Ae (Ab ?_)));refine Ag (R_len_s U (.no U) U (.tm U) Tryz.underlying9) U ?_;refine AWl.gc ?_;refine Aa (Ai (.tm U) (fun h8=>?_) (fun h8=>?_))
 · try simp at h8
   refine Ae (Ak ?_);refine Ak ?_;refine Aa (Al (Cz U (.tmp U (.tmp U .nil)) U ?_ (by simp)))
   rw [parseI_none h];rfl
 try simp at h8
 refine Aj (Ae (Ab ?_));refine Bf (R_calle (strconvAtoiE l (by omega) h) U U U (.cons (.tm U) U .nil)) ?_
 rintro _ ⟨_,⟨N11,rfl⟩,rfl⟩
 refine Ag (Db U (.no U) U U fun _=>rfl) U ?_;refine Ag (Bn U (.no U) U U (fun _=>rfl) U) U ?_;refine Ag (Bn U (.no U) U U (fun _=>rfl) U) U ?_;refine Ah ?_;refine Ah ?_;refine Aa (Ac (Ac (Am (As [0,2,3,4,5] []) ?_)));refine Ad (Ab ?_);refine Ag (R_nenil1 U (.no U) U (.tm U) (.const U) (by kernel_rfl)) U ?_;refine Ab ?_;refine Dj ?_;refine Ag (A3 (FnT.fr (strconvItoaA 0 (by omega) (by omega))) U (by exact .not1 U U U U) U (.cons (.tmp U (by exact id)) U .nil)) U ?_;refine Dj ?_;refine Ag (R_nestr U (by exact .not1 U U U U) U (.tmp U (by exact id)) (.tmp U (by exact id))) U ?_;refine Cf ?_;refine Ab ?_;refine Dj ?_;refine Ag (A3 (FnT.fr (implwithin 0 (-999999999) 999999999)) U (by exact .not1 U U U U) U (.cons (.tmp U (by exact id)) U (.cons (.const U) U (.cons (.const U) U .nil)))) U ?_;refine Ag (Cy U (by exact .not1 U U U U) U (.tmp U (by exact id))) U ?_;refine Cf ?_
 refine Aa (Ai (.tm U) (fun h26=>?_) (fun h26=>?_))
 · try simp at h26
   refine Ac (Am (As [0,2,3,4,5] []) ?_);refine Ad (Ak ?_);refine Ak ?_;refine Aa (Al (Cz U (.tmp U (.tmp U .nil)) U ?_ (by simp)))
   rw [parseI_none h];rfl
 exact absurd h26 (by simp)
theorem implParseInt (l:List UInt8):FnT Tryz.prog 65 [.one (.v (.string (bs l)))] (.tup [.one (.v (.int .i64 (parseI l).1)),.one (.v (.bool (parseI l).2))]):=by
 cases h:Lib.atoi l with
 | none=>exact implParseIntN l h
 | some n=>exact implParseIntS l n h
theorem specParseLetter (s:List UInt8):FnT Tryz.prog 225 [.one (.v (.string (bs s)))] (.tup [.one (.v (.int .i64 (letP s).1)),.one (.v (.bool (letP s).2))]):=by
 refine Ay Tryz.func225 U (by kernel_rfl) Tryz.ntmps225 U fun hlen w0=>?_
 try simp at hlen
 refine Ae (Ak ?_);refine Ak ?_;refine Aa (Ac (Ae (Ak ?_)));refine Aa (AW.block (Bj (fun (k:Nat)=>(k≤9∧∀ j:Nat,j<k→letS (j:Nat)≠s)∧True) (fun (k:Nat)=>⟨_,[(4,(true,.a (.one (.t (.v (.int .i64 (k:Nat))))))),(0,_)],[]⟩) (fun (k:Nat)=>9-k) (0) ⟨⟨by omega,fun j hj=>by omega⟩,Y⟩ (Ar U ⟨U,U,Y⟩ trivial) ?_))
 rintro k ⟨hk,he⟩
 refine Ac (Ae (Ab ?_));refine AWl.lc ?_;refine Aa (Ai (.tm U) (fun h6=>?_) (fun h6=>?_))
 · try simp at h6
   refine Aj (Ac (AW.block (Ae (Ab ?_))));refine Ag (A3 (FnT.fr (specFormatLetter (k:Int) (by omega) (by omega))) U (.no U) U (.cons (.tm U) U .nil)) U ?_;refine Ab ?_;refine Ag (R_eqstr U (.no U) U (.tm U) (.tm U)) U ?_;refine Aa (Ai (.tm U) (fun h12=>?_) (fun h12=>?_))
   · try simp at h12
     refine Ac (Am (As [0,4] []) ?_);refine Ad (Ab ?_);refine Ah ?_;refine Ak ?_;refine Aa (Al (Cz U (.tmp U (.tmp U .nil)) U ?_ (by simp)))
     rw [letP_at (k:=k) (by omega) (bs_inj h12) hk.2];rfl
   try simp at h12
   refine Aj (Am (As [0,4] []) ?_);refine Ad (Ab ?_);refine A8 ?_;refine Ah ?_;refine Aa ?_
   repeat (with_reducible refine Au ?_)
   refine Round1.next (k+1) ⟨⟨by omega,fun j hj=>(by by_cases e:j=k;(subst e;exact fun e2=>h12 (by rw [e2]));exact hk.2 j (by omega))⟩,Y⟩ (by omega) (Ar rfl ⟨rfl,rfl,Y⟩ trivial)
 try simp at h6
 refine Ba (Ae (Ak ?_));refine Ak ?_;refine Aa (Al (Cz U (.tmp U (.tmp U .nil)) U ?_ (by simp)))
 rw [letP_no fun j hj=>hk.2 j (by omega)];rfl
end Go.Proofs.YtdhojcaoljhbiaaGreatDoor
set_option maxHeartbeats 1000000
set_option maxRecDepth 100000
namespace Go.Q
open Go.D
theorem joinL_ne {sep:List UInt8} {xs:List (List UInt8)} {x:List UInt8} (h:x∈xs) (hx:x≠[]):joinL sep xs≠[]:=by
 cases xs with
 | nil=>cases h
 | cons y r=>
  unfold joinL
  rw [Lib.join_cons]
  rcases List.mem_cons.1 h with rfl|h
  · intro e;exact hx (List.append_eq_nil_iff.1 e).1
  intro e
  have e2:=(List.append_eq_nil_iff.1 e).2
  obtain⟨s,t,rfl⟩:=List.append_of_mem h
  unfold Lib.joinTail at e2
  simp at e2
  exact hx e2.2.2.1
def tk0 (k:Int):TToken:=⟨k,0,0,0⟩
def brS (s:List UInt8):TToken:=if s.length=5∧s[0]?=some 123∧s[2]?=some 44∧s[4]?=some 125 then ⟨7,0,((s[1]?.getD 0).toNat:Int)-48,((s[3]?.getD 0).toNat:Int)-48⟩ else tk0 0
def brI (s:List UInt8):TToken:=⟨7,0,(parseI (Lib.cut (Lib.trimS s [123,125]) [44]).1).1,(parseI (Lib.cut (Lib.trimS s [123,125]) [44]).2.1).1⟩
def rdT (rest:List UInt8→TToken) (s:List UInt8):TToken:=
 if s=[33] then tk0 1 else if s=[40,41] then tk0 2 else if s=[46] then tk0 4 else if s=[124] then tk0 5 else if s=[42] then tk0 6
 else if (letP s).2=true then ⟨3,(letP s).1,0,0⟩ else rest s
theorem letP_get {s:List UInt8} (h:(letP s).2=true):letS (letP s).1=s:=by
 unfold letP at h ⊢
 split
 · rename_i k hk
   have:=List.find?_some hk
   simpa using this
 rename_i hk;rw [hk] at h;cases h
theorem letP_let {k:Int} (h0:0≤k) (h8:k≤8):letP (letS k)=(k,true):=by
 have:k=0∨k=1∨k=2∨k=3∨k=4∨k=5∨k=6∨k=7∨k=8:=by omega
 rcases this with g|g|g|g|g|g|g|g|g<;>rw [g]<;>decide
theorem let_plain {k:Int} (h0:0≤k) (h8:k≤8):letS k≠[33]∧letS k≠[40,41]∧letS k≠[46]∧letS k≠[124]∧letS k≠[42]∧(32:UInt8)∉letS k∧(59:UInt8)∉letS k:=by
 have:k=0∨k=1∨k=2∨k=3∨k=4∨k=5∨k=6∨k=7∨k=8:=by omega
 rcases this with g|g|g|g|g|g|g|g|g<;>rw [g]<;>decide
theorem ar_zero {t:TToken} {k:Int} (h:0≤arity t) (hk:t.Kind=k) (hk2:k=1∨k=2∨k=4∨k=5∨k=6):t=tk0 k:=by
 obtain⟨a,b,c,d⟩:=t
 simp only at hk
 subst hk
 unfold arity zerT at h
 simp only [Bool.and_eq_true,decide_eq_true_eq] at h
 unfold tk0
 rcases hk2 with g|g|g|g|g<;>subst g<;>simp at h<;>simp<;>omega
theorem ar_let {t:TToken} (h:0≤arity t) (hk:t.Kind=3):t=⟨3,t.Letter,0,0⟩∧0≤t.Letter∧t.Letter≤8:=by
 have h1:=tok_let h hk
 obtain⟨a,b,c,d⟩:=t
 simp only at hk
 subst hk
 unfold arity at h
 rw [if_neg (by simp),if_pos rfl] at h
 refine⟨?_,h1⟩
 split at h
 · rename_i hc
   simp only [Bool.and_eq_true,decide_eq_true_eq] at hc
   simp only [TToken.mk.injEq,true_and];exact⟨hc.1.2,hc.2⟩
 omega
theorem ar_rep {t:TToken} (h:0≤arity t) (hk:t.Kind≠1∧t.Kind≠2∧t.Kind≠3∧t.Kind≠4∧t.Kind≠5∧t.Kind≠6):t=⟨7,0,t.Low,t.High⟩∧(0≤t.Low∧t.Low≤3)∧0≤t.High∧t.High≤3:=by
 refine⟨?_,tok_rep h hk.1 hk.2.1 hk.2.2.1 hk.2.2.2.1 hk.2.2.2.2.1 hk.2.2.2.2.2⟩
 obtain⟨a,b,c,d⟩:=t
 simp only at hk
 unfold arity at h
 rw [if_neg (by simp only;omega),if_neg (by simp only;omega),if_neg (by simp only;omega),if_neg (by simp only;omega)] at h
 simp only at h
 split at h
 · split at h
   · rename_i h7 hc
     simp only [Bool.and_eq_true,decide_eq_true_eq] at hc
     simp only [TToken.mk.injEq,and_true]
     exact⟨h7,hc.1.1⟩
   omega
 omega
def braceS (a b:Int):List UInt8:=[123,UInt8.ofNat (48+a.toNat),44,UInt8.ofNat (48+b.toNat),125]
theorem rep_txt {a b:Int} (ha:0≤a∧a≤3) (hb:0≤b∧b≤3):tokS ⟨7,0,a,b⟩=braceS a b:=by
 unfold tokS braceS
 rw [if_neg (by simp),if_neg (by simp),if_neg (by simp),if_neg (by simp),if_neg (by simp),if_neg (by simp)]
 simp only
 rw [numS_one (by omega),numS_one (by omega)];rfl
theorem brace_small (P:Int→Int→Prop) [∀ a b,Decidable (P a b)] (h:(List.range 4).all (fun a=>(List.range 4).all fun b=>decide (P (a:Nat) (b:Nat)))=true) {a b:Int} (ha:0≤a∧a≤3) (hb:0≤b∧b≤3):P a b:=by
 have h1:=List.all_eq_true.1 h a.toNat (List.mem_range.2 (by omega))
 have h2:=List.all_eq_true.1 h1 b.toNat (List.mem_range.2 (by omega))
 rw [decide_eq_true_eq,Int.toNat_of_nonneg ha.1,Int.toNat_of_nonneg hb.1] at h2
 exact h2
theorem brace_letP {a b:Int} (ha:0≤a∧a≤3) (hb:0≤b∧b≤3):letP (braceS a b)=(0,false):=by
 refine letP_no fun j _ e=>?_
 have:=congrArg List.length e
 have h2:=letS_len (j:Int)
 simp [braceS] at this
 omega
theorem brace_ne {a b:Int}:braceS a b≠[33]∧braceS a b≠[40,41]∧braceS a b≠[46]∧braceS a b≠[124]∧braceS a b≠[42]:=by
 refine⟨?_,?_,?_,?_,?_⟩<;>intro e<;>have:=congrArg List.length e<;>simp [braceS] at this
theorem brace_S {a b:Int} (ha:0≤a∧a≤3) (hb:0≤b∧b≤3):brS (braceS a b)=⟨7,0,a,b⟩:=by
 unfold brS braceS
 rw [if_pos ⟨rfl,rfl,rfl,rfl⟩]
 simp only [List.getElem?_cons_succ,List.getElem?_cons_zero,Option.getD_some,TToken.mk.injEq,true_and]
 rw [ofN (by omega),ofN (by omega)]
 omega
theorem brace_trim {a b:Int} (ha:0≤a∧a≤3) (hb:0≤b∧b≤3):Lib.trimS (braceS a b) [123,125]=numS a++44::numS b:=by
 have e1:∀ c:Int,0≤c∧c≤3→([123,125]:List UInt8).contains (UInt8.ofNat (48+c.toNat))=false:=fun c hc=>by
  have:c=0∨c=1∨c=2∨c=3:=by omega
  rcases this with g|g|g|g<;>rw [g]<;>decide
 have e2:([123,125]:List UInt8).contains 123=true:=by decide
 have e3:([123,125]:List UInt8).contains 125=true:=by decide
 rw [numS_one (by omega),numS_one (by omega)]
 unfold Lib.trimS Lib.trimLeftS Lib.trimRightS braceS
 have g1:List.dropWhile (fun x=>([123,125]:List UInt8).contains x) [125,UInt8.ofNat (48+b.toNat),44,UInt8.ofNat (48+a.toNat),123]=[UInt8.ofNat (48+b.toNat),44,UInt8.ofNat (48+a.toNat),123]:=by
  rw [List.dropWhile_cons,if_pos e3,List.dropWhile_cons,if_neg (by rw [e1 b hb];decide)]
 have g2:([123,UInt8.ofNat (48+a.toNat),44,UInt8.ofNat (48+b.toNat),125]:List UInt8).reverse=[125,UInt8.ofNat (48+b.toNat),44,UInt8.ofNat (48+a.toNat),123]:=rfl
 rw [g2,g1]
 have g3:([UInt8.ofNat (48+b.toNat),44,UInt8.ofNat (48+a.toNat),123]:List UInt8).reverse=[123,UInt8.ofNat (48+a.toNat),44,UInt8.ofNat (48+b.toNat)]:=rfl
 rw [g3,List.dropWhile_cons,if_pos e2,List.dropWhile_cons,if_neg (by rw [e1 a ha];decide)]
 rfl
theorem brace_I {a b:Int} (ha:0≤a∧a≤3) (hb:0≤b∧b≤3):brI (braceS a b)=⟨7,0,a,b⟩:=by
 unfold brI
 rw [brace_trim ha hb,cut1_at (numS_no (by decide))]
 simp only
 rw [parseI_numS (by omega),parseI_numS (by omega)]
theorem rd_tok {rest:List UInt8→TToken} (hr:∀ a b:Int,0≤a∧a≤3→0≤b∧b≤3→rest (braceS a b)=⟨7,0,a,b⟩) {t:TToken} (h:0≤arity t):rdT rest (tokS t)=t:=by
 by_cases k1:t.Kind=1
 · rw [ar_zero h k1 (by omega)];rfl
 by_cases k2:t.Kind=2
 · rw [ar_zero h k2 (by omega)];rfl
 by_cases k4:t.Kind=4
 · rw [ar_zero h k4 (by omega)];rfl
 by_cases k5:t.Kind=5
 · rw [ar_zero h k5 (by omega)];rfl
 by_cases k6:t.Kind=6
 · rw [ar_zero h k6 (by omega)];rfl
 by_cases k3:t.Kind=3
 · obtain⟨e,h0,h8⟩:=ar_let h k3
   have e2:tokS t=letS t.Letter:=by unfold tokS;rw [if_neg k1,if_neg k2,if_pos k3]
   obtain⟨n1,n2,n3,n4,n5,_⟩:=let_plain h0 h8
   unfold rdT
   rw [e2,if_neg n1,if_neg n2,if_neg n3,if_neg n4,if_neg n5,letP_let h0 h8,if_pos rfl]
   exact e.symm
 obtain⟨e,ha,hb⟩:=ar_rep h ⟨k1,k2,k3,k4,k5,k6⟩
 have e2:tokS t=braceS t.Low t.High:=by rw [e];exact rep_txt ha hb
 obtain⟨n1,n2,n3,n4,n5⟩:=brace_ne (a:=t.Low) (b:=t.High)
 unfold rdT
 rw [e2,if_neg n1,if_neg n2,if_neg n3,if_neg n4,if_neg n5,brace_letP ha hb,if_neg (by decide),hr _ _ ha hb]
 exact e.symm
theorem tok_rd {s:List UInt8} (h:0≤arity (rdT brS s)):tokS (rdT brS s)=s:=by
 unfold rdT at h ⊢
 split
 · rename_i e;rw [e];rfl
 split
 · rename_i e;rw [e];rfl
 split
 · rename_i e;rw [e];rfl
 split
 · rename_i e;rw [e];rfl
 split
 · rename_i e;rw [e];rfl
 rename_i n1 n2 n3 n4 n5
 rw [if_neg n1,if_neg n2,if_neg n3,if_neg n4,if_neg n5] at h
 split
 · rename_i e;exact letP_get e
 rename_i n6
 rw [if_neg n6] at h
 unfold brS at h ⊢
 split
 · rename_i hc
   rw [if_pos hc] at h
   obtain⟨h5,h0,h2,h4⟩:=hc
   match s,h5 with
   | [x0,x1,x2,x3,x4],_=>
    simp only [List.getElem?_cons_succ,List.getElem?_cons_zero,Option.some.injEq,Option.getD_some] at h0 h2 h4 h ⊢
    subst h0 h2 h4
    have hr:=tok_rep h (by simp) (by simp) (by simp) (by simp) (by simp) (by simp)
    simp only at hr
    rw [rep_txt hr.1 hr.2]
    unfold braceS
    have f:∀ x:UInt8,0≤((x.toNat:Int)-48)→UInt8.ofNat (48+((x.toNat:Int)-48).toNat)=x:=fun x hx=>by
     rw [show 48+((x.toNat:Int)-48).toNat=x.toNat by omega];simp
    rw [f x1 hr.1.1,f x3 hr.2.1]
 rename_i hc
 rw [if_neg hc] at h
 exact absurd h (by decide)
theorem tokS_no {t:TToken} (h:0≤arity t):(32:UInt8)∉tokS t∧(59:UInt8)∉tokS t∧tokS t≠[]:=by
 by_cases k1:t.Kind=1
 · rw [ar_zero h k1 (by omega)];decide
 by_cases k2:t.Kind=2
 · rw [ar_zero h k2 (by omega)];decide
 by_cases k4:t.Kind=4
 · rw [ar_zero h k4 (by omega)];decide
 by_cases k5:t.Kind=5
 · rw [ar_zero h k5 (by omega)];decide
 by_cases k6:t.Kind=6
 · rw [ar_zero h k6 (by omega)];decide
 by_cases k3:t.Kind=3
 · obtain⟨e,h0,h8⟩:=ar_let h k3
   have e2:tokS t=letS t.Letter:=by unfold tokS;rw [if_neg k1,if_neg k2,if_pos k3]
   obtain⟨n1,n2,n3,n4,n5,n6,n7⟩:=let_plain h0 h8
   rw [e2]
   refine⟨n6,n7,fun e0=>?_⟩
   have:t.Letter=0∨t.Letter=1∨t.Letter=2∨t.Letter=3∨t.Letter=4∨t.Letter=5∨t.Letter=6∨t.Letter=7∨t.Letter=8:=by omega
   rcases this with g|g|g|g|g|g|g|g|g<;>rw [g] at e0<;>revert e0<;>decide
 obtain⟨e,ha,hb⟩:=ar_rep h ⟨k1,k2,k3,k4,k5,k6⟩
 have e2:tokS t=braceS t.Low t.High:=by rw [e];exact rep_txt ha hb
 rw [e2]
 exact brace_small (fun a b=>(32:UInt8)∉braceS a b∧(59:UInt8)∉braceS a b∧braceS a b≠[]) (by decide) ha hb
def exS (s:List UInt8):TExpr:=⟨(splitL 32 s).map (rdT brS)⟩
def exI (s:List UInt8):TExpr:=⟨(splitL 32 s).map (rdT brI)⟩
def parseX (s:List UInt8):TExpr×Bool:=if isValidExpr (exS s)=true then (exS s,true) else (⟨[]⟩,false)
theorem valid_ne {e:TExpr} (h:isValidExpr e=true):e.Tokens≠[]:=by
 unfold isValidExpr isExpr at h
 simp only [Bool.and_eq_true,decide_eq_true_eq] at h
 intro hn
 rw [hn] at h
 simp [depthGo] at h
theorem split_expr {e:TExpr} (h:isValidExpr e=true):splitL 32 (fmtExpr e)=e.Tokens.map tokS:=by
 have hv:=valid_toks h
 unfold fmtExpr
 rw [if_pos h]
 refine split_joinL _ (fun hn=>valid_ne h (List.map_eq_nil_iff.1 hn)) fun x hx=>?_
 obtain⟨t,ht,rfl⟩:=List.mem_map.1 hx
 exact (tokS_no (hv.2 t ht)).1
theorem ex_fmt {rest:List UInt8→TToken} (hr:∀ a b:Int,0≤a∧a≤3→0≤b∧b≤3→rest (braceS a b)=⟨7,0,a,b⟩) {e:TExpr} (h:isValidExpr e=true):(⟨(splitL 32 (fmtExpr e)).map (rdT rest)⟩:TExpr)=e:=by
 have hv:=valid_toks h
 rw [split_expr h,List.map_map]
 obtain⟨l⟩:=e
 congr 1
 conv=>rhs;rw [←List.map_id l]
 exact List.map_congr_left fun t ht=>rd_tok hr (hv.2 t ht)
theorem exS_fmt {e:TExpr} (h:isValidExpr e=true):exS (fmtExpr e)=e:=ex_fmt (fun _ _=>brace_S) h
theorem exI_fmt {e:TExpr} (h:isValidExpr e=true):exI (fmtExpr e)=e:=ex_fmt (fun _ _=>brace_I) h
theorem fmt_exS {s:List UInt8} (h:isValidExpr (exS s)=true):fmtExpr (exS s)=s:=by
 have hv:=valid_toks h
 unfold fmtExpr
 rw [if_pos h]
 unfold exS at hv ⊢
 rw [List.map_map]
 have:(splitL 32 s).map (tokS∘rdT brS)=splitL 32 s:=by
  conv=>rhs;rw [←List.map_id (splitL 32 s)]
  exact List.map_congr_left fun p hp=>tok_rd (hv.2 _ (List.mem_map_of_mem hp))
 rw [this,splitL_join]
theorem fmtExpr_ne {e:TExpr} (h:isValidExpr e=true):fmtExpr e≠[]:=by
 intro hn
 have:=split_expr h
 rw [hn] at this
 have hv:=valid_toks h
 obtain⟨l⟩:=e
 simp only at this hv
 cases l with
 | nil=>exact valid_ne h rfl
 | cons t r=>
  simp only [splitL,List.map_cons,List.cons.injEq] at this
  exact (tokS_no (hv.2 t (by simp))).2.2 this.1.symm
theorem fmtExpr_valid {e:TExpr} (h:fmtExpr e≠[]):isValidExpr e=true:=by
 unfold fmtExpr at h
 split at h
 · assumption
 exact absurd rfl h
theorem parseX_impl (s:List UInt8):parseX s=if s=[]∨fmtExpr (exI s)≠s then (⟨[]⟩,false) else (exI s,true):=by
 unfold parseX
 by_cases h:isValidExpr (exS s)=true
 · have h1:=fmt_exS h
   have h2:exI s=exS s:=by
    have:=exI_fmt h
    rwa [h1] at this
   have h3:=fmtExpr_ne h
   rw [h1] at h3
   rw [if_pos h,h2,if_neg]
   rintro (g|g)
   · exact h3 g
   exact g h1
 rw [if_neg h]
 split
 · rfl
 rename_i hc
 exfalso
 simp only [not_or,Decidable.not_not] at hc
 have h1:=fmtExpr_valid (e:=exI s) (by rw [hc.2];exact hc.1)
 have h2:=exS_fmt h1
 rw [hc.2] at h2
 exact h (by rw [h2];exact h1)
theorem parseX_spec {s:List UInt8} {k:Nat} (hk:(splitL 32 s).length≤k∨25≤k):parseX s=if isValidExpr ⟨((splitL 32 s).take k).map (rdT brS)⟩=true then (⟨((splitL 32 s).take k).map (rdT brS)⟩,true) else (⟨[]⟩,false):=by
 by_cases h:(splitL 32 s).length≤k
 · rw [List.take_of_length_le h];rfl
 have h1:isValidExpr (exS s)=false:=Bool.eq_false_iff.2 fun hh=>by
  have:=(valid_toks hh).1
  unfold exS at this;simp at this;omega
 have h2:isValidExpr ⟨((splitL 32 s).take k).map (rdT brS)⟩=false:=Bool.eq_false_iff.2 fun hh=>by
  have:=(valid_toks hh).1
  simp at this;omega
 unfold parseX
 rw [h1,h2];rfl
theorem parseX_fmt {e:TExpr} (h:isValidExpr e=true):parseX (fmtExpr e)=(e,true):=by
 unfold parseX
 rw [exS_fmt h,if_pos h]
def atmI (p:List UInt8):TPathAtom:=⟨(parseI (Lib.cut (Lib.cut p [32]).1 [58]).1).1,(parseI (Lib.cut (Lib.cut p [32]).1 [58]).2.1).1,(parseX (Lib.cut p [32]).2.1).1⟩
def vcOf (l:List TPathAtom):Int:=l.foldl (fun m x=>max (max m (x.From+1)) (x.To+1)) 0
def cjOf (l:List TPathAtom):TConjunction:=⟨vcOf l,l⟩
def noC:TConjunction:=⟨0,[]⟩
def parseC (s:List UInt8):TConjunction×Bool:=if fmtConj (cjOf ((splitL 59 s).map atmI))=s∧s≠[] then (cjOf ((splitL 59 s).map atmI),true) else (noC,false)
theorem vcOf_snoc (l:List TPathAtom) (x:TPathAtom):vcOf (l++[x])=max (max (vcOf l) (x.From+1)) (x.To+1):=by unfold vcOf;rw [List.foldl_append];rfl
theorem vcOf_le {n:Int} (h0:0≤n):∀ (l:List TPathAtom),(∀ x∈l,x.From<n∧x.To<n)→vcOf l≤n:=by
 intro l
 have:∀ (l:List TPathAtom) (m:Int),m≤n→(∀ x∈l,x.From<n∧x.To<n)→l.foldl (fun m x=>max (max m (x.From+1)) (x.To+1)) m≤n:=by
  intro l
  induction l with
  | nil=>intro m hm _;exact hm
  | cons x r ih=>
   intro m hm h
   have hx:=h x (by simp)
   rw [List.foldl_cons]
   exact ih _ (by omega) fun y hy=>h y (by simp [hy])
 exact this l 0 h0
theorem vcOf_mono:∀ (l:List TPathAtom) (m:Int),m≤l.foldl (fun m x=>max (max m (x.From+1)) (x.To+1)) m:=by
 intro l
 induction l with
 | nil=>intro m;exact Int.le_refl _
 | cons x r ih=>intro m;have:=ih (max (max m (x.From+1)) (x.To+1));rw [List.foldl_cons];omega
theorem vcOf_ge {l:List TPathAtom} {x:TPathAtom} (h:x∈l):x.From+1≤vcOf l∧x.To+1≤vcOf l:=by
 obtain⟨s,t,rfl⟩:=List.append_of_mem h
 unfold vcOf
 rw [List.foldl_append,List.foldl_cons]
 have:=vcOf_mono t (max (max (s.foldl (fun m x=>max (max m (x.From+1)) (x.To+1)) 0) (x.From+1)) (x.To+1))
 omega
theorem vc_valid {q:TConjunction} (h:validConj q=true):vcOf q.Atoms=q.VariableCount:=by
 obtain⟨_,hn,hm⟩:=conj_mem h
 have h1:=vcOf_le (n:=q.VariableCount) (by omega) q.Atoms fun x hx=>by have:=(hm x hx).1;omega
 unfold validConj at h
 simp only [Bool.and_eq_true] at h
 have h2:=List.all_eq_true.1 h.2 (q.VariableCount.toNat-1) (List.mem_range.2 (by omega))
 unfold seenV at h2
 rw [List.any_eq_true] at h2
 obtain⟨x,hx,hs⟩:=h2
 have:=vcOf_ge hx
 simp at hs
 omega
theorem cj_valid {q:TConjunction} (h:validConj q=true):cjOf q.Atoms=q:=by unfold cjOf;rw [vc_valid h]
theorem atom_txt {q:TConjunction} (h:validConj q=true) {x:TPathAtom} (hx:x∈q.Atoms):fmtAtom x=[UInt8.ofNat (48+x.From.toNat),58,UInt8.ofNat (48+x.To.toNat),32]++fmtExpr x.Expr:=by
 obtain⟨_,hn,hm⟩:=conj_mem h
 have:=(hm x hx).1
 unfold fmtAtom
 rw [numS_one (by omega),numS_one (by omega)];rfl
theorem atmI_fmt {q:TConjunction} (h:validConj q=true) {x:TPathAtom} (hx:x∈q.Atoms):atmI (fmtAtom x)=x:=by
 obtain⟨_,hn,hm⟩:=conj_mem h
 have hx2:=hm x hx
 have e:Lib.cut (fmtAtom x) [32]=(numS x.From++58::numS x.To,fmtExpr x.Expr,true):=by
  have:fmtAtom x=(numS x.From++58::numS x.To)++32::fmtExpr x.Expr:=by unfold fmtAtom;simp
  rw [this]
  refine cut1_at fun hmem=>?_
  rcases List.mem_append.1 hmem with g|g
  · exact numS_no (by decide) g
  rcases List.mem_cons.1 g with g|g
  · exact absurd g (by decide)
  exact numS_no (by decide) g
 unfold atmI
 rw [e]
 simp only
 rw [cut1_at (numS_no (by decide))]
 simp only
 rw [parseI_numS (by omega),parseI_numS (by omega),parseX_fmt hx2.2]
theorem join_no {c:UInt8} {sep:List UInt8} (hs:c∉sep):∀ (xs:List (List UInt8)),(∀ x∈xs,c∉x)→c∉joinL sep xs:=by
 intro xs
 cases xs with
 | nil=>intro _;simp [joinL_nil]
 | cons x r=>
  intro h hm
  unfold joinL at hm
  rw [Lib.join_cons] at hm
  rcases List.mem_append.1 hm with g|g
  · exact h x (by simp) g
  unfold Lib.joinTail at g
  simp only [List.mem_flatten,List.mem_map] at g
  obtain⟨y,⟨z,hz,rfl⟩,hy⟩:=g
  rcases List.mem_append.1 hy with g|g
  · exact hs g
  exact h z (by simp [hz]) g
theorem fmtExpr_no {e:TExpr}:(59:UInt8)∉fmtExpr e:=by
 unfold fmtExpr
 split
 · rename_i h
   have hv:=valid_toks h
   refine join_no (by decide) _ fun x hx=>?_
   obtain⟨t,ht,rfl⟩:=List.mem_map.1 hx
   exact (tokS_no (hv.2 t ht)).2.1
 simp
theorem atom_no {q:TConjunction} (h:validConj q=true) {x:TPathAtom} (hx:x∈q.Atoms):(59:UInt8)∉fmtAtom x:=by
 unfold fmtAtom
 simp only [List.mem_append,List.mem_singleton,not_or]
 exact⟨⟨⟨⟨numS_no (by decide),by decide⟩,numS_no (by decide)⟩,by decide⟩,fmtExpr_no⟩
theorem conj_ne {q:TConjunction} (h:validConj q=true):q.Atoms≠[]:=by
 unfold validConj inB at h
 simp only [Bool.and_eq_true,decide_eq_true_eq] at h
 intro e
 rw [e] at h
 simp at h
theorem split_conj {q:TConjunction} (h:validConj q=true):splitL 59 (fmtConj q)=q.Atoms.map fmtAtom:=by
 unfold fmtConj
 rw [if_pos h]
 refine split_joinL _ (fun hn=>conj_ne h (List.map_eq_nil_iff.1 hn)) fun x hx=>?_
 obtain⟨t,ht,rfl⟩:=List.mem_map.1 hx
 exact atom_no h ht
theorem cj_read {at_:List UInt8→TPathAtom} {q:TConjunction} (h:validConj q=true) (ha:∀ x∈q.Atoms,at_ (fmtAtom x)=x):(splitL 59 (fmtConj q)).map at_=q.Atoms:=by
 rw [split_conj h,List.map_map]
 conv=>rhs;rw [←List.map_id q.Atoms]
 exact List.map_congr_left fun x hx=>ha x hx
theorem fmtConj_valid {q:TConjunction} (h:fmtConj q≠[]):validConj q=true:=by
 unfold fmtConj at h
 split at h
 · assumption
 exact absurd rfl h
theorem parseC_fmt {q:TConjunction} (h:validConj q=true) (hs:fmtConj q≠[]):parseC (fmtConj q)=(q,true):=by
 unfold parseC
 rw [cj_read h fun x hx=>atmI_fmt h hx,cj_valid h,if_pos ⟨rfl,hs⟩]
theorem parseC_no {s:List UInt8} (h:∀ q,validConj q=true→s≠[]→fmtConj q≠s):parseC s=(noC,false):=by
 unfold parseC
 rw [if_neg]
 rintro⟨h1,h2⟩
 exact h _ (fmtConj_valid (by rw [h1];exact h2)) h2 h1
theorem parseC_impl {s:List UInt8} (hs:s≠[]):parseC s=if 4<vcOf ((splitL 59 s).map atmI)∨fmtConj (cjOf ((splitL 59 s).map atmI))≠s then (noC,false) else (cjOf ((splitL 59 s).map atmI),true):=by
 unfold parseC
 by_cases h:fmtConj (cjOf ((splitL 59 s).map atmI))=s
 · have hv:=fmtConj_valid (q:=cjOf ((splitL 59 s).map atmI)) (by rw [h];exact hs)
   have h4:=(conj_mem hv).2.1.2
   rw [if_pos ⟨h,hs⟩,if_neg]
   rintro (g|g)
   · unfold cjOf at h4;simp only at h4;omega
   exact g h
 rw [if_neg fun g=>h g.1,if_pos (.inr h)]
theorem parseC_nil:parseC []=(noC,false):=parseC_no fun _ _ h=>absurd rfl h
end Go.Q
