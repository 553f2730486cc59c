import Derived.Test.YtdhojcaoljhbiaaGreatDoorB80xk
import Derived.Shelf.Strings.SplitShaped
import Derived.Shelf.Strings.Shaped
import Derived.Shelf.Strings.Prefix
import Derived.Shelf.Small.Strs
set_option linter.unusedVariables false
set_option linter.unusedSimpArgs false
set_option maxHeartbeats 1000000
set_option maxRecDepth 100000
namespace Go.Q
open Go.D
end Go.Q
namespace Go.Proofs.YtdhojcaoljhbiaaGreatDoor
open Go.RowKit Go.Q Go.D
theorem implpairSet' (L:List (List T)) (l:List TPair) (hL:L=l.map cPair) (hz:l.length≤4294967296):FnT Tryz.prog 233 [.one (.sl 2 L)] (.a (.one (.sl 2 ((setG pless l).map cPair)))):=by
 subst hL;exact implpairSet l hz
theorem implMergePairs (a b:List TPair) (hz:a.length+b.length≤1073741824):FnT Tryz.prog 184 [.one (.sl 2 (a.map cPair)),.one (.sl 2 (b.map cPair))] (.a (.one (.sl 2 ((pmerge a b).map cPair)))):=by
 refine Ay Tryz.func184 U (by kernel_rfl) Tryz.ntmps184 U fun hlen w0=>?_
 try simp [cPair,cToken,cExpr,cPathAtom,cConjunction] at hlen
 refine Ae (Ak ?_);refine By (i:=4) 20001 2 U U ?_;refine Aa (Ae (A6 (Ce 5 U U U Tryz.underlying89 Cj U) U ?_));refine Ab ?_;refine Bu (B7 U U U (.tm U) U (.tm U) (by exact .t) (by exact isV_map (fun _=>rfl) _) Tryz.underlying89 Du U (by (simp [chunk];omega)) (by (unfold maxLen;simp [chunk];omega))) U ?_;refine Bt (As [0,1,4,7] [20001,5]) ?_;refine Ab ?_;refine Bu (B7 U U U (.tm U) U (.tm U) (by exact .t) (by exact isV_map (fun _=>rfl) _) Tryz.underlying89 Du U (by (simp [chunk];omega)) (by (unfold maxLen;simp [chunk];omega))) U ?_;refine Bt (As [0,1,4,9] [20001,5]) ?_;refine B8 (Cd 1000 (implpairSet' ([]++a.map cPair++b.map cPair) (a++b) (by simp) (by simp;omega)) U U U (.cons (.tm U) U .nil) U U) U ?_;refine Ah ?_;refine Aa (Al (Res.one U (.tmp U .nil) U ?_))
 rfl
theorem specMergePairs (a b:List TPair) (hz:a.length+b.length≤1073741824):FnT Tryz.prog 102 [.one (.sl 2 (a.map cPair)),.one (.sl 2 (b.map cPair))] (.a (.one (.sl 2 ((pmerge a b).map cPair)))):=by
 refine Ay Tryz.func102 U (by kernel_rfl) Tryz.ntmps102 U fun hlen w0=>?_
 try simp [cPair,cToken,cExpr,cPathAtom,cConjunction] at hlen
 refine Ae (Ak ?_);refine By (i:=4) 20001 2 U U ?_;refine Aa (Ae (A6 (Ce 8 U U U Tryz.underlying89 Cj U) U ?_));refine Ah ?_;refine Aa (Ac (Ae (Ak ?_)));refine Aa (AW.block (Bj (fun (k:Nat)=>(k≤a.length)∧True) (fun (k:Nat)=>⟨_,[(6,(true,.a (.one (.t (.v (.int .i64 (k:Nat))))))),(5,(true,.a (.one (.rf 8)))),(0,_),(1,_),(4,_)],[(8,.row 2 ((setG pless (a.take k)).map cPair))]⟩) (fun (k:Nat)=>a.length-k) (0) ⟨Nat.zero_le _,Y⟩ Bm ?_))
 rintro k ⟨hk,he⟩
 refine Ac (Ae (Ab ?_));refine Ab ?_;refine Bc (.t) Tryz.underlying89 ?_;refine AWl.lt ?_;refine Aa (Ai (.tm U) (fun h12=>?_) (fun h12=>?_))
 · try simp at h12
   obtain⟨x,hx⟩:∃ ξ,a[k]?=some ξ:=⟨_,List.getElem?_eq_getElem (by omega)⟩
   refine Aj (Ac (AW.block (Ad (Ab ?_))));refine Ab ?_;refine Ab ?_;refine Ag (An U (.no U) U (.tm U) (.tm U) Tryz.underlying89 Cj (fun _=>⟨by omega,(by exact Ao hx)⟩)) U ?_;refine Aq Cj ?_;apply Cu
   case ho=>
    apply Da (xo:=.tmp 15) 8 (specl15Put (setG pless (a.take k)) x (Nat.le_trans (setG_len _) (by simp;omega))) rfl rfl rfl (.tm rfl)
    case ha=>rfl
    case hargs=>exact (ArgC.own (ArgRd.agg (.tm rfl) .nil))
    all_goals rfl
   case hd=>rfl
   refine Ah ?_;refine Aa (Am (As [0,1,4,5,6] [8]) ?_);refine Ad (Ab ?_);refine A8 ?_;refine Ah ?_;refine Aa ?_
   repeat (with_reducible refine Au ?_)
   refine Round1.next (k+1) ⟨by omega,Y⟩ (by omega) (Ar rfl ⟨rfl,rfl,rfl,rfl,rfl,Y⟩ ⟨(by refine congrArg (fun r=>some (R.row 2 r)) ?_;first|(simp [take_at hx,setG,List.foldl_append];done)|(simp [take_at hy,setG,List.foldl_append];done)),Y⟩)
 try simp at h12
 refine Ba (Ac (Ac (Am (σ':=⟨_,[(0,_),(1,_),(4,_),(5,_),(6,_)],[(8,.row 2 ((setG pless (a++b.take 0)).map cPair))]⟩) (Ar U ⟨U,U,U,U,U,Y⟩ ⟨by refine congrArg (fun r=>some (R.row 2 r)) ?_;rw [List.take_of_length_le (by omega)];simp,Y⟩) ?_)));refine Ad (Ak ?_);refine Aa (AW.block (Bj (fun (k2:Nat)=>(k2≤b.length)∧True) (fun (k2:Nat)=>⟨_,[(7,(true,.a (.one (.t (.v (.int .i64 (k2:Nat))))))),(5,(true,.a (.one (.rf 8)))),(1,_),(4,_)],[(8,.row 2 ((setG pless (a++b.take k2)).map cPair))]⟩) (fun (k2:Nat)=>b.length-k2) (0) ⟨Nat.zero_le _,Y⟩ Bm ?_))
 rintro k2 ⟨hk1,he1⟩
 refine Ac (Ae (Ab ?_));refine Ab ?_;refine Bc (.t) Tryz.underlying89 ?_;refine AWl.lt ?_;refine Aa (Ai (.tm U) (fun h24=>?_) (fun h24=>?_))
 · try simp at h24
   obtain⟨y,hy⟩:∃ ξ,b[k2]?=some ξ:=⟨_,List.getElem?_eq_getElem (by omega)⟩
   refine Aj (Ac (AW.block (Ad (Ab ?_))));refine Ab ?_;refine Ab ?_;refine Ag (An U (.no U) U (.tm U) (.tm U) Tryz.underlying89 Cj (fun _=>⟨by omega,(by exact Ao hy)⟩)) U ?_;refine Aq Cj ?_;apply Cu
   case ho=>
    apply Da (xo:=.tmp 27) 8 (specl15Put (setG pless (a++b.take k2)) y (Nat.le_trans (setG_len _) (by simp;omega))) rfl rfl rfl (.tm rfl)
    case ha=>rfl
    case hargs=>exact (ArgC.own (ArgRd.agg (.tm rfl) .nil))
    all_goals rfl
   case hd=>rfl
   refine Ah ?_;refine Aa (Am (As [1,4,5,7] [8]) ?_);refine Ad (Ab ?_);refine A8 ?_;refine Ah ?_;refine Aa ?_
   repeat (with_reducible refine Au ?_)
   refine Round1.next (k2+1) ⟨by omega,Y⟩ (by omega) (Ar rfl ⟨rfl,rfl,rfl,rfl,Y⟩ ⟨(by refine congrArg (fun r=>some (R.row 2 r)) ?_;first|(simp [take_at hx,setG,List.foldl_append];done)|(simp [take_at hy,setG,List.foldl_append];done)),Y⟩)
 try simp at h24
 refine Ba (Ae (Ab ?_));refine Ah ?_;refine Aa (Al (Res.one U (.tmp U .nil) U ?_))
 unfold pmerge;rw [List.take_of_length_le (by omega)];rfl
end Go.Proofs.YtdhojcaoljhbiaaGreatDoor
set_option maxHeartbeats 1000000
set_option maxRecDepth 100000
namespace Go.Proofs.YtdhojcaoljhbiaaGreatDoor
open Go.RowKit Go.Q Go.D
theorem implFormatInt (n:Int) (h0:0≤n) (h1:n<100):FnT Tryz.prog 60 [.one (.v (.int .i64 n))] (.a (.one (.v (.string (bs (numS n)))))):=by
 refine Ay Tryz.func60 U (by kernel_rfl) Tryz.ntmps60 U fun hlen w0=>?_
 try simp [cPair,cToken,cExpr,cPathAtom,cConjunction] at hlen
 refine Ae (Ak ?_);refine Aa (Ae (Ab ?_));refine Bl (strconvItoa n h0 h1) ?_;refine Ah ?_;refine Aa (Al (Bb U U ?_))
 rfl
theorem specFormatInt (n:Int) (h0:0≤n) (h1:n<100):FnT Tryz.prog 121 [.one (.v (.int .i64 n))] (.a (.one (.v (.string (bs (numS n)))))):=by
 obtain⟨n0,rfl⟩:=Int.eq_ofNat_of_zero_le h0
 refine Ay Tryz.func121 U (by kernel_rfl) Tryz.ntmps121 U fun hlen w0=>?_
 try simp [cPair,cToken,cExpr,cPathAtom,cConjunction] at hlen
 have hn0:n0<100:=by omega
 refine Ae (Ak ?_);refine Aa (Ac (Ae (Ab ?_)));refine Br ?_;refine Aa (Ai (.tm U) (fun h7=>?_) (fun h7=>?_))
 · try simp at h7
   refine Ae (Ak ?_);refine Aa (Al (Bb U U ?_))
   (have e:n0=0:=(by omega);subst e;unfold numS;rw [dig_small (by simp)];rfl)
 try simp at h7
 refine Aj (Ae (Ak ?_));refine Aa (Ae (Ab ?_));refine AWl.lc ?_;refine Ah ?_;refine Aa (Ac (AW.block (Dz (fun (m:Nat) (O:ByteArray)=>(m<100∧O.size+2*m≤1000)∧bs (restD n0)=bs (restD m)++O) (fun (m:Nat) (O:ByteArray)=>⟨_,[(0,(true,.a (.one (.t (.v (.int .i64 (m:Nat))))))),(3,(true,.a (.one (.t (.v (.string O)))))),(2,_),(4,_)],[]⟩) (fun (m:Nat) (O:ByteArray)=>m) (n0) (⟨#[]⟩) ⟨⟨by omega,by simp [ByteArray.size];omega⟩,(by rw [show (⟨#[]⟩:ByteArray)=bs [] from U,bs_append,List.append_nil])⟩ (Ar U ⟨U,U,U,U,Y⟩ trivial) ?_)))
 rintro m O ⟨hk,he⟩
 refine Ac (Ae (Ab ?_));refine AWl.nc ?_;refine Aa (Ai (.tm U) (fun h11=>?_) (fun h11=>?_))
 · try simp at h11
   have hm0:m≠0:=by (first|omega|(simp at h11;omega))
   refine Aj (AW.block (Ae (Ab ?_)));refine Ag (R_rem U (.no U) U (.tm U) (.const U) (fun _=>by omega)) U ?_;refine Ah ?_;refine Aa (Ac (Ae (Ab ?_)));refine AWl.lc ?_;refine Aa (Ai (.tm U) (fun h15=>?_) (fun h15=>?_))
   · exact absurd h15 (by (first|omega|(simp at h15;omega)))
   try simp at h15
   refine Aj (Ac (Am (As [0,2,3,4,5] []) ?_));refine Ad (Ab ?_);refine Ag (R_add U (.no U) U (.const U) (.tm U) (fun _=>by omega)) U ?_;refine Ag (R_conv U (.no U) U (.tm U) (by rw [Tryz.underlying3];rfl) Tryz.underlying5 (fun _=>(show IntKind.u8.wrap _=(48+(m:Int)%10) by simp [IntKind.wrap,IntKind.bits];omega))) U ?_;refine Ag (Di (xs:=[.tmp 20]) (rows:=[[.v (.int .u8 (48+(m:Int)%10))]]) U U U (.cons (.tm U) U U .nil) Tryz.underlying22 in5 U U (U)) U ?_;refine Ag (R_byteStr U (.no U) U (.tm U) Tryz.underlying22 Tryz.underlying5 Tryz.underlying9) U ?_;refine Ab ?_;refine Ag (R_cat U (.no U) U (.tm U) (.tm U) (fun _=>by have:(⟨#[UInt8.ofNat ((48+(m:Int)%10)).toNat]⟩:ByteArray).size=1:=U;omega)) U ?_;refine Ah ?_;refine Aa (Am (As [0,2,3,4,5] []) ?_);refine Ad (Ab ?_);refine Ag (R_quo U (.no U) U (.tm U) (.const U) (fun _=>by omega)) U ?_;refine Ah ?_;refine Aa ?_
   repeat (with_reducible refine Au ?_)
   refine Round2.next (m / 10) (((ByteArray.mk #[UInt8.ofNat ((48+(m:Int)%10)).toNat])++O)) ⟨⟨by omega,(by rw [ByteArray.size_append];have:(⟨#[UInt8.ofNat ((48+(m:Int)%10)).toNat]⟩:ByteArray).size=1:=rfl;omega)⟩,(by rw [he,restD_step (by omega),←bs_append,show (48+(m:Int)%10).toNat=48+m%10 by omega];rw [ByteArray.append_assoc];rfl)⟩ (by omega) (Ar rfl ⟨rfl,rfl,rfl,rfl,Y⟩ trivial)
 try simp at h11
 refine Ba (Ac (Ae (Ab ?_)));refine Aa (Ai (.tm U) (fun h27=>?_) (fun h27=>?_))
 · exact absurd h27 (by simp)
 try simp at h27
 refine Aj (Ae (Ab ?_));refine Ah ?_;refine Aa (Al (Bb U U ?_))
 (have e:m=0:=(by omega);have e0:n0≠0:=(by omega);rw [e] at he;unfold restD at he;rw [if_neg e0,if_pos rfl] at he;unfold numS;rw [Int.toNat_natCast,he,bs_nil_append])
theorem implFormatLetter (k:Int) (h0:0≤k) (h8:k≤8):FnT Tryz.prog 143 [.one (.v (.int .i64 k))] (.a (.one (.v (.string (bs (letS k)))))):=by
 refine Ay Tryz.func143 U (by kernel_rfl) Tryz.ntmps143 U fun hlen w0=>?_
 try simp [cPair,cToken,cExpr,cPathAtom,cConjunction] at hlen
 have hl:inB k 0 8=true:=by unfold inB;simp;omega
 refine Ae (Ak ?_);refine Aa (Ac (Ae (Ab ?_)));refine Bl (implisLetter k) ?_;refine C1 ?_;refine Aa (Ai (.tm U) (fun h5=>?_) (fun h5=>?_))
 · exact absurd h5 (by simp [hl] at h5)
 try simp at h5
 refine Aj (Ae (Ag (Di (xs:=[.const (.string ⟨#[97]⟩),.const (.string ⟨#[97,45]⟩),.const (.string ⟨#[98]⟩),.const (.string ⟨#[98,45]⟩),.const (.string ⟨#[99]⟩),.const (.string ⟨#[99,45]⟩),.const (.string ⟨#[48]⟩),.const (.string ⟨#[49]⟩),.const (.string ⟨#[50]⟩)]) (rows:=letNames.map cStr) U U U (.cons (.const U) U U (.cons (.const U) U U (.cons (.const U) U U (.cons (.const U) U U (.cons (.const U) U U (.cons (.const U) U U (.cons (.const U) U U (.cons (.const U) U U (.cons (.const U) U U .nil))))))))) Tryz.underlying102 in9 U U (U)) U ?_));refine Ab ?_;refine Ag (An U (.no U) U (.tm U) (.tm U) Tryz.underlying102 ty9 (fun _=>⟨by omega,(letS_get h0 h8)⟩)) U ?_;refine Aq ty9 ?_;refine Ah ?_;refine Aa (Al (Bb U U ?_))
 rfl
theorem specFormatLetter (k:Int) (h0:0≤k) (h8:k≤8):FnT Tryz.prog 216 [.one (.v (.int .i64 k))] (.a (.one (.v (.string (bs (letS k)))))):=by
 refine Ay Tryz.func216 U (by kernel_rfl) Tryz.ntmps216 U fun hlen w0=>?_
 try simp [cPair,cToken,cExpr,cPathAtom,cConjunction] at hlen
 have hl:inB k 0 8=true:=by unfold inB;simp;omega
 refine Ae (Ak ?_);refine Aa (Ac (Ae (Ab ?_)));refine Bl (specl2Letter k) ?_;refine C1 ?_;refine Aa (Ai (.tm U) (fun h5=>?_) (fun h5=>?_))
 · exact absurd h5 (by simp [hl] at h5)
 try simp at h5
 refine Aj (Ae (Ag (Di (xs:=[.const (.string ⟨#[97]⟩),.const (.string ⟨#[97,45]⟩),.const (.string ⟨#[98]⟩),.const (.string ⟨#[98,45]⟩),.const (.string ⟨#[99]⟩),.const (.string ⟨#[99,45]⟩),.const (.string ⟨#[48]⟩),.const (.string ⟨#[49]⟩),.const (.string ⟨#[50]⟩)]) (rows:=letNames.map cStr) U U U (.cons (.const U) U U (.cons (.const U) U U (.cons (.const U) U U (.cons (.const U) U U (.cons (.const U) U U (.cons (.const U) U U (.cons (.const U) U U (.cons (.const U) U U (.cons (.const U) U U .nil))))))))) Tryz.underlying102 in9 U U (U)) U ?_));refine Ab ?_;refine Ag (An U (.no U) U (.tm U) (.tm U) Tryz.underlying102 ty9 (fun _=>⟨by omega,(letS_get h0 h8)⟩)) U ?_;refine Aq ty9 ?_;refine Ah ?_;refine Aa (Al (Bb U U ?_))
 rfl
end Go.Proofs.YtdhojcaoljhbiaaGreatDoor
set_option maxHeartbeats 1000000
set_option maxRecDepth 100000
namespace Go.Q
open Go.RowKit
theorem V0s_vs {o:Bool} {w:World}:∀ (xs:List Value),xs.all Value.oneCell'=true→V0s o w (xs.map fun x=>.one (.v x)) xs []
 | [],_=>⟨rfl,rfl⟩
 | x::xs,h=>by
  rw [List.all_cons,Bool.and_eq_true] at h
  exact⟨x,xs,[],[],rfl,by unfold V0r C;exact⟨rfl,rfl,h.1⟩,V0s_vs xs h.2,rfl⟩
end Go.Q
namespace Go.Proofs.YtdhojcaoljhbiaaGreatDoor
open Go.RowKit Go.Q Go.D Go.Shelf
def Tryz.laysM171_ren:Go.Shelf.Ren:=⟨fun|171=>105|243=>142|246=>189|283=>235|284=>236|285=>237|286=>238|129=>163|317=>256|318=>257|319=>258|320=>259|337=>268|338=>269|n=>n,fun|3=>3|9=>9|2=>2|4=>4|171=>253|0=>0|53=>197|37=>22|5=>5|173=>255|212=>275|51=>195|20=>20|213=>276|46=>158|232=>295|233=>296|n=>n,fun|17=>3|18=>6|19=>7|n=>n⟩
theorem Tryz.laysM171:Go.Proofs.LaysM.n171 Tryz.prog Tryz.laysM171_ren:={
 mixed:=by kernel_rfl
 f129:=Tryz.func163.trans (congrArg some (by kernel_rfl))
 f171:=Tryz.func105.trans (congrArg some (by kernel_rfl))
 f243:=Tryz.func142.trans (congrArg some (by kernel_rfl))
 f246:=Tryz.func189.trans (congrArg some (by kernel_rfl))
 f283:=Tryz.func235.trans (congrArg some (by kernel_rfl))
 f284:=Tryz.func236.trans (congrArg some (by kernel_rfl))
 f285:=Tryz.func237.trans (congrArg some (by kernel_rfl))
 f286:=Tryz.func238.trans (congrArg some (by kernel_rfl))
 f317:=Tryz.func256.trans (congrArg some (by kernel_rfl))
 f318:=Tryz.func257.trans (congrArg some (by kernel_rfl))
 f319:=Tryz.func258.trans (congrArg some (by kernel_rfl))
 f320:=Tryz.func259.trans (congrArg some (by kernel_rfl))
 f337:=Tryz.func268.trans (congrArg some (by kernel_rfl))
 f338:=Tryz.func269.trans (congrArg some (by kernel_rfl))
 t0:=Tryz.underlying0
 a0:=Tryz.isAgg0
 z0:=Tryz.sizeOf0
 v0:=Tryz.zeroValue0
 t2:=Tryz.underlying2
 a2:=Tryz.isAgg2
 z2:=Tryz.sizeOf2
 v2:=Tryz.zeroValue2
 t3:=Tryz.underlying3
 a3:=Tryz.isAgg3
 z3:=Tryz.sizeOf3
 v3:=Tryz.zeroValue3
 t4:=Tryz.underlying4
 a4:=Tryz.isAgg4
 z4:=Tryz.sizeOf4
 v4:=Tryz.zeroValue4
 t5:=Tryz.underlying5
 a5:=Tryz.isAgg5
 z5:=Tryz.sizeOf5
 v5:=Tryz.zeroValue5
 t9:=Tryz.underlying9
 a9:=Tryz.isAgg9
 z9:=Tryz.sizeOf9
 v9:=Tryz.zeroValue9
 t20:=Tryz.underlying20
 a20:=Tryz.isAgg20
 z20:=Tryz.sizeOf20
 v20:=Tryz.zeroValue20
 t37:=Tryz.underlying22
 a37:=Tryz.isAgg22
 z37:=Tryz.sizeOf22
 v37:=Tryz.zeroValue22
 t46:=Tryz.underlying158
 a46:=Tryz.isAgg158
 z46:=Tryz.sizeOf158
 v46:=Tryz.zeroValue158
 t51:=Tryz.underlying195
 a51:=Tryz.isAgg195
 z51:=Tryz.sizeOf195
 v51:=Tryz.zeroValue195
 t53:=Tryz.underlying197
 a53:=Tryz.isAgg197
 z53:=Tryz.sizeOf197
 v53:=Tryz.zeroValue197
 t171:=Tryz.underlying253
 a171:=Tryz.isAgg253
 z171:=Tryz.sizeOf253
 v171:=Tryz.zeroValue253
 t173:=Tryz.underlying255
 a173:=Tryz.isAgg255
 z173:=Tryz.sizeOf255
 v173:=Tryz.zeroValue255
 t212:=Tryz.underlying275
 a212:=Tryz.isAgg275
 z212:=Tryz.sizeOf275
 v212:=Tryz.zeroValue275
 t213:=Tryz.underlying276
 a213:=Tryz.isAgg276
 z213:=Tryz.sizeOf276
 t232:=Tryz.underlying295
 a232:=Tryz.isAgg295
 z232:=Tryz.sizeOf295
 v232:=Tryz.zeroValue295
 t233:=Tryz.underlying296
 a233:=Tryz.isAgg296
 z233:=Tryz.sizeOf296
 v233:=Tryz.zeroValue296
 g17:=by kernel_rfl
 g18:=by kernel_rfl
 g19:=by kernel_rfl
 i0:=by kernel_rfl
 i2:=by kernel_rfl
 i3:=by kernel_rfl
 i4:=by kernel_rfl
 i5:=by kernel_rfl
 i9:=by kernel_rfl
 i20:=by kernel_rfl
 i37:=by kernel_rfl
 i46:=by kernel_rfl
 i51:=by kernel_rfl
 i53:=by kernel_rfl
 i171:=by kernel_rfl
 i173:=by kernel_rfl
 i212:=by kernel_rfl
 i232:=by kernel_rfl
 i233:=by kernel_rfl
 m17:=by kernel_rfl
 m18:=by kernel_rfl
 m19:=by kernel_rfl }
theorem strconvItoaA (n:Int) (h0:-9223372036854775808≤n) (h1:n≤9223372036854775807):FnT Tryz.prog 105 [.one (.v (.int .i64 n))] (.a (.one (.v (.string (bs (itoS n)))))):=by
 refine⟨⟨_,Tryz.func105,by kernel_rfl,by kernel_rfl⟩,fun w vs F hG hv=>?_⟩
 obtain⟨v1,vr,G1,G2,rfl,g1,⟨rfl,rfl⟩,rfl⟩:=hv
 simp only [V0r,C] at g1
 obtain⟨rfl,rfl,_⟩:=g1
 have htab:Lib.TabIs Tryz.prog w "internal/strconv.uint64pow10" .u64 Lib.pow10Tab:=by
  obtain⟨w0,⟨_,h2,_⟩,h3⟩:=hG.ex
  have hg:Tryz.prog.globalNamed "internal/strconv.uint64pow10"=some ((Tryz.prog.globalNamed "internal/strconv.uint64pow10").getD 0):=by kernel_rfl
  have hl:(Tryz.prog.globalNamed "internal/strconv.uint64pow10").getD 0<Tryz.prog.low:=Nat.lt_trans (of_decide_eq_true (by kernel_rfl)) low_lt
  unfold Lib.TabIs World.var? at h2 ⊢
  rw [hg] at h2 ⊢
  simp only [Option.bind_some] at h2 ⊢
  rw [h3 _ hl];exact h2
 have hcon:=Any.strconv_Itoa Tryz.laysM171 n h0 h1 w htab
 change Calls Tryz.prog 105 _ _ _ at hcon
 refine hcon.mono ?_
 rintro e w' ⟨rfl,k,os,rfl⟩
 refine⟨_,[],rfl,?_,List.nodup_nil,by simp,⟨rfl,rfl,rfl,(by show w.heap.size≤(w.heap++os).size;rw [Array.size_append];omega),fun j hj=>(by show (w.heap++os)[j]?=w.heap[j]?;exact Array.getElem?_append_left hj)⟩⟩
 simp [Vr,V0r,C]
 exact⟨rfl,rfl⟩
def Tryz.laysM146_ren:Go.Shelf.Ren:=⟨fun|146=>63|221=>110|268=>146|138=>147|143=>148|195=>193|197=>194|218=>195|219=>149|260=>239|217=>169|225=>196|224=>197|267=>198|266=>217|314=>240|n=>n,fun|9=>9|31=>102|3=>3|4=>4|0=>0|105=>217|21=>21|5=>5|46=>158|119=>277|139=>280|138=>279|146=>257|51=>195|n=>n,fun|1=>0|3=>4|4=>5|n=>n⟩
theorem Tryz.laysM146:Go.Proofs.LaysM.n146 Tryz.prog Tryz.laysM146_ren:={
 mixed:=by kernel_rfl
 f138:=Tryz.func147.trans (congrArg some (by kernel_rfl))
 f143:=Tryz.func148.trans (congrArg some (by kernel_rfl))
 f146:=Tryz.func63.trans (congrArg some (by kernel_rfl))
 f195:=Tryz.func193.trans (congrArg some (by kernel_rfl))
 f197:=Tryz.func194.trans (congrArg some (by kernel_rfl))
 f217:=Tryz.func169.trans (congrArg some (by kernel_rfl))
 f218:=Tryz.func195.trans (congrArg some (by kernel_rfl))
 f219:=Tryz.func149.trans (congrArg some (by kernel_rfl))
 f221:=Tryz.func110.trans (congrArg some (by kernel_rfl))
 f224:=Tryz.func197.trans (congrArg some (by kernel_rfl))
 f225:=Tryz.func196.trans (congrArg some (by kernel_rfl))
 f260:=Tryz.func239.trans (congrArg some (by kernel_rfl))
 f266:=Tryz.func217.trans (congrArg some (by kernel_rfl))
 f267:=Tryz.func198.trans (congrArg some (by kernel_rfl))
 f268:=Tryz.func146.trans (congrArg some (by kernel_rfl))
 f314:=Tryz.func240.trans (congrArg some (by kernel_rfl))
 t0:=Tryz.underlying0
 a0:=Tryz.isAgg0
 z0:=Tryz.sizeOf0
 v0:=Tryz.zeroValue0
 t3:=Tryz.underlying3
 a3:=Tryz.isAgg3
 z3:=Tryz.sizeOf3
 v3:=Tryz.zeroValue3
 t4:=Tryz.underlying4
 a4:=Tryz.isAgg4
 z4:=Tryz.sizeOf4
 v4:=Tryz.zeroValue4
 t5:=Tryz.underlying5
 a5:=Tryz.isAgg5
 z5:=Tryz.sizeOf5
 v5:=Tryz.zeroValue5
 t9:=Tryz.underlying9
 a9:=Tryz.isAgg9
 z9:=Tryz.sizeOf9
 v9:=Tryz.zeroValue9
 t21:=Tryz.underlying21
 a21:=Tryz.isAgg21
 z21:=Tryz.sizeOf21
 v21:=Tryz.zeroValue21
 t31:=Tryz.underlying102
 a31:=Tryz.isAgg102
 z31:=Tryz.sizeOf102
 v31:=Tryz.zeroValue102
 t46:=Tryz.underlying158
 a46:=Tryz.isAgg158
 z46:=Tryz.sizeOf158
 v46:=Tryz.zeroValue158
 t51:=Tryz.underlying195
 a51:=Tryz.isAgg195
 z51:=Tryz.sizeOf195
 v51:=Tryz.zeroValue195
 t105:=Tryz.underlying217
 a105:=Tryz.isAgg217
 z105:=Tryz.sizeOf217
 v105:=Tryz.zeroValue217
 t119:=Tryz.underlying277
 a119:=Tryz.isAgg277
 z119:=Tryz.sizeOf277
 t138:=Tryz.underlying279
 a138:=Tryz.isAgg279
 z138:=Tryz.sizeOf279
 v138:=Tryz.zeroValue279
 t139:=Tryz.underlying280
 a139:=Tryz.isAgg280
 z139:=Tryz.sizeOf280
 v139:=Tryz.zeroValue280
 t146:=Tryz.underlying257
 a146:=Tryz.isAgg257
 z146:=Tryz.sizeOf257
 v146:=Tryz.zeroValue257
 g1:=by kernel_rfl
 g3:=by kernel_rfl
 g4:=by kernel_rfl
 i0:=by kernel_rfl
 i3:=by kernel_rfl
 i4:=by kernel_rfl
 i5:=by kernel_rfl
 i9:=by kernel_rfl
 i21:=by kernel_rfl
 i31:=by kernel_rfl
 i46:=by kernel_rfl
 i51:=by kernel_rfl
 i105:=by kernel_rfl
 i138:=by kernel_rfl
 i139:=by kernel_rfl
 i146:=by kernel_rfl
 m1:=by kernel_rfl
 s1_3:=fun w h=>Go.Proofs.cell_of_shapedOpen_int (zero:=#[.int .i64 0]) (t:=3) h (of_decide_eq_true (by kernel_rfl)) (by kernel_rfl) rfl (by kernel_rfl) (by kernel_rfl) Tryz.underlying3
 m3:=by kernel_rfl
 m4:=by kernel_rfl }
theorem stringsSplit (s:ByteArray) (c:UInt8) (hs:s.size<4294967281):FnT Tryz.prog 63 [.one (.v (.string s)),.one (.v (.string (bs [c])))] (.a (.one (.sl 1 ((splitL c s.data.toList).map cStr)))):=by
 refine⟨⟨_,Tryz.func63,by kernel_rfl,by kernel_rfl⟩,fun w vs F hG hv=>?_⟩
 obtain⟨v1,vr,G1,G2,rfl,g1,⟨v2,vr2,G3,G4,rfl,g2,⟨rfl,rfl⟩,rfl⟩,rfl⟩:=hv
 simp only [V0r,C] at g1 g2
 obtain⟨rfl,rfl,_⟩:=g1
 obtain⟨rfl,rfl,_⟩:=g2
 have hgl:Tryz.laysM146_ren.g 1<Tryz.prog.low:=Nat.lt_trans (of_decide_eq_true (by kernel_rfl)) low_lt
 obtain⟨m,hm⟩:∃ m,w.cell? ⟨Tryz.laysM146_ren.g 1,0,none⟩=some (.int .i64 m):=by
  obtain⟨w0,⟨h2,_⟩,h3⟩:=hG.ex
  obtain⟨m,hm⟩:=Tryz.laysM146.s1_3 w0 h2
  exact⟨m,(World.cell?_of_block (a:=⟨Tryz.laysM146_ren.g 1,0,none⟩) (h3 _ hgl)).trans hm⟩
 have hcon:=Any.strings_Split { Tryz.laysM146 with } Tryz.laysM146.i9 s (bs [c]) m w hs hm (by rw [bs_size];simp)
 change Calls Tryz.prog 63 _ _ _ at hcon
 have hcnt:Lib.countB s (bs [c])=s.data.toList.count c:=by
  have e:Lib.countB s (bs [c])=Lib.count s.data.toList (bs [c]).data.toList:=rfl
  rw [e,bs_list,Lib.count_one]
 rw [hcnt,split_eq c _ s rfl] at hcon
 have hlen:=splitL_len c s.data.toList
 have hle:s.data.toList.count c≤s.size:=by
  have:=List.count_le_length (a:=c) (l:=s.data.toList)
  rw [Array.length_toList] at this;exact this
 refine hcon.mono ?_
 rintro e w' ⟨rfl,rfl⟩
 have hb:(w.alloc (.cells (((splitL c s.data.toList).map bs).map Value.string).toArray (Tryz.laysM146_ren.t 9))).heap[w.heap.size]?=some (.cells (((splitL c s.data.toList).map bs).map Value.string).toArray (Tryz.laysM146_ren.t 9)):=by
  show (w.heap.push _)[w.heap.size]?=_
  rw [Array.getElem?_push,if_pos rfl]
 have key:∀ (xs pre:List (List UInt8)) (all:List Value) (W:World) (e:TypeId),W.heap[w.heap.size]?=some (.cells all.toArray e)→all=(pre++xs).map (fun x=>Value.string (bs x))→Rws true W w.heap.size 1 pre.length (xs.map cStr) []:=by
  intro xs
  induction xs with
  | nil=>intro pre all W e h1 h2;simp only [List.map_nil,Rws]
  | cons x xs ih=>
   intro pre all W e h1 h2
   have:=ih (pre++[x]) all W e h1 (by rw [h2];simp)
   rw [List.length_append,List.length_singleton] at this
   rw [List.map_cons]
   unfold Rws
   refine⟨[],[],rfl,?_,this,rfl⟩
   unfold cStr Ms
   refine⟨_,[],[],?_,by unfold C;exact⟨rfl,rfl,rfl⟩,by unfold Ms;rfl,rfl⟩
   simp [World.cell?,h1,h2]
 refine⟨_,[w.heap.size],rfl,?_,by simp,fun b hb'=>?_,Below.alloc (Below.refl _ _) (Nat.le_refl _) _⟩
 · show C true _ (.sl 1 _) _ _
   unfold C
   refine⟨_,_,_,rfl,by rw [List.length_map,hlen],Nat.le_refl _,by (show _≤maxLen);(unfold maxLen);omega,.inr ⟨_,0,[],rfl,rfl,?_,fun _=>⟨rfl,_,_,hb,by simp [hlen]⟩,?_⟩⟩
   · show w.heap.size<(w.heap.push _).size
     simp
   exact key _ [] _ _ _ hb (by simp)
 rw [List.mem_singleton] at hb'
 subst hb'
 refine⟨Nat.le_refl _,?_⟩
 exact⟨.inl _,_,hb⟩
def Tryz.laysM145_ren:Go.Shelf.Ren:=⟨fun|145=>64|220=>111|219=>149|217=>169|225=>196|224=>197|267=>198|266=>217|314=>240|n=>n,fun|9=>9|4=>4|59=>107|3=>3|5=>5|46=>158|146=>257|51=>195|n=>n,fun|1=>0|n=>n⟩
theorem Tryz.laysM145:Go.Proofs.LaysM.n145 Tryz.prog Tryz.laysM145_ren:={
 mixed:=by kernel_rfl
 f145:=Tryz.func64.trans (congrArg some (by kernel_rfl))
 f217:=Tryz.func169.trans (congrArg some (by kernel_rfl))
 f219:=Tryz.func149.trans (congrArg some (by kernel_rfl))
 f220:=Tryz.func111.trans (congrArg some (by kernel_rfl))
 f224:=Tryz.func197.trans (congrArg some (by kernel_rfl))
 f225:=Tryz.func196.trans (congrArg some (by kernel_rfl))
 f266:=Tryz.func217.trans (congrArg some (by kernel_rfl))
 f267:=Tryz.func198.trans (congrArg some (by kernel_rfl))
 f314:=Tryz.func240.trans (congrArg some (by kernel_rfl))
 t3:=Tryz.underlying3
 a3:=Tryz.isAgg3
 z3:=Tryz.sizeOf3
 v3:=Tryz.zeroValue3
 t4:=Tryz.underlying4
 a4:=Tryz.isAgg4
 z4:=Tryz.sizeOf4
 v4:=Tryz.zeroValue4
 t5:=Tryz.underlying5
 a5:=Tryz.isAgg5
 z5:=Tryz.sizeOf5
 v5:=Tryz.zeroValue5
 t9:=Tryz.underlying9
 a9:=Tryz.isAgg9
 z9:=Tryz.sizeOf9
 v9:=Tryz.zeroValue9
 t46:=Tryz.underlying158
 a46:=Tryz.isAgg158
 z46:=Tryz.sizeOf158
 v46:=Tryz.zeroValue158
 t51:=Tryz.underlying195
 a51:=Tryz.isAgg195
 z51:=Tryz.sizeOf195
 v51:=Tryz.zeroValue195
 t59:=Tryz.underlying107
 a59:=Tryz.isAgg107
 z59:=Tryz.sizeOf107
 v59:=Tryz.zeroValue107
 t146:=Tryz.underlying257
 a146:=Tryz.isAgg257
 z146:=Tryz.sizeOf257
 v146:=Tryz.zeroValue257
 g1:=by kernel_rfl
 i3:=by kernel_rfl
 i4:=by kernel_rfl
 i5:=by kernel_rfl
 i9:=by kernel_rfl
 i46:=by kernel_rfl
 i51:=by kernel_rfl
 i59:=by kernel_rfl
 i146:=by kernel_rfl
 m1:=by kernel_rfl
 s1_3:=fun w h=>Go.Proofs.cell_of_shapedOpen_int (zero:=#[.int .i64 0]) (t:=3) h (of_decide_eq_true (by kernel_rfl)) (by kernel_rfl) rfl (by kernel_rfl) (by kernel_rfl) Tryz.underlying3 }
theorem stringsCut (s:ByteArray) (sep:List UInt8) (hs:s.size<4294967281):FnT Tryz.prog 64 [.one (.v (.string s)),.one (.v (.string (bs sep)))] (.tup [.one (.v (.string (bs (Lib.cut s.data.toList sep).1))),.one (.v (.string (bs (Lib.cut s.data.toList sep).2.1))),.one (.v (.bool (Lib.cut s.data.toList sep).2.2))]):=by
 refine⟨⟨_,Tryz.func64,by kernel_rfl,by kernel_rfl⟩,fun w vs F hG hv=>?_⟩
 obtain⟨v1,vr,G1,G2,rfl,g1,⟨v2,vr2,G3,G4,rfl,g2,⟨rfl,rfl⟩,rfl⟩,rfl⟩:=hv
 simp only [V0r,C] at g1 g2
 obtain⟨rfl,rfl,_⟩:=g1
 obtain⟨rfl,rfl,_⟩:=g2
 have hgl:Tryz.laysM145_ren.g 1<Tryz.prog.low:=Nat.lt_trans (of_decide_eq_true (by kernel_rfl)) low_lt
 obtain⟨m,hm⟩:∃ m,w.cell? ⟨Tryz.laysM145_ren.g 1,0,none⟩=some (.int .i64 m):=by
  obtain⟨w0,⟨h2,_⟩,h3⟩:=hG.ex
  obtain⟨m,hm⟩:=Tryz.laysM145.s1_3 w0 h2
  exact⟨m,(World.cell?_of_block (a:=⟨Tryz.laysM145_ren.g 1,0,none⟩) (h3 _ hgl)).trans hm⟩
 have hcon:=Any.strings_Cut { Tryz.laysM145 with } s (bs sep) m w hs hm
 change Calls Tryz.prog 64 _ _ _ at hcon
 rw [bs_list] at hcon
 refine hcon.mono ?_
 rintro e w' ⟨rfl,n,rfl⟩
 refine⟨_,[],rfl,?_,List.nodup_nil,by simp,⟨rfl,rfl,rfl,Nat.le_refl _,fun _ _=>rfl⟩⟩
 exact⟨_,rfl,V0s_vs [.string (bs (Lib.cut s.data.toList sep).1),.string (bs (Lib.cut s.data.toList sep).2.1),.bool (Lib.cut s.data.toList sep).2.2] rfl⟩
def Tryz.lays137_ren:Go.Shelf.Ren:=⟨fun|137=>124|217=>169|266=>217|n=>n,fun|9=>9|5=>5|3=>3|n=>n,fun|n=>n⟩
theorem Tryz.lays137:Go.Proofs.Lays.n137 Tryz.prog Tryz.lays137_ren:={
 mixed:=by kernel_rfl
 f137:=Tryz.func124.trans (congrArg some (by kernel_rfl))
 f217:=Tryz.func169.trans (congrArg some (by kernel_rfl))
 f266:=Tryz.func217.trans (congrArg some (by kernel_rfl))
 t3:=Tryz.underlying3
 a3:=Tryz.isAgg3
 z3:=Tryz.sizeOf3
 v3:=Tryz.zeroValue3
 t5:=Tryz.underlying5
 a5:=Tryz.isAgg5
 z5:=Tryz.sizeOf5
 v5:=Tryz.zeroValue5
 t9:=Tryz.underlying9
 a9:=Tryz.isAgg9
 z9:=Tryz.sizeOf9
 v9:=Tryz.zeroValue9 }
end Go.Proofs.YtdhojcaoljhbiaaGreatDoor
set_option maxHeartbeats 1000000
set_option maxRecDepth 100000
namespace Go.Proofs.YtdhojcaoljhbiaaGreatDoor
open Go.RowKit Go.Q Go.D
theorem specl2Cut (l:List UInt8) (c:UInt8) (hz:l.length≤1073741824):FnT Tryz.prog 129 [.one (.v (.string (bs l))),.one (.v (.int .u8 c.toNat))] (.a (.one (.sl 1 ((splitL c l).map cStr)))):=by
 refine Ay Tryz.func129 U (by kernel_rfl) Tryz.ntmps129 U fun hlen w0=>?_
 try simp [cPair,cToken,cExpr,cPathAtom,cConjunction] at hlen
 have hsz:=bs_size l
 refine Ae (Ak ?_);refine By (i:=4) 20001 1 U U ?_;refine Aa (Ae (A6 (Ce 8 U U U Tryz.underlying102 ty9 U) U ?_));refine Ah ?_;refine Aa (Ae (Ak ?_));refine Aa (Ac (Ae (Ak ?_)));refine Aa (AW.block (AW.loop3 (fun (i:Nat) (F:Nat) (O:List (List UInt8))=>(F≤i∧i≤l.length∧c∉(l.take i).drop F∧O.length≤i)∧splitL c l=O++splitL c (l.drop F)) (fun (i:Nat) (F:Nat) (O:List (List UInt8))=>⟨_,[(6,(true,.a (.one (.t (.v (.int .i64 F)))))),(7,(true,.a (.one (.t (.v (.int .i64 i)))))),(5,(true,.a (.one (.rf 8)))),(0,_),(1,_),(4,_)],[(8,.row 1 (O.map cStr))]⟩) (fun (i:Nat) (F:Nat) (O:List (List UInt8))=>l.length-i) (0) (0) ([]) ⟨⟨by omega,by omega,by simp,by simp⟩,(by simp)⟩ Bm ?_))
 rintro i F O ⟨hk,he⟩
 refine Ac (Ae (Ab ?_));refine Ab ?_;refine Ag (R_len_s U (.no U) U (.tm U) Tryz.underlying9) U ?_;refine AWl.lt ?_;refine Aa (Ai (.tm U) (fun h12=>?_) (fun h12=>?_))
 · try simp at h12
   obtain⟨b,hb⟩:∃ ξ,l[i]?=some ξ:=⟨_,List.getElem?_eq_getElem (by omega)⟩
   refine Aj (Ac (AW.block (Ae (Ab ?_))));refine Ab ?_;refine Ag (R_strIndex U (.no U) U (.tm U) (.tm U) Tryz.underlying9 (fun _=>⟨by omega,(by rw [bs_get];exact hb)⟩)) U ?_;refine Ab ?_;refine AWl.eq ?_;refine Aa (Ai (.tm U) (fun h19=>?_) (fun h19=>?_))
   · try simp at h19
     refine Ac (Am (As [0,1,4,5,6,7] [8]) ?_);refine Ad (Ab ?_);refine Ab ?_;refine Ab ?_;refine Ab ?_;refine Ag (R_strSlice (n:=F) (m:=i) U (.no U) U (.tm U) (.yes (.tm U) (fun _=>by first|omega|(simp<;>omega))) (.yes (.tm U) (fun _=>by first|omega|(simp<;>omega))) Tryz.underlying9 (fun _=>⟨by omega,by first|omega|(simp;omega)⟩)) U ?_;refine Bh (Ch (xs:=[.tmp 24]) 25 U U U (.cons (.tm U) U U .nil) Tryz.underlying102 in9 U U U U) U ?_;refine Bu (B7 U U U (.tm U) U (.tm U) (by exact .rf U) (by rfl) Tryz.underlying102 in9 U (by (simp [chunk];omega)) (by (unfold maxLen;simp [chunk];omega))) U ?_;refine Bt (As [0,1,4,5,6,7,26] [8,25]) ?_;refine Ah ?_;refine Aa (Ad (Ab ?_));refine A8 ?_;refine Ah ?_;refine Aa (Ad (Ab ?_));refine A8 ?_;refine Ah ?_;refine Aa ?_
     repeat (with_reducible refine Au ?_)
     refine Round3.next (i+1) (i+1) (O++[(l.take i).drop F]) ⟨⟨by omega,by omega,(by simp),(by rw [List.length_append,List.length_singleton];omega)⟩,(cut_step hb hk (UInt8.toNat_inj.1 (by omega)) he)⟩ (by omega) (Ar rfl ⟨rfl,rfl,rfl,rfl,rfl,rfl,Y⟩ ⟨(by refine congrArg (fun r=>some (R.row 1 r)) ?_;simp [chunk,cStr,bs_extract];done),Y⟩)
   try simp at h19
   refine Aj (Am (As [0,1,4,5,6,7] [8]) ?_);refine Ad (Ab ?_);refine A8 ?_;refine Ah ?_;refine Aa ?_
   repeat (with_reducible refine Au ?_)
   refine Round3.next (i+1) (F) (O) ⟨⟨by omega,by omega,cut_keep hb hk (fun e=>h19 (by rw [e])),by omega⟩,he⟩ (by omega) (Ar rfl ⟨rfl,rfl,rfl,rfl,rfl,rfl,Y⟩ ⟨(by refine congrArg (fun r=>some (R.row 1 r)) ?_;simp [chunk,cStr,bs_extract];done),Y⟩)
 try simp at h12
 refine Ba (Ae (Ab ?_));refine Ab ?_;refine Ab ?_;refine Ag (R_strSlice (n:=F) U (.no U) U (.tm U) (.yes (.tm U) (fun _=>by first|omega|(simp<;>omega))) .no Tryz.underlying9 (fun _=>⟨by omega,by first|omega|(simp;omega)⟩)) U ?_;refine Bh (Ch (xs:=[.tmp 32]) 33 U U U (.cons (.tm U) U U .nil) Tryz.underlying102 in9 U U U U) U ?_;refine Bu (B7 U U U (.tm U) U (.tm U) (by exact .rf U) (by rfl) Tryz.underlying102 in9 U (by (simp [chunk];omega)) (by (unfold maxLen;simp [chunk];omega))) U ?_;refine Bt (As [0,1,4,5,6,7,12,34] [8,33]) ?_;refine Ah ?_;refine Aa (Al (Res.one U (.tmp U .nil) U ?_))
 (have hi:i=l.length:=(by omega);subst hi;rw [he,splitL_no (by rw [List.take_of_length_le (Nat.le_refl _)] at hk;exact hk.2.2.1)];refine congrArg (fun r=>[V0.one (T.sl 1 r)]) ?_;simp [chunk,cStr,bs_extract,hsz];done)
end Go.Proofs.YtdhojcaoljhbiaaGreatDoor
set_option maxHeartbeats 1000000
set_option maxRecDepth 100000
namespace Go.Q
open Go.D
end Go.Q
namespace Go.Proofs.YtdhojcaoljhbiaaGreatDoor
open Go.RowKit Go.Q Go.D
theorem impltokenText (t:TToken) (h:0≤arity t):FnT Tryz.prog 106 [.agg (cToken t)] (.a (.one (.v (.string (bs (tokS t)))))):=by
 refine Ay Tryz.func106 U (by kernel_rfl) Tryz.ntmps106 U fun hlen w0=>?_
 try simp [cPair,cToken,cExpr,cPathAtom,cConjunction] at hlen
 skip
 have e1:(⟨#[123]⟩:ByteArray).size=1:=rfl
 have e2:(⟨#[44]⟩:ByteArray).size=1:=rfl
 have e3:(⟨#[125]⟩:ByteArray).size=1:=rfl
 refine Ae (Ag (B9 U U U (.tm U) (ts:=_) (by rfl)) U ?_);refine Ak ?_;refine Aa (Ac (Ae (A7 fl137_0 ?_)));refine Aq ty3 ?_;refine Aa (AW.block (Ae (Br ?_)));refine Ah ?_;refine Aa (Ai (.tm U) (fun h5=>?_) (fun h5=>?_))
 · try simp at h5
   refine Ae (Ak ?_);refine Aa (Al (Bb U U ?_))
   (unfold tokS;rw [if_pos h5];rfl)
 try simp at h5
 refine Ae (Br ?_);refine Ah ?_;refine Aa (Ai (.tm U) (fun h7=>?_) (fun h7=>?_))
 · try simp at h7
   refine Ae (Ak ?_);refine Aa (Al (Bb U U ?_))
   (unfold tokS;rw [if_neg h5,if_pos h7];rfl)
 try simp at h7
 refine Ae (Br ?_);refine Ah ?_;refine Aa (Ai (.tm U) (fun h9=>?_) (fun h9=>?_))
 · try simp at h9
   refine Ac (Am (As [0,1,2,4] []) ?_);refine Ad (A7 Dv ?_);refine Aq ty3 ?_;refine Bl (implFormatLetter t.Letter (tok_let h h9).1 (tok_let h h9).2) ?_;refine Ah ?_;refine Aa (Al (Bb U U ?_))
   (unfold tokS;rw [if_neg h5,if_neg h7,if_pos h9])
 try simp at h9
 refine Ac (Am (As [0,1,2,4] []) ?_);refine Ad (Br ?_);refine Ah ?_;refine Aa (Ai (.tm U) (fun h14=>?_) (fun h14=>?_))
 · try simp at h14
   refine Ae (Ak ?_);refine Aa (Al (Bb U U ?_))
   (unfold tokS;rw [if_neg h5,if_neg h7,if_neg h9,if_pos h14];rfl)
 try simp at h14
 refine Ae (Br ?_);refine Ah ?_;refine Aa (Ai (.tm U) (fun h16=>?_) (fun h16=>?_))
 · try simp at h16
   refine Ae (Ak ?_);refine Aa (Al (Bb U U ?_))
   (unfold tokS;rw [if_neg h5,if_neg h7,if_neg h9,if_neg h14,if_pos h16];rfl)
 try simp at h16
 refine Ae (Br ?_);refine Ah ?_;refine Aa (Ai (.tm U) (fun h18=>?_) (fun h18=>?_))
 · try simp at h18
   refine Ac (Am (As [0,1,2,4] []) ?_);refine Ad (Ak ?_);refine Aa (Al (Bb U U ?_))
   (unfold tokS;rw [if_neg h5,if_neg h7,if_neg h9,if_neg h14,if_neg h16,if_pos h18];rfl)
 try simp at h18
 have hr:=tok_rep h h5 h7 h9 h14 h16 h18
 have s1:=numS_len (n:=t.Low) (by omega)
 have s2:=numS_len (n:=t.High) (by omega)
 refine Aj (Ac (Am (As [0,1,2,4] []) ?_));refine Bq 11 (nthB [[],[0],[0,1],[0,1,2],[0,1,2,3],[],[5],[0,1,2,5,6],[0,1,2,3,4,5,6,7],[0,1,2,3,4,5,6,7,8],[0,1,2,3,4,5,6,7,8,9]]) (by kernel_rfl) (by kernel_rfl) (by kernel_rfl) ?_;refine Cb Dp ?_;refine A5 ty3 ?_;refine DrawC.s (fun _ hs=>A3 (FnT.fr (implFormatInt t.Low (by omega) (by omega))) U (.no U) (Af hs U) (.cons (hs.tm U) (readA_sup hs U) .nil)) ?_;refine DrawC.s (fun _ hs=>R_cat U (.no U) (Af hs U) (.const U) (hs.tm U) (fun _=>by simp only [ByteArray.size_append,bs_size];omega)) ?_;refine DrawC.s (fun _ hs=>R_cat U (.no U) (Af hs U) (hs.tm U) (.const U) (fun _=>by simp only [ByteArray.size_append,bs_size];omega)) ?_;refine Cb Df ?_;refine A5 ty3 ?_;refine DrawC.s (fun _ hs=>A3 (FnT.fr (implFormatInt t.High (by omega) (by omega))) U (.no U) (Af hs U) (.cons (hs.tm U) (readA_sup hs U) .nil)) ?_
 refine DrawC.s (fun _ hs=>R_cat U (.no U) (Af hs U) (hs.tm U) (hs.tm U) (fun _=>by simp only [ByteArray.size_append,bs_size];omega)) ?_;refine DrawC.s (fun _ hs=>R_cat U (.no U) (Af hs U) (hs.tm U) (.const U) (fun _=>by simp only [ByteArray.size_append,bs_size];omega)) ?_;refine DrawC.s (fun _ hs=>C0 U (.no U) (Af hs U) (hs.tm U)) ?_;refine Bi U U ?_;refine Aa (Al (Bb U U ?_))
 (unfold tokS;rw [if_neg h5,if_neg h7,if_neg h9,if_neg h14,if_neg h16,if_neg h18,show (⟨#[123]⟩:ByteArray)=bs [123] from rfl,show (⟨#[44]⟩:ByteArray)=bs [44] from rfl,show (⟨#[125]⟩:ByteArray)=bs [125] from rfl];simp only [bs_append])
theorem specl8Token (t:TToken) (h:0≤arity t):FnT Tryz.prog 265 [.agg (cToken t)] (.a (.one (.v (.string (bs (tokS t)))))):=by
 refine Ay Tryz.func265 U (by kernel_rfl) Tryz.ntmps265 U fun hlen w0=>?_
 try simp [cPair,cToken,cExpr,cPathAtom,cConjunction] at hlen
 skip
 have e1:(⟨#[123]⟩:ByteArray).size=1:=rfl
 have e2:(⟨#[44]⟩:ByteArray).size=1:=rfl
 have e3:(⟨#[125]⟩:ByteArray).size=1:=rfl
 refine Ae (Ag (B9 U U U (.tm U) (ts:=_) (by rfl)) U ?_);refine Ak ?_;refine Aa (Ac (Ae (A7 fl137_0 ?_)));refine Aq ty3 ?_;refine Aa (AW.block (Ae (Br ?_)));refine Ah ?_;refine Aa (Ai (.tm U) (fun h5=>?_) (fun h5=>?_))
 · try simp at h5
   refine Ae (Ak ?_);refine Aa (Al (Bb U U ?_))
   (unfold tokS;rw [if_pos h5];rfl)
 try simp at h5
 refine Ae (Br ?_);refine Ah ?_;refine Aa (Ai (.tm U) (fun h7=>?_) (fun h7=>?_))
 · try simp at h7
   refine Ae (Ak ?_);refine Aa (Al (Bb U U ?_))
   (unfold tokS;rw [if_neg h5,if_pos h7];rfl)
 try simp at h7
 refine Ae (Br ?_);refine Ah ?_;refine Aa (Ai (.tm U) (fun h9=>?_) (fun h9=>?_))
 · try simp at h9
   refine Ac (Am (As [0,1,2,4] []) ?_);refine Ad (A7 Dv ?_);refine Aq ty3 ?_;refine Bl (specFormatLetter t.Letter (tok_let h h9).1 (tok_let h h9).2) ?_;refine Ah ?_;refine Aa (Al (Bb U U ?_))
   (unfold tokS;rw [if_neg h5,if_neg h7,if_pos h9])
 try simp at h9
 refine Ac (Am (As [0,1,2,4] []) ?_);refine Ad (Br ?_);refine Ah ?_;refine Aa (Ai (.tm U) (fun h14=>?_) (fun h14=>?_))
 · try simp at h14
   refine Ae (Ak ?_);refine Aa (Al (Bb U U ?_))
   (unfold tokS;rw [if_neg h5,if_neg h7,if_neg h9,if_pos h14];rfl)
 try simp at h14
 refine Ae (Br ?_);refine Ah ?_;refine Aa (Ai (.tm U) (fun h16=>?_) (fun h16=>?_))
 · try simp at h16
   refine Ae (Ak ?_);refine Aa (Al (Bb U U ?_))
   (unfold tokS;rw [if_neg h5,if_neg h7,if_neg h9,if_neg h14,if_pos h16];rfl)
 try simp at h16
 refine Ae (Br ?_);refine Ah ?_;refine Aa (Ai (.tm U) (fun h18=>?_) (fun h18=>?_))
 · try simp at h18
   refine Ac (Am (As [0,1,2,4] []) ?_);refine Ad (Ak ?_);refine Aa (Al (Bb U U ?_))
   (unfold tokS;rw [if_neg h5,if_neg h7,if_neg h9,if_neg h14,if_neg h16,if_pos h18];rfl)
 try simp at h18
 have hr:=tok_rep h h5 h7 h9 h14 h16 h18
 have s1:=numS_len (n:=t.Low) (by omega)
 have s2:=numS_len (n:=t.High) (by omega)
 refine Aj (Ac (Am (As [0,1,2,4] []) ?_));refine Bq 11 (nthB [[],[0],[0,1],[0,1,2],[0,1,2,3],[],[5],[0,1,2,5,6],[0,1,2,3,4,5,6,7],[0,1,2,3,4,5,6,7,8],[0,1,2,3,4,5,6,7,8,9]]) (by kernel_rfl) (by kernel_rfl) (by kernel_rfl) ?_;refine Cb Dp ?_;refine A5 ty3 ?_;refine DrawC.s (fun _ hs=>A3 (FnT.fr (specFormatInt t.Low (by omega) (by omega))) U (.no U) (Af hs U) (.cons (hs.tm U) (readA_sup hs U) .nil)) ?_;refine DrawC.s (fun _ hs=>R_cat U (.no U) (Af hs U) (.const U) (hs.tm U) (fun _=>by simp only [ByteArray.size_append,bs_size];omega)) ?_;refine DrawC.s (fun _ hs=>R_cat U (.no U) (Af hs U) (hs.tm U) (.const U) (fun _=>by simp only [ByteArray.size_append,bs_size];omega)) ?_;refine Cb Df ?_;refine A5 ty3 ?_;refine DrawC.s (fun _ hs=>A3 (FnT.fr (specFormatInt t.High (by omega) (by omega))) U (.no U) (Af hs U) (.cons (hs.tm U) (readA_sup hs U) .nil)) ?_
 refine DrawC.s (fun _ hs=>R_cat U (.no U) (Af hs U) (hs.tm U) (hs.tm U) (fun _=>by simp only [ByteArray.size_append,bs_size];omega)) ?_;refine DrawC.s (fun _ hs=>R_cat U (.no U) (Af hs U) (hs.tm U) (.const U) (fun _=>by simp only [ByteArray.size_append,bs_size];omega)) ?_;refine DrawC.s (fun _ hs=>C0 U (.no U) (Af hs U) (hs.tm U)) ?_;refine Bi U U ?_;refine Aa (Al (Bb U U ?_))
 (unfold tokS;rw [if_neg h5,if_neg h7,if_neg h9,if_neg h14,if_neg h16,if_neg h18,show (⟨#[123]⟩:ByteArray)=bs [123] from rfl,show (⟨#[44]⟩:ByteArray)=bs [44] from rfl,show (⟨#[125]⟩:ByteArray)=bs [125] from rfl];simp only [bs_append])
theorem implFormatExpr (e:TExpr):FnT Tryz.prog 61 [.agg (cExpr e)] (.a (.one (.v (.string (bs (fmtExpr e)))))):=by
 refine Ay Tryz.func61 U (by kernel_rfl) Tryz.ntmps61 U fun hlen w0=>?_
 try simp [cPair,cToken,cExpr,cPathAtom,cConjunction] at hlen
 skip
 refine Ae (Ag (B9 U U U (.tm U) (ts:=_) (by rfl)) U ?_);refine Ak ?_;refine Aa (Ac (Ae (Aq Ci ?_)));refine Bl (implIsValidExpr e) ?_;refine C1 ?_;refine Aa (Ai (.tm U) (fun h8=>?_) (fun h8=>?_))
 · try simp at h8
   refine Ae (Ak ?_);refine Aa (Al (Bb U U ?_))
   (unfold fmtExpr;rw [if_neg (by simpa using h8)];rfl)
 try simp at h8
 have hv:isValidExpr e=true:=by simpa using h8
 have hvt:=valid_toks hv
 refine Aj (Ae (A6 (Ce 9 U U U Tryz.underlying102 ty9 U) U ?_));refine Ah ?_;refine Aa (Ac (Ae (A7 Cr ?_)));refine Aq Dq ?_;refine Bc (.t) Tryz.underlying91 ?_;refine Ag (Az U (.no U) U (.const U)) U ?_;refine Aa (AW.block (Bj (fun (k:Nat)=>(k≤e.Tokens.length)∧True) (fun (k:Nat)=>⟨_,[(13,(true,.a (.one (.t (.v (.int .i64 (k:Nat))))))),(3,(true,.a (.one (.rf 9)))),(2,_),(11,_),(12,_)],[(9,.row 1 (((e.Tokens.take k).map tokS).map cStr))]⟩) (fun (k:Nat)=>e.Tokens.length-k) (0) ⟨Nat.zero_le _,Y⟩ Bm ?_))
 rintro k ⟨hk,he⟩
 refine Ae (AWl.lt ?_);refine Aa (Ac (Ai (.tm U) (fun h14=>?_) (fun h14=>?_)))
 · try simp at h14
   obtain⟨t,ht⟩:∃ ξ,e.Tokens[k]?=some ξ:=⟨_,List.getElem?_eq_getElem (by omega)⟩
   refine Aj (Ac (AW.block (Ae (Ag (An U (.no U) U (.tm U) (.tm U) Tryz.underlying91 Cg (fun _=>⟨by omega,(Ao ht)⟩)) U ?_))));refine Aq Cg ?_;refine A6 (Bo 5 U U U Ck U U U) U ?_;refine A4 Cg ?_;refine Aa (Ad (Ab ?_));refine Bp Cg ?_;refine Bl (impltokenText t (hvt.2 t (List.mem_of_getElem? ht))) ?_;refine Ag (Di (xs:=[.tmp 19]) (rows:=[[.v (.string (bs (tokS t)))]]) U U U (.cons (.tm U) U U .nil) Tryz.underlying102 in9 U U (U)) U ?_;refine Bu (B7 U U U (.tm U) U (.tm U) (by exact .t) (by rfl) Tryz.underlying102 in9 U (by (simp [chunk];omega)) (by (unfold maxLen;simp [chunk];omega))) U ?_;refine Bt (As [2,3,5,11,12,13,14,21] [9,5]) ?_;refine Ah ?_;refine Aa (Ad (A8 ?_));refine Ab ?_;refine Aa ?_
   repeat (with_reducible refine Au ?_)
   refine Round1.next (k+1) ⟨by omega,Y⟩ (by omega) (Ar rfl ⟨rfl,rfl,rfl,rfl,rfl,Y⟩ ⟨(by refine congrArg (fun r=>some (R.row 1 r)) ?_;rw [take_at ht];simp [chunk,cStr];done),Y⟩)
 try simp at h14
 refine Ba (Ac (Am (σ':=⟨_,[(2,_),(3,_),(11,_),(12,_),(13,_)],[(9,.row 1 ((e.Tokens.map tokS).map cStr))]⟩) (Ar U ⟨U,U,U,U,U,Y⟩ ⟨by rw [List.take_of_length_le (l:=e.Tokens) (by omega)];rfl,Y⟩) ?_));refine Ad (Ab ?_);refine Ag (A3 (FnT.fr (stringsJoin (e.Tokens.map tokS) [32] (by have:=joinL_len (sep:=[32]) (b:=8) (f:=tokS) (l:=e.Tokens) fun t ht=>tokS_len (hvt.2 t ht);simp at this;omega) (by rw [List.length_map];omega))) U (.no U) U (.cons (.tm U) U (.cons (.const U) U .nil))) U ?_;refine Ah ?_;refine Aa (Al (Bb U U ?_))
 (unfold fmtExpr;rw [if_pos hv])
theorem implFormatConjunction (q:TConjunction):FnT Tryz.prog 20 [.agg (cConjunction q)] (.a (.one (.v (.string (bs (fmtConj q)))))):=by
 refine Ay Tryz.func20 U (by kernel_rfl) Tryz.ntmps20 U fun hlen w0=>?_
 try simp [cPair,cToken,cExpr,cPathAtom,cConjunction] at hlen
 have e1:(⟨#[58]⟩:ByteArray).size=1:=rfl
 have e2:(⟨#[32]⟩:ByteArray).size=1:=rfl
 refine Ae (Ag (B9 U U U (.tm U) (ts:=_) (by rfl)) U ?_);refine Ak ?_;refine Aa (Ac (Ae (Aq Cc ?_)));refine Bl (implIsValidConjunction q) ?_;refine C1 ?_;refine Aa (Ai (.tm U) (fun h8=>?_) (fun h8=>?_))
 · try simp at h8
   refine Ae (Ak ?_);refine Aa (Al (Bb U U ?_))
   (unfold fmtConj;rw [if_neg (by simpa using h8)];rfl)
 try simp at h8
 have hv:validConj q=true:=by simpa using h8
 have hvt:=conj_mem hv
 refine Aj (Ae (A6 (Ce 9 U U U Tryz.underlying102 ty9 U) U ?_));refine Ah ?_;refine Aa (Ac (Ae (A7 Cl ?_)));refine Aq Dl ?_;refine Bc (.t) Tryz.underlying38 ?_;refine Ag (Az U (.no U) U (.const U)) U ?_;refine Aa (AW.block (Bj (fun (k:Nat)=>(k≤q.Atoms.length)∧True) (fun (k:Nat)=>⟨_,[(13,(true,.a (.one (.t (.v (.int .i64 (k:Nat))))))),(3,(true,.a (.one (.rf 9)))),(2,_),(11,_),(12,_)],[(9,.row 1 (((q.Atoms.take k).map fmtAtom).map cStr))]⟩) (fun (k:Nat)=>q.Atoms.length-k) (0) ⟨Nat.zero_le _,Y⟩ Bm ?_))
 rintro k ⟨hk,he⟩
 refine Ae (AWl.lt ?_);refine Aa (Ac (Ai (.tm U) (fun h14=>?_) (fun h14=>?_)))
 · try simp at h14
   obtain⟨x,hx⟩:∃ ξ,q.Atoms[k]?=some ξ:=⟨_,List.getElem?_eq_getElem (by omega)⟩
   have hxr:=hvt.2.2 x (List.mem_of_getElem? hx)
   have s1:=numS_len (n:=x.From) (by omega)
   have s2:=numS_len (n:=x.To) (by omega)
   have s3:=fmtExpr_len x.Expr
   refine Aj (Ac (AW.block (Ae (Ag (An U (.no U) U (.tm U) (.tm U) Tryz.underlying38 ty95 (fun _=>⟨by omega,(Ao hx)⟩)) U ?_))));refine Aq ty95 ?_;refine A6 (Bo 5 U U U in95 U U U) U ?_;refine A4 ty95 ?_;refine Aa (Bq 15 (nthB [[],[],[1],[1,2],[1,2,3],[],[5],[1,2,3,5,6],[1,2,3,4,5,6,7],[1,2,3,4,5,6,7,8],[],[10],[1,2,3,5,6,7,10,11],[1,2,3,4,5,6,7,8,9,10,11,12],[1,2,3,4,5,6,7,8,9,10,11,12,13]]) (by kernel_rfl) (by kernel_rfl) (by kernel_rfl) ?_);refine Ap ?_;refine DrawC.s (fun _ hs=>(by exact Av U (.no U) (Af hs U) (hs.tm U) fl95_0)) ?_;refine DrawC.s (fun _ hs=>(by exact Ax U (.no U) (Af hs U) (hs.tm U) (hs.res _ _ U) ty3 U U)) ?_;refine DrawC.s (fun _ hs=>A3 (FnT.fr (implFormatInt x.From (by omega) (by omega))) U (.no U) (Af hs U) (.cons (hs.tm U) (readA_sup hs U) .nil)) ?_
   refine DrawC.s (fun _ hs=>R_cat U (.no U) (Af hs U) (hs.tm U) (.const U) (fun _=>by simp only [ByteArray.size_append,bs_size];omega)) ?_;refine DrawC.s (fun _ hs=>(by exact Av U (.no U) (Af hs U) (hs.tm U) fl95_1)) ?_;refine DrawC.s (fun _ hs=>(by exact Ax U (.no U) (Af hs U) (hs.tm U) (hs.res _ _ U) ty3 U U)) ?_;refine DrawC.s (fun _ hs=>A3 (FnT.fr (implFormatInt x.To (by omega) (by omega))) U (.no U) (Af hs U) (.cons (hs.tm U) (readA_sup hs U) .nil)) ?_;refine DrawC.s (fun _ hs=>R_cat U (.no U) (Af hs U) (hs.tm U) (hs.tm U) (fun _=>by simp only [ByteArray.size_append,bs_size];omega)) ?_;refine DrawC.s (fun _ hs=>R_cat U (.no U) (Af hs U) (hs.tm U) (.const U) (fun _=>by simp only [ByteArray.size_append,bs_size];omega)) ?_;refine DrawC.s (fun _ hs=>(by exact Av U (.no U) (Af hs U) (hs.tm U) fl95_2)) ?_
   refine DrawC.s (fun _ hs=>(by exact Ax U (.no U) (Af hs U) (hs.tm U) (hs.res _ _ U) Ci U U)) ?_;refine DrawC.s (fun _ hs=>A3 (FnT.fr (implFormatExpr x.Expr)) U (.no U) (Af hs U) (.cons (hs.tm U) (readA_sup hs U) .nil)) ?_;refine DrawC.s (fun _ hs=>R_cat U (.no U) (Af hs U) (hs.tm U) (hs.tm U) (fun _=>by simp only [ByteArray.size_append,bs_size];omega)) ?_;refine DrawC.s (fun _ hs=>Di (xs:=[.tmp 30]) (rows:=[[.v (.string ((((bs (numS x.From)++(ByteArray.mk #[58]))++bs (numS x.To))++(ByteArray.mk #[32]))++bs (fmtExpr x.Expr)))]]) U U (Af hs U) (.cons (hs.tm U) U U .nil) Tryz.underlying102 in9 U U (U)) ?_;refine Bi U U ?_;refine Bu (B7 U U U (.tm U) U (.tm U) (by exact .t) (by rfl) Tryz.underlying102 in9 U (by (simp [chunk];omega)) (by (unfold maxLen;simp [chunk];omega))) U ?_;refine Bt (As [2,3,5,11,12,13,14,32] [9,5]) ?_;refine Ah ?_;refine Aa (Ad (A8 ?_));refine Ab ?_;refine Aa ?_
   repeat (with_reducible refine Au ?_)
   refine Round1.next (k+1) ⟨by omega,Y⟩ (by omega) (Ar rfl ⟨rfl,rfl,rfl,rfl,rfl,Y⟩ ⟨(by refine congrArg (fun r=>some (R.row 1 r)) ?_;rw [take_at hx,show (⟨#[58]⟩:ByteArray)=bs [58] from rfl,show (⟨#[32]⟩:ByteArray)=bs [32] from rfl];simp [chunk,cStr,fmtAtom,bs_append];done),Y⟩)
 try simp at h14
 refine Ba (Ac (Am (σ':=⟨_,[(2,_),(3,_),(11,_),(12,_),(13,_)],[(9,.row 1 ((q.Atoms.map fmtAtom).map cStr))]⟩) (Ar U ⟨U,U,U,U,U,Y⟩ ⟨by rw [List.take_of_length_le (l:=q.Atoms) (by omega)];rfl,Y⟩) ?_));refine Ad (Ab ?_);refine Ag (A3 (FnT.fr (stringsJoin (q.Atoms.map fmtAtom) [59] (by have:=joinL_len (sep:=[59]) (b:=222) (f:=fmtAtom) (l:=q.Atoms) fun x hx=>fmtAtom_len (by have:=hvt.2.2 x hx;omega) (by have:=hvt.2.2 x hx;omega);simp at this;omega) (by rw [List.length_map];omega))) U (.no U) U (.cons (.tm U) U (.cons (.const U) U .nil))) U ?_;refine Ah ?_;refine Aa (Al (Bb U U ?_))
 (unfold fmtConj;rw [if_pos hv])
end Go.Proofs.YtdhojcaoljhbiaaGreatDoor
