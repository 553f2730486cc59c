import Derived.Test.YtdhojcaoljhbiaaGreatB163xs
import Derived.Test.YtdhojcaoljhbiaaGreatDraw3xs
import Derived.Test.YtdhojcaoljhbiaaGreatB98xs
import Derived.Test.YtdhojcaoljhbiaaGreatB31xs
set_option linter.unusedVariables false
set_option linter.unusedSimpArgs false
set_option maxRecDepth 100000
set_option maxHeartbeats 1000000
set_option maxRecDepth 100000
namespace Go.Q
open Go.RowKit Go.D
def knownL:List (List UInt8):=[[97],[97,32,98,32,46],[97,32,42],[97,32,98,32,124,32,42],[97,32,97,45,32,46],[97,32,42,32,98,32,46],[97,32,98,32,42,32,46,32,99,32,46],[97,32,97,32,124,32,42],[97,32,98,32,46,32,42],[48,32,97,32,46,32,42],[97,32,49,32,46,32,98,32,46],[97,32,123,48,44,50,125],[97,32,98,32,124,32,123,49,44,51,125],[40,41],[33],[97,45,32,42,32,97,32,46],[97,32,98,45,32,46,32,42,32,99,32,124],[97,32,42,32,97,32,42,32,46],[97,32,48,32,124,32,42,32,98,32,46],[97,32,97,32,46,32,42],[97,32,98,32,46,32,98,32,97,32,46,32,124,32,42]]
theorem known_len {s:List UInt8} (h:s∈knownL):s.length≤1073741824:=by
 have:∀ s∈knownL,s.length≤100:=by decide
 have:=this s h
 omega
def someE (e:TExpr):Bool:=decide (0<e.Tokens.length)&&decide (e.Tokens.length≤30)
theorem someE_iff {e:TExpr}:someE e=true↔0<e.Tokens.length∧e.Tokens.length≤30:=by unfold someE;simp
theorem known_ok {s:List UInt8} (h:s∈knownL):0<(parseX s).1.Tokens.length∧(parseX s).1.Tokens.length≤30:=by
 have:knownL.all (fun s=>someE (parseX s).1)=true:=by decide +kernel
 exact someE_iff.1 (List.all_eq_true.1 this s h)
theorem FnD.mono {P:Program} {f:FuncId} {ins:List V0} {τ:Type} {p q:τ→Prop} {out:τ→V} (h:FnD P f ins p out) (hq:∀ x,p x→q x):FnD P f ins q out:=
 ⟨h.1,fun w g vs F a b c d=>(h.2 w g vs F a b c d).mono fun e w' ⟨x,v,G,h1,h2,h3⟩=>⟨x,v,G,h1,hq x h2,h3⟩⟩
end Go.Q
namespace Go.Proofs.YtdhojcaoljhbiaaGreat
open Go.RowKit Go.Q Go.D
theorem specl1Pick (l:List (List UInt8)) (hl:0<l.length):FnD Tryz.prog 172 [.one (.sl 1 (l.map cStr))] (fun x:List UInt8=>x∈l) (fun x=>.a (.one (.v (.string (bs x))))):=by
 refine FnD.walk Tryz.func172 U (by kernel_rfl) Tryz.ntmps172 U (fun g=>rfl) fun w0 g=>?_
 refine Af (AWl.ac ?_);refine Aa (Af (Ab ?_));refine Ab ?_;refine Ab ?_;refine Br (.t) Tryz.underlying200 ?_;refine Bl (B8 900 (specl1Below _) U U U (.tm U) U U (.cons (.tm U) U .nil) (fun _=>rfl) (fun _=>rfl)) ?_
 rintro _ ⟨z9,hz9,rfl⟩
 try dsimp only at hz9
 refine Ac ((by exact An U (.no U) U (.tm U) (.tm U) Tryz.underlying200 ty9 (fun _=>⟨by simp at hz9;omega,Am (List.getElem?_eq_getElem (i:=z9.toNat) (show z9.toNat<l.length by simp at hz9;omega))⟩))) U ?_;refine Ak ty9 ?_;refine Ag ?_;refine Aa (Ai ?_);apply DRes.mk rfl
 case h=>
  refine A4 U (.tmp U .nil) U ?_
  rfl
 case hp=>exact List.getElem_mem _
theorem specl8Known:FnD Tryz.prog 135 [] (fun e:TExpr=>0<e.Tokens.length∧e.Tokens.length≤30) (fun e=>.a (.agg (cExpr e))):=by
 refine FnD.walk Tryz.func135 U (by kernel_rfl) Tryz.ntmps135 U (fun g=>rfl) fun w0 g=>?_
 refine Af (Aq (Au 2 U U U Ce U U U) U ?_);refine Aa (Af (Ab ?_))
 refine Bs (Cn (xs:=[.const (.string ⟨#[97]⟩),.const (.string ⟨#[97,32,98,32,46]⟩),.const (.string ⟨#[97,32,42]⟩),.const (.string ⟨#[97,32,98,32,124,32,42]⟩),.const (.string ⟨#[97,32,97,45,32,46]⟩),.const (.string ⟨#[97,32,42,32,98,32,46]⟩),.const (.string ⟨#[97,32,98,32,42,32,46,32,99,32,46]⟩),.const (.string ⟨#[97,32,97,32,124,32,42]⟩),.const (.string ⟨#[97,32,98,32,46,32,42]⟩),.const (.string ⟨#[48,32,97,32,46,32,42]⟩),.const (.string ⟨#[97,32,49,32,46,32,98,32,46]⟩),.const (.string ⟨#[97,32,123,48,44,50,125]⟩),.const (.string ⟨#[97,32,98,32,124,32,123,49,44,51,125]⟩),.const (.string ⟨#[40,41]⟩),.const (.string ⟨#[33]⟩),.const (.string ⟨#[97,45,32,42,32,97,32,46]⟩),.const (.string ⟨#[97,32,98,45,32,46,32,42,32,99,32,124]⟩),.const (.string ⟨#[97,32,42,32,97,32,42,32,46]⟩),.const (.string ⟨#[97,32,48,32,124,32,42,32,98,32,46]⟩),.const (.string ⟨#[97,32,97,32,46,32,42]⟩),.const (.string ⟨#[97,32,98,32,46,32,98,32,97,32,46,32,124,32,42]⟩)]) 7 U U U (.cons (.const U) U U (.cons (.const U) U U (.cons (.const U) U U (.cons (.const U) U U (.cons (.const U) U U (.cons (.const U) U U (.cons (.const U) U U (.cons (.const U) U U (.cons (.const U) U U (.cons (.const U) U U (.cons (.const U) U U (.cons (.const U) U U (.cons (.const U) U U (.cons (.const U) U U (.cons (.const U) U U (.cons (.const U) U U (.cons (.const U) U U (.cons (.const U) U U (.cons (.const U) U U (.cons (.const U) U U (.cons (.const U) U U .nil))))))))))))))))))))) Tryz.underlying200 in9 U U U U) U ?_
 refine Bl (B8 800 (specl1Pick knownL (by decide)) U U U (.tm U) U U (.cons (.tm U) U .nil) (fun _=>rfl) (fun _=>rfl)) ?_
 rintro _ ⟨z8,hz8,rfl⟩
 try dsimp only at hz8
 refine Bc (Bq 900 (specParseExpr z8 (known_len hz8)) U U U (.cons (.tm U) U .nil) U U) U ?_;refine Ac (Dd U (.no U) U U fun _=>rfl) U ?_;refine Ac (Bx U (.no U) U U (fun _=>rfl) U) U ?_;refine Ac (Bx U (.no U) U U (fun _=>rfl) U) U ?_;refine Aq (Au 3 U U U Ce U U U) U ?_;refine Ao Ar ?_;refine Bm (Ap [0,2,3,11] [888888,2,7,900,3]) ?_;refine Ag ?_;refine Aa (Af (A3 Ar ?_));refine Ao Ar ?_;refine Aa (Ai ?_);apply DRes.mk (x:=(parseX z8).1) rfl
 case h=>
  refine A4 U (.cell U U Ar U U .nil) U ?_
  rfl
 case hp=>exact known_ok hz8
theorem specLetterExpr (k:Int):FnT Tryz.prog 173 [.one (.v (.int .i64 k))] (.a (.agg (cExpr ⟨[⟨3,k,0,0⟩]⟩))):=by
 refine A6 Tryz.func173 U (by kernel_rfl) Tryz.ntmps173 U fun hlen w0=>?_
 try simp [cPair,cToken,cExpr,cEdge,cGraph,cStep,cWalk,cChange,cBatch,cHistory,cPositions,cAutomaton,cProductStep,cPathAtom,cConjunction,cView,cDelta,cRegistered,cRegistry] at hlen
 refine Af (Aq (Au 2 U U U Ce U U U) U ?_);refine Aa (Af (Ab ?_));refine Ac (A9 (ps:=[(0,.const (.int .i64 (3))),(1,.tmp 3)]) U U U Ci U U Da (.cons (.const U) U U Cg (.cons (.tm U) U U fp71_1 .nil)) U) U ?_;refine Bs (Cn (xs:=[.tmp 4]) 5 U U U (.cons (.tm U) U U .nil) Tryz.underlying24 Ci U U U U) U ?_;refine Ac (A9 (ps:=[(0,.tmp 5)]) U U U Ce U U st26 (.cons (.tm U) U U fp26_0 .nil) U) U ?_;refine Ao Ar ?_;refine Aa (Ai (A4 U (.cell U U Ar U U .nil) U ?_))
 rfl
theorem specl8Make1 (n:Int) (b:Nat) (hb:b≤100) (hn:0≤n∧n≤3) (h:n≠0→FnD Tryz.prog 136 [.one (.v (.int .i64 (n-1)))] (fun e:TExpr=>0<e.Tokens.length∧e.Tokens.length≤b) (fun e=>.a (.agg (cExpr e)))):FnD Tryz.prog 136 [.one (.v (.int .i64 n))] (fun e:TExpr=>0<e.Tokens.length∧e.Tokens.length≤2*b+1) (fun e=>.a (.agg (cExpr e))):=by
 refine FnD.walk Tryz.func136 U (by kernel_rfl) Tryz.ntmps136 U (fun g=>rfl) fun w0 g=>?_
 refine Af (Aq (Au 4 U U U Ce U U U) U ?_);refine Aa (Ae (Af (Ab ?_)));refine Ba ?_;refine Aa (Ah (.tm U) (fun h7=>?_) (fun h7=>?_))
 · try simp at h7
   refine Ae (Af (Ab ?_));refine Bl (B8 900 (specl1Once _) U U U (.tm U) U U (.cons (.const U) U .nil) (fun _=>rfl) (fun _=>rfl)) ?_
   rintro _ ⟨z9,hz9,rfl⟩
   try dsimp only at hz9
   refine Aa (Ah (.tm U) (fun h9=>?_) (fun h9=>?_))
   · try simp at h9
     refine Af (Ab ?_);refine Bs (Cn (xs:=[.const (.int .i64 (1)),.const (.int .i64 (2))]) 11 U U U (.cons (.const U) U U (.cons (.const U) U U .nil)) Tryz.underlying40 in3 U U U U) U ?_;refine Bl (B8 1200 (specl1PickInt [1,2] (by decide)) U U U (.tm U) U U (.cons (.tm U) U .nil) (fun _=>rfl) (fun _=>rfl)) ?_
     rintro _ ⟨z12,hz12,rfl⟩
     try dsimp only at hz12
     refine Bc (Bq 1300 (specl8Leaf z12) U U U (.cons (.tm U) U .nil) U U) U ?_;refine Ao Ar ?_;refine Aa (Ai ?_);apply DRes.mk (x:=⟨[tok0 z12]⟩) rfl
     case h=>
      refine A4 U (.cell U U Ar U U .nil) U ?_
      rfl
     case hp=>exact⟨by simp,by simp⟩
   try simp at h9
   refine AW.skip (Af (Ab ?_));refine Bs (Cn (xs:=[.const (.int .i64 (0)),.const (.int .i64 (0)),.const (.int .i64 (2)),.const (.int .i64 (2)),.const (.int .i64 (1)),.const (.int .i64 (4)),.const (.int .i64 (3)),.const (.int .i64 (6)),.const (.int .i64 (7))]) 15 U U U (.cons (.const U) U U (.cons (.const U) U U (.cons (.const U) U U (.cons (.const U) U U (.cons (.const U) U U (.cons (.const U) U U (.cons (.const U) U U (.cons (.const U) U U (.cons (.const U) U U .nil))))))))) Tryz.underlying40 in3 U U U U) U ?_;refine Bl (B8 1600 (specl1PickInt [0,0,2,2,1,4,3,6,7] (by decide)) U U U (.tm U) U U (.cons (.tm U) U .nil) (fun _=>rfl) (fun _=>rfl)) ?_
   rintro _ ⟨z16,hz16,rfl⟩
   try dsimp only at hz16
   refine Bc (Bq 1700 (specLetterExpr z16) U U U (.cons (.tm U) U .nil) U U) U ?_;refine Ao Ar ?_;refine Aa (Ai ?_);apply DRes.mk (x:=⟨[⟨3,z16,0,0⟩]⟩) rfl
   case h=>
    refine A4 U (.cell U U Ar U U .nil) U ?_
    rfl
   case hp=>exact⟨by simp,by simp⟩
 try simp at h7
 refine AW.skip (Ae (Af (Ab ?_)));refine Bl (B8 1900 (specl1Below _) U U U (.tm U) U U (.cons (.const U) U .nil) (fun _=>rfl) (fun _=>rfl)) ?_
 rintro _ ⟨z19,hz19,rfl⟩
 try dsimp only at hz19
 refine Aa (AW.block (Ae (Af (Ba ?_))));refine Ag ?_;refine Aa (Ah (.tm U) (fun h20=>?_) (fun h20=>?_))
 · try simp at h20
   refine AW.skip (Ah (.tm U) (fun h20=>?_) (fun h20=>?_))
   · try simp at h20
     refine Af (Ab ?_);refine Ab ?_;refine C4 ?_;refine Bl (B8 2600 (h (by assumption)) U U U (.tm U) U U (.cons (.tm U) U .nil) (fun _=>rfl) (fun _=>rfl)) ?_
     rintro _ ⟨z26,hz26,rfl⟩
     try dsimp only at hz26
     refine Ab ?_;refine Ab ?_;refine C4 ?_;refine Bl (B8 3000 (h (by assumption)) U U U (.tm U) U U (.cons (.tm U) U .nil) (fun _=>rfl) (fun _=>rfl)) ?_
     rintro _ ⟨z30,hz30,rfl⟩
     try dsimp only at hz30
     refine Ac (A9 (ps:=[(0,.const (.int .i64 (4)))]) U U U Ci U U Da (.cons (.const U) U U Cg .nil) U) U ?_;refine Bc (Bq 3200 (specl8Join z26 z30 ⟨4,0,0,0⟩ (by omega)) U U U (.cons (.tm U) U (.cons (.tm U) U (.cons (.tm U) U .nil))) U U) U ?_;refine Ao Ar ?_;refine Aa (Ai ?_);apply DRes.mk (x:=⟨z26.Tokens++z30.Tokens++[⟨4,0,0,0⟩]⟩) rfl
     case h=>
      refine A4 U (.cell U U Ar U U .nil) U ?_
      rfl
     case hp=>exact⟨by simp;try omega,by simp;omega⟩
   exfalso;(try simp at h20);first|contradiction|omega|simp_all|grind
 try simp at h20
 refine Ad (Ba ?_);refine Ag ?_;refine Aa (Ah (.tm U) (fun h20=>?_) (fun h20=>?_))
 · try simp at h20
   refine Af (Ab ?_);refine Ab ?_;refine C4 ?_;refine Bl (B8 2600 (h (by assumption)) U U U (.tm U) U U (.cons (.tm U) U .nil) (fun _=>rfl) (fun _=>rfl)) ?_
   rintro _ ⟨z26,hz26,rfl⟩
   try dsimp only at hz26
   refine Ab ?_;refine Ab ?_;refine C4 ?_;refine Bl (B8 3000 (h (by assumption)) U U U (.tm U) U U (.cons (.tm U) U .nil) (fun _=>rfl) (fun _=>rfl)) ?_
   rintro _ ⟨z30,hz30,rfl⟩
   try dsimp only at hz30
   refine Ac (A9 (ps:=[(0,.const (.int .i64 (4)))]) U U U Ci U U Da (.cons (.const U) U U Cg .nil) U) U ?_;refine Bc (Bq 3200 (specl8Join z26 z30 ⟨4,0,0,0⟩ (by omega)) U U U (.cons (.tm U) U (.cons (.tm U) U (.cons (.tm U) U .nil))) U U) U ?_;refine Ao Ar ?_;refine Aa (Ai ?_);apply DRes.mk (x:=⟨z26.Tokens++z30.Tokens++[⟨4,0,0,0⟩]⟩) rfl
   case h=>
    refine A4 U (.cell U U Ar U U .nil) U ?_
    rfl
   case hp=>exact⟨by simp;try omega,by simp;omega⟩
 try simp at h20
 refine Ae (Af (Ba ?_));refine Ag ?_;refine Aa (Ah (.tm U) (fun h33=>?_) (fun h33=>?_))
 · try simp at h33
   refine AW.skip (Ah (.tm U) (fun h33=>?_) (fun h33=>?_))
   · try simp at h33
     refine Ae (Al (Ap [0,1,4,19,20,33] [888888,4]) ?_);refine Ad (Ab ?_);refine Ab ?_;refine C4 ?_;refine Bl (B8 3900 (h (by assumption)) U U U (.tm U) U U (.cons (.tm U) U .nil) (fun _=>rfl) (fun _=>rfl)) ?_
     rintro _ ⟨z39,hz39,rfl⟩
     try dsimp only at hz39
     refine Ab ?_;refine Ab ?_;refine C4 ?_;refine Bl (B8 4300 (h (by assumption)) U U U (.tm U) U U (.cons (.tm U) U .nil) (fun _=>rfl) (fun _=>rfl)) ?_
     rintro _ ⟨z43,hz43,rfl⟩
     try dsimp only at hz43
     refine Ac (A9 (ps:=[(0,.const (.int .i64 (5)))]) U U U Ci U U Da (.cons (.const U) U U Cg .nil) U) U ?_;refine Bc (Bq 4500 (specl8Join z39 z43 ⟨5,0,0,0⟩ (by omega)) U U U (.cons (.tm U) U (.cons (.tm U) U (.cons (.tm U) U .nil))) U U) U ?_;refine Ao Ar ?_;refine Aa (Ai ?_);apply DRes.mk (x:=⟨z39.Tokens++z43.Tokens++[⟨5,0,0,0⟩]⟩) rfl
     case h=>
      refine A4 U (.cell U U Ar U U .nil) U ?_
      rfl
     case hp=>exact⟨by simp;try omega,by simp;omega⟩
   exfalso;(try simp at h33);first|contradiction|omega|simp_all|grind
 try simp at h33
 refine Al (Ap [0,1,4,19,20,33] [888888,4]) ?_;refine Ad (Ba ?_);refine Ag ?_;refine Aa (Ah (.tm U) (fun h33=>?_) (fun h33=>?_))
 · try simp at h33
   refine Af (Ab ?_);refine Ab ?_;refine C4 ?_;refine Bl (B8 3900 (h (by assumption)) U U U (.tm U) U U (.cons (.tm U) U .nil) (fun _=>rfl) (fun _=>rfl)) ?_
   rintro _ ⟨z39,hz39,rfl⟩
   try dsimp only at hz39
   refine Ab ?_;refine Ab ?_;refine C4 ?_;refine Bl (B8 4300 (h (by assumption)) U U U (.tm U) U U (.cons (.tm U) U .nil) (fun _=>rfl) (fun _=>rfl)) ?_
   rintro _ ⟨z43,hz43,rfl⟩
   try dsimp only at hz43
   refine Ac (A9 (ps:=[(0,.const (.int .i64 (5)))]) U U U Ci U U Da (.cons (.const U) U U Cg .nil) U) U ?_;refine Bc (Bq 4500 (specl8Join z39 z43 ⟨5,0,0,0⟩ (by omega)) U U U (.cons (.tm U) U (.cons (.tm U) U (.cons (.tm U) U .nil))) U U) U ?_;refine Ao Ar ?_;refine Aa (Ai ?_);apply DRes.mk (x:=⟨z39.Tokens++z43.Tokens++[⟨5,0,0,0⟩]⟩) rfl
   case h=>
    refine A4 U (.cell U U Ar U U .nil) U ?_
    rfl
   case hp=>exact⟨by simp;try omega,by simp;omega⟩
 try simp at h33
 refine Af (Ba ?_);refine Ag ?_;refine Aa (Ah (.tm U) (fun h46=>?_) (fun h46=>?_))
 · try simp at h46
   refine Af (Ab ?_);refine Ab ?_;refine C4 ?_;refine Bl (B8 5100 (h (by assumption)) U U U (.tm U) U U (.cons (.tm U) U .nil) (fun _=>rfl) (fun _=>rfl)) ?_
   rintro _ ⟨z51,hz51,rfl⟩
   try dsimp only at hz51
   refine Ac (A9 (ps:=[]) U U U Ce U U st26 .nil U) U ?_;refine B7 (i:=52) 20001 4 0 U U U ?_;refine Ac (A9 (ps:=[(0,.const (.int .i64 (6)))]) U U U Ci U U Da (.cons (.const U) U U Cg .nil) U) U ?_;refine Bc (Bq 5400 (specl8Join z51 ⟨[]⟩ ⟨6,0,0,0⟩ (by simp;omega)) U U U (.cons (.tm U) U (.cons (.tm U) U (.cons (.tm U) U .nil))) U U) U ?_;refine Ao Ar ?_;refine Aa (Ai ?_);apply DRes.mk (x:=⟨z51.Tokens++[]++[⟨6,0,0,0⟩]⟩) rfl
   case h=>
    refine A4 U (.cell U U Ar U U .nil) U ?_
    rfl
   case hp=>exact⟨by simp;try omega,by simp;omega⟩
 try simp at h46
 refine AW.skip (Af (Ab ?_));refine Bl (B8 5600 (specl1Below _) U U U (.tm U) U U (.cons (.const U) U .nil) (fun _=>rfl) (fun _=>rfl)) ?_
 rintro _ ⟨z56,hz56,rfl⟩
 try dsimp only at hz56
 refine Ac (R_add U (.no U) U (.const U) (.tm U) (fun _=>by omega)) U ?_;refine Ag ?_;refine Aa (Ae (Al (Ap [0,1,4,5,19,20,33] [888888,4]) ?_));refine Ad (Ab ?_);refine Ab ?_;refine C4 ?_;refine Bl (B8 6100 (h (by assumption)) U U U (.tm U) U U (.cons (.tm U) U .nil) (fun _=>rfl) (fun _=>rfl)) ?_
 rintro _ ⟨z61,hz61,rfl⟩
 try dsimp only at hz61
 refine Ac (A9 (ps:=[]) U U U Ce U U st26 .nil U) U ?_;refine B7 (i:=62) 20002 4 0 U U U ?_;refine Ab ?_;refine Ab ?_;refine Bk ?_;refine Bl (B8 6600 (specl1Below _) U U U (.tm U) U U (.cons (.tm U) U .nil) (fun _=>rfl) (fun _=>rfl)) ?_
 rintro _ ⟨z66,hz66,rfl⟩
 try dsimp only at hz66
 refine Ab ?_;refine Ac (A9 (ps:=[(0,.const (.int .i64 (7))),(2,.tmp 66),(3,.tmp 67)]) U U U Ci U U Da (.cons (.const U) U U Cg (.cons (.tm U) U U fp71_2 (.cons (.tm U) U U fp71_3 .nil))) U) U ?_;refine Bc (Bq 6900 (specl8Join z61 ⟨[]⟩ ⟨7,0,z66,1+z56⟩ (by simp;omega)) U U U (.cons (.tm U) U (.cons (.tm U) U (.cons (.tm U) U .nil))) U U) U ?_;refine Ao Ar ?_;refine Aa (Ai ?_);apply DRes.mk (x:=⟨z61.Tokens++[]++[⟨7,0,z66,1+z56⟩]⟩) rfl
 case h=>
  refine A4 U (.cell U U Ar U U .nil) U ?_
  rfl
 case hp=>exact⟨by simp;try omega,by simp;omega⟩
theorem specl8Make (n:Int) (hn:0≤n∧n≤3):FnD Tryz.prog 136 [.one (.v (.int .i64 n))] (fun e:TExpr=>0<e.Tokens.length∧e.Tokens.length≤30) (fun e=>.a (.agg (cExpr e))):=by
 have h0:=specl8Make1 0 0 (by omega) (by omega) fun h=>absurd rfl h
 have h1:=specl8Make1 1 1 (by omega) (by omega) fun _=>h0
 have h2:=specl8Make1 2 3 (by omega) (by omega) fun _=>h1
 have h3:=specl8Make1 3 7 (by omega) (by omega) fun _=>h2
 have:n=0∨n=1∨n=2∨n=3:=by omega
 rcases this with rfl|rfl|rfl|rfl
 · exact h0.mono fun x hx=>⟨hx.1,by omega⟩
 · exact h1.mono fun x hx=>⟨hx.1,by omega⟩
 · exact h2.mono fun x hx=>⟨hx.1,by omega⟩
 exact h3.mono fun x hx=>⟨hx.1,by omega⟩
theorem specl8Expr:FnD Tryz.prog 73 [] (fun e:TExpr=>0<e.Tokens.length∧e.Tokens.length≤30) (fun e=>.a (.agg (cExpr e))):=by
 refine FnD.walk Tryz.func73 U (by kernel_rfl) Tryz.ntmps73 U (fun g=>rfl) fun w0 g=>?_
 refine Af (Aq (Au 2 U U U Ce U U U) U ?_);refine Aa (Ae (Af (Ab ?_)));refine Bl (B8 400 (specl1Once _) U U U (.tm U) U U (.cons (.const U) U .nil) (fun _=>rfl) (fun _=>rfl)) ?_
 rintro _ ⟨z4,hz4,rfl⟩
 try dsimp only at hz4
 refine Aa (Ah (.tm U) (fun h4=>?_) (fun h4=>?_))
 · try simp at h4
   refine Af (Ab ?_);refine Bl (B8 600 (specl8Known) U U U (.tm U) U U .nil (fun _=>rfl) (fun _=>rfl)) ?_
   rintro _ ⟨z6,hz6,rfl⟩
   try dsimp only at hz6
   refine Ao Ar ?_;refine Aa (Ai ?_);apply DRes.mk (x:=z6) rfl
   case h=>
    refine A4 U (.cell U U Ar U U .nil) U ?_
    rfl
   case hp=>exact hz6
 try simp at h4
 refine AW.skip (Af (Ab ?_));refine Ab ?_;refine Bl (B8 900 (specl1Below _) U U U (.tm U) U U (.cons (.const U) U .nil) (fun _=>rfl) (fun _=>rfl)) ?_
 rintro _ ⟨z9,hz9,rfl⟩
 try dsimp only at hz9
 refine Ac (R_add U (.no U) U (.const U) (.tm U) (fun _=>by omega)) U ?_;refine Bl (B8 1100 (specl8Make (1+z9) (by omega)) U U U (.tm U) U U (.cons (.tm U) U .nil) (fun _=>rfl) (fun _=>rfl)) ?_
 rintro _ ⟨z11,hz11,rfl⟩
 try dsimp only at hz11
 refine Ao Ar ?_;refine Aa (Ai ?_);apply DRes.mk (x:=z11) rfl
 case h=>
  refine A4 U (.cell U U Ar U U .nil) U ?_
  rfl
 case hp=>exact hz11
theorem specl8Any:FrD Tryz.prog 32 [] (fun e:TExpr=>e.Tokens.length≤32) (fun e=>.a (.agg (cExpr e))):=by
 refine FrD.walk Tryz.func32 rfl (by kernel_rfl) Tryz.ntmps32 rfl (fun g=>rfl) fun w0 g=>?_
 refine Af (Aq (Au 2 U U U Ce U U U) U ?_);refine Aa (Af (Ab ?_));refine Bl (B8 500 (specl8Expr) U U U (.tm U) U U .nil (fun _=>rfl) (fun _=>rfl)) ?_
 rintro _ ⟨z5,hz5,rfl⟩
 try dsimp only at hz5
 refine Aq (Au 3 U U U Ce U U U) U ?_;refine Ao Ar ?_;refine Aa (Ae (Af (Ab ?_)));refine Bl (B8 700 (specl1Below _) U U U (.tm U) U U (.cons (.const U) U .nil) (fun _=>rfl) (fun _=>rfl)) ?_
 rintro _ ⟨z7,hz7,rfl⟩
 try dsimp only at hz7
 refine Aa (AW.block (Af (Ba ?_)));refine Ag ?_;refine Aa (Ah (.tm U) (fun h8=>?_) (fun h8=>?_))
 · try simp at h8
   refine Ad (Bd Be ?_);refine A3 Cd ?_;refine Ac (R_slice_vwr (n:=1) U (.no U) U (.tm U) U (.yes (.const U) (fun _=>by first|rfl|omega|(simp<;>omega))) .no Tryz.underlying24 Bv (fun _=>⟨by simp;omega,by first|omega|(simp;omega)⟩)) U ?_;refine Bd Be ?_;refine Ao Cd ?_;refine Aa (Ae (Al (Ap [0,2,3,7] [888888,2,500,3]) ?_));refine Ad (A3 Ar ?_);refine Ao Ar ?_;refine Aa (Ai ?_);apply DRRes.mk (x:=⟨z5.Tokens.drop 1⟩) rfl
   case h=>
    refine ResR.one U (.cell U U Ar U U .nil) U ?_;exact congrArg (fun r=>[V0.agg [T.sl 4 r]]) (by rw [List.take_length,List.map_drop])
   case hp=>exact (by simp;omega)
 try simp at h8
 refine Af (Ba ?_);refine Ag ?_;refine Aa (Ah (.tm U) (fun h14=>?_) (fun h14=>?_))
 · try simp at h14
   obtain⟨t0,ht0⟩:∃ ξ,z5.Tokens[0]?=some ξ:=⟨_,List.getElem?_eq_getElem hz5.1⟩
   refine Al (Ap [0,2,3,7] [888888,2,500,3]) ?_;refine Al (Ap [0,2,3,7] [888888,2,500,3]) ?_;apply Cz (N:=11) (k:=5) (Hs:=[0,1,2,4,6,8]) (ms:=[[],[3],[3,5],[3,5,7],[3,5,7,9],[3,5,7,9,10]]) (es:=[(0,3,1),(1,5,2),(2,7,3),(3,9,4),(4,10,5)]) (σ1:=_) (SM:=⟨_,[(0,_),(2,_),(3,_),(7,_),(16,_),(17,_),(18,_),(20,_),(22,_),(24,_)],[(888888,_),(2,_),(500,_),(3,_)]⟩)
   case hm=>kernel_rfl
   case hB=>kernel_rfl
   case hP=>kernel_rfl
   case hL=>kernel_rfl
   case hN=>rfl
   case hpre=>
    apply As (P:=Tryz.prog) 0 rfl ((by exact Bj rfl (.no rfl) rfl (.tm rfl) Be)) (by exact .pp) rfl rfl rfl;apply As (P:=Tryz.prog) 1 rfl ((by exact Bn rfl (.no rfl) rfl (.tm rfl) rfl Cd rfl rfl)) (by exact HasV.load (x:=.tmp 16) (.tm rfl) rfl Cd rfl rfl) rfl rfl rfl;apply As (P:=Tryz.prog) 2 rfl (Bf rfl (.no rfl) rfl (.tm rfl)) (by exact HasV.slot (t:=0) rfl) rfl rfl rfl;apply As (P:=Tryz.prog) 4 rfl (Bf rfl (.no rfl) rfl (.tm rfl)) (by exact HasV.slot (t:=0) rfl) rfl rfl rfl;apply As (P:=Tryz.prog) 6 rfl (Bf rfl (.no rfl) rfl (.tm rfl)) (by exact HasV.slot (t:=0) rfl) rfl rfl rfl;apply As (P:=Tryz.prog) 8 rfl (Bf rfl (.no rfl) rfl (.tm rfl)) (by exact HasV.slot (t:=0) rfl) rfl rfl rfl;exact PreOk.nil
   case hS=>exact A5
   case hH=>
    refine LocsH.fq Be ?_;refine LocsH.lq Cd ?_;refine LocsH.mv ?_;refine LocsH.mv ?_;refine LocsH.mv ?_;refine LocsH.mv ?_
    trivial
   apply Dh.drw0 (i:=3)
   case ha=>rfl
   case ho=>rfl
   case hE=>
    intro  hp
    obtain _:=hp
    exact B8 1900 (specl1Below _) rfl rfl rfl (.tm rfl) rfl rfl (.cons (.const rfl) rfl .nil) (fun _=>rfl) (fun _=>rfl)
   case hb=>rfl
   case hL=>
    intro  z19 hp hy;exact EndQ.eq (Ap [0,2,3,7,16,17,18,19,20,22,24] [888888,2,500,3]) U
   case hS=>intros;exact A5
   apply Dh.drw1 (i:=5)
   case ha=>rfl
   case ho=>rfl
   case hE=>
    intro z19 hp
    obtain⟨_,hz19⟩:=hp
    exact B8 2100 (specl1Below _) rfl rfl rfl (.tm rfl) rfl rfl (.cons (.const rfl) rfl .nil) (fun _=>rfl) (fun _=>rfl)
   case hb=>rfl
   case hL=>
    intro z19 z21 hp hy;exact EndQ.eq (Ap [0,2,3,7,16,17,18,19,20,21,22,24] [888888,2,500,3]) U
   case hS=>intros;exact A5
   apply Dh.drw2 (i:=7)
   case ha=>rfl
   case ho=>rfl
   case hE=>
    intro z19 z21 hp
    obtain⟨⟨_,hz19⟩,hz21⟩:=hp
    exact B8 2300 (specl1Below _) rfl rfl rfl (.tm rfl) rfl rfl (.cons (.const rfl) rfl .nil) (fun _=>rfl) (fun _=>rfl)
   case hb=>rfl
   case hL=>
    intro z19 z21 z23 hp hy;exact EndQ.eq (Ap [0,2,3,7,16,17,18,19,20,21,22,23,24] [888888,2,500,3]) U
   case hS=>intros;exact A5
   apply Dh.drw3 (i:=9)
   case ha=>rfl
   case ho=>rfl
   case hE=>
    intro z19 z21 z23 hp
    obtain⟨⟨⟨_,hz19⟩,hz21⟩,hz23⟩:=hp
    exact B8 2500 (specl1Below _) rfl rfl rfl (.tm rfl) rfl rfl (.cons (.const rfl) rfl .nil) (fun _=>rfl) (fun _=>rfl)
   case hb=>rfl
   case hL=>
    intro z19 z21 z23 z25 hp hy;exact EndQ.eq (Ap [0,2,3,7,16,17,18,19,20,21,22,23,24,25] [888888,2,500,3]) U
   case hS=>intros;exact A5
   apply Dh.new4 (i:=10);rfl;rfl;rfl
   · intro w9 z19 z21 z23 z25 hp
     obtain⟨⟨⟨⟨_,hz19⟩,hz21⟩,hz23⟩,hz25⟩:=hp
     refine Ac (A9 (ps:=[(0,.tmp 19),(1,.tmp 21),(2,.tmp 23),(3,.tmp 25)]) U U U Ci U U Da (.cons (.tm U) U U Cg (.cons (.tm U) U U fp71_1 (.cons (.tm U) U U fp71_2 (.cons (.tm U) U U fp71_3 .nil)))) U) U ?_;exact Ax [0,2,3,7,16,17,18,20,22,24,26] [888888,2,500,3]
   intros;exact A5
   refine Dh.fin4 (k:=5) rfl ?_;intro z19 z21 z23 z25 hp
   obtain⟨⟨⟨⟨_,hz19⟩,hz21⟩,hz23⟩,hz25⟩:=hp
   refine Ac (Ay U (.no U) U (.tm U) U (.const U) Tryz.underlying24 Bv (fun _=>⟨by omega,(Am ht0)⟩)) U ?_;refine AWl.absupd (R_store_pr U U U (.tm U) U (.tm U) U (Am ht0) Bv U U U U) ?_;refine Aa (Ae (Al (Ap [0,2,3,7] [888888,2,500,3]) ?_));refine Ad (A3 Ar ?_);refine Ao Ar ?_;refine Aa (Ai ?_);apply DRRes.mk (x:=⟨z5.Tokens.set 0 ⟨z19,z21,z23,z25⟩⟩) rfl
   case h=>
    refine ResR.one U (.cell U U Ar U U .nil) U ?_;exact congrArg (fun r=>[V0.agg [T.sl 4 r]]) (by rw [List.map_set];simp [cToken])
   case hp=>exact (by simp;omega)
 try simp at h14
 refine Ae (Al (Ap [0,2,3,7] [888888,2,500,3]) ?_);refine Ad (Ba ?_);refine Ag ?_;refine Aa (Ah (.tm U) (fun h28=>?_) (fun h28=>?_))
 · try simp at h28
   refine Ae (AW.block (Dp (fun (L:List TToken)=>(L.length≤30)∧True) (fun (L:List TToken)=>⟨_,[(0,_),(2,_),(3,_)],[(2,.box [.t (.v (.slice none 0 0))]),(3,.box [.rf 500]),(500,.row 4 (L.map cToken)),(888888,.cur g)]⟩) (fun (L:List TToken)=>24-L.length) (z5.Tokens) ⟨hz5.2,Y⟩ Bi ?_))
   rintro L ⟨hk,he⟩
   refine Ae (Af (Bd Be ?_));refine A3 Cd ?_;refine Br (.rf U) Tryz.underlying24 ?_;refine AWl.gc ?_;refine Ab ?_;refine Ac (Bj U (by exact .yes1 U U U U) U (.tmp U (by exact fun _=>rfl)) Be) U ?_;refine Ac (Bn U (by exact .yes1 U U U U) U (.tmp U (by exact id)) U Cd U U) U ?_;refine Ac (R_lenm U (by exact .yes1 U U U U) U (.tmp U (by exact id)) (by exact .rf U) Tryz.underlying24) U ?_;refine Ac (R_lt U (by exact .yes1 U U U U) U (.tmp U (by exact id)) (.const U)) U ?_;refine Cb ?_;refine Aa (Ah (.tm U) (fun h39=>?_) (fun h39=>?_))
   · skip
     skip
     have h39':0<L.length∧L.length<24:=(by have h:=h39;simp at h;omega)
     refine AW.skip (AW.block (Al (Ap [0,2,3] [2,3,500,888888]) ?_));refine Ad (Bd Be ?_);refine A3 Cd ?_;refine Ac (A9 (ps:=[(0,.const (.int .i64 (6)))]) U U U Ci U U Da (.cons (.const U) U U Cg .nil) U) U ?_;refine Bs (Cn (xs:=[.tmp 42]) 43 U U U (.cons (.tm U) U U .nil) Tryz.underlying24 Ci U U U U) U ?_;refine Bg (By U U U (.tm U) U (.tm U) (by exact .rf U) (by rfl) Tryz.underlying24 Ci U (by (simp [chunk];omega)) (by (unfold maxLen;simp [chunk];omega))) U ?_;refine Bm (Ap [0,2,3,44] [2,3,500,888888,43]) ?_;refine Bd Be ?_;refine Ao Cd ?_;refine Aa ?_
     repeat (with_reducible refine A7 ?_)
     refine Round1.next (L++[⟨6,0,0,0⟩]) ⟨by simp;omega,Y⟩ (by simp;omega) (Az rfl ⟨rfl,rfl,rfl,Y⟩ ⟨(by rfl),(by rfl),(by (refine congrArg (fun r=>some (R.row _ r)) ?_;simp [chunk,List.map_set,cInt,cBool,cIntS,cPair,cToken,cExpr,cEdge,cGraph,cStep,cWalk,cChange,cBatch,cHistory,cPositions,cAutomaton,cProductStep,cPathAtom,cConjunction,cView,cDelta,cRegistered,cRegistry])),(by rfl),Y⟩)
   skip
   skip
   refine Bz (Ae (Al (Ap [0,2,3] [2,3,500,888888]) ?_));refine Ad (Ab ?_);refine Bl (B8 4700 (specl1Once _) U U U (.tm U) U U (.cons (.const U) U .nil) (fun _=>rfl) (fun _=>rfl)) ?_
   rintro _ ⟨z47,hz47,rfl⟩
   try dsimp only at hz47
   refine Aa (Ah (.tm U) (fun h47=>?_) (fun h47=>?_))
   · try simp at h47
     refine Ad (Bd Be ?_);refine A3 Cd ?_;refine Ac (A9 (ps:=[(0,.const (.int .i64 (6)))]) U U U Ci U U Da (.cons (.const U) U U Cg .nil) U) U ?_;refine Bs (Cn (xs:=[.tmp 50]) 51 U U U (.cons (.tm U) U U .nil) Tryz.underlying24 Ci U U U U) U ?_;refine Bg (By U U U (.tm U) U (.tm U) (by exact .rf U) (by rfl) Tryz.underlying24 Ci U (by (simp [chunk];omega)) (by (unfold maxLen;simp [chunk];omega))) U ?_;refine Bm (Ap [0,2,3,47,52] [2,3,500,888888,51]) ?_;refine Bd Be ?_;refine Ao Cd ?_;refine Aa (Af (A3 Ar ?_));refine Ao Ar ?_;refine Aa (Ai ?_);apply DRRes.mk (x:=⟨L++[⟨6,0,0,0⟩]⟩) rfl
     case h=>
      refine ResR.one U (.cell U U Ar U U .nil) U ?_;exact congrArg (fun r=>[V0.agg [T.sl 4 r]]) (by simp [chunk,cToken])
     case hp=>exact (by simp;omega)
   try simp at h47
   refine AW.skip (Af (A3 Ar ?_));refine Ao Ar ?_;refine Aa (Ai ?_);apply DRRes.mk (x:=⟨L⟩) rfl
   case h=>
    refine ResR.one U (.cell U U Ar U U .nil) U ?_
    rfl
   case hp=>exact (by simp;omega)
 try simp at h28
 refine AW.skip (Af (A3 Ar ?_));refine Ao Ar ?_;refine Aa (Ai ?_);apply DRRes.mk (x:=z5) rfl
 case h=>
  refine ResR.one U (.cell U U Ar U U .nil) U ?_
  rfl
 case hp=>exact (by omega)
end Go.Proofs.YtdhojcaoljhbiaaGreat
set_option maxHeartbeats 1000000
set_option maxRecDepth 100000
namespace Go.Proofs.YtdhojcaoljhbiaaGreat
open Go.RowKit Go.Q Go.D
theorem specDrawSimplifyExpr (bs:List Int) (hb:∀ n∈bs,0≤n∧n<256):FrE Tryz.prog 6 [.one (.sl 1 (byR bs))] (fun o=>∃ x:TExpr,x.Tokens.length≤32∧o=.a (.agg (cExpr x))):=by
 refine FrE.walk Tryz.func6 rfl (by kernel_rfl) Tryz.ntmps6 rfl fun w0=>?_
 refine Af (Aq (Au 2 U U U Ce U U U) U ?_);refine Aa (Af (Ab ?_));refine Bl (R_calln 888888 (specl1New) U U U (.tm U) (by assumption) U) ?_
 rintro _ ⟨g,rfl⟩
 refine Bl (R_calldr 500 (specl8Any) U U U (.tm U) U U .nil U) ?_
 rintro _ ⟨z5,hz5,rfl⟩
 try dsimp only at hz5
 refine Ao Ar ?_;refine Aa (Ai ?_);apply ERRes.mk (x:=z5)
 case h=>
  refine ResR.one U (.cell U U Ar U U .nil) U ?_
  rfl
 case hp=>exact hz5
end Go.Proofs.YtdhojcaoljhbiaaGreat
