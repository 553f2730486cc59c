import Derived.Test.YtdhojcaoljhbiaaGreatB31xs
import Derived.Test.YtdhojcaoljhbiaaGreatB98xs
set_option linter.unusedVariables false
set_option linter.unusedSimpArgs false
set_option maxHeartbeats 1000000
set_option maxRecDepth 100000
namespace Go.Q
open Go.D
theorem rep_rng {x:Tr} (hg:good x) (h:x.tok.Kind=7):(1≤x.tok.High∧x.tok.High≤3)∧0≤x.tok.Low∧x.tok.Low≤x.tok.High:=by
 have ha:=good_arity hg
 unfold arity at ha
 rw [h] at ha
 simp only [show ¬ ((7:Int)=1∨(7:Int)=2) by omega,show ¬ ((7:Int)=3) by omega,show ¬ ((7:Int)=4∨(7:Int)=5) by omega,show ¬ ((7:Int)=6) by omega,if_false,if_true] at ha
 split at ha
 · rename_i hc
   unfold inB at hc
   simp only [Bool.and_eq_true,decide_eq_true_eq] at hc
   omega
 omega
def szG (t:TToken):List Int→Int
 | [a,b]=>min 100000 (a+b+1)
 | [a]=>if t.Kind=6 then min 100000 (a+1) else min 100000 ((a+3)*t.High+1)
 | _=>1
def szT:Tr→Int
 | .leaf t=>szG t []
 | .un t x=>szG t [szT x]
 | .bin t x y=>szG t [szT x,szT y]
theorem szT_eq (x:Tr):szT x=szG x.tok (x.kids.map szT):=by cases x<;>rfl
theorem mul_high {a h:Int} (ha:1≤a∧a≤100000) (hh:1≤h∧h≤3):4≤(a+3)*h∧(a+3)*h≤300009:=by
 have:h=1∨h=2∨h=3:=by omega
 rcases this with rfl|rfl|rfl<;>omega
theorem szT_r:∀ x:Tr,good x→1≤szT x∧szT x≤100000:=
 Tr.ind fun x ih hg=>by
  rw [szT_eq]
  rcases (good_cases hg).2.2 with ⟨hk,_⟩|⟨y,hk,hk4⟩|⟨y,z,hk,_⟩
  · rw [hk];exact (⟨by omega,by omega⟩:(1:Int)≤1∧(1:Int)≤100000)
  · have hy:=ih y (by rw [hk];simp) (good_kids hg y (by rw [hk];simp))
    rw [hk]
    simp only [List.map,szG]
    split
    · omega
    have:=mul_high hy (rep_rng hg (by omega)).1
    omega
  have hy:=ih y (by rw [hk];simp) (good_kids hg y (by rw [hk];simp))
  have hz:=ih z (by rw [hk];simp) (good_kids hg z (by rw [hk];simp))
  rw [hk]
  simp only [List.map,szG]
  omega
def timR (e:Tr):Int→Nat→Tr
 | _,0=>.leaf (tok0 2)
 | lo,h+1=>if 0<lo then .bin (tok0 4) e (timR e (max 0 (lo-1)) h) else .bin (tok0 5) (.bin (tok0 4) e (timR e (max 0 (lo-1)) h)) (.leaf (tok0 2))
def exG (t:TToken):List Tr→Tr
 | [a,b]=>.bin t a b
 | [a]=>if t.Kind=6 then .un t a else timR a t.Low t.High.toNat
 | _=>.leaf t
def exR:Tr→Tr
 | .leaf t=>exG t []
 | .un t x=>exG t [exR x]
 | .bin t x y=>exG t [exR x,exR y]
theorem exR_eq (x:Tr):exR x=exG x.tok (x.kids.map exR):=by cases x<;>rfl
theorem timR_good {e:Tr} (he:good e):∀ (h:Nat) (lo:Int),good (timR e lo h)
 | 0,_=>by unfold timR;show arity (tok0 2)=0;decide
 | h+1,lo=>by
  have ih:=timR_good he h (max 0 (lo-1))
  unfold timR
  split
  · exact⟨by decide,he,ih⟩
  exact⟨by decide,⟨by decide,he,ih⟩,(show arity (tok0 2)=0 by decide)⟩
theorem timR_len (e:Tr):∀ (h:Nat) (lo:Int),(toks (timR e lo h)).length≤((toks e).length+3)*h+1
 | 0,_=>by unfold timR;simp [toks]
 | h+1,lo=>by
  have ih:=timR_len e h (max 0 (lo-1))
  unfold timR
  rw [Nat.mul_succ]
  split<;>simp only [toks,List.length_append,List.length_singleton]<;>omega
theorem exR_good:∀ x:Tr,good x→good (exR x):=
 Tr.ind fun x ih hg=>by
  have ha:=good_arity hg
  rw [exR_eq]
  rcases (good_cases hg).2.2 with ⟨hk,_⟩|⟨y,hk,hk4⟩|⟨y,z,hk,_⟩
  · rw [hk] at ha ⊢;exact ha
  · have hy:=ih y (by rw [hk];simp) (good_kids hg y (by rw [hk];simp))
    rw [hk] at ha ⊢
    simp only [List.map,exG]
    split
    · exact⟨ha,hy⟩
    exact timR_good hy _ _
  have hy:=ih y (by rw [hk];simp) (good_kids hg y (by rw [hk];simp))
  have hz:=ih z (by rw [hk];simp) (good_kids hg z (by rw [hk];simp))
  rw [hk] at ha ⊢
  exact⟨ha,hy,hz⟩
theorem exR_len:∀ x:Tr,good x→szT x<100000→((toks (exR x)).length:Int)≤szT x:=
 Tr.ind fun x ih hg hs=>by
  rw [szT_eq] at hs ⊢
  rw [exR_eq]
  rcases (good_cases hg).2.2 with ⟨hk,_⟩|⟨y,hk,hk4⟩|⟨y,z,hk,_⟩
  · rw [hk];show ((toks (.leaf x.tok)).length:Int)≤1;simp [toks]
  · have gy:=good_kids hg y (by rw [hk];simp)
    have ry:=szT_r y gy
    have hy:=ih y (by rw [hk];simp) gy
    rw [hk] at hs ⊢
    simp only [List.map,szG,exG] at hs ⊢
    by_cases h6:x.tok.Kind=6
    · rw [if_pos h6] at hs ⊢
      rw [if_pos h6]
      simp only [toks,List.length_append,List.length_singleton]
      have:=hy (by omega)
      omega
    rw [if_neg h6] at hs ⊢
    rw [if_neg h6]
    have hh:=(rep_rng hg (by omega)).1
    have hl:=timR_len (exR y) x.tok.High.toNat x.tok.Low
    have e:x.tok.High=1∨x.tok.High=2∨x.tok.High=3:=by omega
    rcases e with e|e|e<;>rw [e] at hs hl ⊢<;>(have:=hy (by omega))<;>simp only [show (1:Int).toNat=1 from rfl,show (2:Int).toNat=2 from rfl,show (3:Int).toNat=3 from rfl] at hl ⊢<;>omega
  have gy:=good_kids hg y (by rw [hk];simp)
  have gz:=good_kids hg z (by rw [hk];simp)
  have ry:=szT_r y gy
  have rz:=szT_r z gz
  have hy:=ih y (by rw [hk];simp) gy
  have hz:=ih z (by rw [hk];simp) gz
  rw [hk] at hs ⊢
  simp only [List.map,szG,exG] at hs ⊢
  simp only [toks,List.length_append,List.length_singleton]
  have:=hy (by omega)
  have:=hz (by omega)
  omega
theorem szT_kid {x y:Tr} (hg:good x) (hy:y∈x.kids) (h:szT x<100000):szT y<100000:=by
 rw [szT_eq] at h
 rcases (good_cases hg).2.2 with ⟨hk,_⟩|⟨y',hk,hk4⟩|⟨y',z',hk,_⟩
 · rw [hk] at hy;cases hy
 · rw [hk] at hy h
   rw [List.mem_singleton] at hy;subst hy
   have ry:=szT_r y (good_kids hg y (by rw [hk];simp))
   simp only [List.map,szG] at h
   split at h
   · omega
   have e:x.tok.High=1∨x.tok.High=2∨x.tok.High=3:=by have:=(rep_rng hg (by omega)).1;omega
   rcases e with e|e|e<;>rw [e] at h<;>omega
 rw [hk] at hy h
 have ry:=szT_r y' (good_kids hg y' (by rw [hk];simp))
 have rz:=szT_r z' (good_kids hg z' (by rw [hk];simp))
 simp only [List.map,szG] at h
 simp only [List.mem_cons,List.not_mem_nil,or_false] at hy
 rcases hy with rfl|rfl<;>omega
end Go.Q
namespace Go.Proofs.YtdhojcaoljhbiaaGreat
open Go.RowKit Go.Q Go.D
theorem specl10Size1 (x:Tr) (hg:good x) (hz:(toks x).length≤1048576) (ih:∀ y∈x.kids,∀ L,L=(toks y).map cToken→FnT Tryz.prog 147 [.one (.sl 4 L)] (.a (.one (.v (.int .i64 (szT y)))))):FnT Tryz.prog 147 [.one (.sl 4 ((toks x).map cToken))] (.a (.one (.v (.int .i64 (szT x))))):=by
 refine A6 Tryz.func147 U (by kernel_rfl) Tryz.ntmps147 U fun hlen w0=>?_
 try simp [cToken,cExpr] at hlen
 clear hlen;rw [szT_eq];have hlast:=tok_last x;have hpos:=toks_pos x
 refine Af (AWl.ac ?_);refine Aa (Af (Ab ?_));refine Br (.t) Tryz.underlying24 ?_;refine C4 ?_;refine Ag ?_;refine Aa (Af (Ab ?_));refine Ab ?_;refine Ac (An U (.no U) U (.tm U) (.tm U) Tryz.underlying24 Bv (fun _=>⟨by omega,Am hlast⟩)) U ?_;refine Ak Bv ?_;refine Aq (Au 4 U U U Ci U U U) U ?_;refine Ao Bv ?_;refine Aa (Ae (Ae (Al (Ap [0,2,3,4] [4]) ?_)));refine Ad (Bd Co ?_);refine A3 ty3 ?_;refine Aa (AW.block (Ae (Af (Ba ?_))));refine Ag ?_;refine Aa (Ah (.tm U) (fun h15=>?_) (fun h15=>?_))
 · try simp at h15
   obtain⟨y,z,hk2,hte,hgy,hgz⟩:=kind_two' hg (by omega)
   have hry:=szT_r y hgy
   have hrz:=szT_r z hgz
   have hln:(toks x).length=(toks y).length+(toks z).length+1:=by rw [hte];simp;omega
   refine AW.skip (Ah (.tm U) (fun h15=>?_) (fun h15=>?_))
   · try simp at h15
     obtain⟨y,z,hk2,hte,hgy,hgz⟩:=kind_two' hg (by omega)
     have hry:=szT_r y hgy
     have hrz:=szT_r z hgz
     have hln:(toks x).length=(toks y).length+(toks z).length+1:=by rw [hte];simp;omega
     refine Af (Ab ?_);refine Ab ?_;refine Ac (Bw (m:=(toks y).length+(toks z).length) U (.no U) U (.tm U) .no (.yes (.tm U) (fun _=>by first|omega|(simp<;>omega))) Tryz.underlying24 Bv (fun _=>⟨by omega,by first|omega|(simp;omega)⟩)) U ?_;refine Ac (Aw (FnT.fr (l8Start_at hgz (pre:=toks y) (by simp;omega) _ (sl_pre2 hte))) U (.no U) U (.cons (.tm U) U .nil)) U ?_;refine Ag ?_;refine Aa (Ae (Al (Ap [0,2,3,4,5,14,15] [4]) ?_));refine Cc 13 (nthB [[],[],[0,1],[0,1,2],[],[],[],[4,5,6],[0,1,2,3,4,5,6,7],[0,1,2,3,4,5,6,7,8],[0,1,2,3,4,5,6,7,8,9],[0,1,2,3,4,5,6,7,8,9,10],[0,1,2,3,4,5,6,7,8,9,10,11]]) (by kernel_rfl) (by kernel_rfl) (by kernel_rfl) ?_;refine Av ?_;refine Av ?_;refine DrawC.s (fun _ hs=>Bw (m:=(toks y).length) U (.no U) (Aj hs U) (hs.tm U) .no (.yes (hs.tm U) (fun _=>by first|omega|(simp<;>omega))) Tryz.underlying24 Bv (fun _=>⟨by omega,by first|omega|(simp;omega)⟩)) ?_
     refine DrawC.s (fun _ hs=>Aw (FnT.fr (ih y (by rw [hk2];simp) _ (sl_pre (by rw [hte,List.append_assoc])))) U (.no U) (Aj hs U) (.cons (hs.tm U) (readA_sup hs U) .nil)) ?_;refine Av ?_;refine Av ?_;refine Av ?_;refine DrawC.s (fun _ hs=>Bw (n:=(toks y).length) (m:=(toks y).length+(toks z).length) U (.no U) (Aj hs U) (hs.tm U) (.yes (hs.tm U) (fun _=>by first|omega|(simp<;>omega))) (.yes (hs.tm U) (fun _=>by first|omega|(simp<;>omega))) Tryz.underlying24 Bv (fun _=>⟨by omega,by first|omega|(simp;omega)⟩)) ?_;refine DrawC.s (fun _ hs=>Aw (FnT.fr (ih z (by rw [hk2];simp) _ (sl_mid hte))) U (.no U) (Aj hs U) (.cons (hs.tm U) (readA_sup hs U) .nil)) ?_;refine DrawC.s (fun _ hs=>R_add U (.no U) (Aj hs U) (hs.tm U) (hs.tm U) (fun _=>by omega)) ?_;refine DrawC.s (fun _ hs=>R_add U (.no U) (Aj hs U) (hs.tm U) (.const U) (fun _=>by omega)) ?_
     refine DrawC.s (fun _ hs=>R_min U (.no U) (Aj hs U) (.const U) (hs.tm U)) ?_;refine DrawC.s (fun _ hs=>C5 U (.no U) (Aj hs U) (hs.tm U)) ?_;refine DrawC.fin U U ?_;refine Aa (Ai (Bb U U ?_))
     congr 1;first|(rw [hk2];rfl)|(rw [hk2];simp only [List.map,szG];(repeat' split)<;>omega)|(rw [kind_no' hg (by omega)];rfl)
   exfalso;(try simp at h15);first|contradiction|omega|simp_all|grind
 try simp at h15
 refine Ad (Ba ?_);refine Ag ?_;refine Aa (Ah (.tm U) (fun h15=>?_) (fun h15=>?_))
 · try simp at h15
   obtain⟨y,z,hk2,hte,hgy,hgz⟩:=kind_two' hg (by omega)
   have hry:=szT_r y hgy
   have hrz:=szT_r z hgz
   have hln:(toks x).length=(toks y).length+(toks z).length+1:=by rw [hte];simp;omega
   refine Af (Ab ?_);refine Ab ?_;refine Ac (Bw (m:=(toks y).length+(toks z).length) U (.no U) U (.tm U) .no (.yes (.tm U) (fun _=>by first|omega|(simp<;>omega))) Tryz.underlying24 Bv (fun _=>⟨by omega,by first|omega|(simp;omega)⟩)) U ?_;refine Ac (Aw (FnT.fr (l8Start_at hgz (pre:=toks y) (by simp;omega) _ (sl_pre2 hte))) U (.no U) U (.cons (.tm U) U .nil)) U ?_;refine Ag ?_;refine Aa (Ae (Al (Ap [0,2,3,4,5,14,15] [4]) ?_));refine Cc 13 (nthB [[],[],[0,1],[0,1,2],[],[],[],[4,5,6],[0,1,2,3,4,5,6,7],[0,1,2,3,4,5,6,7,8],[0,1,2,3,4,5,6,7,8,9],[0,1,2,3,4,5,6,7,8,9,10],[0,1,2,3,4,5,6,7,8,9,10,11]]) (by kernel_rfl) (by kernel_rfl) (by kernel_rfl) ?_;refine Av ?_;refine Av ?_;refine DrawC.s (fun _ hs=>Bw (m:=(toks y).length) U (.no U) (Aj hs U) (hs.tm U) .no (.yes (hs.tm U) (fun _=>by first|omega|(simp<;>omega))) Tryz.underlying24 Bv (fun _=>⟨by omega,by first|omega|(simp;omega)⟩)) ?_
   refine DrawC.s (fun _ hs=>Aw (FnT.fr (ih y (by rw [hk2];simp) _ (sl_pre (by rw [hte,List.append_assoc])))) U (.no U) (Aj hs U) (.cons (hs.tm U) (readA_sup hs U) .nil)) ?_;refine Av ?_;refine Av ?_;refine Av ?_;refine DrawC.s (fun _ hs=>Bw (n:=(toks y).length) (m:=(toks y).length+(toks z).length) U (.no U) (Aj hs U) (hs.tm U) (.yes (hs.tm U) (fun _=>by first|omega|(simp<;>omega))) (.yes (hs.tm U) (fun _=>by first|omega|(simp<;>omega))) Tryz.underlying24 Bv (fun _=>⟨by omega,by first|omega|(simp;omega)⟩)) ?_;refine DrawC.s (fun _ hs=>Aw (FnT.fr (ih z (by rw [hk2];simp) _ (sl_mid hte))) U (.no U) (Aj hs U) (.cons (hs.tm U) (readA_sup hs U) .nil)) ?_;refine DrawC.s (fun _ hs=>R_add U (.no U) (Aj hs U) (hs.tm U) (hs.tm U) (fun _=>by omega)) ?_;refine DrawC.s (fun _ hs=>R_add U (.no U) (Aj hs U) (hs.tm U) (.const U) (fun _=>by omega)) ?_
   refine DrawC.s (fun _ hs=>R_min U (.no U) (Aj hs U) (.const U) (hs.tm U)) ?_;refine DrawC.s (fun _ hs=>C5 U (.no U) (Aj hs U) (hs.tm U)) ?_;refine DrawC.fin U U ?_;refine Aa (Ai (Bb U U ?_))
   congr 1;first|(rw [hk2];rfl)|(rw [hk2];simp only [List.map,szG];(repeat' split)<;>omega)|(rw [kind_no' hg (by omega)];rfl)
 try simp at h15
 refine Af (Ba ?_);refine Ag ?_;refine Aa (Ah (.tm U) (fun h34=>?_) (fun h34=>?_))
 · try simp at h34
   obtain⟨y,hk2,hte,hgy⟩:=kind_one' hg (by omega)
   have hry:=szT_r y hgy
   have hln:(toks x).length=(toks y).length+1:=by rw [hte];simp
   refine Af (Ab ?_);refine Ab ?_;refine Ac (Bw (m:=(toks y).length) U (.no U) U (.tm U) .no (.yes (.tm U) (fun _=>by first|omega|(simp<;>omega))) Tryz.underlying24 Bv (fun _=>⟨by omega,by first|omega|(simp;omega)⟩)) U ?_;refine Ac (Aw (FnT.fr (ih y (by rw [hk2];simp) _ (sl_pre hte))) U (.no U) U (.cons (.tm U) U .nil)) U ?_;refine Bk ?_;refine Ac (R_min U (.no U) U (.const U) (.tm U)) U ?_;refine Ag ?_;refine Aa (Ai (Bb U U ?_))
   congr 1;first|(rw [hk2];rfl)|(rw [hk2];simp only [List.map,szG];(repeat' split)<;>omega)|(rw [kind_no' hg (by omega)];rfl)
 try simp at h34
 refine Af (Ba ?_);refine Ag ?_;refine Aa (Ah (.tm U) (fun h42=>?_) (fun h42=>?_))
 · try simp at h42
   obtain⟨y,hk2,hte,hgy⟩:=kind_one' hg (by omega)
   have hry:=szT_r y hgy
   have hln:(toks x).length=(toks y).length+1:=by rw [hte];simp
   have hml:=mul_high hry (rep_rng hg (by omega)).1
   refine Ae (Al (Ap [0,2,3,4,14,15] [4]) ?_);refine Cc 11 (nthB [[],[],[0,1],[0,1,2],[0,1,2,3],[],[5],[0,1,2,3,4,5,6],[0,1,2,3,4,5,6,7],[0,1,2,3,4,5,6,7,8],[0,1,2,3,4,5,6,7,8,9]]) (by kernel_rfl) (by kernel_rfl) (by kernel_rfl) ?_;refine Av ?_;refine Av ?_;refine DrawC.s (fun _ hs=>Bw (m:=(toks y).length) U (.no U) (Aj hs U) (hs.tm U) .no (.yes (hs.tm U) (fun _=>by first|omega|(simp<;>omega))) Tryz.underlying24 Bv (fun _=>⟨by omega,by first|omega|(simp;omega)⟩)) ?_;refine DrawC.s (fun _ hs=>Aw (FnT.fr (ih y (by rw [hk2];simp) _ (sl_pre hte))) U (.no U) (Aj hs U) (.cons (hs.tm U) (readA_sup hs U) .nil)) ?_;refine DrawC.s (fun _ hs=>R_add U (.no U) (Aj hs U) (hs.tm U) (.const U) (fun _=>by omega)) ?_;refine DrawC.s (fun _ hs=>(by exact Bj U (.no U) (Aj hs U) (hs.tm U) Dn)) ?_;refine DrawC.s (fun _ hs=>(by exact Bn U (.no U) (Aj hs U) (hs.tm U) (hs.res _ _ U) ty3 U U)) ?_
   refine DrawC.s (fun _ hs=>R_mul U (.no U) (Aj hs U) (hs.tm U) (hs.tm U) (fun _=>by omega)) ?_;refine DrawC.s (fun _ hs=>R_add U (.no U) (Aj hs U) (hs.tm U) (.const U) (fun _=>by omega)) ?_;refine DrawC.s (fun _ hs=>R_min U (.no U) (Aj hs U) (.const U) (hs.tm U)) ?_;refine DrawC.s (fun _ hs=>C5 U (.no U) (Aj hs U) (hs.tm U)) ?_;refine DrawC.fin U U ?_;refine Aa (Ai (Bb U U ?_))
   congr 1;first|(rw [hk2];rfl)|(rw [hk2];simp only [List.map,szG];(repeat' split)<;>omega)|(rw [kind_no' hg (by omega)];rfl)
 try simp at h42
 refine AW.skip (Ae (Al (Ap [0,2,3,4,14,15] [4]) ?_));refine Ad (AWl.ac ?_);refine Aa (Ai (Bb U U ?_))
 congr 1;first|(rw [hk2];rfl)|(rw [hk2];simp only [List.map,szG];(repeat' split)<;>omega)|(rw [kind_no' hg (by omega)];rfl)
theorem specl10Size:∀ x:Tr,good x→(toks x).length≤1048576→FnT Tryz.prog 147 [.one (.sl 4 ((toks x).map cToken))] (.a (.one (.v (.int .i64 (szT x))))):=
 Tr.ind fun x ih hg hz=>specl10Size1 x hg hz fun y hy L hL=>by subst hL;exact ih y hy (good_kids hg y hy) (by have:=kids_toks hy;omega)
theorem specl10Times (e:Tr) (he:(toks e).length≤100000):∀ (h:Nat) (lo:Int),h≤3→0≤lo∧lo≤3→FnT Tryz.prog 174 [.agg (cExpr ⟨toks e⟩),.one (.v (.int .i64 lo)),.one (.v (.int .i64 (h:Int)))] (.a (.agg (cExpr ⟨toks (timR e lo h)⟩))):=by
 intro h
 induction h with
 | zero=>
  intro lo _ hl;refine A6 Tryz.func174 U (by kernel_rfl) Tryz.ntmps174 U fun hlen w0=>?_
  try simp [cToken,cExpr] at hlen
  refine Af (Ac (Bo U U U (.tm U) (ts:=_) (by rfl)) U ?_);refine Aq (Au 6 U U U Ce U U U) U ?_;refine Cr (b:=6) 20001 4 0 U U U ?_;refine Aa (Ae (Af (Ab ?_)));refine Ba ?_;refine Aa (Ah (.tm U) (fun h9=>?_) (fun h9=>?_))
  · try simp at h9
    refine Af (Bc (Bq 1000 (specl8Leaf 2) U U U (.cons (.const U) U .nil) U U) U ?_);refine Ao Ar ?_;refine Aa (Ai (A4 U (.cell U U Ar U U .nil) U ?_))
    rfl
  exact absurd h9 (by simp)
 | succ h ih=>
  intro lo hh hl;refine A6 Tryz.func174 U (by kernel_rfl) Tryz.ntmps174 U fun hlen w0=>?_
  try simp [cToken,cExpr] at hlen
  have htl:=timR_len e h (max 0 (lo-1))
  have hml:((toks e).length+3)*h≤100003*3:=Nat.mul_le_mul (by omega) (by omega)
  refine Af (Ac (Bo U U U (.tm U) (ts:=_) (by rfl)) U ?_);refine Aq (Au 6 U U U Ce U U U) U ?_;refine Cr (b:=6) 20001 4 0 U U U ?_;refine Aa (Ae (Af (Ab ?_)));refine Ba ?_;refine Aa (Ah (.tm U) (fun h9=>?_) (fun h9=>?_))
  · exact absurd h9 (by simp;omega)
  try simp at h9
  refine AW.skip (Ae (Al (Ap [0,1,2,3,6,8,9] [6,20001]) ?_));apply Cz (N:=11) (k:=13) (Hs:=[0,1,2,3,5,6]) (ms:=[[],[4],[8],[10],[4,7],[4,8],[4,10],[8,10],[4,7,8],[4,7,10],[4,8,10],[4,7,8,9],[4,7,8,10],[4,7,8,9,10]]) (es:=[(0,4,1),(0,8,2),(0,10,3),(1,7,4),(1,8,5),(2,4,5),(1,10,6),(3,4,6),(2,10,7),(3,8,7),(4,8,8),(5,7,8),(4,10,9),(6,7,9),(5,10,10),(6,8,10),(7,4,10),(8,9,11),(8,10,12),(9,8,12),(10,7,12),(11,10,13),(12,9,13)]) (σ1:=_) (SM:=⟨_,[(0,_),(1,_),(2,_),(3,_),(6,_),(8,_),(9,_),(11,_),(12,_),(13,_),(14,_),(16,_),(17,_)],[(6,_),(20001,_)]⟩)
  case hm=>kernel_rfl
  case hB=>kernel_rfl
  case hP=>kernel_rfl
  case hL=>kernel_rfl
  case hN=>rfl
  case hpre=>
   apply As (P:=Tryz.prog) 0 rfl ((Ca rfl (.no rfl) rfl (.tm rfl) Ar rfl rfl)) (by exact HasV.ld (x:=.tmp 3) (.tm rfl) rfl rfl) rfl rfl rfl;apply As (P:=Tryz.prog) 1 rfl ((by exact Ca rfl (.no rfl) rfl (.tm rfl) Ar rfl rfl)) (by exact HasV.ld (x:=.tmp 3) (.tm rfl) rfl rfl) rfl rfl rfl;apply As (P:=Tryz.prog) 2 rfl (Bf rfl (.no rfl) rfl (.tm rfl)) (by exact HasV.slot (t:=1) rfl) rfl rfl rfl;apply As (P:=Tryz.prog) 3 rfl (R_sub rfl (.no rfl) rfl (.tm rfl) (.const rfl) (fun _=>by omega)) (by exact .val rfl) rfl rfl rfl;apply As (P:=Tryz.prog) 5 rfl (Bf rfl (.no rfl) rfl (.tm rfl)) (by exact HasV.slot (t:=2) rfl) rfl rfl rfl;apply As (P:=Tryz.prog) 6 rfl (R_sub rfl (.no rfl) rfl (.tm rfl) (.const rfl) (fun _=>by omega)) (by exact .val rfl) rfl rfl rfl;exact PreOk.nil
  case hS=>exact A5
  case hH=>
   refine⟨⟨_,_,_,rfl,rfl,rfl,fun σ' hs=>(by exact Ca rfl (.no rfl) (Aj hs rfl) (.tm (hs.slots _ _ rfl)) Ar rfl rfl)⟩,?_⟩
   refine⟨⟨_,_,_,rfl,rfl,rfl,fun σ' hs=>(by exact Ca rfl (.no rfl) (Aj hs rfl) (.tm (hs.slots _ _ rfl)) Ar rfl rfl)⟩,?_⟩
   refine LocsH.mv ?_
   refine⟨⟨_,_,_,rfl,rfl,rfl,fun σ' hs=>R_sub rfl (.no rfl) (Aj hs rfl) (.tm (hs.slots _ _ rfl)) (.const rfl) (fun _=>by omega)⟩,?_⟩
   refine LocsH.mv ?_
   refine⟨⟨_,_,_,rfl,rfl,rfl,fun σ' hs=>R_sub rfl (.no rfl) (Aj hs rfl) (.tm (hs.slots _ _ rfl)) (.const rfl) (fun _=>by omega)⟩,?_⟩
   trivial
  apply Dh.new0 (i:=4);rfl;rfl;rfl
  · intro w9 _;refine Ac (R_max U (.no U) U (.const U) (.tm U)) U ?_;exact Ax [0,1,2,3,6,8,9,11,12,13,14,15,16,17] [6,20001]
  intros;exact A5
  apply Dh.new0 (i:=8);rfl;rfl;rfl
  · intro w9 _;refine Ac (A9 (ps:=[(0,.const (.int .i64 (4)))]) U U U Ci U U Da (.cons (.const U) U U Cg .nil) U) U ?_;exact Ax [0,1,2,3,6,8,9,11,12,13,14,16,17,19] [6,20001]
  intros;exact A5
  apply Dh.new0 (i:=10);rfl;rfl;rfl
  · intro w9 _;refine Aq (Au 7 U U U Ce U U U) U ?_;refine Cr (b:=7) 20002 4 0 U U U ?_;exact Ax [0,1,2,3,6,7,8,9,11,12,13,14,16,17] [6,20001,7,20002]
  intros;exact A5
  apply Dh.new0 (i:=7);rfl;rfl;rfl
  · intro w9 _;refine Ac (Aw (FnT.fr ((by rw [show (((h+1:Nat):Int)-1)=(h:Int) by omega];exact ih (max 0 (lo-1)) (by omega) (by omega)))) U (.no U) U (.cons (.tm U) U (.cons (.tm U) U (.cons (.tm U) U .nil)))) U ?_;exact Ax [0,1,2,3,6,8,9,11,12,13,14,16,17,18] [6,20001]
  intros;exact A5
  apply Dh.new0 (i:=8);rfl;rfl;rfl
  · intro w9 _;refine Ac (A9 (ps:=[(0,.const (.int .i64 (4)))]) U U U Ci U U Da (.cons (.const U) U U Cg .nil) U) U ?_;exact Ax [0,1,2,3,6,8,9,11,12,13,14,15,16,17,19] [6,20001]
  intros;exact A5
  apply Dh.old0 (i:=4);rfl;rfl;rfl
  · intro w9 _;refine Ac (R_max U (.no U) U (.const U) (.tm U)) U ?_;exact Aa Bi
  apply Dh.new0 (i:=10);rfl;rfl;rfl
  · intro w9 _;refine Aq (Au 7 U U U Ce U U U) U ?_;refine Cr (b:=7) 20002 4 0 U U U ?_;exact Ax [0,1,2,3,6,7,8,9,11,12,13,14,15,16,17] [6,20001,7,20002]
  intros;exact A5
  apply Dh.old0 (i:=4);rfl;rfl;rfl
  · intro w9 _;refine Ac (R_max U (.no U) U (.const U) (.tm U)) U ?_;exact Aa Bi
  apply Dh.new0 (i:=10);rfl;rfl;rfl
  · intro w9 _;refine Aq (Au 7 U U U Ce U U U) U ?_;refine Cr (b:=7) 20002 4 0 U U U ?_;exact Ax [0,1,2,3,6,7,8,9,11,12,13,14,16,17,19] [6,20001,7,20002]
  intros;exact A5
  apply Dh.old0 (i:=8);rfl;rfl;rfl
  · intro w9 _;refine Ac (A9 (ps:=[(0,.const (.int .i64 (4)))]) U U U Ci U U Da (.cons (.const U) U U Cg .nil) U) U ?_;exact Aa Bi
  apply Dh.new0 (i:=8);rfl;rfl;rfl
  · intro w9 _;refine Ac (A9 (ps:=[(0,.const (.int .i64 (4)))]) U U U Ci U U Da (.cons (.const U) U U Cg .nil) U) U ?_;exact Ax [0,1,2,3,6,8,9,11,12,13,14,16,17,18,19] [6,20001]
  intros;exact A5
  apply Dh.old0 (i:=7);rfl;rfl;rfl
  · intro w9 _;refine Ac (Aw (FnT.fr ((by rw [show (((h+1:Nat):Int)-1)=(h:Int) by omega];exact ih (max 0 (lo-1)) (by omega) (by omega)))) U (.no U) U (.cons (.tm U) U (.cons (.tm U) U (.cons (.tm U) U .nil)))) U ?_;exact Aa Bi
  apply Dh.new0 (i:=10);rfl;rfl;rfl
  · intro w9 _;refine Aq (Au 7 U U U Ce U U U) U ?_;refine Cr (b:=7) 20002 4 0 U U U ?_;exact Ax [0,1,2,3,6,7,8,9,11,12,13,14,16,17,18] [6,20001,7,20002]
  intros;exact A5
  apply Dh.old0 (i:=7);rfl;rfl;rfl
  · intro w9 _;refine Ac (Aw (FnT.fr ((by rw [show (((h+1:Nat):Int)-1)=(h:Int) by omega];exact ih (max 0 (lo-1)) (by omega) (by omega)))) U (.no U) U (.cons (.tm U) U (.cons (.tm U) U (.cons (.tm U) U .nil)))) U ?_;exact Aa Bi
  apply Dh.new0 (i:=10);rfl;rfl;rfl
  · intro w9 _;refine Aq (Au 7 U U U Ce U U U) U ?_;refine Cr (b:=7) 20002 4 0 U U U ?_;exact Ax [0,1,2,3,6,7,8,9,11,12,13,14,15,16,17,19] [6,20001,7,20002]
  intros;exact A5
  apply Dh.old0 (i:=8);rfl;rfl;rfl
  · intro w9 _;refine Ac (A9 (ps:=[(0,.const (.int .i64 (4)))]) U U U Ci U U Da (.cons (.const U) U U Cg .nil) U) U ?_;exact Aa Bi
  apply Dh.old0 (i:=4);rfl;rfl;rfl
  · intro w9 _;refine Ac (R_max U (.no U) U (.const U) (.tm U)) U ?_;exact Aa Bi
  apply Dh.new0 (i:=9);rfl;rfl;rfl
  · intro w9 _;refine Bc (Bq 2000 (specl8Join ⟨toks e⟩ ⟨toks (timR e (max 0 (lo-1)) h)⟩ (tok0 4) (by simp only;omega)) U U U (.cons (.tm U) U (.cons (.tm U) U (.cons (.tm U) U .nil))) U U) U ?_;exact Ax [0,1,2,3,6,8,9,11,12,13,14,16,17,20] [6,20001,2000]
  intros;exact A5
  apply Dh.new0 (i:=10);rfl;rfl;rfl
  · intro w9 _;refine Aq (Au 7 U U U Ce U U U) U ?_;refine Cr (b:=7) 20002 4 0 U U U ?_;exact Ax [0,1,2,3,6,7,8,9,11,12,13,14,16,17,18,19] [6,20001,7,20002]
  intros;exact A5
  apply Dh.old0 (i:=8);rfl;rfl;rfl
  · intro w9 _;refine Ac (A9 (ps:=[(0,.const (.int .i64 (4)))]) U U U Ci U U Da (.cons (.const U) U U Cg .nil) U) U ?_;exact Aa Bi
  apply Dh.old0 (i:=7);rfl;rfl;rfl
  · intro w9 _;refine Ac (Aw (FnT.fr ((by rw [show (((h+1:Nat):Int)-1)=(h:Int) by omega];exact ih (max 0 (lo-1)) (by omega) (by omega)))) U (.no U) U (.cons (.tm U) U (.cons (.tm U) U (.cons (.tm U) U .nil)))) U ?_;exact Aa Bi
  apply Dh.new0 (i:=10);rfl;rfl;rfl
  · intro w9 _;refine Aq (Au 7 U U U Ce U U U) U ?_;refine Cr (b:=7) 20002 4 0 U U U ?_;exact Ax [0,1,2,3,6,7,8,9,11,12,13,14,16,17,20] [6,20001,2000,7,20002]
  intros;exact A5
  apply Dh.old0 (i:=9);rfl;rfl;rfl
  · intro w9 _;refine Bc (Bq 2000 (specl8Join ⟨toks e⟩ ⟨toks (timR e (max 0 (lo-1)) h)⟩ (tok0 4) (by simp only;omega)) U U U (.cons (.tm U) U (.cons (.tm U) U (.cons (.tm U) U .nil))) U U) U ?_;exact Aa Bi
  refine Dh.fin0 (k:=13) rfl ?_;intro  hp
  obtain _:=hp
  refine Ao Ar ?_;refine Aa (Ae (Ae (Al (Ap [0,1,2,3,6,7] [6,20001,2000,7,20002]) ?_)));refine Ad (Ab ?_);refine AWl.gc ?_;refine Aa (Ah (.tm U) (fun h22=>?_) (fun h22=>?_))
  · try simp at h22
    refine Af (A3 Ar ?_);refine Ao Ar ?_;refine Aa (Ai (A4 U (.cell U U Ar U U .nil) U ?_))
    rw [timR,if_pos (by simpa using h22)];rfl
  try simp at h22
  refine AW.skip (Ae (Al (Ap [0,1,2,3,6,7,21,22] [6,20001,2000,7,20002]) ?_));apply Cz (N:=3) (k:=3) (Hs:=[0]) (ms:=[[],[1],[2],[1,2]]) (es:=[(0,1,1),(0,2,2),(1,2,3),(2,1,3)]) (σ1:=_) (SM:=⟨_,[(0,_),(1,_),(2,_),(3,_),(6,_),(7,_),(21,_),(22,_),(24,_)],[(6,_),(20001,_),(2000,_),(7,_),(20002,_)]⟩)
  case hm=>kernel_rfl
  case hB=>kernel_rfl
  case hP=>kernel_rfl
  case hL=>kernel_rfl
  case hN=>rfl
  case hpre=>
   apply As (P:=Tryz.prog) 0 rfl ((Bn rfl (.no rfl) rfl (.tm rfl) rfl Ar rfl rfl)) (by exact HasV.load (x:=.tmp 7) (.tm rfl) rfl Ar rfl rfl) rfl rfl rfl;exact PreOk.nil
  case hS=>exact A5
  case hH=>
   refine LocsH.lq Ar ?_
   trivial
  apply Dh.new0 (i:=1);rfl;rfl;rfl
  · intro w9 _;refine Bu (specl8Leaf 2) ?_;exact Ax [0,1,2,3,6,7,21,22,24,25] [6,20001,2000,7,20002]
  intros;exact A5
  apply Dh.new0 (i:=2);rfl;rfl;rfl
  · intro w9 _;refine Ac (A9 (ps:=[(0,.const (.int .i64 (5)))]) U U U Ci U U Da (.cons (.const U) U U Cg .nil) U) U ?_;exact Ax [0,1,2,3,6,7,21,22,24,26] [6,20001,2000,7,20002]
  intros;exact A5
  apply Dh.new0 (i:=2);rfl;rfl;rfl
  · intro w9 _;refine Ac (A9 (ps:=[(0,.const (.int .i64 (5)))]) U U U Ci U U Da (.cons (.const U) U U Cg .nil) U) U ?_;exact Ax [0,1,2,3,6,7,21,22,24,25,26] [6,20001,2000,7,20002]
  intros;exact A5
  apply Dh.old0 (i:=1);rfl;rfl;rfl
  · intro w9 _;refine Bu (specl8Leaf 2) ?_;exact Aa Bi
  refine Dh.fin0 (k:=3) rfl ?_;intro  hp
  obtain _:=hp
  refine Bc (Bq 2700 (specl8Join ⟨toks e++toks (timR e (max 0 (lo-1)) h)++[tok0 4]⟩ ⟨[tok0 2]⟩ (tok0 5) (by simp;omega)) U U U (.cons (.tm U) U (.cons (.tm U) U (.cons (.tm U) U .nil))) U U) U ?_;refine Ao Ar ?_;refine Aa (Ai (A4 U (.cell U U Ar U U .nil) U ?_))
  rw [timR,if_neg (by simpa using h22)];rfl
theorem specl10Expand1 (x:Tr) (hg:good x) (hz:(toks x).length≤1048576) (hs:szT x<100000) (ih:∀ y∈x.kids,∀ L,L=(toks y).map cToken→FnT Tryz.prog 148 [.one (.sl 4 L)] (.a (.agg (cExpr ⟨toks (exR y)⟩)))):FnT Tryz.prog 148 [.one (.sl 4 ((toks x).map cToken))] (.a (.agg (cExpr ⟨toks (exR x)⟩))):=by
 refine A6 Tryz.func148 U (by kernel_rfl) Tryz.ntmps148 U fun hlen w0=>?_
 try simp [cToken,cExpr] at hlen
 clear hlen;have hlast:=tok_last x;have hpos:=toks_pos x
 refine Af (Aq (Au 2 U U U Ce U U U) U ?_);refine Cr (b:=2) 20001 4 0 U U U ?_;refine Aa (Af (Ab ?_));refine Br (.t) Tryz.underlying24 ?_;refine C4 ?_;refine Ag ?_;refine Aa (Af (Ab ?_));refine Ab ?_;refine Ac (An U (.no U) U (.tm U) (.tm U) Tryz.underlying24 Bv (fun _=>⟨by omega,Am hlast⟩)) U ?_;refine Ak Bv ?_;refine Aq (Au 4 U U U Ci U U U) U ?_;refine Ao Bv ?_;refine Aa (Ae (Ae (Al (Ap [0,2,3,4] [2,20001,4]) ?_)));refine Ad (Bd Co ?_);refine A3 ty3 ?_;refine Aa (AW.block (Ae (Af (Ba ?_))));refine Ag ?_;refine Aa (Ah (.tm U) (fun h15=>?_) (fun h15=>?_))
 · try simp at h15
   obtain⟨y,z,hk2,hte,hgy,hgz⟩:=kind_two' hg (by omega)
   have hry:=exR_len y hgy (szT_kid hg (by rw [hk2];simp) hs)
   have hrz:=exR_len z hgz (szT_kid hg (by rw [hk2];simp) hs)
   have hsy:=szT_r y hgy
   have hsz:=szT_r z hgz
   have hln:(toks x).length=(toks y).length+(toks z).length+1:=by rw [hte];simp;omega
   refine AW.skip (Ah (.tm U) (fun h15=>?_) (fun h15=>?_))
   · try simp at h15
     obtain⟨y,z,hk2,hte,hgy,hgz⟩:=kind_two' hg (by omega)
     have hry:=exR_len y hgy (szT_kid hg (by rw [hk2];simp) hs)
     have hrz:=exR_len z hgz (szT_kid hg (by rw [hk2];simp) hs)
     have hsy:=szT_r y hgy
     have hsz:=szT_r z hgz
     have hln:(toks x).length=(toks y).length+(toks z).length+1:=by rw [hte];simp;omega
     refine Af (Ab ?_);refine Ab ?_;refine Ac (Bw (m:=(toks y).length+(toks z).length) U (.no U) U (.tm U) .no (.yes (.tm U) (fun _=>by first|omega|(simp<;>omega))) Tryz.underlying24 Bv (fun _=>⟨by omega,by first|omega|(simp;omega)⟩)) U ?_;refine Ac (Aw (FnT.fr (l8Start_at hgz (pre:=toks y) (by simp;omega) _ (sl_pre2 hte))) U (.no U) U (.cons (.tm U) U .nil)) U ?_;refine Ag ?_;refine Aa (Ae (Al (Ap [0,2,3,4,5,14,15] [2,20001,4]) ?_));refine Cc 11 (nthB [[],[],[0,1],[0,1,2],[],[],[],[4,5,6],[0,1,2,3,4,5,6,7],[],[0,1,2,3,4,5,6,7,8,9]]) (by kernel_rfl) (by kernel_rfl) (by kernel_rfl) ?_;refine Av ?_;refine Av ?_;refine DrawC.s (fun _ hs=>Bw (m:=(toks y).length) U (.no U) (Aj hs U) (hs.tm U) .no (.yes (hs.tm U) (fun _=>by first|omega|(simp<;>omega))) Tryz.underlying24 Bv (fun _=>⟨by omega,by first|omega|(simp;omega)⟩)) ?_
     refine DrawC.s (fun _ hs=>Aw (FnT.fr (ih y (by rw [hk2];simp) _ (sl_pre (by rw [hte,List.append_assoc])))) U (.no U) (Aj hs U) (.cons (hs.tm U) (readA_sup hs U) .nil)) ?_;refine Av ?_;refine Av ?_;refine Av ?_;refine DrawC.s (fun _ hs=>Bw (n:=(toks y).length) (m:=(toks y).length+(toks z).length) U (.no U) (Aj hs U) (hs.tm U) (.yes (hs.tm U) (fun _=>by first|omega|(simp<;>omega))) (.yes (hs.tm U) (fun _=>by first|omega|(simp<;>omega))) Tryz.underlying24 Bv (fun _=>⟨by omega,by first|omega|(simp;omega)⟩)) ?_;refine DrawC.s (fun _ hs=>Aw (FnT.fr (ih z (by rw [hk2];simp) _ (sl_mid hte))) U (.no U) (Aj hs U) (.cons (hs.tm U) (readA_sup hs U) .nil)) ?_;refine DrawC.s (fun _ hs=>(by exact Bn U (.no U) (Aj hs U) (hs.tm U) (hs.res _ _ U) Bv U U)) ?_
     refine Cp U U U (Loc.ofs U fun σ' hs hf=>Bq 3200 (specl8Join ⟨toks (exR y)⟩ ⟨toks (exR z)⟩ x.tok (by simp only;omega)) U U (Aj hs U) (.cons (hs.tm U) (readA_sup hs U) (.cons (hs.tm U) (readA_sup hs U) (.cons (hs.tm U) (readA_sup hs U) .nil))) U (all_fresh hf)) ?_;refine DrawC.fin U U ?_;refine Ao Ar ?_;refine Aa (Ai (A4 U (.cell U U Ar U U .nil) U ?_))
     rw [exR_eq x,hk2];rfl
   exfalso;(try simp at h15);first|contradiction|omega|simp_all|grind
 try simp at h15
 refine Ad (Ba ?_);refine Ag ?_;refine Aa (Ah (.tm U) (fun h15=>?_) (fun h15=>?_))
 · try simp at h15
   obtain⟨y,z,hk2,hte,hgy,hgz⟩:=kind_two' hg (by omega)
   have hry:=exR_len y hgy (szT_kid hg (by rw [hk2];simp) hs)
   have hrz:=exR_len z hgz (szT_kid hg (by rw [hk2];simp) hs)
   have hsy:=szT_r y hgy
   have hsz:=szT_r z hgz
   have hln:(toks x).length=(toks y).length+(toks z).length+1:=by rw [hte];simp;omega
   refine Af (Ab ?_);refine Ab ?_;refine Ac (Bw (m:=(toks y).length+(toks z).length) U (.no U) U (.tm U) .no (.yes (.tm U) (fun _=>by first|omega|(simp<;>omega))) Tryz.underlying24 Bv (fun _=>⟨by omega,by first|omega|(simp;omega)⟩)) U ?_;refine Ac (Aw (FnT.fr (l8Start_at hgz (pre:=toks y) (by simp;omega) _ (sl_pre2 hte))) U (.no U) U (.cons (.tm U) U .nil)) U ?_;refine Ag ?_;refine Aa (Ae (Al (Ap [0,2,3,4,5,14,15] [2,20001,4]) ?_));refine Cc 11 (nthB [[],[],[0,1],[0,1,2],[],[],[],[4,5,6],[0,1,2,3,4,5,6,7],[],[0,1,2,3,4,5,6,7,8,9]]) (by kernel_rfl) (by kernel_rfl) (by kernel_rfl) ?_;refine Av ?_;refine Av ?_;refine DrawC.s (fun _ hs=>Bw (m:=(toks y).length) U (.no U) (Aj hs U) (hs.tm U) .no (.yes (hs.tm U) (fun _=>by first|omega|(simp<;>omega))) Tryz.underlying24 Bv (fun _=>⟨by omega,by first|omega|(simp;omega)⟩)) ?_
   refine DrawC.s (fun _ hs=>Aw (FnT.fr (ih y (by rw [hk2];simp) _ (sl_pre (by rw [hte,List.append_assoc])))) U (.no U) (Aj hs U) (.cons (hs.tm U) (readA_sup hs U) .nil)) ?_;refine Av ?_;refine Av ?_;refine Av ?_;refine DrawC.s (fun _ hs=>Bw (n:=(toks y).length) (m:=(toks y).length+(toks z).length) U (.no U) (Aj hs U) (hs.tm U) (.yes (hs.tm U) (fun _=>by first|omega|(simp<;>omega))) (.yes (hs.tm U) (fun _=>by first|omega|(simp<;>omega))) Tryz.underlying24 Bv (fun _=>⟨by omega,by first|omega|(simp;omega)⟩)) ?_;refine DrawC.s (fun _ hs=>Aw (FnT.fr (ih z (by rw [hk2];simp) _ (sl_mid hte))) U (.no U) (Aj hs U) (.cons (hs.tm U) (readA_sup hs U) .nil)) ?_;refine DrawC.s (fun _ hs=>(by exact Bn U (.no U) (Aj hs U) (hs.tm U) (hs.res _ _ U) Bv U U)) ?_
   refine Cp U U U (Loc.ofs U fun σ' hs hf=>Bq 3200 (specl8Join ⟨toks (exR y)⟩ ⟨toks (exR z)⟩ x.tok (by simp only;omega)) U U (Aj hs U) (.cons (hs.tm U) (readA_sup hs U) (.cons (hs.tm U) (readA_sup hs U) (.cons (hs.tm U) (readA_sup hs U) .nil))) U (all_fresh hf)) ?_;refine DrawC.fin U U ?_;refine Ao Ar ?_;refine Aa (Ai (A4 U (.cell U U Ar U U .nil) U ?_))
   rw [exR_eq x,hk2];rfl
 try simp at h15
 refine Af (Ba ?_);refine Ag ?_;refine Aa (Ah (.tm U) (fun h33=>?_) (fun h33=>?_))
 · try simp at h33
   obtain⟨y,hk2,hte,hgy⟩:=kind_one' hg (by omega)
   have hry:=exR_len y hgy (szT_kid hg (by rw [hk2];simp) hs)
   have hsy:=szT_r y hgy
   have hln:(toks x).length=(toks y).length+1:=by rw [hte];simp
   refine Ae (Al (Ap [0,2,3,4,13,14,15,16,17,33,34] [2,20001,4]) ?_);apply Cz (N:=6) (k:=5) (Hs:=[0,1,5]) (ms:=[[],[2],[4],[2,3],[2,4],[2,3,4]]) (es:=[(0,2,1),(0,4,2),(1,3,3),(1,4,4),(2,2,4),(3,4,5),(4,3,5)]) (σ1:=_) (SM:=⟨_,[(0,_),(2,_),(3,_),(4,_),(13,_),(14,_),(15,_),(16,_),(17,_),(33,_),(34,_),(35,_),(36,_),(40,_)],[(2,_),(20001,_),(4,_)]⟩)
   case hm=>kernel_rfl
   case hB=>kernel_rfl
   case hP=>kernel_rfl
   case hL=>kernel_rfl
   case hN=>rfl
   case hpre=>
    apply As (P:=Tryz.prog) 0 rfl (Bf rfl (.no rfl) rfl (.tm rfl)) (by exact HasV.slot (t:=0) rfl) rfl rfl rfl;apply As (P:=Tryz.prog) 1 rfl (Bf rfl (.no rfl) rfl (.tm rfl)) (by exact HasV.slot (t:=3) rfl) rfl rfl rfl;apply As (P:=Tryz.prog) 5 rfl ((by exact Bn rfl (.no rfl) rfl (.tm rfl) rfl Bv rfl rfl)) (by exact HasV.load (x:=.tmp 4) (.tm rfl) rfl Bv rfl rfl) rfl rfl rfl;exact PreOk.nil
   case hS=>exact A5
   case hH=>
    refine LocsH.mv ?_;refine LocsH.mv ?_;refine LocsH.lq Bv ?_
    trivial
   apply Dh.new0 (i:=2);rfl;rfl;rfl
   · intro w9 _;refine Ac (Bw (m:=(toks y).length) U (.no U) U (.tm U) .no (.yes (.tm U) (fun _=>by first|omega|(simp<;>omega))) Tryz.underlying24 Bv (fun _=>⟨by omega,by first|omega|(simp;omega)⟩)) U ?_;exact Ax [0,2,3,4,13,14,15,16,17,33,34,35,36,37,40] [2,20001,4]
   intros;exact A5
   apply Dh.new0 (i:=4);rfl;rfl;rfl
   · intro w9 _;refine Ac (A9 (ps:=[]) U U U Ce U U st26 .nil U) U ?_;refine B7 (i:=39) 20002 4 0 U U U ?_;exact Ax [0,2,3,4,13,14,15,16,17,33,34,35,36,39,40] [2,20001,4,20002]
   intros;exact A5
   apply Dh.new0 (i:=3);rfl;rfl;rfl
   · intro w9 _;refine Ac (Aw (FnT.fr (ih y (by rw [hk2];simp) _ (sl_pre hte))) U (.no U) U (.cons (.tm U) U .nil)) U ?_;exact Ax [0,2,3,4,13,14,15,16,17,33,34,35,36,38,40] [2,20001,4]
   intros;exact A5
   apply Dh.new0 (i:=4);rfl;rfl;rfl
   · intro w9 _;refine Ac (A9 (ps:=[]) U U U Ce U U st26 .nil U) U ?_;refine B7 (i:=39) 20002 4 0 U U U ?_;exact Ax [0,2,3,4,13,14,15,16,17,33,34,35,36,37,39,40] [2,20001,4,20002]
   intros;exact A5
   apply Dh.old0 (i:=2);rfl;rfl;rfl
   · intro w9 _;refine Ac (Bw (m:=(toks y).length) U (.no U) U (.tm U) .no (.yes (.tm U) (fun _=>by first|omega|(simp<;>omega))) Tryz.underlying24 Bv (fun _=>⟨by omega,by first|omega|(simp;omega)⟩)) U ?_;exact Aa Bi
   apply Dh.new0 (i:=4);rfl;rfl;rfl
   · intro w9 _;refine Ac (A9 (ps:=[]) U U U Ce U U st26 .nil U) U ?_;refine B7 (i:=39) 20002 4 0 U U U ?_;exact Ax [0,2,3,4,13,14,15,16,17,33,34,35,36,38,39,40] [2,20001,4,20002]
   intros;exact A5
   apply Dh.old0 (i:=3);rfl;rfl;rfl
   · intro w9 _;refine Ac (Aw (FnT.fr (ih y (by rw [hk2];simp) _ (sl_pre hte))) U (.no U) U (.cons (.tm U) U .nil)) U ?_;exact Aa Bi
   refine Dh.fin0 (k:=5) rfl ?_;intro  hp
   obtain _:=hp
   refine Bc (Bq 4100 (specl8Join ⟨toks (exR y)⟩ ⟨[]⟩ x.tok (by simp;omega)) U U U (.cons (.tm U) U (.cons (.tm U) U (.cons (.tm U) U .nil))) U U) U ?_;refine Ao Ar ?_;refine Aa (Ai (A4 U (.cell U U Ar U U .nil) U ?_))
   rw [exR_eq x,hk2];simp only [List.map,exG];rw [if_pos (by omega)];show [V0.agg (cExpr ⟨toks (exR y)++[]++[x.tok]⟩)]=_;rw [List.append_nil];rfl
 try simp at h33
 refine Af (Ba ?_);refine Ag ?_;refine Aa (Ah (.tm U) (fun h42=>?_) (fun h42=>?_))
 · try simp at h42
   obtain⟨y,hk2,hte,hgy⟩:=kind_one' hg (by omega)
   have hry:=exR_len y hgy (szT_kid hg (by rw [hk2];simp) hs)
   have hsy:=szT_r y hgy
   have hhi:=rep_rng hg (by omega)
   have hln:(toks x).length=(toks y).length+1:=by rw [hte];simp
   refine Ae (Al (Ap [0,2,3,4,14,15] [2,20001,4]) ?_);refine Cc 9 (nthB [[],[],[0,1],[0,1,2],[],[4],[],[6],[0,1,2,3,4,5,6,7]]) (by kernel_rfl) (by kernel_rfl) (by kernel_rfl) ?_;refine Av ?_;refine Av ?_;refine DrawC.s (fun _ hs=>Bw (m:=(toks y).length) U (.no U) (Aj hs U) (hs.tm U) .no (.yes (hs.tm U) (fun _=>by first|omega|(simp<;>omega))) Tryz.underlying24 Bv (fun _=>⟨by omega,by first|omega|(simp;omega)⟩)) ?_;refine DrawC.s (fun _ hs=>Aw (FnT.fr (ih y (by rw [hk2];simp) _ (sl_pre hte))) U (.no U) (Aj hs U) (.cons (hs.tm U) (readA_sup hs U) .nil)) ?_;refine DrawC.s (fun _ hs=>(by exact Bj U (.no U) (Aj hs U) (hs.tm U) Db)) ?_;refine DrawC.s (fun _ hs=>(by exact Bn U (.no U) (Aj hs U) (hs.tm U) (hs.res _ _ U) ty3 U U)) ?_;refine DrawC.s (fun _ hs=>(by exact Bj U (.no U) (Aj hs U) (hs.tm U) Dn)) ?_
   refine DrawC.s (fun _ hs=>(by exact Bn U (.no U) (Aj hs U) (hs.tm U) (hs.res _ _ U) ty3 U U)) ?_;refine Cp U U U (Loc.ofs U fun σ' hs hf=>Bq 5200 ((by have hT:=specl10Times (exR y) (by omega) x.tok.High.toNat x.tok.Low (by omega) (by omega);rw [Int.toNat_of_nonneg (by omega)] at hT;exact hT)) U U (Aj hs U) (.cons (hs.tm U) (readA_sup hs U) (.cons (hs.tm U) (readA_sup hs U) (.cons (hs.tm U) (readA_sup hs U) .nil))) U (all_fresh hf)) ?_;refine DrawC.fin U U ?_;refine Ao Ar ?_;refine Aa (Ai (A4 U (.cell U U Ar U U .nil) U ?_))
   rw [exR_eq x,hk2];simp only [List.map,exG];rw [if_neg (by omega)];rfl
 try simp at h42
 refine AW.skip (Ae (Al (Ap [0,2,3,4,14,15] [2,20001,4]) ?_));refine Ad (A3 Bv ?_);refine Bs (Cn (xs:=[.tmp 53]) 54 U U U (.cons (.tm U) U U .nil) Tryz.underlying24 Ci U U U U) U ?_;refine Ac (A9 (ps:=[(0,.tmp 54)]) U U U Ce U U st26 (.cons (.tm U) U U fp26_0 .nil) U) U ?_;refine Ao Ar ?_;refine Aa (Ai (A4 U (.cell U U Ar U U .nil) U ?_))
 rw [exR_eq x,kind_no' hg (by omega)];rfl
theorem specl10Expand:∀ x:Tr,good x→(toks x).length≤1048576→szT x<100000→FnT Tryz.prog 148 [.one (.sl 4 ((toks x).map cToken))] (.a (.agg (cExpr ⟨toks (exR x)⟩))):=
 Tr.ind fun x ih hg hz hs=>specl10Expand1 x hg hz hs fun y hy L hL=>by subst hL;exact ih y hy (good_kids hg y hy) (by have:=kids_toks hy;omega) (szT_kid hg hy hs)
end Go.Proofs.YtdhojcaoljhbiaaGreat
