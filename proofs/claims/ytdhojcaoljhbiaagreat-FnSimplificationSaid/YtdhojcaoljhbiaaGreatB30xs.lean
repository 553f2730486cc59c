import Derived.Test.YtdhojcaoljhbiaaGreatAbsQxs
set_option linter.unusedVariables false
set_option linter.unusedSimpArgs false
set_option maxHeartbeats 1000000
set_option maxRecDepth 100000
namespace Go.Q
open Go.D
def shortG (k low:Int):List Int→Int
 | []=>if k=3 then 1 else if k=2 then 0 else -1
 | [a]=>if k=6 then 0 else if low=0 then 0 else if a<0 then -1 else min 1000000 (a*low)
 | a::b::_=>if k=4 then (if a<0∨b<0 then -1 else min 1000000 (a+b)) else if a<0∨(0≤b∧b<a) then b else a
def shortest:Tr→Int
 | .leaf t=>shortG t.Kind t.Low []
 | .un t x=>shortG t.Kind t.Low [shortest x]
 | .bin t x y=>shortG t.Kind t.Low [shortest x,shortest y]
theorem shortest_eq (x:Tr):shortest x=shortG x.tok.Kind x.tok.Low (x.kids.map shortest):=by cases x<;>rfl
theorem shortG_r {k low:Int} {l:List Int} (hl:0≤low) (h:∀ a∈l,-1≤a∧a≤1000000):-1≤shortG k low l∧shortG k low l≤1000000:=by
 match l,h with
 | [],_=>simp only [shortG];split<;>(try split)<;>omega
 | [a],h=>
  have:=h a (by simp)
  simp only [shortG]
  split
  · omega
  split
  · omega
  split
  · omega
  have:0≤a*low:=Int.mul_nonneg (by omega) hl
  omega
 | a::b::r,h=>
  have h1:=h a (by simp)
  have h2:=h b (by simp)
  simp only [shortG]
  split
  · split<;>omega
  split<;>omega
theorem good_cases {x:Tr} (hg:good x):0≤x.tok.Low∧x.tok.Low≤3∧((x.kids=[]∧(x.tok.Kind=1∨x.tok.Kind=2∨x.tok.Kind=3))∨(∃ y,x.kids=[y]∧(x.tok.Kind=6∨x.tok.Kind=7))∨(∃ y z,x.kids=[y,z]∧(x.tok.Kind=4∨x.tok.Kind=5))):=by
 have ha:=good_arity hg
 have hk:=kids_le x
 have hl:x.kids.length=0∨x.kids.length=1∨x.kids.length=2:=by omega
 have harr:arity x.tok≥0:=by omega
 have key:0≤x.tok.Low∧x.tok.Low≤3∧(arity x.tok=0→x.tok.Kind=1∨x.tok.Kind=2∨x.tok.Kind=3)∧(arity x.tok=1→x.tok.Kind=6∨x.tok.Kind=7)∧(arity x.tok=2→x.tok.Kind=4∨x.tok.Kind=5):=by
  revert harr
  unfold arity zerT inB
  intro harr
  repeat' split at harr
  all_goals first|omega|(simp_all<;>omega)
 refine⟨key.1,key.2.1,?_⟩
 rcases hl with h|h|h
 · exact .inl ⟨List.eq_nil_of_length_eq_zero h,key.2.2.1 (by omega)⟩
 · obtain⟨y,hy,_⟩:=kids_one hg (by omega)
   exact .inr (.inl ⟨y,hy,key.2.2.2.1 (by omega)⟩)
 obtain⟨y,z,hy,_⟩:=kids_two hg (by omega)
 exact .inr (.inr ⟨y,z,hy,key.2.2.2.2 (by omega)⟩)
theorem shortest_r:∀ x:Tr,good x→ -1≤shortest x∧shortest x≤1000000:=
 Tr.ind fun x ih hg=>by
  rw [shortest_eq]
  refine shortG_r (good_cases hg).1 fun a ha=>?_
  obtain⟨y,hy,rfl⟩:=List.mem_map.1 ha
  exact ih y hy (good_kids hg y hy)
def shortestWord (e:TExpr):Int:=if isValidExpr e then (match treeM e.Tokens with|some x=>shortest x|none=> -1) else -1
theorem kind_two' {x:Tr} (hg:good x) (h:x.tok.Kind=4∨x.tok.Kind=5):∃ y z,x.kids=[y,z]∧toks x=toks y++toks z++[x.tok]∧good y∧good z:=by
 rcases (good_cases hg).2.2 with ⟨_,h1⟩|⟨y,_,h1⟩|⟨y,z,h1,_⟩
 · omega
 · omega
 exact kids_two hg (by rw [good_arity hg,h1];rfl)
theorem kind_one' {x:Tr} (hg:good x) (h:x.tok.Kind=6∨x.tok.Kind=7):∃ y,x.kids=[y]∧toks x=toks y++[x.tok]∧good y:=by
 rcases (good_cases hg).2.2 with ⟨_,h1⟩|⟨y,h1,_⟩|⟨y,z,_,h1⟩
 · omega
 · exact kids_one hg (by rw [good_arity hg,h1];rfl)
 omega
theorem kind_no' {x:Tr} (hg:good x) (h:x.tok.Kind≠4∧x.tok.Kind≠5∧x.tok.Kind≠6∧x.tok.Kind≠7):x.kids=[]:=by
 rcases (good_cases hg).2.2 with ⟨h1,_⟩|⟨y,_,h1⟩|⟨y,z,_,h1⟩
 · exact h1
 · omega
 omega
theorem mul_low {a low:Int} (h0:0≤a) (h1:a≤1000000) (h2:0≤low) (h3:low≤3):0≤a*low∧a*low≤3000000:=
 ⟨Int.mul_nonneg h0 h2,Int.le_trans (Int.mul_le_mul h1 h3 h2 (by omega)) (by omega)⟩
end Go.Q
namespace Go.Proofs.YtdhojcaoljhbiaaGreat
open Go.RowKit Go.Q Go.D
theorem implshortest1 (x:Tr) (hg:good x) (ih:∀ y∈x.kids,FnT Tryz.prog 43 [.one (.ad (treeCells y))] (.a (.one (.v (.int .i64 (shortest y)))))):FnT Tryz.prog 43 [.one (.ad (treeCells x))] (.a (.one (.v (.int .i64 (shortest x))))):=by
 refine A6 Tryz.func43 U (by kernel_rfl) Tryz.ntmps43 U fun hlen w0=>?_
 try simp [cToken,cExpr] at hlen
 clear hlen;rw [treeCells_eq,shortest_eq];obtain⟨hlow,hlow3,-⟩:=good_cases hg;refine Af (AWl.ac ?_);refine Aa (Ae (Af (Ab ?_)));refine Ac (B6 U (.no U) U (.tm U)) U ?_;refine A8 Di ?_;refine A8 Co ?_;refine Ak ty3 ?_;refine Aa (AW.block (Ae (Af (Ba ?_))));refine Ag ?_;refine Aa (Ah (.tm U) (fun h11=>?_) (fun h11=>?_))
 · try simp at h11
   refine AW.skip (Ah (.tm U) (fun h11=>?_) (fun h11=>?_))
   · try simp at h11
     refine Af (AWl.ac ?_);refine Aa (Ai (Bb U U ?_))
     congr 1;first|(rw [hk2];simp only [List.map,shortG];(repeat' split)<;>omega)|(rw [hk2,Int.mul_comm];simp only [List.map,shortG];(repeat' split)<;>omega)|(rw [kind_no' hg (by omega)];simp only [List.map,shortG];(repeat' split)<;>omega)|(obtain⟨y,hk3,-⟩:=kind_one' hg (by omega);rw [hk3];simp only [List.map,shortG];(repeat' split)<;>omega)|(rcases (good_cases hg).2.2 with ⟨hk3,hk4⟩|⟨y,hk3,hk4⟩|⟨y,z,hk3,hk4⟩<;>rw [hk3]<;>simp only [List.map,shortG]<;>(repeat' split)<;>omega)
   exfalso;(try simp at h11);first|contradiction|omega|simp_all|grind
 try simp at h11
 refine Ad (Ba ?_);refine Ag ?_;refine Aa (Ah (.tm U) (fun h11=>?_) (fun h11=>?_))
 · try simp at h11
   refine Ae (Al (Ap [0,2,10,11] []) ?_);refine Ad (AWl.ac ?_);refine Aa (Ai (Bb U U ?_))
   congr 1;first|(rw [hk2];simp only [List.map,shortG];(repeat' split)<;>omega)|(rw [hk2,Int.mul_comm];simp only [List.map,shortG];(repeat' split)<;>omega)|(rw [kind_no' hg (by omega)];simp only [List.map,shortG];(repeat' split)<;>omega)|(obtain⟨y,hk3,-⟩:=kind_one' hg (by omega);rw [hk3];simp only [List.map,shortG];(repeat' split)<;>omega)|(rcases (good_cases hg).2.2 with ⟨hk3,hk4⟩|⟨y,hk3,hk4⟩|⟨y,z,hk3,hk4⟩<;>rw [hk3]<;>simp only [List.map,shortG]<;>(repeat' split)<;>omega)
 try simp at h11
 refine Ae (Al (Ap [0,2,10,11] []) ?_);refine Ad (Ba ?_);refine Ag ?_;refine Aa (Ah (.tm U) (fun h14=>?_) (fun h14=>?_))
 · try simp at h14
   refine Af (AWl.ac ?_);refine Aa (Ai (Bb U U ?_))
   congr 1;first|(rw [hk2];simp only [List.map,shortG];(repeat' split)<;>omega)|(rw [hk2,Int.mul_comm];simp only [List.map,shortG];(repeat' split)<;>omega)|(rw [kind_no' hg (by omega)];simp only [List.map,shortG];(repeat' split)<;>omega)|(obtain⟨y,hk3,-⟩:=kind_one' hg (by omega);rw [hk3];simp only [List.map,shortG];(repeat' split)<;>omega)|(rcases (good_cases hg).2.2 with ⟨hk3,hk4⟩|⟨y,hk3,hk4⟩|⟨y,z,hk3,hk4⟩<;>rw [hk3]<;>simp only [List.map,shortG]<;>(repeat' split)<;>omega)
 try simp at h14
 refine Ae (Af (Ba ?_));refine Ag ?_;refine Aa (Ah (.tm U) (fun h16=>?_) (fun h16=>?_))
 · try simp at h16
   obtain⟨y,z,hk2,-,hgy,hgz⟩:=kind_two' hg (by omega)
   have hi0:(x.kids.map cKid)[(0:Int).toNat]?=some (cKid y):=by rw [hk2];rfl
   have hi1:(x.kids.map cKid)[(1:Int).toNat]?=some (cKid z):=by rw [hk2];rfl
   have hry:=shortest_r y hgy
   have hrz:=shortest_r z hgz
   have hln:x.kids.length=2:=by rw [hk2];rfl
   refine AW.skip (Ah (.tm U) (fun h16=>?_) (fun h16=>?_))
   · try simp at h16
     obtain⟨y,z,hk2,-,hgy,hgz⟩:=kind_two' hg (by omega)
     have hi0:(x.kids.map cKid)[(0:Int).toNat]?=some (cKid y):=by rw [hk2];rfl
     have hi1:(x.kids.map cKid)[(1:Int).toNat]?=some (cKid z):=by rw [hk2];rfl
     have hry:=shortest_r y hgy
     have hrz:=shortest_r z hgz
     have hln:x.kids.length=2:=by rw [hk2];rfl
     refine Ae (Cc 16 (nthB [[],[0],[0,1],[0,1,2],[0,1,2,3],[0,1,2,3,4],[0,1,2,3,4,5],[],[7],[7,8],[7,8,9],[7,8,9,10],[7,8,9,10,11],[0,1,2,3,4,5,6,7,8,9,10,11,12],[0,1,2,3,4,5,6,7,8,9,10,11,12,13],[0,1,2,3,4,5,6,7,8,9,10,11,12,13,14]]) (by kernel_rfl) (by kernel_rfl) (by kernel_rfl) ?_);refine Av ?_;refine DrawC.s (fun _ hs=>(by exact B6 U (.no U) (Aj hs U) (hs.tm U))) ?_;refine Ck Dq ?_;refine Bp ty120 ?_;refine DrawC.s (fun _ hs=>(by exact An U (.no U) (Aj hs U) (hs.tm U) (.const U) Tryz.underlying120 ty65 (fun _=>⟨by omega,(by assumption)⟩))) ?_;refine Bp ty65 ?_;refine DrawC.s (fun _ hs=>Aw (FnT.fr (ih y (by rw [hk2];simp))) U (.no U) (Aj hs U) (.cons (hs.tm U) (readA_sup hs U) .nil)) ?_;refine Av ?_;refine DrawC.s (fun _ hs=>(by exact B6 U (.no U) (Aj hs U) (hs.tm U))) ?_;refine Ck Dq ?_;refine Bp ty120 ?_
     refine DrawC.s (fun _ hs=>(by exact An U (.no U) (Aj hs U) (hs.tm U) (.const U) Tryz.underlying120 ty65 (fun _=>⟨by omega,(by assumption)⟩))) ?_;refine Bp ty65 ?_;refine DrawC.s (fun _ hs=>Aw (FnT.fr (ih z (by rw [hk2];simp))) U (.no U) (Aj hs U) (.cons (hs.tm U) (readA_sup hs U) .nil)) ?_;refine DrawC.s (fun _ hs=>C5 U (.no U) (Aj hs U) (hs.tm U)) ?_;refine DrawC.s (fun _ hs=>C5 U (.no U) (Aj hs U) (hs.tm U)) ?_;refine DrawC.fin U U ?_;refine Aa (Ae (AW.block (Ae (Al (Ap [0,2,3,4,10,11,16] []) ?_))));refine Ad (Ab ?_);refine Ac (B6 U (.no U) U (.tm U)) U ?_;refine A8 Di ?_;refine A8 Co ?_;refine Ak ty3 ?_;refine Ba ?_;refine Ab ?_;refine Cl ?_;refine Ac (R_lt U (by exact .yes1 U U U U) U (.tmp U (by exact id)) (.const U)) U ?_;refine Ac (Bf U (by exact .yes1 U U U U) U (.tmp U (by exact id))) U ?_;refine Ac (Bf U (by exact .not U U U U) U (.tmp U (by exact fun _=>rfl))) U ?_
     refine Ac (R_ge U (by exact .not U U U U) U (.tmp U (by exact id)) (.const U)) U ?_;refine Ac (Bf U (by exact .not U U U U) U (.tmp U (by exact id))) U ?_;refine Ac (Bf U (by exact .yes U U U U) U (.tmp U (by exact fun _=>rfl))) U ?_;refine Ac (Bf U (by exact .yes U U U U) U (.tmp U (by exact fun _=>rfl))) U ?_;refine Ac (R_lt U (by exact .yes U U U U) U (.tmp U (by exact id)) (.tmp U (by exact id))) U ?_;refine Ac (R_and U (by exact .not U U U U) U (.tmp U (by exact id)) (.tmp U (by exact id))) U ?_;refine Ac (R_or U (by exact .yes1 U U U U) U (.tmp U (by exact id)) (.tmp U (by exact id))) U ?_;refine Cb ?_;refine Ag ?_;refine Aa (Ah (.tm U) (fun h33=>?_) (fun h33=>?_))
     · try simp at h33
       refine Ae (Al (Ap [0,2,3,4,10,11,16] []) ?_);refine Ad (Ab ?_);refine Ag ?_;refine Aa (Ai (Bb U U ?_))
       congr 1;first|(rw [hk2];simp only [List.map,shortG];(repeat' split)<;>omega)|(rw [hk2,Int.mul_comm];simp only [List.map,shortG];(repeat' split)<;>omega)|(rw [kind_no' hg (by omega)];simp only [List.map,shortG];(repeat' split)<;>omega)|(obtain⟨y,hk3,-⟩:=kind_one' hg (by omega);rw [hk3];simp only [List.map,shortG];(repeat' split)<;>omega)|(rcases (good_cases hg).2.2 with ⟨hk3,hk4⟩|⟨y,hk3,hk4⟩|⟨y,z,hk3,hk4⟩<;>rw [hk3]<;>simp only [List.map,shortG]<;>(repeat' split)<;>omega)
     try simp at h33
     refine Ae (Al (Ap [0,2,3,4,10,11,16] []) ?_);refine Ad (Ab ?_);refine Ac (B6 U (.no U) U (.tm U)) U ?_;refine A8 Di ?_;refine A8 Co ?_;refine Ak ty3 ?_;refine Ba ?_;refine Ag ?_;refine Aa (Ah (.tm U) (fun h54=>?_) (fun h54=>?_))
     · try simp at h54
       refine Ae (Al (Ap [0,2,3,4,10,11,16] []) ?_);refine Ad (Ab ?_);refine Ag ?_;refine Aa (Ai (Bb U U ?_))
       congr 1;first|(rw [hk2];simp only [List.map,shortG];(repeat' split)<;>omega)|(rw [hk2,Int.mul_comm];simp only [List.map,shortG];(repeat' split)<;>omega)|(rw [kind_no' hg (by omega)];simp only [List.map,shortG];(repeat' split)<;>omega)|(obtain⟨y,hk3,-⟩:=kind_one' hg (by omega);rw [hk3];simp only [List.map,shortG];(repeat' split)<;>omega)|(rcases (good_cases hg).2.2 with ⟨hk3,hk4⟩|⟨y,hk3,hk4⟩|⟨y,z,hk3,hk4⟩<;>rw [hk3]<;>simp only [List.map,shortG]<;>(repeat' split)<;>omega)
     try simp at h54
     refine Ae (Al (Ap [0,2,3,4,10,11,16] []) ?_);refine Ad (Ab ?_);refine Cv ?_;refine Ab ?_;refine AWl.mw ?_;refine Ac (R_lt U (by exact .not1 U U U U) U (.tmp U (by exact id)) (.const U)) U ?_;refine Cj ?_;refine Ag ?_;refine Aa (Ah (.tm U) (fun h62=>?_) (fun h62=>?_))
     · try simp at h62
       refine Ae (Al (Ap [0,2,3,4,10,11,16] []) ?_);refine Ad (AWl.ac ?_);refine Aa (Ai (Bb U U ?_))
       congr 1;first|(rw [hk2];simp only [List.map,shortG];(repeat' split)<;>omega)|(rw [hk2,Int.mul_comm];simp only [List.map,shortG];(repeat' split)<;>omega)|(rw [kind_no' hg (by omega)];simp only [List.map,shortG];(repeat' split)<;>omega)|(obtain⟨y,hk3,-⟩:=kind_one' hg (by omega);rw [hk3];simp only [List.map,shortG];(repeat' split)<;>omega)|(rcases (good_cases hg).2.2 with ⟨hk3,hk4⟩|⟨y,hk3,hk4⟩|⟨y,z,hk3,hk4⟩<;>rw [hk3]<;>simp only [List.map,shortG]<;>(repeat' split)<;>omega)
     try simp at h62
     refine AW.skip (Ae (Al (Ap [0,2,3,4,10,11,16] []) ?_));refine Ad (Ab ?_);refine Ab ?_;refine Ac (R_add U (.no U) U (.tm U) (.tm U) (fun _=>by omega)) U ?_;refine Ac (R_min U (.no U) U (.const U) (.tm U)) U ?_;refine Ag ?_;refine Aa (Ai (Bb U U ?_))
     congr 1;first|(rw [hk2];simp only [List.map,shortG];(repeat' split)<;>omega)|(rw [hk2,Int.mul_comm];simp only [List.map,shortG];(repeat' split)<;>omega)|(rw [kind_no' hg (by omega)];simp only [List.map,shortG];(repeat' split)<;>omega)|(obtain⟨y,hk3,-⟩:=kind_one' hg (by omega);rw [hk3];simp only [List.map,shortG];(repeat' split)<;>omega)|(rcases (good_cases hg).2.2 with ⟨hk3,hk4⟩|⟨y,hk3,hk4⟩|⟨y,z,hk3,hk4⟩<;>rw [hk3]<;>simp only [List.map,shortG]<;>(repeat' split)<;>omega)
   exfalso;(try simp at h16);first|contradiction|omega|simp_all|grind
 try simp at h16
 refine Ad (Ba ?_);refine Ag ?_;refine Aa (Ah (.tm U) (fun h16=>?_) (fun h16=>?_))
 · try simp at h16
   obtain⟨y,z,hk2,-,hgy,hgz⟩:=kind_two' hg (by omega)
   have hi0:(x.kids.map cKid)[(0:Int).toNat]?=some (cKid y):=by rw [hk2];rfl
   have hi1:(x.kids.map cKid)[(1:Int).toNat]?=some (cKid z):=by rw [hk2];rfl
   have hry:=shortest_r y hgy
   have hrz:=shortest_r z hgz
   have hln:x.kids.length=2:=by rw [hk2];rfl
   refine Ae (Cc 16 (nthB [[],[0],[0,1],[0,1,2],[0,1,2,3],[0,1,2,3,4],[0,1,2,3,4,5],[],[7],[7,8],[7,8,9],[7,8,9,10],[7,8,9,10,11],[0,1,2,3,4,5,6,7,8,9,10,11,12],[0,1,2,3,4,5,6,7,8,9,10,11,12,13],[0,1,2,3,4,5,6,7,8,9,10,11,12,13,14]]) (by kernel_rfl) (by kernel_rfl) (by kernel_rfl) ?_);refine Av ?_;refine DrawC.s (fun _ hs=>(by exact B6 U (.no U) (Aj hs U) (hs.tm U))) ?_;refine Ck Dq ?_;refine Bp ty120 ?_;refine DrawC.s (fun _ hs=>(by exact An U (.no U) (Aj hs U) (hs.tm U) (.const U) Tryz.underlying120 ty65 (fun _=>⟨by omega,(by assumption)⟩))) ?_;refine Bp ty65 ?_;refine DrawC.s (fun _ hs=>Aw (FnT.fr (ih y (by rw [hk2];simp))) U (.no U) (Aj hs U) (.cons (hs.tm U) (readA_sup hs U) .nil)) ?_;refine Av ?_;refine DrawC.s (fun _ hs=>(by exact B6 U (.no U) (Aj hs U) (hs.tm U))) ?_;refine Ck Dq ?_;refine Bp ty120 ?_
   refine DrawC.s (fun _ hs=>(by exact An U (.no U) (Aj hs U) (hs.tm U) (.const U) Tryz.underlying120 ty65 (fun _=>⟨by omega,(by assumption)⟩))) ?_;refine Bp ty65 ?_;refine DrawC.s (fun _ hs=>Aw (FnT.fr (ih z (by rw [hk2];simp))) U (.no U) (Aj hs U) (.cons (hs.tm U) (readA_sup hs U) .nil)) ?_;refine DrawC.s (fun _ hs=>C5 U (.no U) (Aj hs U) (hs.tm U)) ?_;refine DrawC.s (fun _ hs=>C5 U (.no U) (Aj hs U) (hs.tm U)) ?_;refine DrawC.fin U U ?_;refine Aa (Ae (AW.block (Ae (Al (Ap [0,2,3,4,10,11,16] []) ?_))));refine Ad (Ab ?_);refine Ac (B6 U (.no U) U (.tm U)) U ?_;refine A8 Di ?_;refine A8 Co ?_;refine Ak ty3 ?_;refine Ba ?_;refine Ab ?_;refine Cl ?_;refine Ac (R_lt U (by exact .yes1 U U U U) U (.tmp U (by exact id)) (.const U)) U ?_;refine Ac (Bf U (by exact .yes1 U U U U) U (.tmp U (by exact id))) U ?_;refine Ac (Bf U (by exact .not U U U U) U (.tmp U (by exact fun _=>rfl))) U ?_
   refine Ac (R_ge U (by exact .not U U U U) U (.tmp U (by exact id)) (.const U)) U ?_;refine Ac (Bf U (by exact .not U U U U) U (.tmp U (by exact id))) U ?_;refine Ac (Bf U (by exact .yes U U U U) U (.tmp U (by exact fun _=>rfl))) U ?_;refine Ac (Bf U (by exact .yes U U U U) U (.tmp U (by exact fun _=>rfl))) U ?_;refine Ac (R_lt U (by exact .yes U U U U) U (.tmp U (by exact id)) (.tmp U (by exact id))) U ?_;refine Ac (R_and U (by exact .not U U U U) U (.tmp U (by exact id)) (.tmp U (by exact id))) U ?_;refine Ac (R_or U (by exact .yes1 U U U U) U (.tmp U (by exact id)) (.tmp U (by exact id))) U ?_;refine Cb ?_;refine Ag ?_;refine Aa (Ah (.tm U) (fun h33=>?_) (fun h33=>?_))
   · try simp at h33
     refine Ae (Al (Ap [0,2,3,4,10,11,16] []) ?_);refine Ad (Ab ?_);refine Ag ?_;refine Aa (Ai (Bb U U ?_))
     congr 1;first|(rw [hk2];simp only [List.map,shortG];(repeat' split)<;>omega)|(rw [hk2,Int.mul_comm];simp only [List.map,shortG];(repeat' split)<;>omega)|(rw [kind_no' hg (by omega)];simp only [List.map,shortG];(repeat' split)<;>omega)|(obtain⟨y,hk3,-⟩:=kind_one' hg (by omega);rw [hk3];simp only [List.map,shortG];(repeat' split)<;>omega)|(rcases (good_cases hg).2.2 with ⟨hk3,hk4⟩|⟨y,hk3,hk4⟩|⟨y,z,hk3,hk4⟩<;>rw [hk3]<;>simp only [List.map,shortG]<;>(repeat' split)<;>omega)
   try simp at h33
   refine Ae (Al (Ap [0,2,3,4,10,11,16] []) ?_);refine Ad (Ab ?_);refine Ac (B6 U (.no U) U (.tm U)) U ?_;refine A8 Di ?_;refine A8 Co ?_;refine Ak ty3 ?_;refine Ba ?_;refine Ag ?_;refine Aa (Ah (.tm U) (fun h54=>?_) (fun h54=>?_))
   · try simp at h54
     refine Ae (Al (Ap [0,2,3,4,10,11,16] []) ?_);refine Ad (Ab ?_);refine Ag ?_;refine Aa (Ai (Bb U U ?_))
     congr 1;first|(rw [hk2];simp only [List.map,shortG];(repeat' split)<;>omega)|(rw [hk2,Int.mul_comm];simp only [List.map,shortG];(repeat' split)<;>omega)|(rw [kind_no' hg (by omega)];simp only [List.map,shortG];(repeat' split)<;>omega)|(obtain⟨y,hk3,-⟩:=kind_one' hg (by omega);rw [hk3];simp only [List.map,shortG];(repeat' split)<;>omega)|(rcases (good_cases hg).2.2 with ⟨hk3,hk4⟩|⟨y,hk3,hk4⟩|⟨y,z,hk3,hk4⟩<;>rw [hk3]<;>simp only [List.map,shortG]<;>(repeat' split)<;>omega)
   try simp at h54
   refine Ae (Al (Ap [0,2,3,4,10,11,16] []) ?_);refine Ad (Ab ?_);refine Cv ?_;refine Ab ?_;refine AWl.mw ?_;refine Ac (R_lt U (by exact .not1 U U U U) U (.tmp U (by exact id)) (.const U)) U ?_;refine Cj ?_;refine Ag ?_;refine Aa (Ah (.tm U) (fun h62=>?_) (fun h62=>?_))
   · try simp at h62
     refine Ae (Al (Ap [0,2,3,4,10,11,16] []) ?_);refine Ad (AWl.ac ?_);refine Aa (Ai (Bb U U ?_))
     congr 1;first|(rw [hk2];simp only [List.map,shortG];(repeat' split)<;>omega)|(rw [hk2,Int.mul_comm];simp only [List.map,shortG];(repeat' split)<;>omega)|(rw [kind_no' hg (by omega)];simp only [List.map,shortG];(repeat' split)<;>omega)|(obtain⟨y,hk3,-⟩:=kind_one' hg (by omega);rw [hk3];simp only [List.map,shortG];(repeat' split)<;>omega)|(rcases (good_cases hg).2.2 with ⟨hk3,hk4⟩|⟨y,hk3,hk4⟩|⟨y,z,hk3,hk4⟩<;>rw [hk3]<;>simp only [List.map,shortG]<;>(repeat' split)<;>omega)
   try simp at h62
   refine AW.skip (Ae (Al (Ap [0,2,3,4,10,11,16] []) ?_));refine Ad (Ab ?_);refine Ab ?_;refine Ac (R_add U (.no U) U (.tm U) (.tm U) (fun _=>by omega)) U ?_;refine Ac (R_min U (.no U) U (.const U) (.tm U)) U ?_;refine Ag ?_;refine Aa (Ai (Bb U U ?_))
   congr 1;first|(rw [hk2];simp only [List.map,shortG];(repeat' split)<;>omega)|(rw [hk2,Int.mul_comm];simp only [List.map,shortG];(repeat' split)<;>omega)|(rw [kind_no' hg (by omega)];simp only [List.map,shortG];(repeat' split)<;>omega)|(obtain⟨y,hk3,-⟩:=kind_one' hg (by omega);rw [hk3];simp only [List.map,shortG];(repeat' split)<;>omega)|(rcases (good_cases hg).2.2 with ⟨hk3,hk4⟩|⟨y,hk3,hk4⟩|⟨y,z,hk3,hk4⟩<;>rw [hk3]<;>simp only [List.map,shortG]<;>(repeat' split)<;>omega)
 try simp at h16
 refine Af (Ba ?_);refine Ag ?_;refine Aa (Ah (.tm U) (fun h73=>?_) (fun h73=>?_))
 · try simp at h73
   obtain⟨y,hk2,-,hgy⟩:=kind_one' hg (by omega)
   have hi0:(x.kids.map cKid)[(0:Int).toNat]?=some (cKid y):=by rw [hk2];rfl
   have hry:=shortest_r y hgy
   have hln:x.kids.length=1:=by rw [hk2];rfl
   refine Ae (Al (Ap [0,2,10,11,16] []) ?_);refine Ad (Ab ?_);refine Ac (B6 U (.no U) U (.tm U)) U ?_;refine A8 Dq ?_;refine Ak ty120 ?_;refine Ac (An U (.no U) U (.tm U) (.const U) Tryz.underlying120 ty65 (fun _=>⟨by omega,(by assumption)⟩)) U ?_;refine Ak ty65 ?_;refine Ac (Aw (FnT.fr (ih y (by rw [hk2];simp))) U (.no U) U (.cons (.tm U) U .nil)) U ?_;refine Ag ?_;refine Aa (Ae (AW.block (Ae (Al (Ap [0,2,5,10,11,16] []) ?_))));refine Ad (Ab ?_);refine Ac (B6 U (.no U) U (.tm U)) U ?_;refine A8 Di ?_;refine A8 Db ?_;refine Ak ty3 ?_;refine Ba ?_;refine Ag ?_;refine Aa (Ah (.tm U) (fun h82=>?_) (fun h82=>?_))
   · try simp at h82
     refine Ae (Al (Ap [0,2,5,10,11,16] []) ?_);refine Ad (AWl.ac ?_);refine Aa (Ai (Bb U U ?_))
     congr 1;first|(rw [hk2];simp only [List.map,shortG];(repeat' split)<;>omega)|(rw [hk2,Int.mul_comm];simp only [List.map,shortG];(repeat' split)<;>omega)|(rw [kind_no' hg (by omega)];simp only [List.map,shortG];(repeat' split)<;>omega)|(obtain⟨y,hk3,-⟩:=kind_one' hg (by omega);rw [hk3];simp only [List.map,shortG];(repeat' split)<;>omega)|(rcases (good_cases hg).2.2 with ⟨hk3,hk4⟩|⟨y,hk3,hk4⟩|⟨y,z,hk3,hk4⟩<;>rw [hk3]<;>simp only [List.map,shortG]<;>(repeat' split)<;>omega)
   try simp at h82
   refine Ae (Al (Ap [0,2,5,10,11,16] []) ?_);refine Ad (Ab ?_);refine Cv ?_;refine Ag ?_;refine Aa (Ah (.tm U) (fun h89=>?_) (fun h89=>?_))
   · try simp at h89
     refine Af (AWl.ac ?_);refine Aa (Ai (Bb U U ?_))
     congr 1;first|(rw [hk2];simp only [List.map,shortG];(repeat' split)<;>omega)|(rw [hk2,Int.mul_comm];simp only [List.map,shortG];(repeat' split)<;>omega)|(rw [kind_no' hg (by omega)];simp only [List.map,shortG];(repeat' split)<;>omega)|(obtain⟨y,hk3,-⟩:=kind_one' hg (by omega);rw [hk3];simp only [List.map,shortG];(repeat' split)<;>omega)|(rcases (good_cases hg).2.2 with ⟨hk3,hk4⟩|⟨y,hk3,hk4⟩|⟨y,z,hk3,hk4⟩<;>rw [hk3]<;>simp only [List.map,shortG]<;>(repeat' split)<;>omega)
   try simp at h89
   have hml:=mul_low (a:=shortest y) (low:=x.tok.Low) (by omega) (by omega) hlow hlow3
   rw [Int.mul_comm] at hml
   refine AW.skip (Af (Ab ?_));refine Ac (B6 U (.no U) U (.tm U)) U ?_;refine A8 Di ?_;refine A8 Db ?_;refine Ak ty3 ?_;refine Ab ?_;refine Ac (R_mul U (.no U) U (.tm U) (.tm U) (fun _=>by omega)) U ?_;refine Ac (R_min U (.no U) U (.const U) (.tm U)) U ?_;refine Ag ?_;refine Aa (Ai (Bb U U ?_))
   congr 1;first|(rw [hk2];simp only [List.map,shortG];(repeat' split)<;>omega)|(rw [hk2,Int.mul_comm];simp only [List.map,shortG];(repeat' split)<;>omega)|(rw [kind_no' hg (by omega)];simp only [List.map,shortG];(repeat' split)<;>omega)|(obtain⟨y,hk3,-⟩:=kind_one' hg (by omega);rw [hk3];simp only [List.map,shortG];(repeat' split)<;>omega)|(rcases (good_cases hg).2.2 with ⟨hk3,hk4⟩|⟨y,hk3,hk4⟩|⟨y,z,hk3,hk4⟩<;>rw [hk3]<;>simp only [List.map,shortG]<;>(repeat' split)<;>omega)
 try simp at h73
 refine AW.skip (Ae (Al (Ap [0,2,10,11,16] []) ?_));refine Ad (AWl.ac ?_);refine Aa (Ai (Bb U U ?_))
 congr 1;first|(rw [hk2];simp only [List.map,shortG];(repeat' split)<;>omega)|(rw [hk2,Int.mul_comm];simp only [List.map,shortG];(repeat' split)<;>omega)|(rw [kind_no' hg (by omega)];simp only [List.map,shortG];(repeat' split)<;>omega)|(obtain⟨y,hk3,-⟩:=kind_one' hg (by omega);rw [hk3];simp only [List.map,shortG];(repeat' split)<;>omega)|(rcases (good_cases hg).2.2 with ⟨hk3,hk4⟩|⟨y,hk3,hk4⟩|⟨y,z,hk3,hk4⟩<;>rw [hk3]<;>simp only [List.map,shortG]<;>(repeat' split)<;>omega)
theorem implshortest:∀ x:Tr,good x→FnT Tryz.prog 43 [.one (.ad (treeCells x))] (.a (.one (.v (.int .i64 (shortest x))))):=
 Tr.ind fun x ih hg=>implshortest1 x hg fun y hy=>ih y hy (good_kids hg y hy)
theorem implShortestWordLength (e:TExpr):FnT Tryz.prog 16 [.agg (cExpr e)] (.a (.one (.v (.int .i64 (shortestWord e))))):=by
 refine A6 Tryz.func16 U (by kernel_rfl) Tryz.ntmps16 U fun hlen w0=>?_
 try simp [cToken,cExpr] at hlen
 refine Af (Ac (Bo U U U (.tm U) (ts:=_) (by rfl)) U ?_);refine AWl.ac ?_;refine Aa (Ae (Af (Ak Ar ?_)));refine Bu (implIsValidExpr _) ?_;refine Cw ?_;refine Aa (Ah (.tm U) (fun h5=>?_) (fun h5=>?_))
 · try simp at h5
   refine Af (AWl.ac ?_);refine Aa (Ai (Bb U U ?_))
   unfold shortestWord;rw [h5];rfl
 try simp at h5
 obtain⟨x,hx,htk,hgx,hl⟩:=valid_tree h5
 have htr:=impltreeOf e (by omega)
 rw [treeV_some hx] at htr
 refine AW.skip (Af (Ak Ar ?_));refine Ac (Aw (htr) U (.no U) U (.cons (.tm U) U .nil)) U ?_;refine Bu (implshortest x hgx) ?_;refine Ag ?_;refine Aa (Ai (Bb U U ?_))
 unfold shortestWord;rw [h5,hx];rfl
theorem specl30Short1 (x:Tr) (hg:good x) (hz:(toks x).length≤1048576) (ih:∀ y∈x.kids,∀ L,L=(toks y).map cToken→FnT Tryz.prog 44 [.one (.sl 4 L)] (.a (.one (.v (.int .i64 (shortest y)))))):FnT Tryz.prog 44 [.one (.sl 4 ((toks x).map cToken))] (.a (.one (.v (.int .i64 (shortest x))))):=by
 refine A6 Tryz.func44 U (by kernel_rfl) Tryz.ntmps44 U fun hlen w0=>?_
 try simp [cToken,cExpr] at hlen
 clear hlen;rw [shortest_eq];obtain⟨hlow,hlow3,-⟩:=good_cases hg;have hlast:=tok_last x;have hpos:=toks_pos x
 refine Af (AWl.ac ?_);refine Aa (Af (Ab ?_));refine Br (.t) Tryz.underlying24 ?_;refine C4 ?_;refine Ag ?_;refine Aa (Af (Ab ?_));refine Ab ?_;refine Ac (An U (.no U) U (.tm U) (.tm U) Tryz.underlying24 Bv (fun _=>⟨by omega,Am hlast⟩)) U ?_;refine Ak Bv ?_;refine Aq (Au 4 U U U Ci U U U) U ?_;refine Ao Bv ?_;refine Aa (Ae (Ae (Al (Ap [0,2,3,4] [4]) ?_)));refine Ad (Bd Co ?_);refine A3 ty3 ?_;refine Aa (AW.block (Af (Ba ?_)));refine Ag ?_;refine Aa (Ah (.tm U) (fun h21=>?_) (fun h21=>?_))
 · try simp at h21
   refine Af (AWl.ac ?_);refine Aa (Ai (Bb U U ?_))
   congr 1;first|(rw [hk2];simp only [List.map,shortG];(repeat' split)<;>omega)|(rw [hk2,Int.mul_comm];simp only [List.map,shortG];(repeat' split)<;>omega)|(rw [kind_no' hg (by omega)];simp only [List.map,shortG];(repeat' split)<;>omega)|(obtain⟨y,hk3,-⟩:=kind_one' hg (by omega);rw [hk3];simp only [List.map,shortG];(repeat' split)<;>omega)|(rcases (good_cases hg).2.2 with ⟨hk3,hk4⟩|⟨y,hk3,hk4⟩|⟨y,z,hk3,hk4⟩<;>rw [hk3]<;>simp only [List.map,shortG]<;>(repeat' split)<;>omega)
 try simp at h21
 refine Af (Ba ?_);refine Ag ?_;refine Aa (Ah (.tm U) (fun h23=>?_) (fun h23=>?_))
 · try simp at h23
   refine Af (AWl.ac ?_);refine Aa (Ai (Bb U U ?_))
   congr 1;first|(rw [hk2];simp only [List.map,shortG];(repeat' split)<;>omega)|(rw [hk2,Int.mul_comm];simp only [List.map,shortG];(repeat' split)<;>omega)|(rw [kind_no' hg (by omega)];simp only [List.map,shortG];(repeat' split)<;>omega)|(obtain⟨y,hk3,-⟩:=kind_one' hg (by omega);rw [hk3];simp only [List.map,shortG];(repeat' split)<;>omega)|(rcases (good_cases hg).2.2 with ⟨hk3,hk4⟩|⟨y,hk3,hk4⟩|⟨y,z,hk3,hk4⟩<;>rw [hk3]<;>simp only [List.map,shortG]<;>(repeat' split)<;>omega)
 try simp at h23
 refine Af (Ba ?_);refine Ag ?_;refine Aa (Ah (.tm U) (fun h25=>?_) (fun h25=>?_))
 · try simp at h25
   obtain⟨y,z,hk2,hte,hgy,hgz⟩:=kind_two' hg (by omega)
   have hry:=shortest_r y hgy
   have hrz:=shortest_r z hgz
   have hln:(toks x).length=(toks y).length+(toks z).length+1:=by rw [hte];simp;omega
   refine Ae (Al (Ap [0,2,3,4,20] [4]) ?_);refine Ad (Ab ?_);refine Ab ?_;refine Ac (Bw (m:=(toks y).length+(toks z).length) U (.no U) U (.tm U) .no (.yes (.tm U) (fun _=>by first|omega|(simp<;>omega))) Tryz.underlying24 Bv (fun _=>⟨by omega,by first|omega|(simp;omega)⟩)) U ?_;refine Ac (Aw (FnT.fr (l8Start_at hgz (pre:=toks y) (by simp;omega) _ (sl_pre2 hte))) U (.no U) U (.cons (.tm U) U .nil)) U ?_;refine Ag ?_;refine Aa (Af (Ab ?_));refine Ab ?_;refine Ac (Bw (m:=(toks y).length) U (.no U) U (.tm U) .no (.yes (.tm U) (fun _=>by first|omega|(simp<;>omega))) Tryz.underlying24 Bv (fun _=>⟨by omega,by first|omega|(simp;omega)⟩)) U ?_;refine Ac (Aw (FnT.fr (ih y (by rw [hk2];simp) _ (sl_pre (by rw [hte,List.append_assoc])))) U (.no U) U (.cons (.tm U) U .nil)) U ?_;refine Ag ?_;refine Aa (Ae (Al (Ap [0,2,3,4,5,6,20] [4]) ?_));refine Ad (Ab ?_);refine Ab ?_;refine Ab ?_
   refine Ac (Bw (n:=(toks y).length) (m:=(toks y).length+(toks z).length) U (.no U) U (.tm U) (.yes (.tm U) (fun _=>by first|omega|(simp<;>omega))) (.yes (.tm U) (fun _=>by first|omega|(simp<;>omega))) Tryz.underlying24 Bv (fun _=>⟨by omega,by first|omega|(simp;omega)⟩)) U ?_;refine Ac (Aw (FnT.fr (ih z (by rw [hk2];simp) _ (sl_mid hte))) U (.no U) U (.cons (.tm U) U .nil)) U ?_;refine Ag ?_;refine Aa (Ae (Af (Ab ?_)));refine Cv ?_;refine Ab ?_;refine AWl.mw ?_;refine Ac (R_lt U (by exact .not1 U U U U) U (.tmp U (by exact id)) (.const U)) U ?_;refine Cj ?_;refine Aa (Ah (.tm U) (fun h45=>?_) (fun h45=>?_))
   · try simp at h45
     refine Ae (Al (Ap [0,2,3,4,5,6,7,20] [4]) ?_);refine Ad (AWl.ac ?_);refine Aa (Ai (Bb U U ?_))
     congr 1;first|(rw [hk2];simp only [List.map,shortG];(repeat' split)<;>omega)|(rw [hk2,Int.mul_comm];simp only [List.map,shortG];(repeat' split)<;>omega)|(rw [kind_no' hg (by omega)];simp only [List.map,shortG];(repeat' split)<;>omega)|(obtain⟨y,hk3,-⟩:=kind_one' hg (by omega);rw [hk3];simp only [List.map,shortG];(repeat' split)<;>omega)|(rcases (good_cases hg).2.2 with ⟨hk3,hk4⟩|⟨y,hk3,hk4⟩|⟨y,z,hk3,hk4⟩<;>rw [hk3]<;>simp only [List.map,shortG]<;>(repeat' split)<;>omega)
   try simp at h45
   refine AW.skip (Ae (Al (Ap [0,2,3,4,5,6,7,20] [4]) ?_));refine Ad (Ab ?_);refine Ab ?_;refine Ac (R_add U (.no U) U (.tm U) (.tm U) (fun _=>by omega)) U ?_;refine Ac (R_min U (.no U) U (.const U) (.tm U)) U ?_;refine Ag ?_;refine Aa (Ai (Bb U U ?_))
   congr 1;first|(rw [hk2];simp only [List.map,shortG];(repeat' split)<;>omega)|(rw [hk2,Int.mul_comm];simp only [List.map,shortG];(repeat' split)<;>omega)|(rw [kind_no' hg (by omega)];simp only [List.map,shortG];(repeat' split)<;>omega)|(obtain⟨y,hk3,-⟩:=kind_one' hg (by omega);rw [hk3];simp only [List.map,shortG];(repeat' split)<;>omega)|(rcases (good_cases hg).2.2 with ⟨hk3,hk4⟩|⟨y,hk3,hk4⟩|⟨y,z,hk3,hk4⟩<;>rw [hk3]<;>simp only [List.map,shortG]<;>(repeat' split)<;>omega)
 try simp at h25
 refine Ae (Al (Ap [0,2,3,4,20] [4]) ?_);refine Ad (Ba ?_);refine Ag ?_;refine Aa (Ah (.tm U) (fun h50=>?_) (fun h50=>?_))
 · try simp at h50
   obtain⟨y,z,hk2,hte,hgy,hgz⟩:=kind_two' hg (by omega)
   have hry:=shortest_r y hgy
   have hrz:=shortest_r z hgz
   have hln:(toks x).length=(toks y).length+(toks z).length+1:=by rw [hte];simp;omega
   refine Af (Ab ?_);refine Ab ?_;refine Ac (Bw (m:=(toks y).length+(toks z).length) U (.no U) U (.tm U) .no (.yes (.tm U) (fun _=>by first|omega|(simp<;>omega))) Tryz.underlying24 Bv (fun _=>⟨by omega,by first|omega|(simp;omega)⟩)) U ?_;refine Ac (Aw (FnT.fr (l8Start_at hgz (pre:=toks y) (by simp;omega) _ (sl_pre2 hte))) U (.no U) U (.cons (.tm U) U .nil)) U ?_;refine Ag ?_;refine Aa (Ae (Al (Ap [0,2,3,4,8,20] [4]) ?_));refine Ad (Ab ?_);refine Ab ?_;refine Ac (Bw (m:=(toks y).length) U (.no U) U (.tm U) .no (.yes (.tm U) (fun _=>by first|omega|(simp<;>omega))) Tryz.underlying24 Bv (fun _=>⟨by omega,by first|omega|(simp;omega)⟩)) U ?_;refine Ac (Aw (FnT.fr (ih y (by rw [hk2];simp) _ (sl_pre (by rw [hte,List.append_assoc])))) U (.no U) U (.cons (.tm U) U .nil)) U ?_;refine Ag ?_;refine Aa (Af (Ab ?_));refine Ab ?_;refine Ab ?_
   refine Ac (Bw (n:=(toks y).length) (m:=(toks y).length+(toks z).length) U (.no U) U (.tm U) (.yes (.tm U) (fun _=>by first|omega|(simp<;>omega))) (.yes (.tm U) (fun _=>by first|omega|(simp<;>omega))) Tryz.underlying24 Bv (fun _=>⟨by omega,by first|omega|(simp;omega)⟩)) U ?_;refine Ac (Aw (FnT.fr (ih z (by rw [hk2];simp) _ (sl_mid hte))) U (.no U) U (.cons (.tm U) U .nil)) U ?_;refine Ag ?_;refine Aa (Ae (Ae (Al (Ap [0,2,3,4,8,9,10,20] [4]) ?_)));refine Ad (Ab ?_);refine Cv ?_;refine Ab ?_;refine AWl.mw ?_;refine Ac (R_ge U (by exact .not1 U U U U) U (.tmp U (by exact id)) (.const U)) U ?_;refine Ac (Bf U (by exact .not1 U U U U) U (.tmp U (by exact id))) U ?_;refine Ac (Bf U (by exact .yes U U U U) U (.tmp U (by exact fun _=>rfl))) U ?_;refine Ac (Bf U (by exact .yes U U U U) U (.tmp U (by exact fun _=>rfl))) U ?_
   refine Ac (R_lt U (by exact .yes U U U U) U (.tmp U (by exact id)) (.tmp U (by exact id))) U ?_;refine Ac (R_and U (by exact .not1 U U U U) U (.tmp U (by exact id)) (.tmp U (by exact id))) U ?_;refine Cj ?_;refine Aa (Ah (.tm U) (fun h75=>?_) (fun h75=>?_))
   · try simp at h75
     refine Ae (Al (Ap [0,2,3,4,8,9,10,20] [4]) ?_);refine Ad (Ab ?_);refine Ag ?_;refine Aa (Ai (Bb U U ?_))
     congr 1;first|(rw [hk2];simp only [List.map,shortG];(repeat' split)<;>omega)|(rw [hk2,Int.mul_comm];simp only [List.map,shortG];(repeat' split)<;>omega)|(rw [kind_no' hg (by omega)];simp only [List.map,shortG];(repeat' split)<;>omega)|(obtain⟨y,hk3,-⟩:=kind_one' hg (by omega);rw [hk3];simp only [List.map,shortG];(repeat' split)<;>omega)|(rcases (good_cases hg).2.2 with ⟨hk3,hk4⟩|⟨y,hk3,hk4⟩|⟨y,z,hk3,hk4⟩<;>rw [hk3]<;>simp only [List.map,shortG]<;>(repeat' split)<;>omega)
   try simp at h75
   refine AW.skip (Ae (Al (Ap [0,2,3,4,8,9,10,20] [4]) ?_));refine Ad (Ab ?_);refine Ag ?_;refine Aa (Ai (Bb U U ?_))
   congr 1;first|(rw [hk2];simp only [List.map,shortG];(repeat' split)<;>omega)|(rw [hk2,Int.mul_comm];simp only [List.map,shortG];(repeat' split)<;>omega)|(rw [kind_no' hg (by omega)];simp only [List.map,shortG];(repeat' split)<;>omega)|(obtain⟨y,hk3,-⟩:=kind_one' hg (by omega);rw [hk3];simp only [List.map,shortG];(repeat' split)<;>omega)|(rcases (good_cases hg).2.2 with ⟨hk3,hk4⟩|⟨y,hk3,hk4⟩|⟨y,z,hk3,hk4⟩<;>rw [hk3]<;>simp only [List.map,shortG]<;>(repeat' split)<;>omega)
 try simp at h50
 refine Af (Ba ?_);refine Ag ?_;refine Aa (Ah (.tm U) (fun h78=>?_) (fun h78=>?_))
 · try simp at h78
   obtain⟨y,hk2,hte,hgy⟩:=kind_one' hg (by omega)
   have hry:=shortest_r y hgy
   have hln:(toks x).length=(toks y).length+1:=by rw [hte];simp
   refine Ae (Af (Bd Db ?_));refine A3 ty3 ?_;refine Ba ?_;refine Aa (Ah (.tm U) (fun h82=>?_) (fun h82=>?_))
   · try simp at h82
     refine Ae (Al (Ap [0,2,3,4,20] [4]) ?_);refine Ad (AWl.ac ?_);refine Aa (Ai (Bb U U ?_))
     congr 1;first|(rw [hk2];simp only [List.map,shortG];(repeat' split)<;>omega)|(rw [hk2,Int.mul_comm];simp only [List.map,shortG];(repeat' split)<;>omega)|(rw [kind_no' hg (by omega)];simp only [List.map,shortG];(repeat' split)<;>omega)|(obtain⟨y,hk3,-⟩:=kind_one' hg (by omega);rw [hk3];simp only [List.map,shortG];(repeat' split)<;>omega)|(rcases (good_cases hg).2.2 with ⟨hk3,hk4⟩|⟨y,hk3,hk4⟩|⟨y,z,hk3,hk4⟩<;>rw [hk3]<;>simp only [List.map,shortG]<;>(repeat' split)<;>omega)
   try simp at h82
   refine AW.skip (Ae (Al (Ap [0,2,3,4,20] [4]) ?_));refine Ad (Ab ?_);refine Ab ?_;refine Ac (Bw (m:=(toks y).length) U (.no U) U (.tm U) .no (.yes (.tm U) (fun _=>by first|omega|(simp<;>omega))) Tryz.underlying24 Bv (fun _=>⟨by omega,by first|omega|(simp;omega)⟩)) U ?_;refine Ac (Aw (FnT.fr (ih y (by rw [hk2];simp) _ (sl_pre hte))) U (.no U) U (.cons (.tm U) U .nil)) U ?_;refine Ag ?_;refine Aa (Ae (Af (Ab ?_)));refine Cv ?_;refine Aa (Ah (.tm U) (fun h88=>?_) (fun h88=>?_))
   · try simp at h88
     refine Ae (Al (Ap [0,2,3,4,11,20] [4]) ?_);refine Ad (AWl.ac ?_);refine Aa (Ai (Bb U U ?_))
     congr 1;first|(rw [hk2];simp only [List.map,shortG];(repeat' split)<;>omega)|(rw [hk2,Int.mul_comm];simp only [List.map,shortG];(repeat' split)<;>omega)|(rw [kind_no' hg (by omega)];simp only [List.map,shortG];(repeat' split)<;>omega)|(obtain⟨y,hk3,-⟩:=kind_one' hg (by omega);rw [hk3];simp only [List.map,shortG];(repeat' split)<;>omega)|(rcases (good_cases hg).2.2 with ⟨hk3,hk4⟩|⟨y,hk3,hk4⟩|⟨y,z,hk3,hk4⟩<;>rw [hk3]<;>simp only [List.map,shortG]<;>(repeat' split)<;>omega)
   try simp at h88
   have hml:=mul_low (a:=shortest y) (low:=x.tok.Low) (by omega) (by omega) hlow hlow3
   refine AW.skip (Ae (Al (Ap [0,2,3,4,11,20] [4]) ?_));refine Ad (Ab ?_);refine Bd Db ?_;refine A3 ty3 ?_;refine Ac (R_mul U (.no U) U (.tm U) (.tm U) (fun _=>by omega)) U ?_;refine Ac (R_min U (.no U) U (.const U) (.tm U)) U ?_;refine Ag ?_;refine Aa (Ai (Bb U U ?_))
   congr 1;first|(rw [hk2];simp only [List.map,shortG];(repeat' split)<;>omega)|(rw [hk2,Int.mul_comm];simp only [List.map,shortG];(repeat' split)<;>omega)|(rw [kind_no' hg (by omega)];simp only [List.map,shortG];(repeat' split)<;>omega)|(obtain⟨y,hk3,-⟩:=kind_one' hg (by omega);rw [hk3];simp only [List.map,shortG];(repeat' split)<;>omega)|(rcases (good_cases hg).2.2 with ⟨hk3,hk4⟩|⟨y,hk3,hk4⟩|⟨y,z,hk3,hk4⟩<;>rw [hk3]<;>simp only [List.map,shortG]<;>(repeat' split)<;>omega)
 try simp at h78
 refine AW.skip (Af (AWl.ac ?_));refine Aa (Ai (Bb U U ?_))
 congr 1;first|(rw [hk2];simp only [List.map,shortG];(repeat' split)<;>omega)|(rw [hk2,Int.mul_comm];simp only [List.map,shortG];(repeat' split)<;>omega)|(rw [kind_no' hg (by omega)];simp only [List.map,shortG];(repeat' split)<;>omega)|(obtain⟨y,hk3,-⟩:=kind_one' hg (by omega);rw [hk3];simp only [List.map,shortG];(repeat' split)<;>omega)|(rcases (good_cases hg).2.2 with ⟨hk3,hk4⟩|⟨y,hk3,hk4⟩|⟨y,z,hk3,hk4⟩<;>rw [hk3]<;>simp only [List.map,shortG]<;>(repeat' split)<;>omega)
theorem specl30Short:∀ x:Tr,good x→(toks x).length≤1048576→FnT Tryz.prog 44 [.one (.sl 4 ((toks x).map cToken))] (.a (.one (.v (.int .i64 (shortest x))))):=
 Tr.ind fun x ih hg hz=>specl30Short1 x hg hz fun y hy L hL=>by subst hL;exact ih y hy (good_kids hg y hy) (by have:=kids_toks hy;omega)
theorem specShortestWordLength (e:TExpr):FnT Tryz.prog 17 [.agg (cExpr e)] (.a (.one (.v (.int .i64 (shortestWord e))))):=by
 refine A6 Tryz.func17 U (by kernel_rfl) Tryz.ntmps17 U fun hlen w0=>?_
 try simp [cToken,cExpr] at hlen
 refine Af (Ac (Bo U U U (.tm U) (ts:=_) (by rfl)) U ?_);refine AWl.ac ?_;refine Aa (Ae (Af (Ak Ar ?_)));refine Bu (specIsValidExpr _) ?_;refine Cw ?_;refine Aa (Ah (.tm U) (fun h5=>?_) (fun h5=>?_))
 · try simp at h5
   refine Af (AWl.ac ?_);refine Aa (Ai (Bb U U ?_))
   unfold shortestWord;rw [h5];rfl
 try simp at h5
 obtain⟨x,hx,htk,hgx,hl⟩:=valid_tree h5
 have hht:=specl30Short x hgx (by rw [htk];omega)
 rw [htk] at hht
 refine AW.skip (Af (A8 Be ?_));refine Ak Cd ?_;refine Bu (hht) ?_;refine Ag ?_;refine Aa (Ai (Bb U U ?_))
 unfold shortestWord;rw [h5,hx];rfl
end Go.Proofs.YtdhojcaoljhbiaaGreat
