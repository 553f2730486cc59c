import Derived.Test.YtdhojcaoljhbiaaGreatB98xc
import Derived.Test.YtdhojcaoljhbiaaGreatDraw5xc
set_option linter.unusedVariables false
set_option linter.unusedSimpArgs false
set_option maxHeartbeats 1000000
set_option maxRecDepth 100000
open Go.Proofs.Tryz renaming underlying24->Z9,prog->ZA,func174->ZF,ntmps174->ZG,func147->ZH,ntmps147->ZI,func148->ZJ,ntmps148->ZK
open List renaming map->ZB,append_assoc->ZC,length_append->ZD,length_singleton->ZE
namespace Go.Q
open Go.D Go.Proofs.YtdhojcaoljhbiaaGreat
theorem KZ {x:Tr} (hg:good x) (h:x.tok.Kind=7):(1≤x.tok.High∧x.tok.High≤3)∧0≤x.tok.Low∧x.tok.Low≤x.tok.High:=by
 have ha:=EI hg
 unfold BY at ha
 rw [h] at ha
 simp only [show ¬ ((7:Int)=1∨(7:Int)=2) by omega,show ¬ ((7:Int)=3) by omega,show ¬ ((7:Int)=4∨(7:Int)=5) by omega,show ¬ ((7:Int)=6) by omega,if_false,if_true] at ha
 split at ha
 · rename_i hc
   unfold inB at hc
   simp only [Bool.and_eq_true,decide_eq_true_eq] at hc
   omega
 omega
def szG (t:BD):List Int→Int
 | [a,b]=>min 100000 (a+b+1)
 | [a]=>if t.Kind=6 then min 100000 (a+1) else min 100000 ((a+3)*t.High+1)
 | _=>1
def szT:Tr→Int
 | .leaf t=>szG t []
 | .un t x=>szG t [szT x]
 | .bin t x y=>szG t [szT x,szT y]
theorem PI (x:Tr):szT x=szG x.tok (x.kids.map szT):=by cases x<;>rfl
theorem Rs {a h:Int} (ha:1≤a∧a≤100000) (hh:1≤h∧h≤3):4≤(a+3)*h∧(a+3)*h≤300009:=by
 have:h=1∨h=2∨h=3:=by omega
 rcases this with rfl|rfl|rfl<;>omega
theorem ET:∀ x:Tr,good x→1≤szT x∧szT x≤100000:=
 Tr.ind fun x ih hg=>by
  rw [PI]
  rcases (E2 hg).2.2 with ⟨hk,_⟩|⟨y,hk,hk4⟩|⟨y,z,hk,_⟩
  · rw [hk];exact (⟨by omega,by omega⟩:(1:Int)≤1∧(1:Int)≤100000)
  · have hy:=ih y (by rw [hk];simp) (CM hg y (by rw [hk];simp))
    rw [hk]
    simp only [ZB,szG]
    split
    · omega
    have:=Rs hy (KZ hg (by omega)).1
    omega
  have hy:=ih y (by rw [hk];simp) (CM hg y (by rw [hk];simp))
  have hz:=ih z (by rw [hk];simp) (CM hg z (by rw [hk];simp))
  rw [hk]
  simp only [ZB,szG]
  omega
def Kx (e:Tr):Int→Nat→Tr
 | _,0=>.leaf (Kw 2)
 | lo,h+1=>if 0<lo then .bin (Kw 4) e (Kx e (max 0 (lo-1)) h) else .bin (Kw 5) (.bin (Kw 4) e (Kx e (max 0 (lo-1)) h)) (.leaf (Kw 2))
def exG (t:BD):List Tr→Tr
 | [a,b]=>.bin t a b
 | [a]=>if t.Kind=6 then .un t a else Kx a t.Low t.High.toNat
 | _=>.leaf t
def exR:Tr→Tr
 | .leaf t=>exG t []
 | .un t x=>exG t [exR x]
 | .bin t x y=>exG t [exR x,exR y]
theorem KA (x:Tr):exR x=exG x.tok (x.kids.map exR):=by cases x<;>rfl
theorem OS {e:Tr} (he:good e):∀ (h:Nat) (lo:Int),good (Kx e lo h)
 | 0,_=>by unfold Kx;show BY (Kw 2)=0;decide
 | h+1,lo=>by
  have ih:=OS he h (max 0 (lo-1))
  unfold Kx
  split
  · exact⟨by decide,he,ih⟩
  exact⟨by decide,⟨by decide,he,ih⟩,(show BY (Kw 2)=0 by decide)⟩
theorem Nr (e:Tr):∀ (h:Nat) (lo:Int),(AO (Kx e lo h)).length≤((AO e).length+3)*h+1
 | 0,_=>by unfold Kx;simp [AO]
 | h+1,lo=>by
  have ih:=Nr e h (max 0 (lo-1))
  unfold Kx
  rw [Nat.mul_succ]
  split<;>simp only [AO,ZD,ZE]<;>omega
theorem VQ:∀ x:Tr,good x→good (exR x):=
 Tr.ind fun x ih hg=>by
  have ha:=EI hg
  rw [KA]
  rcases (E2 hg).2.2 with ⟨hk,_⟩|⟨y,hk,hk4⟩|⟨y,z,hk,_⟩
  · rw [hk] at ha ⊢;exact ha
  · have hy:=ih y (by rw [hk];simp) (CM hg y (by rw [hk];simp))
    rw [hk] at ha ⊢
    simp only [ZB,exG]
    split
    · exact⟨ha,hy⟩
    exact OS hy _ _
  have hy:=ih y (by rw [hk];simp) (CM hg y (by rw [hk];simp))
  have hz:=ih z (by rw [hk];simp) (CM hg z (by rw [hk];simp))
  rw [hk] at ha ⊢
  exact⟨ha,hy,hz⟩
theorem Gt:∀ x:Tr,good x→szT x<100000→((AO (exR x)).length:Int)≤szT x:=
 Tr.ind fun x ih hg hs=>by
  rw [PI] at hs ⊢
  rw [KA]
  rcases (E2 hg).2.2 with ⟨hk,_⟩|⟨y,hk,hk4⟩|⟨y,z,hk,_⟩
  · rw [hk];show ((AO (.leaf x.tok)).length:Int)≤1;simp [AO]
  · have gy:=CM hg y (by rw [hk];simp)
    have ry:=ET y gy
    have hy:=ih y (by rw [hk];simp) gy
    rw [hk] at hs ⊢
    simp only [ZB,szG,exG] at hs ⊢
    by_cases h6:x.tok.Kind=6
    · rw [if_pos h6] at hs ⊢
      rw [if_pos h6]
      simp only [AO,ZD,ZE]
      have:=hy (by omega)
      omega
    rw [if_neg h6] at hs ⊢
    rw [if_neg h6]
    have hh:=(KZ hg (by omega)).1
    have hl:=Nr (exR y) x.tok.High.toNat x.tok.Low
    have e:x.tok.High=1∨x.tok.High=2∨x.tok.High=3:=by omega
    rcases e with e|e|e<;>rw [e] at hs hl ⊢<;>(have:=hy (by omega))<;>simp only [show (1:Int).toNat=1 from rfl,show (2:Int).toNat=2 from rfl,show (3:Int).toNat=3 from rfl] at hl ⊢<;>omega
  have gy:=CM hg y (by rw [hk];simp)
  have gz:=CM hg z (by rw [hk];simp)
  have ry:=ET y gy
  have rz:=ET z gz
  have hy:=ih y (by rw [hk];simp) gy
  have hz:=ih z (by rw [hk];simp) gz
  rw [hk] at hs ⊢
  simp only [ZB,szG,exG] at hs ⊢
  simp only [AO,ZD,ZE]
  have:=hy (by omega)
  have:=hz (by omega)
  omega
theorem Gp {x y:Tr} (hg:good x) (hy:y∈x.kids) (h:szT x<100000):szT y<100000:=by
 rw [PI] at h
 rcases (E2 hg).2.2 with ⟨hk,_⟩|⟨y',hk,hk4⟩|⟨y',z',hk,_⟩
 · rw [hk] at hy;cases hy
 · rw [hk] at hy h
   rw [List.mem_singleton] at hy;subst hy
   have ry:=ET y (CM hg y (by rw [hk];simp))
   simp only [ZB,szG] at h
   split at h
   · omega
   have e:x.tok.High=1∨x.tok.High=2∨x.tok.High=3:=by have:=(KZ hg (by omega)).1;omega
   rcases e with e|e|e<;>rw [e] at h<;>omega
 rw [hk] at hy h
 have ry:=ET y' (CM hg y' (by rw [hk];simp))
 have rz:=ET z' (CM hg z' (by rw [hk];simp))
 simp only [ZB,szG] at h
 simp only [List.mem_cons,List.not_mem_nil,or_false] at hy
 rcases hy with rfl|rfl<;>omega
open Go.RowKit
theorem PR (x:Tr) (hg:good x) (hz:(AO x).length≤1048576) (ih:∀ y∈x.kids,∀ L,L=(AO y).map AS→FnT ZA 147 [.one (.sl 4 L)] (.a (.one (.v (.int .i64 (szT y)))))):FnT ZA 147 [.one (.sl 4 ((AO x).map AS))] (.a (.one (.v (.int .i64 (szT x))))):=by
 refine A8 ZH U (by kernel_rfl) ZI U fun hlen w0=>?_
 try simp [AS,BH] at hlen
 clear hlen;rw [PI];have hlast:=Np x;have hpos:=KP x
 refine Af (An ?_);refine Aa (Af (Ab ?_));refine Bi (.t) Z9 ?_;refine C9 ?_;refine Ah ?_;refine Aa (Af (Ab ?_));refine Ab ?_;refine Ac (Ak U (.no U) U (.tm U) (.tm U) Z9 C6 (fun _=>⟨by omega,Ao hlast⟩)) U ?_;refine Aj C6 ?_;refine A6 (Bd 4 U U U D1 U U U) U ?_;refine A4 C6 ?_;refine Aa (Ae (Ae (As (Ay [0,2,3,4] [4]) ?_)));refine Ad (Bq LO ?_);refine Bb ty3 ?_;refine Aa (AW.block (Ae (Af (Bw ?_))));refine Ah ?_;refine Aa (Ai (.tm U) (fun h15=>?_) (fun h15=>?_))
 · try simp at h15
   obtain⟨y,z,hk2,hte,hgy,hgz⟩:=Ft hg (by omega)
   have hry:=ET y hgy
   have hrz:=ET z hgz
   have hln:(AO x).length=(AO y).length+(AO z).length+1:=by rw [hte];simp;omega
   refine Am (Ai (.tm U) (fun h15=>?_) (fun h15=>?_))
   · try simp at h15
     obtain⟨y,z,hk2,hte,hgy,hgz⟩:=Ft hg (by omega)
     have hry:=ET y hgy
     have hrz:=ET z hgz
     have hln:(AO x).length=(AO y).length+(AO z).length+1:=by rw [hte];simp;omega
     refine Af (Ab ?_);refine Ab ?_;refine Ac (Cv (m:=(AO y).length+(AO z).length) U (.no U) U (.tm U) .no (.yes (.tm U) (fun _=>by first|omega|(simp<;>omega))) Z9 C6 (fun _=>⟨by omega,by first|omega|(simp;omega)⟩)) U ?_;refine Ac (Bc (FnT.fr (FE hgz (pre:=AO y) (by simp;omega) _ (JC hte))) U (.no U) U (.cons (.tm U) U .nil)) U ?_;refine Ah ?_;refine Aa (Ae (As (Ay [0,2,3,4,5,14,15] [4]) ?_));refine Bx 13 (DM [[],[],[0,1],[0,1,2],[],[],[],[4,5,6],[0,1,2,3,4,5,6,7],[0,1,2,3,4,5,6,7,8],[0,1,2,3,4,5,6,7,8,9],[0,1,2,3,4,5,6,7,8,9,10],[0,1,2,3,4,5,6,7,8,9,10,11]]) (by kernel_rfl) (by kernel_rfl) (by kernel_rfl) ?_;refine Az ?_;refine Az ?_;refine AB.s (fun _ hs=>Cv (m:=(AO y).length) U (.no U) (Ag hs U) (hs.tm U) .no (.yes (hs.tm U) (fun _=>by first|omega|(simp<;>omega))) Z9 C6 (fun _=>⟨by omega,by first|omega|(simp;omega)⟩)) ?_
     refine AB.s (fun _ hs=>Bc (FnT.fr (ih y (by rw [hk2];simp) _ (Gi (by rw [hte,ZC])))) U (.no U) (Ag hs U) (.cons (hs.tm U) (AD hs U) .nil)) ?_;refine Az ?_;refine Az ?_;refine Az ?_;refine AB.s (fun _ hs=>Cv (n:=(AO y).length) (m:=(AO y).length+(AO z).length) U (.no U) (Ag hs U) (hs.tm U) (.yes (hs.tm U) (fun _=>by first|omega|(simp<;>omega))) (.yes (hs.tm U) (fun _=>by first|omega|(simp<;>omega))) Z9 C6 (fun _=>⟨by omega,by first|omega|(simp;omega)⟩)) ?_;refine AB.s (fun _ hs=>Bc (FnT.fr (ih z (by rw [hk2];simp) _ (L6 hte))) U (.no U) (Ag hs U) (.cons (hs.tm U) (AD hs U) .nil)) ?_;refine AB.s (fun _ hs=>Dn U (.no U) (Ag hs U) (hs.tm U) (hs.tm U) (fun _=>by omega)) ?_;refine AB.s (fun _ hs=>Dn U (.no U) (Ag hs U) (hs.tm U) (.const U) (fun _=>by omega)) ?_
     refine AB.s (fun _ hs=>Sd U (.no U) (Ag hs U) (.const U) (hs.tm U)) ?_;refine AB.s (fun _ hs=>Cl U (.no U) (Ag hs U) (hs.tm U)) ?_;refine Bs U U ?_;refine Aa (Aq (Bl U U ?_))
     congr 1;first|(rw [hk2];rfl)|(rw [hk2];simp only [ZB,szG];(repeat' split)<;>omega)|(rw [FY hg (by omega)];rfl)
   exfalso;(try simp at h15);first|contradiction|omega|simp_all|grind
 try simp at h15
 refine Ad (Bw ?_);refine Ah ?_;refine Aa (Ai (.tm U) (fun h15=>?_) (fun h15=>?_))
 · try simp at h15
   obtain⟨y,z,hk2,hte,hgy,hgz⟩:=Ft hg (by omega)
   have hry:=ET y hgy
   have hrz:=ET z hgz
   have hln:(AO x).length=(AO y).length+(AO z).length+1:=by rw [hte];simp;omega
   refine Af (Ab ?_);refine Ab ?_;refine Ac (Cv (m:=(AO y).length+(AO z).length) U (.no U) U (.tm U) .no (.yes (.tm U) (fun _=>by first|omega|(simp<;>omega))) Z9 C6 (fun _=>⟨by omega,by first|omega|(simp;omega)⟩)) U ?_;refine Ac (Bc (FnT.fr (FE hgz (pre:=AO y) (by simp;omega) _ (JC hte))) U (.no U) U (.cons (.tm U) U .nil)) U ?_;refine Ah ?_;refine Aa (Ae (As (Ay [0,2,3,4,5,14,15] [4]) ?_));refine Bx 13 (DM [[],[],[0,1],[0,1,2],[],[],[],[4,5,6],[0,1,2,3,4,5,6,7],[0,1,2,3,4,5,6,7,8],[0,1,2,3,4,5,6,7,8,9],[0,1,2,3,4,5,6,7,8,9,10],[0,1,2,3,4,5,6,7,8,9,10,11]]) (by kernel_rfl) (by kernel_rfl) (by kernel_rfl) ?_;refine Az ?_;refine Az ?_;refine AB.s (fun _ hs=>Cv (m:=(AO y).length) U (.no U) (Ag hs U) (hs.tm U) .no (.yes (hs.tm U) (fun _=>by first|omega|(simp<;>omega))) Z9 C6 (fun _=>⟨by omega,by first|omega|(simp;omega)⟩)) ?_
   refine AB.s (fun _ hs=>Bc (FnT.fr (ih y (by rw [hk2];simp) _ (Gi (by rw [hte,ZC])))) U (.no U) (Ag hs U) (.cons (hs.tm U) (AD hs U) .nil)) ?_;refine Az ?_;refine Az ?_;refine Az ?_;refine AB.s (fun _ hs=>Cv (n:=(AO y).length) (m:=(AO y).length+(AO z).length) U (.no U) (Ag hs U) (hs.tm U) (.yes (hs.tm U) (fun _=>by first|omega|(simp<;>omega))) (.yes (hs.tm U) (fun _=>by first|omega|(simp<;>omega))) Z9 C6 (fun _=>⟨by omega,by first|omega|(simp;omega)⟩)) ?_;refine AB.s (fun _ hs=>Bc (FnT.fr (ih z (by rw [hk2];simp) _ (L6 hte))) U (.no U) (Ag hs U) (.cons (hs.tm U) (AD hs U) .nil)) ?_;refine AB.s (fun _ hs=>Dn U (.no U) (Ag hs U) (hs.tm U) (hs.tm U) (fun _=>by omega)) ?_;refine AB.s (fun _ hs=>Dn U (.no U) (Ag hs U) (hs.tm U) (.const U) (fun _=>by omega)) ?_
   refine AB.s (fun _ hs=>Sd U (.no U) (Ag hs U) (.const U) (hs.tm U)) ?_;refine AB.s (fun _ hs=>Cl U (.no U) (Ag hs U) (hs.tm U)) ?_;refine Bs U U ?_;refine Aa (Aq (Bl U U ?_))
   congr 1;first|(rw [hk2];rfl)|(rw [hk2];simp only [ZB,szG];(repeat' split)<;>omega)|(rw [FY hg (by omega)];rfl)
 try simp at h15
 refine Af (Bw ?_);refine Ah ?_;refine Aa (Ai (.tm U) (fun h34=>?_) (fun h34=>?_))
 · try simp at h34
   obtain⟨y,hk2,hte,hgy⟩:=HD hg (by omega)
   have hry:=ET y hgy
   have hln:(AO x).length=(AO y).length+1:=by rw [hte];simp
   refine Af (Ab ?_);refine Ab ?_;refine Ac (Cv (m:=(AO y).length) U (.no U) U (.tm U) .no (.yes (.tm U) (fun _=>by first|omega|(simp<;>omega))) Z9 C6 (fun _=>⟨by omega,by first|omega|(simp;omega)⟩)) U ?_;refine Ac (Bc (FnT.fr (ih y (by rw [hk2];simp) _ (Gi hte))) U (.no U) U (.cons (.tm U) U .nil)) U ?_;refine A9 ?_;refine Ac (Sd U (.no U) U (.const U) (.tm U)) U ?_;refine Ah ?_;refine Aa (Aq (Bl U U ?_))
   congr 1;first|(rw [hk2];rfl)|(rw [hk2];simp only [ZB,szG];(repeat' split)<;>omega)|(rw [FY hg (by omega)];rfl)
 try simp at h34
 refine Af (Bw ?_);refine Ah ?_;refine Aa (Ai (.tm U) (fun h42=>?_) (fun h42=>?_))
 · try simp at h42
   obtain⟨y,hk2,hte,hgy⟩:=HD hg (by omega)
   have hry:=ET y hgy
   have hln:(AO x).length=(AO y).length+1:=by rw [hte];simp
   have hml:=Rs hry (KZ hg (by omega)).1
   refine Ae (As (Ay [0,2,3,4,14,15] [4]) ?_);refine Bx 11 (DM [[],[],[0,1],[0,1,2],[0,1,2,3],[],[5],[0,1,2,3,4,5,6],[0,1,2,3,4,5,6,7],[0,1,2,3,4,5,6,7,8],[0,1,2,3,4,5,6,7,8,9]]) (by kernel_rfl) (by kernel_rfl) (by kernel_rfl) ?_;refine Az ?_;refine Az ?_;refine AB.s (fun _ hs=>Cv (m:=(AO y).length) U (.no U) (Ag hs U) (hs.tm U) .no (.yes (hs.tm U) (fun _=>by first|omega|(simp<;>omega))) Z9 C6 (fun _=>⟨by omega,by first|omega|(simp;omega)⟩)) ?_;refine AB.s (fun _ hs=>Bc (FnT.fr (ih y (by rw [hk2];simp) _ (Gi hte))) U (.no U) (Ag hs U) (.cons (hs.tm U) (AD hs U) .nil)) ?_;refine AB.s (fun _ hs=>Dn U (.no U) (Ag hs U) (hs.tm U) (.const U) (fun _=>by omega)) ?_;refine AB.s (fun _ hs=>(by exact Bj U (.no U) (Ag hs U) (hs.tm U) GO)) ?_;refine AB.s (fun _ hs=>(by exact Be U (.no U) (Ag hs U) (hs.tm U) (hs.res _ _ U) ty3 U U)) ?_
   refine AB.s (fun _ hs=>Ge U (.no U) (Ag hs U) (hs.tm U) (hs.tm U) (fun _=>by omega)) ?_;refine AB.s (fun _ hs=>Dn U (.no U) (Ag hs U) (hs.tm U) (.const U) (fun _=>by omega)) ?_;refine AB.s (fun _ hs=>Sd U (.no U) (Ag hs U) (.const U) (hs.tm U)) ?_;refine AB.s (fun _ hs=>Cl U (.no U) (Ag hs U) (hs.tm U)) ?_;refine Bs U U ?_;refine Aa (Aq (Bl U U ?_))
   congr 1;first|(rw [hk2];rfl)|(rw [hk2];simp only [ZB,szG];(repeat' split)<;>omega)|(rw [FY hg (by omega)];rfl)
 try simp at h42
 refine Am (Ae (As (Ay [0,2,3,4,14,15] [4]) ?_));refine Ad (An ?_);refine Aa (Aq (Bl U U ?_))
 congr 1;first|(rw [hk2];rfl)|(rw [hk2];simp only [ZB,szG];(repeat' split)<;>omega)|(rw [FY hg (by omega)];rfl)
theorem QV:∀ x:Tr,good x→(AO x).length≤1048576→FnT ZA 147 [.one (.sl 4 ((AO x).map AS))] (.a (.one (.v (.int .i64 (szT x))))):=
 Tr.ind fun x ih hg hz=>PR x hg hz fun y hy L hL=>by subst hL;exact ih y hy (CM hg y hy) (by have:=LI hy;omega)
theorem PQ (e:Tr) (he:(AO e).length≤100000):∀ (h:Nat) (lo:Int),h≤3→0≤lo∧lo≤3→FnT ZA 174 [.agg (BH ⟨AO e⟩),.one (.v (.int .i64 lo)),.one (.v (.int .i64 (h:Int)))] (.a (.agg (BH ⟨AO (Kx e lo h)⟩))):=by
 intro h
 induction h with
 | zero=>
  intro lo _ hl;refine A8 ZF U (by kernel_rfl) ZG U fun hlen w0=>?_
  try simp [AS,BH] at hlen
  refine Af (Ac (Bg U U U (.tm U) (ts:=_) (by rfl)) U ?_);refine A6 (Bd 6 U U U Dw U U U) U ?_;refine Cz (b:=6) 20001 4 0 U U U ?_;refine Aa (Ae (Af (Ab ?_)));refine Bw ?_;refine Aa (Ai (.tm U) (fun h9=>?_) (fun h9=>?_))
  · try simp at h9
    refine Af (Cj (Dc 1000 (HX 2) U U U (.cons (.const U) U .nil) U U) U ?_);refine A4 Ck ?_;refine Aa (Aq (Res.one U (.cell U U Ck U U .nil) U ?_))
    rfl
  exact absurd h9 (by simp)
 | succ h ih=>
  intro lo hh hl;refine A8 ZF U (by kernel_rfl) ZG U fun hlen w0=>?_
  try simp [AS,BH] at hlen
  have htl:=Nr e h (max 0 (lo-1))
  have hml:((AO e).length+3)*h≤100003*3:=Nat.mul_le_mul (by omega) (by omega)
  refine Af (Ac (Bg U U U (.tm U) (ts:=_) (by rfl)) U ?_);refine A6 (Bd 6 U U U Dw U U U) U ?_;refine Cz (b:=6) 20001 4 0 U U U ?_;refine Aa (Ae (Af (Ab ?_)));refine Bw ?_;refine Aa (Ai (.tm U) (fun h9=>?_) (fun h9=>?_))
  · exact absurd h9 (by simp;omega)
  try simp at h9
  refine Am (Ae (As (Ay [0,1,2,3,6,8,9] [6,20001]) ?_));apply Cr (N:=11) (k:=13) (Hs:=[0,1,2,3,5,6]) (ms:=[[],[4],[8],[10],[4,7],[4,8],[4,10],[8,10],[4,7,8],[4,7,10],[4,8,10],[4,7,8,9],[4,7,8,10],[4,7,8,9,10]]) (es:=[(0,4,1),(0,8,2),(0,10,3),(1,7,4),(1,8,5),(2,4,5),(1,10,6),(3,4,6),(2,10,7),(3,8,7),(4,8,8),(5,7,8),(4,10,9),(6,7,9),(5,10,10),(6,8,10),(7,4,10),(8,9,11),(8,10,12),(9,8,12),(10,7,12),(11,10,13),(12,9,13)]) (σ1:=_) (SM:=⟨_,[(0,_),(1,_),(2,_),(3,_),(6,_),(8,_),(9,_),(11,_),(12,_),(13,_),(14,_),(16,_),(17,_)],[(6,_),(20001,_)]⟩)
  case hm=>kernel_rfl
  case hB=>kernel_rfl
  case hP=>kernel_rfl
  case hL=>kernel_rfl
  case hN=>rfl
  case hpre=>
   apply Ax (P:=ZA) 0 rfl ((Br rfl (.no rfl) rfl (.tm rfl) Ck rfl rfl)) (by exact BM.ld (x:=.tmp 3) (.tm rfl) rfl rfl) rfl rfl rfl;apply Ax (P:=ZA) 1 rfl ((by exact Br rfl (.no rfl) rfl (.tm rfl) Ck rfl rfl)) (by exact BM.ld (x:=.tmp 3) (.tm rfl) rfl rfl) rfl rfl rfl;apply Ax (P:=ZA) 2 rfl (Bh rfl (.no rfl) rfl (.tm rfl)) (by exact BM.slot (t:=1) rfl) rfl rfl rfl;apply Ax (P:=ZA) 3 rfl (D8 rfl (.no rfl) rfl (.tm rfl) (.const rfl) (fun _=>by omega)) (by exact .val rfl) rfl rfl rfl;apply Ax (P:=ZA) 5 rfl (Bh rfl (.no rfl) rfl (.tm rfl)) (by exact BM.slot (t:=2) rfl) rfl rfl rfl;apply Ax (P:=ZA) 6 rfl (D8 rfl (.no rfl) rfl (.tm rfl) (.const rfl) (fun _=>by omega)) (by exact .val rfl) rfl rfl rfl;exact EC.nil
  case hS=>exact Ba
  case hH=>
   refine⟨⟨_,_,_,rfl,rfl,rfl,fun σ' hs=>(by exact Br rfl (.no rfl) (Ag hs rfl) (.tm (hs.slots _ _ rfl)) Ck rfl rfl)⟩,?_⟩
   refine⟨⟨_,_,_,rfl,rfl,rfl,fun σ' hs=>(by exact Br rfl (.no rfl) (Ag hs rfl) (.tm (hs.slots _ _ rfl)) Ck rfl rfl)⟩,?_⟩
   refine AX.mv ?_
   refine⟨⟨_,_,_,rfl,rfl,rfl,fun σ' hs=>D8 rfl (.no rfl) (Ag hs rfl) (.tm (hs.slots _ _ rfl)) (.const rfl) (fun _=>by omega)⟩,?_⟩
   refine AX.mv ?_
   refine⟨⟨_,_,_,rfl,rfl,rfl,fun σ' hs=>D8 rfl (.no rfl) (Ag hs rfl) (.tm (hs.slots _ _ rfl)) (.const rfl) (fun _=>by omega)⟩,?_⟩
   trivial
  apply Dh.new0 (i:=4);rfl;rfl;rfl
  · intro w9 _;refine Ac (Ud U (.no U) U (.const U) (.tm U)) U ?_;exact Al [0,1,2,3,6,8,9,11,12,13,14,15,16,17] [6,20001]
  intros;exact Ba
  apply Dh.new0 (i:=8);rfl;rfl;rfl
  · intro w9 _;refine Ac (Bm (ps:=[(0,.const (.int .i64 (4)))]) U U U D1 U U Hr (.cons (.const U) U U Dp .nil) U) U ?_;exact Al [0,1,2,3,6,8,9,11,12,13,14,16,17,19] [6,20001]
  intros;exact Ba
  apply Dh.new0 (i:=10);rfl;rfl;rfl
  · intro w9 _;refine A6 (Bd 7 U U U Dw U U U) U ?_;refine Cz (b:=7) 20002 4 0 U U U ?_;exact Al [0,1,2,3,6,7,8,9,11,12,13,14,16,17] [6,20001,7,20002]
  intros;exact Ba
  apply Dh.new0 (i:=7);rfl;rfl;rfl
  · intro w9 _;refine Ac (Bc (FnT.fr ((by rw [show (((h+1:Nat):Int)-1)=(h:Int) by omega];exact ih (max 0 (lo-1)) (by omega) (by omega)))) U (.no U) U (.cons (.tm U) U (.cons (.tm U) U (.cons (.tm U) U .nil)))) U ?_;exact Al [0,1,2,3,6,8,9,11,12,13,14,16,17,18] [6,20001]
  intros;exact Ba
  apply Dh.new0 (i:=8);rfl;rfl;rfl
  · intro w9 _;refine Ac (Bm (ps:=[(0,.const (.int .i64 (4)))]) U U U D1 U U Hr (.cons (.const U) U U Dp .nil) U) U ?_;exact Al [0,1,2,3,6,8,9,11,12,13,14,15,16,17,19] [6,20001]
  intros;exact Ba
  apply Dh.old0 (i:=4);rfl;rfl;rfl
  · intro w9 _;refine Ac (Ud U (.no U) U (.const U) (.tm U)) U ?_;exact Aa Aw
  apply Dh.new0 (i:=10);rfl;rfl;rfl
  · intro w9 _;refine A6 (Bd 7 U U U Dw U U U) U ?_;refine Cz (b:=7) 20002 4 0 U U U ?_;exact Al [0,1,2,3,6,7,8,9,11,12,13,14,15,16,17] [6,20001,7,20002]
  intros;exact Ba
  apply Dh.old0 (i:=4);rfl;rfl;rfl
  · intro w9 _;refine Ac (Ud U (.no U) U (.const U) (.tm U)) U ?_;exact Aa Aw
  apply Dh.new0 (i:=10);rfl;rfl;rfl
  · intro w9 _;refine A6 (Bd 7 U U U Dw U U U) U ?_;refine Cz (b:=7) 20002 4 0 U U U ?_;exact Al [0,1,2,3,6,7,8,9,11,12,13,14,16,17,19] [6,20001,7,20002]
  intros;exact Ba
  apply Dh.old0 (i:=8);rfl;rfl;rfl
  · intro w9 _;refine Ac (Bm (ps:=[(0,.const (.int .i64 (4)))]) U U U D1 U U Hr (.cons (.const U) U U Dp .nil) U) U ?_;exact Aa Aw
  apply Dh.new0 (i:=8);rfl;rfl;rfl
  · intro w9 _;refine Ac (Bm (ps:=[(0,.const (.int .i64 (4)))]) U U U D1 U U Hr (.cons (.const U) U U Dp .nil) U) U ?_;exact Al [0,1,2,3,6,8,9,11,12,13,14,16,17,18,19] [6,20001]
  intros;exact Ba
  apply Dh.old0 (i:=7);rfl;rfl;rfl
  · intro w9 _;refine Ac (Bc (FnT.fr ((by rw [show (((h+1:Nat):Int)-1)=(h:Int) by omega];exact ih (max 0 (lo-1)) (by omega) (by omega)))) U (.no U) U (.cons (.tm U) U (.cons (.tm U) U (.cons (.tm U) U .nil)))) U ?_;exact Aa Aw
  apply Dh.new0 (i:=10);rfl;rfl;rfl
  · intro w9 _;refine A6 (Bd 7 U U U Dw U U U) U ?_;refine Cz (b:=7) 20002 4 0 U U U ?_;exact Al [0,1,2,3,6,7,8,9,11,12,13,14,16,17,18] [6,20001,7,20002]
  intros;exact Ba
  apply Dh.old0 (i:=7);rfl;rfl;rfl
  · intro w9 _;refine Ac (Bc (FnT.fr ((by rw [show (((h+1:Nat):Int)-1)=(h:Int) by omega];exact ih (max 0 (lo-1)) (by omega) (by omega)))) U (.no U) U (.cons (.tm U) U (.cons (.tm U) U (.cons (.tm U) U .nil)))) U ?_;exact Aa Aw
  apply Dh.new0 (i:=10);rfl;rfl;rfl
  · intro w9 _;refine A6 (Bd 7 U U U Dw U U U) U ?_;refine Cz (b:=7) 20002 4 0 U U U ?_;exact Al [0,1,2,3,6,7,8,9,11,12,13,14,15,16,17,19] [6,20001,7,20002]
  intros;exact Ba
  apply Dh.old0 (i:=8);rfl;rfl;rfl
  · intro w9 _;refine Ac (Bm (ps:=[(0,.const (.int .i64 (4)))]) U U U D1 U U Hr (.cons (.const U) U U Dp .nil) U) U ?_;exact Aa Aw
  apply Dh.old0 (i:=4);rfl;rfl;rfl
  · intro w9 _;refine Ac (Ud U (.no U) U (.const U) (.tm U)) U ?_;exact Aa Aw
  apply Dh.new0 (i:=9);rfl;rfl;rfl
  · intro w9 _;refine Cj (Dc 2000 (DP ⟨AO e⟩ ⟨AO (Kx e (max 0 (lo-1)) h)⟩ (Kw 4) (by simp only;omega)) U U U (.cons (.tm U) U (.cons (.tm U) U (.cons (.tm U) U .nil))) U U) U ?_;exact Al [0,1,2,3,6,8,9,11,12,13,14,16,17,20] [6,20001,2000]
  intros;exact Ba
  apply Dh.new0 (i:=10);rfl;rfl;rfl
  · intro w9 _;refine A6 (Bd 7 U U U Dw U U U) U ?_;refine Cz (b:=7) 20002 4 0 U U U ?_;exact Al [0,1,2,3,6,7,8,9,11,12,13,14,16,17,18,19] [6,20001,7,20002]
  intros;exact Ba
  apply Dh.old0 (i:=8);rfl;rfl;rfl
  · intro w9 _;refine Ac (Bm (ps:=[(0,.const (.int .i64 (4)))]) U U U D1 U U Hr (.cons (.const U) U U Dp .nil) U) U ?_;exact Aa Aw
  apply Dh.old0 (i:=7);rfl;rfl;rfl
  · intro w9 _;refine Ac (Bc (FnT.fr ((by rw [show (((h+1:Nat):Int)-1)=(h:Int) by omega];exact ih (max 0 (lo-1)) (by omega) (by omega)))) U (.no U) U (.cons (.tm U) U (.cons (.tm U) U (.cons (.tm U) U .nil)))) U ?_;exact Aa Aw
  apply Dh.new0 (i:=10);rfl;rfl;rfl
  · intro w9 _;refine A6 (Bd 7 U U U Dw U U U) U ?_;refine Cz (b:=7) 20002 4 0 U U U ?_;exact Al [0,1,2,3,6,7,8,9,11,12,13,14,16,17,20] [6,20001,2000,7,20002]
  intros;exact Ba
  apply Dh.old0 (i:=9);rfl;rfl;rfl
  · intro w9 _;refine Cj (Dc 2000 (DP ⟨AO e⟩ ⟨AO (Kx e (max 0 (lo-1)) h)⟩ (Kw 4) (by simp only;omega)) U U U (.cons (.tm U) U (.cons (.tm U) U (.cons (.tm U) U .nil))) U U) U ?_;exact Aa Aw
  refine Dh.fin0 (k:=13) rfl ?_;intro  hp
  obtain _:=hp
  refine A4 Ck ?_;refine Aa (Ae (Ae (As (Ay [0,1,2,3,6,7] [6,20001,2000,7,20002]) ?_)));refine Ad (Ab ?_);refine AWl.gc ?_;refine Aa (Ai (.tm U) (fun h22=>?_) (fun h22=>?_))
  · try simp at h22
    refine Af (Bb Ck ?_);refine A4 Ck ?_;refine Aa (Aq (Res.one U (.cell U U Ck U U .nil) U ?_))
    rw [Kx,if_pos (by simpa using h22)];rfl
  try simp at h22
  refine Am (Ae (As (Ay [0,1,2,3,6,7,21,22] [6,20001,2000,7,20002]) ?_));apply Cr (N:=3) (k:=3) (Hs:=[0]) (ms:=[[],[1],[2],[1,2]]) (es:=[(0,1,1),(0,2,2),(1,2,3),(2,1,3)]) (σ1:=_) (SM:=⟨_,[(0,_),(1,_),(2,_),(3,_),(6,_),(7,_),(21,_),(22,_),(24,_)],[(6,_),(20001,_),(2000,_),(7,_),(20002,_)]⟩)
  case hm=>kernel_rfl
  case hB=>kernel_rfl
  case hP=>kernel_rfl
  case hL=>kernel_rfl
  case hN=>rfl
  case hpre=>
   apply Ax (P:=ZA) 0 rfl ((Be rfl (.no rfl) rfl (.tm rfl) rfl Ck rfl rfl)) (by exact BM.load (x:=.tmp 7) (.tm rfl) rfl Ck rfl rfl) rfl rfl rfl;exact EC.nil
  case hS=>exact Ba
  case hH=>
   refine AX.lq Ck ?_
   trivial
  apply Dh.new0 (i:=1);rfl;rfl;rfl
  · intro w9 _;refine By (HX 2) ?_;exact Al [0,1,2,3,6,7,21,22,24,25] [6,20001,2000,7,20002]
  intros;exact Ba
  apply Dh.new0 (i:=2);rfl;rfl;rfl
  · intro w9 _;refine Ac (Bm (ps:=[(0,.const (.int .i64 (5)))]) U U U D1 U U Hr (.cons (.const U) U U Dp .nil) U) U ?_;exact Al [0,1,2,3,6,7,21,22,24,26] [6,20001,2000,7,20002]
  intros;exact Ba
  apply Dh.new0 (i:=2);rfl;rfl;rfl
  · intro w9 _;refine Ac (Bm (ps:=[(0,.const (.int .i64 (5)))]) U U U D1 U U Hr (.cons (.const U) U U Dp .nil) U) U ?_;exact Al [0,1,2,3,6,7,21,22,24,25,26] [6,20001,2000,7,20002]
  intros;exact Ba
  apply Dh.old0 (i:=1);rfl;rfl;rfl
  · intro w9 _;refine By (HX 2) ?_;exact Aa Aw
  refine Dh.fin0 (k:=3) rfl ?_;intro  hp
  obtain _:=hp
  refine Cj (Dc 2700 (DP ⟨AO e++AO (Kx e (max 0 (lo-1)) h)++[Kw 4]⟩ ⟨[Kw 2]⟩ (Kw 5) (by simp;omega)) U U U (.cons (.tm U) U (.cons (.tm U) U (.cons (.tm U) U .nil))) U U) U ?_;refine A4 Ck ?_;refine Aa (Aq (Res.one U (.cell U U Ck U U .nil) U ?_))
  rw [Kx,if_neg (by simpa using h22)];rfl
theorem Nz (x:Tr) (hg:good x) (hz:(AO x).length≤1048576) (hs:szT x<100000) (ih:∀ y∈x.kids,∀ L,L=(AO y).map AS→FnT ZA 148 [.one (.sl 4 L)] (.a (.agg (BH ⟨AO (exR y)⟩)))):FnT ZA 148 [.one (.sl 4 ((AO x).map AS))] (.a (.agg (BH ⟨AO (exR x)⟩))):=by
 refine A8 ZJ U (by kernel_rfl) ZK U fun hlen w0=>?_
 try simp [AS,BH] at hlen
 clear hlen;have hlast:=Np x;have hpos:=KP x
 refine Af (A6 (Bd 2 U U U Dw U U U) U ?_);refine Cz (b:=2) 20001 4 0 U U U ?_;refine Aa (Af (Ab ?_));refine Bi (.t) Z9 ?_;refine C9 ?_;refine Ah ?_;refine Aa (Af (Ab ?_));refine Ab ?_;refine Ac (Ak U (.no U) U (.tm U) (.tm U) Z9 C6 (fun _=>⟨by omega,Ao hlast⟩)) U ?_;refine Aj C6 ?_;refine A6 (Bd 4 U U U D1 U U U) U ?_;refine A4 C6 ?_;refine Aa (Ae (Ae (As (Ay [0,2,3,4] [2,20001,4]) ?_)));refine Ad (Bq LO ?_);refine Bb ty3 ?_;refine Aa (AW.block (Ae (Af (Bw ?_))));refine Ah ?_;refine Aa (Ai (.tm U) (fun h15=>?_) (fun h15=>?_))
 · try simp at h15
   obtain⟨y,z,hk2,hte,hgy,hgz⟩:=Ft hg (by omega)
   have hry:=Gt y hgy (Gp hg (by rw [hk2];simp) hs)
   have hrz:=Gt z hgz (Gp hg (by rw [hk2];simp) hs)
   have hsy:=ET y hgy
   have hsz:=ET z hgz
   have hln:(AO x).length=(AO y).length+(AO z).length+1:=by rw [hte];simp;omega
   refine Am (Ai (.tm U) (fun h15=>?_) (fun h15=>?_))
   · try simp at h15
     obtain⟨y,z,hk2,hte,hgy,hgz⟩:=Ft hg (by omega)
     have hry:=Gt y hgy (Gp hg (by rw [hk2];simp) hs)
     have hrz:=Gt z hgz (Gp hg (by rw [hk2];simp) hs)
     have hsy:=ET y hgy
     have hsz:=ET z hgz
     have hln:(AO x).length=(AO y).length+(AO z).length+1:=by rw [hte];simp;omega
     refine Af (Ab ?_);refine Ab ?_;refine Ac (Cv (m:=(AO y).length+(AO z).length) U (.no U) U (.tm U) .no (.yes (.tm U) (fun _=>by first|omega|(simp<;>omega))) Z9 C6 (fun _=>⟨by omega,by first|omega|(simp;omega)⟩)) U ?_;refine Ac (Bc (FnT.fr (FE hgz (pre:=AO y) (by simp;omega) _ (JC hte))) U (.no U) U (.cons (.tm U) U .nil)) U ?_;refine Ah ?_;refine Aa (Ae (As (Ay [0,2,3,4,5,14,15] [2,20001,4]) ?_));refine Bx 11 (DM [[],[],[0,1],[0,1,2],[],[],[],[4,5,6],[0,1,2,3,4,5,6,7],[],[0,1,2,3,4,5,6,7,8,9]]) (by kernel_rfl) (by kernel_rfl) (by kernel_rfl) ?_;refine Az ?_;refine Az ?_;refine AB.s (fun _ hs=>Cv (m:=(AO y).length) U (.no U) (Ag hs U) (hs.tm U) .no (.yes (hs.tm U) (fun _=>by first|omega|(simp<;>omega))) Z9 C6 (fun _=>⟨by omega,by first|omega|(simp;omega)⟩)) ?_
     refine AB.s (fun _ hs=>Bc (FnT.fr (ih y (by rw [hk2];simp) _ (Gi (by rw [hte,ZC])))) U (.no U) (Ag hs U) (.cons (hs.tm U) (AD hs U) .nil)) ?_;refine Az ?_;refine Az ?_;refine Az ?_;refine AB.s (fun _ hs=>Cv (n:=(AO y).length) (m:=(AO y).length+(AO z).length) U (.no U) (Ag hs U) (hs.tm U) (.yes (hs.tm U) (fun _=>by first|omega|(simp<;>omega))) (.yes (hs.tm U) (fun _=>by first|omega|(simp<;>omega))) Z9 C6 (fun _=>⟨by omega,by first|omega|(simp;omega)⟩)) ?_;refine AB.s (fun _ hs=>Bc (FnT.fr (ih z (by rw [hk2];simp) _ (L6 hte))) U (.no U) (Ag hs U) (.cons (hs.tm U) (AD hs U) .nil)) ?_;refine AB.s (fun _ hs=>(by exact Be U (.no U) (Ag hs U) (hs.tm U) (hs.res _ _ U) C6 U U)) ?_
     refine Dr U U U (Loc.ofs U fun σ' hs hf=>Dc 3200 (DP ⟨AO (exR y)⟩ ⟨AO (exR z)⟩ x.tok (by simp only;omega)) U U (Ag hs U) (.cons (hs.tm U) (AD hs U) (.cons (hs.tm U) (AD hs U) (.cons (hs.tm U) (AD hs U) .nil))) U (LW hf)) ?_;refine Bs U U ?_;refine A4 Ck ?_;refine Aa (Aq (Res.one U (.cell U U Ck U U .nil) U ?_))
     rw [KA x,hk2];rfl
   exfalso;(try simp at h15);first|contradiction|omega|simp_all|grind
 try simp at h15
 refine Ad (Bw ?_);refine Ah ?_;refine Aa (Ai (.tm U) (fun h15=>?_) (fun h15=>?_))
 · try simp at h15
   obtain⟨y,z,hk2,hte,hgy,hgz⟩:=Ft hg (by omega)
   have hry:=Gt y hgy (Gp hg (by rw [hk2];simp) hs)
   have hrz:=Gt z hgz (Gp hg (by rw [hk2];simp) hs)
   have hsy:=ET y hgy
   have hsz:=ET z hgz
   have hln:(AO x).length=(AO y).length+(AO z).length+1:=by rw [hte];simp;omega
   refine Af (Ab ?_);refine Ab ?_;refine Ac (Cv (m:=(AO y).length+(AO z).length) U (.no U) U (.tm U) .no (.yes (.tm U) (fun _=>by first|omega|(simp<;>omega))) Z9 C6 (fun _=>⟨by omega,by first|omega|(simp;omega)⟩)) U ?_;refine Ac (Bc (FnT.fr (FE hgz (pre:=AO y) (by simp;omega) _ (JC hte))) U (.no U) U (.cons (.tm U) U .nil)) U ?_;refine Ah ?_;refine Aa (Ae (As (Ay [0,2,3,4,5,14,15] [2,20001,4]) ?_));refine Bx 11 (DM [[],[],[0,1],[0,1,2],[],[],[],[4,5,6],[0,1,2,3,4,5,6,7],[],[0,1,2,3,4,5,6,7,8,9]]) (by kernel_rfl) (by kernel_rfl) (by kernel_rfl) ?_;refine Az ?_;refine Az ?_;refine AB.s (fun _ hs=>Cv (m:=(AO y).length) U (.no U) (Ag hs U) (hs.tm U) .no (.yes (hs.tm U) (fun _=>by first|omega|(simp<;>omega))) Z9 C6 (fun _=>⟨by omega,by first|omega|(simp;omega)⟩)) ?_
   refine AB.s (fun _ hs=>Bc (FnT.fr (ih y (by rw [hk2];simp) _ (Gi (by rw [hte,ZC])))) U (.no U) (Ag hs U) (.cons (hs.tm U) (AD hs U) .nil)) ?_;refine Az ?_;refine Az ?_;refine Az ?_;refine AB.s (fun _ hs=>Cv (n:=(AO y).length) (m:=(AO y).length+(AO z).length) U (.no U) (Ag hs U) (hs.tm U) (.yes (hs.tm U) (fun _=>by first|omega|(simp<;>omega))) (.yes (hs.tm U) (fun _=>by first|omega|(simp<;>omega))) Z9 C6 (fun _=>⟨by omega,by first|omega|(simp;omega)⟩)) ?_;refine AB.s (fun _ hs=>Bc (FnT.fr (ih z (by rw [hk2];simp) _ (L6 hte))) U (.no U) (Ag hs U) (.cons (hs.tm U) (AD hs U) .nil)) ?_;refine AB.s (fun _ hs=>(by exact Be U (.no U) (Ag hs U) (hs.tm U) (hs.res _ _ U) C6 U U)) ?_
   refine Dr U U U (Loc.ofs U fun σ' hs hf=>Dc 3200 (DP ⟨AO (exR y)⟩ ⟨AO (exR z)⟩ x.tok (by simp only;omega)) U U (Ag hs U) (.cons (hs.tm U) (AD hs U) (.cons (hs.tm U) (AD hs U) (.cons (hs.tm U) (AD hs U) .nil))) U (LW hf)) ?_;refine Bs U U ?_;refine A4 Ck ?_;refine Aa (Aq (Res.one U (.cell U U Ck U U .nil) U ?_))
   rw [KA x,hk2];rfl
 try simp at h15
 refine Af (Bw ?_);refine Ah ?_;refine Aa (Ai (.tm U) (fun h33=>?_) (fun h33=>?_))
 · try simp at h33
   obtain⟨y,hk2,hte,hgy⟩:=HD hg (by omega)
   have hry:=Gt y hgy (Gp hg (by rw [hk2];simp) hs)
   have hsy:=ET y hgy
   have hln:(AO x).length=(AO y).length+1:=by rw [hte];simp
   refine Ae (As (Ay [0,2,3,4,13,14,15,16,17,33,34] [2,20001,4]) ?_);apply Cr (N:=6) (k:=5) (Hs:=[0,1,5]) (ms:=[[],[2],[4],[2,3],[2,4],[2,3,4]]) (es:=[(0,2,1),(0,4,2),(1,3,3),(1,4,4),(2,2,4),(3,4,5),(4,3,5)]) (σ1:=_) (SM:=⟨_,[(0,_),(2,_),(3,_),(4,_),(13,_),(14,_),(15,_),(16,_),(17,_),(33,_),(34,_),(35,_),(36,_),(40,_)],[(2,_),(20001,_),(4,_)]⟩)
   case hm=>kernel_rfl
   case hB=>kernel_rfl
   case hP=>kernel_rfl
   case hL=>kernel_rfl
   case hN=>rfl
   case hpre=>
    apply Ax (P:=ZA) 0 rfl (Bh rfl (.no rfl) rfl (.tm rfl)) (by exact BM.slot (t:=0) rfl) rfl rfl rfl;apply Ax (P:=ZA) 1 rfl (Bh rfl (.no rfl) rfl (.tm rfl)) (by exact BM.slot (t:=3) rfl) rfl rfl rfl;apply Ax (P:=ZA) 5 rfl ((by exact Be rfl (.no rfl) rfl (.tm rfl) rfl C6 rfl rfl)) (by exact BM.load (x:=.tmp 4) (.tm rfl) rfl C6 rfl rfl) rfl rfl rfl;exact EC.nil
   case hS=>exact Ba
   case hH=>
    refine AX.mv ?_;refine AX.mv ?_;refine AX.lq C6 ?_
    trivial
   apply Dh.new0 (i:=2);rfl;rfl;rfl
   · intro w9 _;refine Ac (Cv (m:=(AO y).length) U (.no U) U (.tm U) .no (.yes (.tm U) (fun _=>by first|omega|(simp<;>omega))) Z9 C6 (fun _=>⟨by omega,by first|omega|(simp;omega)⟩)) U ?_;exact Al [0,2,3,4,13,14,15,16,17,33,34,35,36,37,40] [2,20001,4]
   intros;exact Ba
   apply Dh.new0 (i:=4);rfl;rfl;rfl
   · intro w9 _;refine Ac (Bm (ps:=[]) U U U Dw U U L3 .nil U) U ?_;refine Cg (i:=39) 20002 4 0 U U U ?_;exact Al [0,2,3,4,13,14,15,16,17,33,34,35,36,39,40] [2,20001,4,20002]
   intros;exact Ba
   apply Dh.new0 (i:=3);rfl;rfl;rfl
   · intro w9 _;refine Ac (Bc (FnT.fr (ih y (by rw [hk2];simp) _ (Gi hte))) U (.no U) U (.cons (.tm U) U .nil)) U ?_;exact Al [0,2,3,4,13,14,15,16,17,33,34,35,36,38,40] [2,20001,4]
   intros;exact Ba
   apply Dh.new0 (i:=4);rfl;rfl;rfl
   · intro w9 _;refine Ac (Bm (ps:=[]) U U U Dw U U L3 .nil U) U ?_;refine Cg (i:=39) 20002 4 0 U U U ?_;exact Al [0,2,3,4,13,14,15,16,17,33,34,35,36,37,39,40] [2,20001,4,20002]
   intros;exact Ba
   apply Dh.old0 (i:=2);rfl;rfl;rfl
   · intro w9 _;refine Ac (Cv (m:=(AO y).length) U (.no U) U (.tm U) .no (.yes (.tm U) (fun _=>by first|omega|(simp<;>omega))) Z9 C6 (fun _=>⟨by omega,by first|omega|(simp;omega)⟩)) U ?_;exact Aa Aw
   apply Dh.new0 (i:=4);rfl;rfl;rfl
   · intro w9 _;refine Ac (Bm (ps:=[]) U U U Dw U U L3 .nil U) U ?_;refine Cg (i:=39) 20002 4 0 U U U ?_;exact Al [0,2,3,4,13,14,15,16,17,33,34,35,36,38,39,40] [2,20001,4,20002]
   intros;exact Ba
   apply Dh.old0 (i:=3);rfl;rfl;rfl
   · intro w9 _;refine Ac (Bc (FnT.fr (ih y (by rw [hk2];simp) _ (Gi hte))) U (.no U) U (.cons (.tm U) U .nil)) U ?_;exact Aa Aw
   refine Dh.fin0 (k:=5) rfl ?_;intro  hp
   obtain _:=hp
   refine Cj (Dc 4100 (DP ⟨AO (exR y)⟩ ⟨[]⟩ x.tok (by simp;omega)) U U U (.cons (.tm U) U (.cons (.tm U) U (.cons (.tm U) U .nil))) U U) U ?_;refine A4 Ck ?_;refine Aa (Aq (Res.one U (.cell U U Ck U U .nil) U ?_))
   rw [KA x,hk2];simp only [ZB,exG];rw [if_pos (by omega)];show [V0.agg (BH ⟨AO (exR y)++[]++[x.tok]⟩)]=_;rw [List.append_nil];rfl
 try simp at h33
 refine Af (Bw ?_);refine Ah ?_;refine Aa (Ai (.tm U) (fun h42=>?_) (fun h42=>?_))
 · try simp at h42
   obtain⟨y,hk2,hte,hgy⟩:=HD hg (by omega)
   have hry:=Gt y hgy (Gp hg (by rw [hk2];simp) hs)
   have hsy:=ET y hgy
   have hhi:=KZ hg (by omega)
   have hln:(AO x).length=(AO y).length+1:=by rw [hte];simp
   refine Ae (As (Ay [0,2,3,4,14,15] [2,20001,4]) ?_);refine Bx 9 (DM [[],[],[0,1],[0,1,2],[],[4],[],[6],[0,1,2,3,4,5,6,7]]) (by kernel_rfl) (by kernel_rfl) (by kernel_rfl) ?_;refine Az ?_;refine Az ?_;refine AB.s (fun _ hs=>Cv (m:=(AO y).length) U (.no U) (Ag hs U) (hs.tm U) .no (.yes (hs.tm U) (fun _=>by first|omega|(simp<;>omega))) Z9 C6 (fun _=>⟨by omega,by first|omega|(simp;omega)⟩)) ?_;refine AB.s (fun _ hs=>Bc (FnT.fr (ih y (by rw [hk2];simp) _ (Gi hte))) U (.no U) (Ag hs U) (.cons (hs.tm U) (AD hs U) .nil)) ?_;refine AB.s (fun _ hs=>(by exact Bj U (.no U) (Ag hs U) (hs.tm U) Iq)) ?_;refine AB.s (fun _ hs=>(by exact Be U (.no U) (Ag hs U) (hs.tm U) (hs.res _ _ U) ty3 U U)) ?_;refine AB.s (fun _ hs=>(by exact Bj U (.no U) (Ag hs U) (hs.tm U) GO)) ?_
   refine AB.s (fun _ hs=>(by exact Be U (.no U) (Ag hs U) (hs.tm U) (hs.res _ _ U) ty3 U U)) ?_;refine Dr U U U (Loc.ofs U fun σ' hs hf=>Dc 5200 ((by have hT:=PQ (exR y) (by omega) x.tok.High.toNat x.tok.Low (by omega) (by omega);rw [Int.toNat_of_nonneg (by omega)] at hT;exact hT)) U U (Ag hs U) (.cons (hs.tm U) (AD hs U) (.cons (hs.tm U) (AD hs U) (.cons (hs.tm U) (AD hs U) .nil))) U (LW hf)) ?_;refine Bs U U ?_;refine A4 Ck ?_;refine Aa (Aq (Res.one U (.cell U U Ck U U .nil) U ?_))
   rw [KA x,hk2];simp only [ZB,exG];rw [if_neg (by omega)];rfl
 try simp at h42
 refine Am (Ae (As (Ay [0,2,3,4,14,15] [2,20001,4]) ?_));refine Ad (Bb C6 ?_);refine Bp (Ce (xs:=[.tmp 53]) 54 U U U (.cons (.tm U) U U .nil) Z9 D1 U U U U) U ?_;refine Ac (Bm (ps:=[(0,.tmp 54)]) U U U Dw U U L3 (.cons (.tm U) U U Qj .nil) U) U ?_;refine A4 Ck ?_;refine Aa (Aq (Res.one U (.cell U U Ck U U .nil) U ?_))
 rw [KA x,FY hg (by omega)];rfl
theorem O9:∀ x:Tr,good x→(AO x).length≤1048576→szT x<100000→FnT ZA 148 [.one (.sl 4 ((AO x).map AS))] (.a (.agg (BH ⟨AO (exR x)⟩))):=
 Tr.ind fun x ih hg hz hs=>Nz x hg hz hs fun y hy L hL=>by subst hL;exact ih y hy (CM hg y hy) (by have:=LI hy;omega) (Gp hg hy hs)
end Go.Q
