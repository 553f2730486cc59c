import Derived.Test.YtdhojcaoljhbiaaGreatDraw3xs
import Derived.Test.YtdhojcaoljhbiaaGreatBExs
import Derived.Test.YtdhojcaoljhbiaaGreatAbsQxs
import Derived.Lib.IndexMore
import Derived.Lib.SlTrimSet
import Derived.Test.YtdhojcaoljhbiaaGreatAbsIxs
set_option linter.unusedVariables false
set_option linter.unusedSimpArgs false
set_option maxRecDepth 100000
set_option maxHeartbeats 1000000
set_option maxRecDepth 100000
namespace Go.Proofs.YtdhojcaoljhbiaaGreat
open Go.RowKit Go.Q Go.D
theorem specl2Cut (l:List UInt8) (c:UInt8) (hz:l.length≤1073741824):FnT Tryz.prog 177 [.one (.v (.string (bs l))),.one (.v (.int .u8 c.toNat))] (.a (.one (.sl 1 ((splitL c l).map cStr)))):=by
 refine A6 Tryz.func177 U (by kernel_rfl) Tryz.ntmps177 U fun hlen w0=>?_
 try simp [cToken,cAutomaton] at hlen
 have hsz:=bs_size l
 refine Af (AWl.ac ?_);refine AWl.nilS (i:=4) 20001 1 U U ?_;refine Aa (Af (Aq (Dj 8 U U U Tryz.underlying200 ty9 U) U ?_));refine Ag ?_;refine Aa (Af (AWl.ac ?_));refine Aa (Ae (Af (AWl.ac ?_)));refine Aa (AW.block (AW.loop3 (fun (i:Nat) (F:Nat) (O:List (List UInt8))=>(F≤i∧i≤l.length∧c∉(l.take i).drop F∧O.length≤i)∧splitL c l=O++splitL c (l.drop F)) (fun (i:Nat) (F:Nat) (O:List (List UInt8))=>⟨_,[(6,(true,.a (.one (.t (.v (.int .i64 F)))))),(7,(true,.a (.one (.t (.v (.int .i64 i)))))),(5,(true,.a (.one (.rf 8)))),(0,_),(1,_),(4,_)],[(8,.row 1 (O.map cStr))]⟩) (fun (i:Nat) (F:Nat) (O:List (List UInt8))=>l.length-i) (0) (0) ([]) ⟨⟨by omega,by omega,by simp,by simp⟩,(by simp)⟩ Bi ?_))
 rintro i F O ⟨hk,he⟩
 refine Ae (Af (Ab ?_));refine Ab ?_;refine Ac (R_len_s U (.no U) U (.tm U) Tryz.underlying9) U ?_;refine AWl.lt ?_;refine Aa (Ah (.tm U) (fun h12=>?_) (fun h12=>?_))
 · try simp at h12
   obtain⟨b,hb⟩:∃ ξ,l[i]?=some ξ:=⟨_,List.getElem?_eq_getElem (by omega)⟩
   refine AW.skip (Ae (AW.block (Af (Ab ?_))));refine Ab ?_;refine Ac (R_strIndex U (.no U) U (.tm U) (.tm U) Tryz.underlying9 (fun _=>⟨by omega,(by rw [bs_get];exact hb)⟩)) U ?_;refine Ab ?_;refine AWl.eq ?_;refine Aa (Ah (.tm U) (fun h19=>?_) (fun h19=>?_))
   · try simp at h19
     refine Ae (Al (Ap [0,1,4,5,6,7] [8]) ?_);refine Ad (Ab ?_);refine Ab ?_;refine Ab ?_;refine Ab ?_;refine Ac (R_strSlice (n:=F) (m:=i) U (.no U) U (.tm U) (.yes (.tm U) (fun _=>by first|omega|(simp<;>omega))) (.yes (.tm U) (fun _=>by first|omega|(simp<;>omega))) Tryz.underlying9 (fun _=>⟨by omega,by first|omega|(simp;omega)⟩)) U ?_;refine Bs (Cn (xs:=[.tmp 24]) 25 U U U (.cons (.tm U) U U .nil) Tryz.underlying200 in9 U U U U) U ?_;refine Bg (By U U U (.tm U) U (.tm U) (by exact .rf U) (by rfl) Tryz.underlying200 in9 U (by (simp [chunk];omega)) (by (unfold maxLen;simp [chunk];omega))) U ?_;refine Bm (Ap [0,1,4,5,6,7,26] [8,25]) ?_;refine Ag ?_;refine Aa (Ad (Ab ?_));refine Bk ?_;refine Ag ?_;refine Aa (Ad (Ab ?_));refine Bk ?_;refine Ag ?_;refine Aa ?_
     repeat (with_reducible refine A7 ?_)
     refine Round3.next (i+1) (i+1) (O++[(l.take i).drop F]) ⟨⟨by omega,by omega,(by simp),(by rw [List.length_append,List.length_singleton];omega)⟩,(cut_step hb hk (UInt8.toNat_inj.1 (by omega)) he)⟩ (by omega) (Az rfl ⟨rfl,rfl,rfl,rfl,rfl,rfl,Y⟩ ⟨(by refine congrArg (fun r=>some (R.row 1 r)) ?_;simp [chunk,cStr,bs_extract];done),Y⟩)
   try simp at h19
   refine AW.skip (Al (Ap [0,1,4,5,6,7] [8]) ?_);refine Ad (Ab ?_);refine Bk ?_;refine Ag ?_;refine Aa ?_
   repeat (with_reducible refine A7 ?_)
   refine Round3.next (i+1) (F) (O) ⟨⟨by omega,by omega,cut_keep hb hk (fun e=>h19 (by rw [e])),by omega⟩,he⟩ (by omega) (Az rfl ⟨rfl,rfl,rfl,rfl,rfl,rfl,Y⟩ ⟨(by refine congrArg (fun r=>some (R.row 1 r)) ?_;simp [chunk,cStr,bs_extract];done),Y⟩)
 try simp at h12
 refine Bz (Af (Ab ?_));refine Ab ?_;refine Ab ?_;refine Ac (R_strSlice (n:=F) U (.no U) U (.tm U) (.yes (.tm U) (fun _=>by first|omega|(simp<;>omega))) .no Tryz.underlying9 (fun _=>⟨by omega,by first|omega|(simp;omega)⟩)) U ?_;refine Bs (Cn (xs:=[.tmp 32]) 33 U U U (.cons (.tm U) U U .nil) Tryz.underlying200 in9 U U U U) U ?_;refine Bg (By U U U (.tm U) U (.tm U) (by exact .rf U) (by rfl) Tryz.underlying200 in9 U (by (simp [chunk];omega)) (by (unfold maxLen;simp [chunk];omega))) U ?_;refine Bm (Ap [0,1,4,5,6,7,12,34] [8,33]) ?_;refine Ag ?_;refine Aa (Ai (A4 U (.tmp U .nil) U ?_))
 (have hi:i=l.length:=(by omega);subst hi;rw [he,splitL_no (by rw [List.take_of_length_le (Nat.le_refl _)] at hk;exact hk.2.2.1)];refine congrArg (fun r=>[V0.one (T.sl 1 r)]) ?_;simp [chunk,cStr,bs_extract,hsz];done)
end Go.Proofs.YtdhojcaoljhbiaaGreat
namespace Go.Q
open Go.D
theorem range_succ {p:Nat→Bool} {k:Nat} (h:∀ j,j<k→p j=true) (hp:p k=true):∀ j,j<k+1→p j=true:=fun j hj=>by
 rcases Nat.lt_or_eq_of_le (Nat.le_of_lt_succ hj) with h1|rfl
 · exact h j h1
 exact hp
end Go.Q
namespace Go.Proofs.YtdhojcaoljhbiaaGreat
open Go.RowKit Go.Q Go.D
end Go.Proofs.YtdhojcaoljhbiaaGreat
namespace Go.Q
open Go.D
def reads (e:TEdge) (b:Bool):Int:=if b then 2*e.Label+1 else 2*e.Label
end Go.Q
namespace Go.Proofs.YtdhojcaoljhbiaaGreat
open Go.RowKit Go.Q Go.D
end Go.Proofs.YtdhojcaoljhbiaaGreat
set_option maxHeartbeats 1000000
set_option maxRecDepth 100000
namespace Go.Q
open Go.D
end Go.Q
set_option maxHeartbeats 1000000
set_option maxRecDepth 100000
namespace Go.Proofs.YtdhojcaoljhbiaaGreat
open Go.RowKit Go.Q Go.D
end Go.Proofs.YtdhojcaoljhbiaaGreat
set_option maxHeartbeats 1000000
set_option maxRecDepth 100000
namespace Go.Q
open Go.D
def letP (s:List UInt8):Int×Bool:=match (List.range 9).find? (fun k=>decide (letS (k:Nat)=s)) with
 | some k=>((k:Int),true)
 | none=>(0,false)
theorem letP_at {s:List UInt8} {k:Nat} (hk:k<9) (h:letS (k:Nat)=s) (hn:∀ j,j<k→letS (j:Nat)≠s):letP s=((k:Int),true):=by
 have:(List.range 9).find? (fun k=>decide (letS (k:Nat)=s))=some k:=by
  rw [List.find?_range_eq_some]
  exact⟨decide_eq_true h,List.mem_range.2 hk,fun j hj=>by simpa using hn j hj⟩
 unfold letP
 rw [this]
theorem letP_no {s:List UInt8} (hn:∀ j,j<9→letS (j:Nat)≠s):letP s=(0,false):=by
 have:(List.range 9).find? (fun k=>decide (letS (k:Nat)=s))=none:=by
  rw [List.find?_eq_none]
  intro x hx
  simpa using hn x (List.mem_range.1 hx)
 unfold letP
 rw [this]
end Go.Q
set_option maxHeartbeats 1000000
set_option maxRecDepth 100000
namespace Go.Q
open Go.D
end Go.Q
namespace Go.Proofs.YtdhojcaoljhbiaaGreat
open Go.RowKit Go.Q Go.D
theorem specParseLetter (s:List UInt8):FnT Tryz.prog 184 [.one (.v (.string (bs s)))] (.tup [.one (.v (.int .i64 (letP s).1)),.one (.v (.bool (letP s).2))]):=by
 refine A6 Tryz.func184 U (by kernel_rfl) Tryz.ntmps184 U fun hlen w0=>?_
 try simp [cToken,cAutomaton] at hlen
 refine Af (AWl.ac ?_);refine AWl.ac ?_;refine Aa (Ae (Af (AWl.ac ?_)));refine Aa (AW.block (Dp (fun (k:Nat)=>(k≤9∧∀ j:Nat,j<k→letS (j:Nat)≠s)∧True) (fun (k:Nat)=>⟨_,[(4,(true,.a (.one (.t (.v (.int .i64 (k:Nat))))))),(0,_)],[]⟩) (fun (k:Nat)=>9-k) (0) ⟨⟨by omega,fun j hj=>by omega⟩,Y⟩ (Az U ⟨U,U,Y⟩ trivial) ?_))
 rintro k ⟨hk,he⟩
 refine Ae (Af (Ab ?_));refine Cv ?_;refine Aa (Ah (.tm U) (fun h6=>?_) (fun h6=>?_))
 · try simp at h6
   refine AW.skip (Ae (AW.block (Af (Ab ?_))));refine Ac (Aw (FnT.fr (specFormatLetter (k:Int) (by omega) (by omega))) U (.no U) U (.cons (.tm U) U .nil)) U ?_;refine Ab ?_;refine Ac (R_eqstr U (.no U) U (.tm U) (.tm U)) U ?_;refine Aa (Ah (.tm U) (fun h12=>?_) (fun h12=>?_))
   · try simp at h12
     refine Ae (Al (Ap [0,4] []) ?_);refine Ad (Ab ?_);refine Ag ?_;refine AWl.ac ?_;refine Aa (Ai (Cf U (.tmp U (.tmp U .nil)) U ?_ (by simp)))
     rw [letP_at (k:=k) (by omega) (bs_inj h12) hk.2];rfl
   try simp at h12
   refine AW.skip (Al (Ap [0,4] []) ?_);refine Ad (Ab ?_);refine Bk ?_;refine Ag ?_;refine Aa ?_
   repeat (with_reducible refine A7 ?_)
   refine Round1.next (k+1) ⟨⟨by omega,fun j hj=>(by by_cases e:j=k;(subst e;exact fun e2=>h12 (by rw [e2]));exact hk.2 j (by omega))⟩,Y⟩ (by omega) (Az rfl ⟨rfl,rfl,Y⟩ trivial)
 try simp at h6
 refine Bz (Af (AWl.ac ?_));refine AWl.ac ?_;refine Aa (Ai (Cf U (.tmp U (.tmp U .nil)) U ?_ (by simp)))
 rw [letP_no fun j hj=>hk.2 j (by omega)];rfl
end Go.Proofs.YtdhojcaoljhbiaaGreat
set_option maxHeartbeats 1000000
set_option maxRecDepth 100000
namespace Go.Q
open Go.D
def tokS (t:TToken):List UInt8:=
 if t.Kind=1 then [33] else if t.Kind=2 then [40,41] else if t.Kind=3 then letS t.Letter else if t.Kind=4 then [46] else if t.Kind=5 then [124] else if t.Kind=6 then [42]
 else [123]++numS t.Low++[44]++numS t.High++[125]
theorem depth_ar:∀ {l:List TToken} {d:Int},depthGo d l=true→∀ t∈l,0≤arity t
 | [],_,_=>fun t ht=>by cases ht
 | x::r,d,h=>by
  rw [depthGo] at h
  split at h
  · cases h
  rename_i hc
  intro t ht
  rcases List.mem_cons.1 ht with rfl|ht
  · omega
  exact depth_ar h t ht
theorem valid_toks {e:TExpr} (h:isValidExpr e=true):e.Tokens.length≤24∧∀ t∈e.Tokens,0≤arity t:=by
 unfold isValidExpr isExpr at h
 simp only [Bool.and_eq_true,decide_eq_true_eq] at h
 exact⟨h.1,depth_ar h.2⟩
theorem tok_rep {t:TToken} (h:0≤arity t) (h1:t.Kind≠1) (h2:t.Kind≠2) (h3:t.Kind≠3) (h4:t.Kind≠4) (h5:t.Kind≠5) (h6:t.Kind≠6):(0≤t.Low∧t.Low≤3)∧0≤t.High∧t.High≤3:=by
 unfold arity at h
 rw [if_neg (by omega),if_neg h3,if_neg (by omega),if_neg h6] at h
 split at h
 · split at h
   · rename_i hc
     simp only [inB,Bool.and_eq_true,decide_eq_true_eq] at hc
     omega
   omega
 omega
theorem tok_let {t:TToken} (h:0≤arity t) (h3:t.Kind=3):0≤t.Letter∧t.Letter≤8:=by
 unfold arity at h
 rw [if_neg (by omega),if_pos h3] at h
 split at h
 · rename_i hc
   simp only [inB,Bool.and_eq_true,decide_eq_true_eq] at hc
   omega
 omega
end Go.Q
set_option maxHeartbeats 1000000
set_option maxRecDepth 100000
namespace Go.Q
open Go.D
def tk0 (k:Int):TToken:=⟨k,0,0,0⟩
def brS (s:List UInt8):TToken:=if s.length=5∧s[0]?=some 123∧s[2]?=some 44∧s[4]?=some 125 then ⟨7,0,((s[1]?.getD 0).toNat:Int)-48,((s[3]?.getD 0).toNat:Int)-48⟩ else tk0 0
def rdT (rest:List UInt8→TToken) (s:List UInt8):TToken:=
 if s=[33] then tk0 1 else if s=[40,41] then tk0 2 else if s=[46] then tk0 4 else if s=[124] then tk0 5 else if s=[42] then tk0 6
 else if (letP s).2=true then ⟨3,(letP s).1,0,0⟩ else rest s
def exS (s:List UInt8):TExpr:=⟨(splitL 32 s).map (rdT brS)⟩
def parseX (s:List UInt8):TExpr×Bool:=if isValidExpr (exS s)=true then (exS s,true) else (⟨[]⟩,false)
theorem parseX_spec {s:List UInt8} {k:Nat} (hk:(splitL 32 s).length≤k∨25≤k):parseX s=if isValidExpr ⟨((splitL 32 s).take k).map (rdT brS)⟩=true then (⟨((splitL 32 s).take k).map (rdT brS)⟩,true) else (⟨[]⟩,false):=by
 by_cases h:(splitL 32 s).length≤k
 · rw [List.take_of_length_le h];rfl
 have h1:isValidExpr (exS s)=false:=Bool.eq_false_iff.2 fun hh=>by
  have:=(valid_toks hh).1
  unfold exS at this;simp at this;omega
 have h2:isValidExpr ⟨((splitL 32 s).take k).map (rdT brS)⟩=false:=Bool.eq_false_iff.2 fun hh=>by
  have:=(valid_toks hh).1
  simp at this;omega
 unfold parseX
 rw [h1,h2];rfl
end Go.Q
set_option maxHeartbeats 1000000
set_option maxRecDepth 100000
namespace Go.Q
open Go.D
end Go.Q
namespace Go.Proofs.YtdhojcaoljhbiaaGreat
open Go.RowKit Go.Q Go.D
theorem specl8Token (t:TToken) (h:0≤arity t):FnT Tryz.prog 183 [.agg (cToken t)] (.a (.one (.v (.string (bs (tokS t)))))):=by
 refine A6 Tryz.func183 U (by kernel_rfl) Tryz.ntmps183 U fun hlen w0=>?_
 try simp [cToken,cAutomaton] at hlen
 skip
 have e1:(⟨#[123]⟩:ByteArray).size=1:=rfl
 have e2:(⟨#[44]⟩:ByteArray).size=1:=rfl
 have e3:(⟨#[125]⟩:ByteArray).size=1:=rfl
 refine Af (Ac (Bo U U U (.tm U) (ts:=_) (by rfl)) U ?_);refine AWl.ac ?_;refine Aa (Ae (Af (A8 Co ?_)));refine Ak ty3 ?_;refine Aa (AW.block (Af (Ba ?_)));refine Ag ?_;refine Aa (Ah (.tm U) (fun h5=>?_) (fun h5=>?_))
 · try simp at h5
   refine Af (AWl.ac ?_);refine Aa (Ai (Bb U U ?_))
   (unfold tokS;rw [if_pos h5];rfl)
 try simp at h5
 refine Af (Ba ?_);refine Ag ?_;refine Aa (Ah (.tm U) (fun h7=>?_) (fun h7=>?_))
 · try simp at h7
   refine Af (AWl.ac ?_);refine Aa (Ai (Bb U U ?_))
   (unfold tokS;rw [if_neg h5,if_pos h7];rfl)
 try simp at h7
 refine Af (Ba ?_);refine Ag ?_;refine Aa (Ah (.tm U) (fun h9=>?_) (fun h9=>?_))
 · try simp at h9
   refine Ae (Al (Ap [0,1,2,4] []) ?_);refine Ad (A8 fl71_1 ?_);refine Ak ty3 ?_;refine Bu (specFormatLetter t.Letter (tok_let h h9).1 (tok_let h h9).2) ?_;refine Ag ?_;refine Aa (Ai (Bb U U ?_))
   (unfold tokS;rw [if_neg h5,if_neg h7,if_pos h9])
 try simp at h9
 refine Ae (Al (Ap [0,1,2,4] []) ?_);refine Ad (Ba ?_);refine Ag ?_;refine Aa (Ah (.tm U) (fun h14=>?_) (fun h14=>?_))
 · try simp at h14
   refine Af (AWl.ac ?_);refine Aa (Ai (Bb U U ?_))
   (unfold tokS;rw [if_neg h5,if_neg h7,if_neg h9,if_pos h14];rfl)
 try simp at h14
 refine Af (Ba ?_);refine Ag ?_;refine Aa (Ah (.tm U) (fun h16=>?_) (fun h16=>?_))
 · try simp at h16
   refine Af (AWl.ac ?_);refine Aa (Ai (Bb U U ?_))
   (unfold tokS;rw [if_neg h5,if_neg h7,if_neg h9,if_neg h14,if_pos h16];rfl)
 try simp at h16
 refine Af (Ba ?_);refine Ag ?_;refine Aa (Ah (.tm U) (fun h18=>?_) (fun h18=>?_))
 · try simp at h18
   refine Ae (Al (Ap [0,1,2,4] []) ?_);refine Ad (AWl.ac ?_);refine Aa (Ai (Bb U U ?_))
   (unfold tokS;rw [if_neg h5,if_neg h7,if_neg h9,if_neg h14,if_neg h16,if_pos h18];rfl)
 try simp at h18
 have hr:=tok_rep h h5 h7 h9 h14 h16 h18
 have s1:=numS_len (n:=t.Low) (by omega)
 have s2:=numS_len (n:=t.High) (by omega)
 refine AW.skip (Ae (Al (Ap [0,1,2,4] []) ?_));refine Cc 11 (nthB [[],[0],[0,1],[0,1,2],[0,1,2,3],[],[5],[0,1,2,5,6],[0,1,2,3,4,5,6,7],[0,1,2,3,4,5,6,7,8],[0,1,2,3,4,5,6,7,8,9]]) (by kernel_rfl) (by kernel_rfl) (by kernel_rfl) ?_;refine Ck Db ?_;refine Bp ty3 ?_;refine DrawC.s (fun _ hs=>Aw (FnT.fr (specFormatInt t.Low (by omega) (by omega))) U (.no U) (Aj hs U) (.cons (hs.tm U) (readA_sup hs U) .nil)) ?_;refine DrawC.s (fun _ hs=>R_cat U (.no U) (Aj hs U) (.const U) (hs.tm U) (fun _=>by simp only [ByteArray.size_append,bs_size];omega)) ?_;refine DrawC.s (fun _ hs=>R_cat U (.no U) (Aj hs U) (hs.tm U) (.const U) (fun _=>by simp only [ByteArray.size_append,bs_size];omega)) ?_;refine Ck Dn ?_;refine Bp ty3 ?_;refine DrawC.s (fun _ hs=>Aw (FnT.fr (specFormatInt t.High (by omega) (by omega))) U (.no U) (Aj hs U) (.cons (hs.tm U) (readA_sup hs U) .nil)) ?_
 refine DrawC.s (fun _ hs=>R_cat U (.no U) (Aj hs U) (hs.tm U) (hs.tm U) (fun _=>by simp only [ByteArray.size_append,bs_size];omega)) ?_;refine DrawC.s (fun _ hs=>R_cat U (.no U) (Aj hs U) (hs.tm U) (.const U) (fun _=>by simp only [ByteArray.size_append,bs_size];omega)) ?_;refine DrawC.s (fun _ hs=>C5 U (.no U) (Aj hs U) (hs.tm U)) ?_;refine DrawC.fin U U ?_;refine Aa (Ai (Bb U U ?_))
 (unfold tokS;rw [if_neg h5,if_neg h7,if_neg h9,if_neg h14,if_neg h16,if_neg h18,show (⟨#[123]⟩:ByteArray)=bs [123] from rfl,show (⟨#[44]⟩:ByteArray)=bs [44] from rfl,show (⟨#[125]⟩:ByteArray)=bs [125] from rfl];simp only [bs_append])
end Go.Proofs.YtdhojcaoljhbiaaGreat
set_option maxHeartbeats 1000000
set_option maxRecDepth 100000
namespace Go.Q
open Go.D
def bitsN (m:Nat):List Nat:=(List.range 64).filter m.testBit
def rowOk (n:Int) (row:List Int):Bool:=(row.all fun t=>inB t (-1) (n-1))&&decide (row.length=9)
def validA (a:TAutomaton):Bool:=inB a.Accept.length 1 12&&inB a.Start 0 (a.Accept.length-1)&&decide (a.Next.length=a.Accept.length)&&a.Next.all (rowOk a.Accept.length)
def nextOf (a:TAutomaton) (s k:Int):Int:=(a.Next[s.toNat]?.getD [])[k.toNat]?.getD (-1)
theorem validA_len {a:TAutomaton} (h:validA a=true):1≤a.Accept.length∧a.Accept.length≤12∧a.Next.length=a.Accept.length∧0≤a.Start∧a.Start<a.Accept.length:=by
 unfold validA inB at h
 simp only [Bool.and_eq_true,decide_eq_true_eq] at h
 omega
theorem validA_next {a:TAutomaton} (h:validA a=true) {s k:Int} (hs:0≤s) (hs':s<a.Accept.length) (hk:0≤k) (hk':k<9) :
 ∃ row,a.Next[s.toNat]?=some row∧row.length=9∧row[k.toNat]?=some (nextOf a s k)∧ -1≤nextOf a s k∧nextOf a s k<a.Accept.length:=by
 have hl:=validA_len h
 unfold validA at h
 simp only [Bool.and_eq_true,List.all_eq_true] at h
 have hlt:s.toNat<a.Next.length:=by omega
 have h12:=h.2 _ (List.getElem_mem hlt)
 unfold rowOk at h12
 simp only [Bool.and_eq_true,List.all_eq_true] at h12
 obtain⟨h1,h2⟩:=h12
 simp only [decide_eq_true_eq] at h2
 have hk2:k.toNat<(a.Next[s.toNat]).length:=by omega
 have h3:=h1 _ (List.getElem_mem hk2)
 have e:nextOf a s k=(a.Next[s.toNat])[k.toNat]:=by
  unfold nextOf
  rw [List.getElem?_eq_getElem hlt,Option.getD_some,List.getElem?_eq_getElem hk2,Option.getD_some]
 refine⟨_,List.getElem?_eq_getElem hlt,h2,by rw [e];exact List.getElem?_eq_getElem hk2,?_⟩
 rw [e]
 unfold inB at h3
 simp only [Bool.and_eq_true,decide_eq_true_eq] at h3
 omega
def clos (a:TAutomaton) (v:Int):Nat→Int→Nat→Nat
 | 0,_,m=>m
 | f+1,s,m=>if s<0||m.testBit s.toNat then m else clos a v f (nextOf a s (6+v)) (m|||2^s.toNat)
def closure (a:TAutomaton) (s v:Int):Nat:=clos a v (a.Accept.length+1) s 0
def accAt (a:TAutomaton) (t:Nat):Bool:=a.Accept[t]?.getD false
def acc (a:TAutomaton) (s v:Int):Bool:=(bitsN (closure a s v)).any (accAt a)
end Go.Q
namespace Go.Proofs.YtdhojcaoljhbiaaGreat
open Go.RowKit Go.Q Go.D
def fitsA (a:TAutomaton):Bool:=inB a.Start 0 (a.Accept.length-1)&&decide (a.Next.length=a.Accept.length)&&a.Next.all (rowOk a.Accept.length)
theorem specl11Fits (a:TAutomaton):FnT Tryz.prog 151 [.agg (cAutomaton a)] (.a (.one (.v (.bool (fitsA a))))):=by
 refine A6 Tryz.func151 U (by kernel_rfl) Tryz.ntmps151 U fun hlen w0=>?_
 try simp [cToken,cAutomaton] at hlen
 refine Af (Ac (Bo U U U (.tm U) (ts:=_) (by rfl)) U ?_);refine AWl.ac ?_;refine Aa (Af (A8 Ct ?_));refine Ak ty33 ?_;refine Br (.t) Tryz.underlying33 ?_;refine Ag ?_;refine Aa (Ae (Af (A8 fl36_0 ?_)));refine Ak ty3 ?_;refine Ab ?_;refine C4 ?_;refine Bu (specl1In _ _ _) ?_;refine Cw ?_;refine Ab ?_;refine Cy Dc ?_;refine Cx ty34 ?_;refine Ac (R_lenm U (by exact .not1 U U U U) U (.tmp U (by exact id)) (by exact .t) Tryz.underlying34) U ?_;refine AWl.mw ?_;refine Ac (R_ne U (by exact .not1 U U U U) U (.tmp U (by exact id)) (.tmp U (by exact id))) U ?_;refine Cj ?_;refine Aa (Ah (.tm U) (fun h21=>?_) (fun h21=>?_))
 · try simp at h21
   refine Ae (Al (Ap [0,1,2,3] []) ?_);refine Ad (AWl.ac ?_);refine Aa (Ai (Bb U U ?_))
   congr 1;unfold fitsA;revert h21;generalize inB a.Start 0 (a.Accept.length-1)=b2;cases b2<;>simp<;>omega
 try simp at h21
 have hnl:a.Next.length=a.Accept.length:=by (revert h21;simp;omega)
 refine AW.skip (Ae (Ae (Al (Ap [0,1,2,3] []) ?_)));refine Ad (AWl.ac ?_);refine Aa (AW.block (Dl (β:=Nat) (fun x=>x≤(a.Next).length∧∀ j y,j<x→(a.Next)[j]?=some y→(rowOk a.Accept.length) y=true) (fun x=>⟨_,[(4,(true,.a (.one (.t (.v (.int .i64 (x:Nat))))))),(1,_),(3,_)],[]⟩) (fun x=>(a.Next).length-x) (0) ⟨Nat.zero_le _,fun j y hj=>absurd hj (Nat.not_lt_zero j)⟩ (Az U ⟨U,U,U,Y⟩ trivial) ?_));intro k hk;refine Ae (Af (Ab ?_));refine Ab ?_;refine AWl.lt ?_;refine Aa (Ah (.tm U) (fun hlt=>?_) (fun hlt=>?_))
 · try simp at hlt
   obtain⟨x,hx⟩:∃ ξ,(a.Next)[k]?=some ξ:=⟨_,List.getElem?_eq_getElem (by omega)⟩
   refine AW.skip (Ae (AW.block (Ae (Af (A8 Dc ?_)))));refine Ak ty34 ?_;refine Ab ?_;refine Ac ((An U (.no U) U (.tm U) (.tm U) Tryz.underlying34 C7 (fun _=>⟨by omega,(by exact Am (by assumption))⟩))) U ?_;refine Ak C7 ?_;refine Br (.t) Tryz.underlying40 ?_;refine AWl.nc ?_;refine Aa (Ah (.tm U) (fun h33=>?_) (fun h33=>?_))
   · try simp at h33
     refine Ae (Al (Ap [1,3,4] []) ?_);refine Ad (AWl.ac ?_);refine Aa (Ai (Bb U U ?_))
     congr 1;unfold fitsA;rw [not_all hx (by unfold rowOk;rw [decide_eq_false (by omega),Bool.and_false])];simp
   try simp at h33
   refine AW.skip (Ae (Al (Ap [1,3,4] []) ?_));refine Ad (AWl.ac ?_);refine Aa (AW.block (Dl (β:=Nat) (fun ι=>ι≤(x).length∧∀ j y,j<ι→(x)[j]?=some y→(fun t=>inB t (-1) (a.Accept.length-1)) y=true) (fun ι=>⟨_,[(5,(true,.a (.one (.t (.v (.int .i64 (ι:Nat))))))),(1,_),(3,_),(4,_)],[]⟩) (fun ι=>(x).length-ι) (0) ⟨Nat.zero_le _,fun j y hj=>absurd hj (Nat.not_lt_zero j)⟩ (Az U ⟨U,U,U,U,Y⟩ trivial) ?_));intro k1 hk1;refine Ae (Af (Ab ?_));refine Cv ?_;refine Aa (Ah (.tm U) (fun hlt1=>?_) (fun hlt1=>?_))
   · try simp at hlt1
     obtain⟨x1,hx1⟩:∃ ξ,(x)[k1]?=some ξ:=⟨_,List.getElem?_eq_getElem (by omega)⟩
     refine AW.skip (Ae (AW.block (Af (A8 Dc ?_))));refine Ak ty34 ?_;refine Ab ?_;refine Ac ((An U (.no U) U (.tm U) (.tm U) Tryz.underlying34 C7 (fun _=>⟨by omega,(by exact Am (by assumption))⟩))) U ?_;refine Ak C7 ?_;refine Ab ?_;refine Ac ((An U (.no U) U (.tm U) (.tm U) Tryz.underlying40 ty3 (fun _=>⟨by omega,(by exact Am (by assumption))⟩))) U ?_;refine Ak ty3 ?_;refine Ab ?_;refine C4 ?_;refine Bu (specl1In _ _ _) ?_;refine Cw ?_;refine Aa (Ah (.tm U) (fun h49=>?_) (fun h49=>?_))
     · try simp at h49
       refine Ae (Al (Ap [1,3,4,5] []) ?_);refine Ad (AWl.ac ?_);refine Aa (Ai (Bb U U ?_))
       congr 1;unfold fitsA;rw [not_all hx (by unfold rowOk;rw [not_all hx1 h49];rfl)];simp
     try simp at h49
     refine AW.skip (Al (Ap [1,3,4,5] []) ?_);refine Ad (Ab ?_);refine Bk ?_;refine Ag ?_;refine Aa ?_;refine Round.next (k1+1) ⟨by omega,each_succ hk1.2 hx1 (h49)⟩ (by omega) (Az rfl ⟨rfl,rfl,rfl,rfl,Y⟩ trivial)
   try simp at hlt1
   refine Bz (Ad (Ab ?_));refine Bk ?_;refine Ag ?_;refine Aa ?_;refine Round.next (k+1) ⟨by omega,each_succ hk.2 hx (by unfold rowOk;rw [each_all hk1.2 (by omega),decide_eq_true (by omega)];rfl)⟩ (by omega) (Az rfl ⟨rfl,rfl,rfl,Y⟩ trivial)
 try simp at hlt
 refine Bz (Af (AWl.ac ?_));refine Aa (Ai (Bb U U ?_))
 congr 1;unfold fitsA;rw [each_all hk.2 (by omega)];revert h21;generalize inB a.Start 0 (a.Accept.length-1)=b2;cases b2<;>simp<;>omega
theorem fits_valid (a:TAutomaton):(decide ((a.Accept.length:Int)≤12)&&fitsA a)=validA a:=by
 unfold fitsA validA inB
 rw [Bool.eq_iff_iff]
 simp only [Bool.and_eq_true,decide_eq_true_eq]
 constructor
 · rintro⟨h1,⟨⟨h2,h3⟩,h4⟩,h5⟩;exact⟨⟨⟨⟨by omega,h1⟩,h2,h3⟩,h4⟩,h5⟩
 rintro⟨⟨⟨⟨h0,h1⟩,h2,h3⟩,h4⟩,h5⟩;exact⟨h1,⟨⟨h2,h3⟩,h4⟩,h5⟩
theorem specIsValidAutomaton (a:TAutomaton):FnT Tryz.prog 100 [.agg (cAutomaton a)] (.a (.one (.v (.bool (validA a))))):=by
 refine A6 Tryz.func100 U (by kernel_rfl) Tryz.ntmps100 U fun hlen w0=>?_
 try simp [cToken,cAutomaton] at hlen
 refine Af (Ac (Bo U U U (.tm U) (ts:=_) (by rfl)) U ?_);refine AWl.ac ?_;refine Aa (Af (A8 Ct ?_));refine Ak ty33 ?_;refine Br (.t) Tryz.underlying33 ?_;refine Ac (R_le U (.no U) U (.tm U) (.const U)) U ?_;refine Ab ?_;refine Ac (Ca U (by exact .yes1 U U U U) U (.tmp U (by exact fun _=>rfl)) Cm U U) U ?_;refine Ac (Aw (FnT.fr (specl11Fits _)) U (by exact .yes1 U U U U) U (.cons (.tmp U (by exact id)) U .nil)) U ?_;refine Cb ?_;refine Ag ?_;refine Aa (Ai (Bb U U ?_))
 rw [←fits_valid]
end Go.Proofs.YtdhojcaoljhbiaaGreat
namespace Go.Q
open Go.D
def cmpL:List Int→List Int→Int
 | [],[]=>0
 | [],_::_=> -1
 | _::_,[]=>1
 | x::l,y::r=>if x<y then -1 else if y<x then 1 else cmpL l r
theorem cmpL_drop {l r:List Int} {k:Nat} {x y:Int} (hx:l[k]?=some x) (hy:r[k]?=some y):cmpL (l.drop k) (r.drop k)=if x<y then -1 else if y<x then 1 else cmpL (l.drop (k+1)) (r.drop (k+1)):=by
 rw [drop_at hx,drop_at hy,cmpL]
theorem cmpL_end {l r:List Int} {k:Nat} (h:l.length≤k∨r.length≤k) (h1:k≤l.length) (h2:k≤r.length):cmpL (l.drop k) (r.drop k)=if l.length<r.length then -1 else if r.length<l.length then 1 else 0:=by
 by_cases e1:l.length=k
 · by_cases e2:r.length=k
   · rw [List.drop_eq_nil_of_le (by omega),List.drop_eq_nil_of_le (by omega),cmpL,if_neg (by omega),if_neg (by omega)]
   rw [List.drop_eq_nil_of_le (by omega),List.drop_eq_getElem_cons (l:=r) (by omega),cmpL,if_pos (by omega)]
 by_cases e2:r.length=k
 · rw [List.drop_eq_nil_of_le (show r.length≤k by omega),List.drop_eq_getElem_cons (l:=l) (by omega),cmpL,if_neg (by omega),if_pos (by omega)]
 omega
theorem cmpL_zero:∀ (l r:List Int),decide (cmpL l r=0)=decide (l=r)
 | [],[]=>by simp [cmpL]
 | [],_::_=>by simp [cmpL]
 | _::_,[]=>by simp [cmpL]
 | x::l,y::r=>by
  have ih:=cmpL_zero l r
  rw [cmpL]
  by_cases h1:x<y
  · rw [if_pos h1];simp;omega
  by_cases h2:y<x
  · rw [if_neg h1,if_pos h2];simp;omega
  rw [if_neg h1,if_neg h2,ih]
  have:x=y:=by omega
  simp [this]
end Go.Q
namespace Go.Proofs.YtdhojcaoljhbiaaGreat
open Go.RowKit Go.Q Go.D
theorem specl2Cmp (l r:List Int):FnT Tryz.prog 48 [.one (.sl 1 (l.map cInt)),.one (.sl 1 (r.map cInt))] (.a (.one (.v (.int .i64 (cmpL l r))))):=by
 refine A6 Tryz.func48 U (by kernel_rfl) Tryz.ntmps48 U fun hlen w0=>?_
 try simp [cToken,cAutomaton] at hlen
 refine Af (AWl.ac ?_);refine Aa (Ae (Af (AWl.ac ?_)));refine Aa (AW.block (Dl (β:=Nat) (fun x=>(x≤l.length∧x≤r.length)∧cmpL l r=cmpL (l.drop x) (r.drop x)) (fun x=>⟨_,[(5,(true,.a (.one (.t (.v (.int .i64 x)))))),(0,_),(1,_)],[]⟩) (fun x=>l.length-x) (0) ⟨⟨Nat.zero_le _,Nat.zero_le _⟩,U⟩ (Az U ⟨U,U,U,Y⟩ trivial) ?_));intro k hk
 obtain⟨hk,he⟩:=hk
 refine Ae (Af (Ab ?_));refine Ab ?_;refine Br (.t) Tryz.underlying40 ?_;refine AWl.lt ?_;refine Ab ?_;refine Cl ?_;refine Cl ?_;refine Ac (R_lenm U (by exact .yes1 U U U U) U (.tmp U (by exact id)) (by exact .t) Tryz.underlying40) U ?_;refine Ac (R_lt U (by exact .yes1 U U U U) U (.tmp U (by exact id)) (.tmp U (by exact id))) U ?_;refine Cb ?_;refine Aa (Ah (.tm U) (fun hlt=>?_) (fun hlt=>?_))
 · try simp at hlt
   obtain⟨x,hx⟩:∃ x,l[k]?=some x:=⟨_,List.getElem?_eq_getElem (by omega)⟩
   obtain⟨y,hy⟩:∃ y,r[k]?=some y:=⟨_,List.getElem?_eq_getElem (by omega)⟩
   rw [cmpL_drop hx hy] at he
   refine AW.skip (Ae (AW.block (Ae (Ae (Al (Ap [0,1,5] []) ?_)))));refine Cc 9 (nthB [[],[],[0,1],[0,1,2],[],[],[4,5],[4,5,6],[0,1,2,3,4,5,6,7]]) (by kernel_rfl) (by kernel_rfl) (by kernel_rfl) ?_;refine Av ?_;refine Av ?_;refine DrawC.s (fun _ hs=>(An U (.no U) (Aj hs U) (hs.tm U) (hs.tm U) Tryz.underlying40 ty3 (fun _=>⟨by omega,(by exact Am (by assumption))⟩))) ?_;refine Bp ty3 ?_;refine Av ?_;refine Av ?_;refine DrawC.s (fun _ hs=>(by exact An U (.no U) (Aj hs U) (hs.tm U) (hs.tm U) Tryz.underlying40 ty3 (fun _=>⟨by omega,(by exact Am (by assumption))⟩))) ?_;refine Bp ty3 ?_;refine DrawC.s (fun _ hs=>R_lt U (.no U) (Aj hs U) (hs.tm U) (hs.tm U)) ?_;refine DrawC.fin U U ?_;refine Aa (Ah (.tm U) (fun h26=>?_) (fun h26=>?_))
   · try simp at h26
     refine Ae (Al (Ap [0,1,5] []) ?_);refine Ad (AWl.ac ?_);refine Aa (Ai (Bb U U ?_))
     rw [he,if_pos h26]
   try simp at h26
   refine AW.skip (Ae (Al (Ap [0,1,5] []) ?_));refine Cc 9 (nthB [[],[],[0,1],[0,1,2],[],[],[4,5],[4,5,6],[0,1,2,3,4,5,6,7]]) (by kernel_rfl) (by kernel_rfl) (by kernel_rfl) ?_;refine Av ?_;refine Av ?_;refine DrawC.s (fun _ hs=>(by exact An U (.no U) (Aj hs U) (hs.tm U) (hs.tm U) Tryz.underlying40 ty3 (fun _=>⟨by omega,(by exact Am (by assumption))⟩))) ?_;refine Bp ty3 ?_;refine Av ?_;refine Av ?_;refine DrawC.s (fun _ hs=>(by exact An U (.no U) (Aj hs U) (hs.tm U) (hs.tm U) Tryz.underlying40 ty3 (fun _=>⟨by omega,(by exact Am (by assumption))⟩))) ?_;refine Bp ty3 ?_;refine DrawC.s (fun _ hs=>R_gt U (.no U) (Aj hs U) (hs.tm U) (hs.tm U)) ?_;refine DrawC.fin U U ?_;refine Aa (Ah (.tm U) (fun h35=>?_) (fun h35=>?_))
   · try simp at h35
     refine Ae (Al (Ap [0,1,5] []) ?_);refine Ad (AWl.ac ?_);refine Aa (Ai (Bb U U ?_))
     rw [he,if_neg (by omega),if_pos h35]
   try simp at h35
   refine AW.skip (Al (Ap [0,1,5] []) ?_);refine Ad (Ab ?_);refine Bk ?_;refine Ag ?_;refine Aa ?_;refine Round.next (k+1) ⟨by omega,by rw [he,if_neg (by omega),if_neg (by omega)]⟩ (by omega) (Az rfl ⟨rfl,rfl,rfl,Y⟩ trivial)
 try simp at hlt
 rw [cmpL_end (by omega) (by omega) (by omega)] at he
 refine Bz (Ae (Ae (Al (Ap [0,1,5] []) ?_)));refine Ad (Ab ?_);refine Br (.t) Tryz.underlying40 ?_;refine Ab ?_;refine Br (.t) Tryz.underlying40 ?_;refine AWl.lt ?_;refine Aa (Ah (.tm U) (fun h40=>?_) (fun h40=>?_))
 · try simp at h40
   refine Af (AWl.ac ?_);refine Aa (Ai (Bb U U ?_))
   rw [he];grind
 try simp at h40
 refine AW.skip (Ae (Af (Ab ?_)));refine Br (.t) Tryz.underlying40 ?_;refine Ab ?_;refine Br (.t) Tryz.underlying40 ?_;refine Ac (R_gt U (.no U) U (.tm U) (.tm U)) U ?_;refine Aa (Ah (.tm U) (fun h45=>?_) (fun h45=>?_))
 · try simp at h45
   refine Ae (Al (Ap [0,1,5] []) ?_);refine Ad (AWl.ac ?_);refine Aa (Ai (Bb U U ?_))
   rw [he];grind
 try simp at h45
 refine AW.skip (Ae (Al (Ap [0,1,5] []) ?_));refine Ad (AWl.ac ?_);refine Aa (Ai (Bb U U ?_))
 rw [he];grind
theorem specEqualAutomata (a b:TAutomaton):FnT Tryz.prog 19 [.agg (cAutomaton a),.agg (cAutomaton b)] (.a (.one (.v (.bool (decide (a=b)))))):=by
 refine A6 Tryz.func19 U (by kernel_rfl) Tryz.ntmps19 U fun hlen w0=>?_
 try simp [cToken,cAutomaton] at hlen
 refine Af (Ac (Bo U U U (.tm U) (ts:=_) (by rfl)) U ?_);refine Ac (Bo U U U (.tm U) (ts:=_) (by rfl)) U ?_;refine AWl.ac ?_;refine Aa (Ae (Af (A8 fl36_0 ?_)));refine Ak ty3 ?_;refine A8 fl36_0 ?_;refine Ak ty3 ?_;refine Ac (R_ne U (.no U) U (.tm U) (.tm U)) U ?_;refine Ab ?_;refine Cy Ct ?_;refine Cx ty33 ?_;refine Ac (R_lenm U (by exact .not1 U U U U) U (.tmp U (by exact id)) (by exact .t) Tryz.underlying33) U ?_;refine Cy Ct ?_;refine Cx ty33 ?_;refine Ac (R_lenm U (by exact .not1 U U U U) U (.tmp U (by exact id)) (by exact .t) Tryz.underlying33) U ?_;refine Ac (R_ne U (by exact .not1 U U U U) U (.tmp U (by exact id)) (.tmp U (by exact id))) U ?_;refine Cj ?_;refine Ab ?_;refine Cy Dc ?_;refine Cx ty34 ?_;refine Ac (R_lenm U (by exact .not1 U U U U) U (.tmp U (by exact id)) (by exact .t) Tryz.underlying34) U ?_;refine Cy Dc ?_;refine Cx ty34 ?_
 refine Ac (R_lenm U (by exact .not1 U U U U) U (.tmp U (by exact id)) (by exact .t) Tryz.underlying34) U ?_;refine Ac (R_ne U (by exact .not1 U U U U) U (.tmp U (by exact id)) (.tmp U (by exact id))) U ?_;refine Cj ?_;refine Aa (Ah (.tm U) (fun h29=>?_) (fun h29=>?_))
 · try simp at h29
   refine Ae (Al (Ap [0,1,2,3,4] []) ?_);refine Ad (AWl.ac ?_);refine Aa (Ai (Bb U U ?_))
   congr 1;symm;exact decide_eq_false fun e=>by subst e;simp at h29
 try simp at h29
 refine AW.skip (Ae (Ae (Al (Ap [0,1,2,3,4] []) ?_)));refine Ad (AWl.ac ?_);refine Aa (AW.block (Dl (β:=Nat) (fun x=>x≤a.Accept.length∧∀ i,i<x→a.Accept[i]?=b.Accept[i]?) (fun x=>⟨_,[(5,(true,.a (.one (.t (.v (.int .i64 x)))))),(2,_),(3,_)],[]⟩) (fun x=>a.Accept.length-x) (0) ⟨Nat.zero_le _,by simp⟩ (Az U ⟨U,U,U,Y⟩ trivial) ?_));intro k hk
 obtain⟨hk,he⟩:=hk
 refine Ae (Af (Ab ?_));refine A8 Ct ?_;refine Ak ty33 ?_;refine Br (.t) Tryz.underlying33 ?_;refine AWl.lt ?_;refine Aa (Ah (.tm U) (fun h34=>?_) (fun h34=>?_))
 · try simp at h34
   obtain⟨x,hx⟩:∃ x,a.Accept[k]?=some x:=⟨_,List.getElem?_eq_getElem h34⟩
   obtain⟨y,hy⟩:∃ y,b.Accept[k]?=some y:=⟨_,List.getElem?_eq_getElem (by grind)⟩
   refine AW.skip (Ae (AW.block (Ae (Cc 11 (nthB [[],[0],[],[0,1,2],[0,1,2,3],[],[5],[],[5,6,7],[5,6,7,8],[0,1,2,3,4,5,6,7,8,9]]) (by kernel_rfl) (by kernel_rfl) (by kernel_rfl) ?_))));refine Ck Ct ?_;refine Bp ty33 ?_;refine Av ?_;refine DrawC.s (fun _ hs=>(by exact An U (.no U) (Aj hs U) (hs.tm U) (hs.tm U) Tryz.underlying33 ty4 (fun _=>⟨by omega,(by exact Am (by assumption))⟩))) ?_;refine Bp ty4 ?_;refine Ck Ct ?_;refine Bp ty33 ?_;refine Av ?_;refine DrawC.s (fun _ hs=>(by exact An U (.no U) (Aj hs U) (hs.tm U) (hs.tm U) Tryz.underlying33 ty4 (fun _=>⟨by omega,(by exact Am (by assumption))⟩))) ?_;refine Bp ty4 ?_;refine DrawC.s (fun _ hs=>R_neb U (.no U) (Aj hs U) (hs.tm U) (hs.tm U) Tryz.underlying4) ?_;refine DrawC.fin U U ?_;refine Aa (Ah (.tm U) (fun h47=>?_) (fun h47=>?_))
   · try simp at h47
     refine Ae (Al (Ap [2,3,5] []) ?_);refine Ad (AWl.ac ?_);refine Aa (Ai (Bb U U ?_))
     congr 1;symm;exact decide_eq_false fun e=>by subst e;rw [hx] at hy;cases hy;simp at h47
   try simp at h47
   refine AW.skip (Al (Ap [2,3,5] []) ?_);refine Ad (Ab ?_);refine Bk ?_;refine Ag ?_;refine Aa ?_;refine Round.next (k+1) ⟨by omega,fun i hi=>by rcases Nat.lt_or_eq_of_le (Nat.le_of_lt_succ hi) with h|rfl;exact he i h;rw [hx,hy,h47]⟩ (by omega) (Az rfl ⟨rfl,rfl,rfl,Y⟩ trivial)
 try simp at h34
 refine Bz (Ae (Af (AWl.ac ?_)));refine Aa (AW.block (Dl (β:=Nat) (fun x=>x≤a.Next.length∧∀ i,i<x→a.Next[i]?=b.Next[i]?) (fun x=>⟨_,[(6,(true,.a (.one (.t (.v (.int .i64 x)))))),(2,_),(3,_)],[]⟩) (fun x=>a.Next.length-x) (0) ⟨Nat.zero_le _,by simp⟩ (Az U ⟨U,U,U,Y⟩ trivial) ?_));intro k1 hk1
 obtain⟨hk1,he1⟩:=hk1
 refine Ae (Af (Ab ?_));refine A8 Dc ?_;refine Ak ty34 ?_;refine Br (.t) Tryz.underlying34 ?_;refine AWl.lt ?_;refine Aa (Ah (.tm U) (fun h52=>?_) (fun h52=>?_))
 · try simp at h52
   obtain⟨x1,hx1⟩:∃ x,a.Next[k1]?=some x:=⟨_,List.getElem?_eq_getElem h52⟩
   obtain⟨y1,hy1⟩:∃ y,b.Next[k1]?=some y:=⟨_,List.getElem?_eq_getElem (by grind)⟩
   refine AW.skip (Ae (AW.block (Ae (Cc 12 (nthB [[],[0],[],[0,1,2],[0,1,2,3],[],[5],[],[5,6,7],[5,6,7,8],[0,1,2,3,4,5,6,7,8,9],[0,1,2,3,4,5,6,7,8,9,10]]) (by kernel_rfl) (by kernel_rfl) (by kernel_rfl) ?_))));refine Ck Dc ?_;refine Bp ty34 ?_;refine Av ?_;refine DrawC.s (fun _ hs=>(by exact An U (.no U) (Aj hs U) (hs.tm U) (hs.tm U) Tryz.underlying34 C7 (fun _=>⟨by omega,(by exact Am (by assumption))⟩))) ?_;refine Bp C7 ?_;refine Ck Dc ?_;refine Bp ty34 ?_;refine Av ?_;refine DrawC.s (fun _ hs=>(by exact An U (.no U) (Aj hs U) (hs.tm U) (hs.tm U) Tryz.underlying34 C7 (fun _=>⟨by omega,(by exact Am (by assumption))⟩))) ?_;refine Bp C7 ?_;refine DrawC.s (fun _ hs=>Aw (FnT.fr (specl2Cmp _ _)) U (.no U) (Aj hs U) (.cons (hs.tm U) (readA_sup hs U) (.cons (hs.tm U) (readA_sup hs U) .nil))) ?_;refine DrawC.s (fun _ hs=>R_ne U (.no U) (Aj hs U) (hs.tm U) (.const U)) ?_
   refine DrawC.fin U U ?_;refine Aa (Ah (.tm U) (fun h66=>?_) (fun h66=>?_))
   · skip
     skip
     refine Ae (Al (Ap [2,3,6] []) ?_);refine Ad (AWl.ac ?_);refine Aa (Ai (Bb U U ?_))
     congr 1;symm;exact decide_eq_false fun e=>by subst e;rw [hx1] at hy1;cases hy1;rw [cmpL_zero] at h66;simp at h66
   skip
   skip
   rw [cmpL_zero] at h66;simp at h66
   refine AW.skip (Al (Ap [2,3,6] []) ?_);refine Ad (Ab ?_);refine Bk ?_;refine Ag ?_;refine Aa ?_;refine Round.next (k1+1) ⟨by omega,fun i hi=>by rcases Nat.lt_or_eq_of_le (Nat.le_of_lt_succ hi) with h|rfl;exact he1 i h;rw [hx1,hy1,h66]⟩ (by omega) (Az rfl ⟨rfl,rfl,rfl,Y⟩ trivial)
 try simp at h52
 refine Bz (Af (AWl.ac ?_));refine Aa (Ai (Bb U U ?_))
 congr 1;symm;exact decide_eq_true (TAutomaton.ext_iff'.2 ⟨by grind,eq_of_getElem? (by grind) fun i hi=>he i (by omega),eq_of_getElem? (by grind) fun i hi=>he1 i (by omega)⟩)
end Go.Proofs.YtdhojcaoljhbiaaGreat
