import Derived.Test.YtdhojcaoljhbiaaGreatDoorB94xr
import Derived.Test.YtdhojcaoljhbiaaGreatDoorB178xr
import Derived.Test.YtdhojcaoljhbiaaGreatDoorCloxr
set_option linter.unusedVariables false
set_option linter.unusedSimpArgs false
set_option maxRecDepth 100000
set_option maxHeartbeats 1000000
set_option maxRecDepth 100000
namespace Go.Q
open Go.D
theorem nl_none {l:List UInt8} {i:Nat} (h:Lib.indexByte (l.drop i) 10<0):nlAt l i=none:=by
 have e:=nlAt_index l i
 cases hn:nlAt l i with
 | none=>rfl
 | some n=>rw [hn] at e;simp only at e;omega
theorem nl_some {l:List UInt8} {i:Nat} (h:0≤Lib.indexByte (l.drop i) 10):∃ n:Nat,nlAt l i=some n∧Lib.indexByte (l.drop i) 10=(n:Int)∧i+n<l.length:=by
 have e:=nlAt_index l i
 cases hn:nlAt l i with
 | none=>rw [hn] at e;simp only at e;omega
 | some n=>
  rw [hn] at e
  exact⟨n,rfl,e,(List.getElem?_eq_some_iff.1 (nlAt_some hn).1).1⟩
def lineS (l:List UInt8) (i n:Nat):List UInt8:=(l.drop i).take (n+1)
def lastI (vs:List Int):Int:=vs.getLast?.getD 0
theorem last_get {vs:List Int} (h:0<vs.length):vs[((vs.length:Int)-1).toNat]?=some (lastI vs):=by
 have e:((vs.length:Int)-1).toNat=vs.length-1:=by omega
 rw [e]
 unfold lastI
 rw [List.getLast?_eq_getElem?,List.getElem?_eq_getElem (by omega)];rfl
theorem last_le {vs:List Int} (h:∀ v∈vs,1≤v∧v≤999):0≤lastI vs∧lastI vs≤999:=by
 unfold lastI
 cases hl:vs.getLast? with
 | none=>simp
 | some v=>
  have:=h v (List.mem_of_getLast? hl)
  simp only [Option.getD_some];omega
theorem scan_next {l:List UInt8} {vs:List Int} {bt:List TBatch} {i f n:Nat} (hn:nlAt l i=some n) (h1:recG (lineS l i n)=true) (h2:0<vs.length→recV (lineS l i n)=lastI vs+1) (hf:l.length<i+f) :
 scanF f l vs bt i=scanF (f-1) l (vs++[recV (lineS l i n)]) (bt++[recB (lineS l i n)]) (i+(n+1)):=by
 have hl:=(List.getElem?_eq_some_iff.1 (nlAt_some hn).1).1
 obtain⟨f',rfl⟩:∃ f',f=f'+1:=⟨f-1,by omega⟩
 rw [scan_more hn h1 (by
  rcases Nat.eq_zero_or_pos vs.length with h|h
  · exact .inl (List.eq_nil_of_length_eq_zero h)
  exact .inr (h2 h))]
 rfl
theorem scan_end {l:List UInt8} {vs:List Int} {bt:List TBatch} {i f n:Nat} (hn:nlAt l i=some n) (h:recG (lineS l i n)=true→0<vs.length∧recV (lineS l i n)≠lastI vs+1):scanF f l vs bt i=(vs,bt,i):=by
 refine scan_stop hn ?_
 by_cases hg:recG (lineS l i n)=true
 · obtain⟨h1,h2⟩:=h hg
   exact .inr ⟨fun e=>by rw [e] at h1;simp at h1,h2⟩
 exact .inl (Bool.eq_false_iff.2 hg)
theorem line_len (l:List UInt8) (i n:Nat):(lineS l i n).length≤l.length:=by unfold lineS;simp;omega
theorem line_ext (l:List UInt8) (i n:Nat):(bs l).extract i (i+n+1)=bs (lineS l i n):=by
 rw [bs_extract,List.drop_take]
 unfold lineS
 rw [show i+n+1-i=n+1 by omega]
theorem line_rng {l:List UInt8} {i n:Nat} {vs:List Int} (h:∀ v∈vs,1≤v∧v≤999) (hg:recG (lineS l i n)=true):∀ v∈vs++[recV (lineS l i n)],1≤v∧v≤999:=fun v hv=>by
 rcases List.mem_append.1 hv with hv|hv
 · exact h v hv
 rw [List.mem_singleton] at hv
 rw [hv];exact (recG_get hg).2.1
theorem scanL_long {l:List UInt8} (h:4000<l.length):scanL l=([],[],0):=by unfold scanL;rw [if_neg (by omega)]
theorem scanL_few (l:List UInt8):(scanL l).1.length≤4000∧(scanL l).2.1.length≤4000∧∀ b∈(scanL l).2.1,b.Changes.length≤6:=by
 unfold scanL
 split
 · obtain⟨h1,h2,h3⟩:=scanF_few (l.length+1) l [] [] 0 (Nat.zero_le _) rfl (Nat.zero_le _) (fun b hb=>by cases hb)
   exact⟨by omega,by omega,h3⟩
 simp
end Go.Q
namespace Go.Proofs.YtdhojcaoljhbiaaGreatDoor
open Go.RowKit Go.Q Go.D
theorem implScanLogL (l:List UInt8) (hz:l.length≤1073741824):FnT Tryz.prog 83 [.one (.v (.string (bs l)))] (.tup [.one (.sl 1 ((scanL l).1.map cInt)),.one (.sl 1 ((scanL l).2.1.map cBatch)),.one (.v (.int .i64 ((scanL l).2.2:Nat)))]):=by
 refine Bb Tryz.func83 U (by kernel_rfl) Tryz.ntmps83 U fun hlen w0=>?_
 try simp [cPair,cToken,cExpr,cEdge,cGraph,cStep,cWalk,cChange,cBatch,cHistory,cPositions,cAutomaton,cProductStep,cPathAtom,cConjunction,cView,cDelta,cRegistered,cRegistry] at hlen
 have hsz:=bs_size l
 refine Af (Aj ?_);refine AWl.nilS (i:=2) 20001 1 U U ?_;refine Aj ?_;refine AWl.nilS (i:=3) 20002 1 U U ?_;refine Aj ?_;refine Aa (Af (Au (Df 12 U U U Tryz.underlying34 ty3 U) U ?_));refine Ah ?_;refine Aa (Af (Au (Df 13 U U U Tryz.underlying71 Cf U) U ?_));refine Ah ?_;refine Aa (Af (Aj ?_))
 refine Aa (Ae (AW.block (AW.loop4 (fun (i:Nat) (vs:List Int) (bt:List TBatch) (f:Nat)=>(i≤l.length∧l.length<i+f∧vs.length≤i∧bt.length=vs.length∧(∀ v∈vs,1≤v∧v≤999))∧(l.length≤4000→scanL l=scanF f l vs bt i)∧(4000<l.length→vs=[]∧bt=[]∧i=0)) (fun (i:Nat) (vs:List Int) (bt:List TBatch) (f:Nat)=>⟨_,[(7,(true,.a (.one (.t (.v (.int .i64 (i:Nat))))))),(5,(true,.a (.one (.rf 12)))),(6,(true,.a (.one (.rf 13)))),(0,_),(2,_),(3,_),(4,_)],[(12,.row 1 (vs.map cInt)),(13,.row 1 (bt.map cBatch))]⟩) (fun (i:Nat) (vs:List Int) (bt:List TBatch) (f:Nat)=>l.length-i) (0) ([]) ([]) (l.length+1) ⟨⟨by omega,by omega,by simp,U,fun v hv=>by cases hv⟩,(fun h=>by unfold scanL;rw [if_pos h]),(fun _=>⟨U,U,U⟩)⟩ Ay ?_)))
 rintro i vs bt f ⟨hk,he⟩
 refine Ae (Af (Ab ?_));refine Ac (C4 U (.no U) U (.tm U) Tryz.underlying9) U ?_;refine Ac (R_le U (.no U) U (.tm U) (.const U)) U ?_;refine Aa (Al (.tm U) (fun h16=>?_) (fun h16=>?_))
 · try simp at h16
   have hix:FnT Tryz.prog 124 [.one (.v (.string ((bs l).extract i (bs l).size))),.one (.v (.int .u8 10))] (.a (.one (.v (.int .i64 (Lib.indexByte (l.drop i) 10))))):=by (have:=stringsIndexByte (bs (l.drop i)) 10;rw [bs_list] at this;rw [bs_extract,bs_size,List.take_of_length_le (Nat.le_refl _)];exact this)
   have hlast:=last_le hk.2.2.2.2
   refine Am (AW.block (Af (Ab ?_)));refine Ab ?_;refine Ac (Cl (n:=i) U (.no U) U (.tm U) (.yes (.tm U) (fun _=>by first|omega|(simp<;>omega))) .no Tryz.underlying9 (fun _=>⟨by omega,by first|omega|(simp;omega)⟩)) U ?_;refine Br (hix) ?_;refine Ah ?_;refine Aa (Ae (Ae (Ar (Av [0,2,3,4,5,6,7,8] [12,13]) ?_)));refine Ad (Ab ?_);refine AWl.lc ?_;refine Aa (Al (.tm U) (fun h22=>?_) (fun h22=>?_))
   · try simp at h22
     refine Bt (Af (Ab ?_));refine Ab ?_;refine Ab ?_;refine Ah ?_;refine Ah ?_;refine Ah ?_;refine Aa (Ap (Bg U (.tmp U (.tmp U (.tmp U .nil))) U ?_ (by simp)))
     rw [he.1 (by omega),scan_none (nl_none h22)];rfl
   try simp at h22
   obtain⟨n,hn,hX,hnl⟩:=nl_some (l:=l) (i:=i) (by omega)
   rw [hX]
   have hdr:FnT Tryz.prog 125 [.one (.v (.string ((bs l).extract i (i+n+1))))] (.tup [.one (.v (.int .i64 (recV (lineS l i n)))),.agg (cBatch (recB (lineS l i n))),.one (.v (.bool (recG (lineS l i n))))]):=by (rw [line_ext];exact implDecodeRecordL _ (Nat.le_trans (line_len l i n) hz))
   refine Am (Af (Ab ?_));refine Ab ?_;refine Ab ?_;refine Ab ?_;refine Ac (C5 U (.no U) U (.tm U) (.tm U) (fun _=>by omega)) U ?_;refine Bs ?_;refine Ac (Cl (n:=i) (m:=i+n+1) U (.no U) U (.tm U) (.yes (.tm U) (fun _=>by first|omega|(simp<;>omega))) (.yes (.tm U) (fun _=>by first|omega|(simp<;>omega))) Tryz.underlying9 (fun _=>⟨by omega,by first|omega|(simp;omega)⟩)) U ?_;refine Bq (Cb 3100 (hdr) U U U (.cons (.tm U) U .nil) U U) U ?_;refine Ac (B7 U (.no U) U U fun _=>rfl) U ?_;refine Ac (Ao U (.no U) U U (fun _=>rfl) U) U ?_;refine Ac (Ao U (.no U) U U (fun _=>rfl) U) U ?_;refine Ac (Ao U (.no U) U U (fun _=>rfl) U) U ?_;refine Au (Az 10 U U U Dk U U U) U ?_;refine Ah ?_;refine An Cf ?_;refine Bf (Av [0,2,3,4,5,6,7,8,9,10,22,34] [12,13,3100,10]) ?_;refine Ah ?_;refine Aa (Ae (Af (Ab ?_)));refine Cg ?_;refine Ab ?_;refine Co ?_
   refine Ac (Cn U (by exact .not1 U U U U) U (.tmp U (by exact id)) (by exact .rf U) Tryz.underlying34) U ?_;refine Ac (R_gt U (by exact .not1 U U U U) U (.tmp U (by exact id)) (.const U)) U ?_;refine Ac (Bh U (by exact .not1 U U U U) U (.tmp U (by exact id))) U ?_;refine Ac (Bh U (by exact .yes U U U U) U (.tmp U (by exact fun _=>rfl))) U ?_;refine Ac (Bh U (by exact .yes U U U U) U (.tmp U (by exact fun _=>rfl))) U ?_;refine Ac (Bh U (by exact .yes U U U U) U (.tmp U (by exact fun _=>rfl))) U ?_;refine Ac (Cn U (by exact .yes U U U U) U (.tmp U (by exact id)) (by exact .rf U) Tryz.underlying34) U ?_;refine Ac (Dl U (by exact .yes U U U U) U (.tmp U (by exact id)) (.const U) (fun hq=>by first|omega|(simp at hq;omega))) U ?_
   refine Ac ((by exact C2 U (by exact .yes U U U U) U (.tmp U (by exact id)) U (.tmp U (by exact id)) Tryz.underlying34 ty3 (fun hq=>⟨by simp at hq;omega,A5 (last_get (by simp at hq;omega))⟩))) U ?_;refine Ac ((by exact R_load_prq U (by exact .yes U U U U) U (.tmp U (by exact id)) U (fun hq=>A5 (last_get (by simp at hq;omega))) ty3 U U)) U ?_;refine Ac (C5 U (by exact .yes U U U U) U (.tmp U (by exact id)) (.const U) (fun hq=>by first|omega|(simp at hq;omega))) U ?_;refine Ac (R_ne U (by exact .yes U U U U) U (.tmp U (by exact id)) (.tmp U (by exact id))) U ?_;refine Ac (R_and U (by exact .not1 U U U U) U (.tmp U (by exact id)) (.tmp U (by exact id))) U ?_;refine Ci ?_;refine Aa (Al (.tm U) (fun h52=>?_) (fun h52=>?_))
   · try simp at h52
     refine Bt (Ae (Ar (Av [0,2,3,4,5,6,7,8,9,10,11] [12,13,3100,10]) ?_));refine Ad (Ab ?_);refine Ab ?_;refine Ab ?_;refine Ah ?_;refine Ah ?_;refine Ah ?_;refine Aa (Ap (Bg U (.tmp U (.tmp U (.tmp U .nil))) U ?_ (by simp)))
     rw [he.1 (by omega),scan_end hn (fun hg=>h52.elim (fun h=>by rw [hg] at h;cases h) id)];rfl
   try simp at h52
   have hg:recG (lineS l i n)=true:=h52.1
   have hv:0<vs.length→recV (lineS l i n)=lastI vs+1:=h52.2
   refine Am (Ae (Ar (Av [0,2,3,4,5,6,7,8,9,10,11] [12,13,3100,10]) ?_));refine Ad (Ab ?_);refine Ab ?_;refine Bd (B8 (xs:=[.tmp 54]) 55 U U U (.cons (.tm U) U U .nil) Tryz.underlying34 in3 U U U U) U ?_;refine Cq (Cw U U U (.tm U) U (.tm U) U U Tryz.underlying34 in3 U (by (simp [chunk];omega)) (by (unfold maxLen;simp [chunk];omega))) U ?_;refine Bf (Av [0,2,3,4,5,6,7,8,9,10,11,56] [12,13,3100,10]) ?_;refine Ah ?_;refine Aa (Af (Ab ?_));refine Ai Cf ?_;refine Bd (B8 (xs:=[.tmp 58]) 59 U U U (.cons (.tm U) U U .nil) Tryz.underlying71 Dk U U U U) U ?_;refine Cq (Cw U U U (.tm U) U (.tm U) U U Tryz.underlying71 Dk U (by (simp [chunk];omega)) (by (unfold maxLen;simp [chunk];omega))) U ?_;refine Bf (Av [0,2,3,4,5,6,7,8,9,10,11,60] [12,13,10]) ?_;refine Ah ?_;refine Aa (Ad (Ab ?_));refine Ab ?_;refine Bs ?_;refine Ac (C5 U (.no U) U (.tm U) (.tm U) (fun _=>by omega)) U ?_;refine Ah ?_
   refine Aa ?_
   repeat (with_reducible refine A7 ?_)
   refine Round4.next (i+(n+1)) (vs++[recV (lineS l i n)]) (bt++[recB (lineS l i n)]) (f-1) ⟨⟨by omega,by omega,by simp;omega,by simp [hk.2.2.2.1],line_rng hk.2.2.2.2 hg⟩,(fun h=>by rw [he.1 h];exact scan_next hn hg hv hk.2.1),(fun h=>by omega)⟩ (by omega) (A6 rfl ⟨rfl,rfl,rfl,rfl,rfl,rfl,rfl,Y⟩ ⟨(by (refine congrArg (fun r=>some (R.row _ r)) ?_;simp [chunk,List.map_set,cInt,cBool,cIntS,cPair,cToken,cExpr,cEdge,cGraph,cStep,cWalk,cChange,cBatch,cHistory,cPositions,cAutomaton,cProductStep,cPathAtom,cConjunction,cView,cDelta,cRegistered,cRegistry])),(by (refine congrArg (fun r=>some (R.row _ r)) ?_;simp [chunk,List.map_set,cInt,cBool,cIntS,cPair,cToken,cExpr,cEdge,cGraph,cStep,cWalk,cChange,cBatch,cHistory,cPositions,cAutomaton,cProductStep,cPathAtom,cConjunction,cView,cDelta,cRegistered,cRegistry])),Y⟩)
 try simp at h16
 refine Bt (Af (Ab ?_));refine Ab ?_;refine Ab ?_;refine Ah ?_;refine Ah ?_;refine Ah ?_;refine Aa (Ap (Bg U (.tmp U (.tmp U (.tmp U .nil))) U ?_ (by simp)))
 obtain⟨e1,e2,e3⟩:=he.2 (by omega);rw [scanL_long (by omega),e1,e2,e3];rfl
theorem specScanLogL (l:List UInt8) (hz:l.length≤1073741824):FnT Tryz.prog 39 [.one (.v (.string (bs l)))] (.tup [.one (.sl 1 ((scanL l).1.map cInt)),.one (.sl 1 ((scanL l).2.1.map cBatch)),.one (.v (.int .i64 ((scanL l).2.2:Nat)))]):=by
 refine Bb Tryz.func39 U (by kernel_rfl) Tryz.ntmps39 U fun hlen w0=>?_
 try simp [cPair,cToken,cExpr,cEdge,cGraph,cStep,cWalk,cChange,cBatch,cHistory,cPositions,cAutomaton,cProductStep,cPathAtom,cConjunction,cView,cDelta,cRegistered,cRegistry] at hlen
 have hsz:=bs_size l
 refine Af (Aj ?_);refine AWl.nilS (i:=2) 20001 1 U U ?_;refine Aj ?_;refine AWl.nilS (i:=3) 20002 1 U U ?_;refine Aj ?_;refine Aa (Af (Au (Df 12 U U U Tryz.underlying34 ty3 U) U ?_));refine Ah ?_;refine Aa (Af (Au (Df 13 U U U Tryz.underlying71 Cf U) U ?_));refine Ah ?_;refine Aa (Af (Aj ?_));refine Aa (Ae (Af (Aj ?_)))
 refine Aa (AW.block (AW.loop5 (fun (i:Nat) (u:Nat) (vs:List Int) (bt:List TBatch) (f:Nat)=>((u≤i∧i≤l.length)∧l.length<u+f∧vs.length≤u∧bt.length=vs.length∧(∀ v∈vs,1≤v∧v≤999)∧(∀ k,u≤k→k<i→l[k]?≠some 10))∧(l.length≤4000→scanL l=scanF f l vs bt u)∧(4000<l.length→vs=[]∧bt=[]∧u=0)) (fun (i:Nat) (u:Nat) (vs:List Int) (bt:List TBatch) (f:Nat)=>⟨_,[(8,(true,.a (.one (.t (.v (.int .i64 (i:Nat))))))),(7,(true,.a (.one (.t (.v (.int .i64 (u:Nat))))))),(5,(true,.a (.one (.rf 12)))),(6,(true,.a (.one (.rf 13)))),(0,_)],[(12,.row 1 (vs.map cInt)),(13,.row 1 (bt.map cBatch))]⟩) (fun (i:Nat) (u:Nat) (vs:List Int) (bt:List TBatch) (f:Nat)=>l.length-i) (0) (0) ([]) ([]) (l.length+1) ⟨⟨⟨by omega,by omega⟩,by omega,by simp,U,(fun v hv=>by cases hv),fun k h1 h2=>by omega⟩,(fun h=>by unfold scanL;rw [if_pos h]),(fun _=>⟨U,U,U⟩)⟩ Ay ?_))
 rintro i u vs bt f ⟨hk,he⟩
 refine Ae (Af (Ab ?_));refine Ab ?_;refine Ac (C4 U (.no U) U (.tm U) Tryz.underlying9) U ?_;refine AWl.lt ?_;refine Ab ?_;refine Da ?_;refine Ac (C4 U (by exact .yes1 U U U U) U (.tmp U (by exact id)) Tryz.underlying9) U ?_;refine Ac (R_le U (by exact .yes1 U U U U) U (.tmp U (by exact id)) (.const U)) U ?_;refine C1 ?_;refine Aa (Al (.tm U) (fun h22=>?_) (fun h22=>?_))
 · try simp at h22
   obtain⟨b,hb⟩:∃ ξ,l[i]?=some ξ:=⟨_,List.getElem?_eq_getElem (by omega)⟩
   have hlast:=last_le hk.2.2.2.2.1
   refine Am (Ae (AW.block (Ae (Ae (Ar (Av [0,5,6,7,8] [12,13]) ?_)))));refine Ad (Ab ?_);refine Ab ?_;refine Ac (B6 U (.no U) U (.tm U) (.tm U) Tryz.underlying9 (fun _=>⟨by omega,(by rw [bs_get];exact hb)⟩)) U ?_;refine AWl.nc ?_;refine Aa (Al (.tm U) (fun h28=>?_) (fun h28=>?_))
   · try simp at h28
     refine Bt (Ad (Ab ?_));refine Bs ?_;refine Ah ?_;refine Aa ?_
     repeat (with_reducible refine A7 ?_)
     refine Round5.next (i+1) (u) (vs) (bt) (f) ⟨⟨⟨by omega,by omega⟩,hk.2.1,hk.2.2.1,hk.2.2.2.1,hk.2.2.2.2.1,(fun k h1 h2=>by by_cases e:k=i;(subst e;rw [hb];exact fun e2=>h28 (by rw [Option.some.inj e2];rfl));exact hk.2.2.2.2.2 k h1 (by omega))⟩,he.1,he.2⟩ (by omega) (A6 rfl ⟨rfl,rfl,rfl,rfl,rfl,Y⟩ ⟨(by rfl),(by rfl),Y⟩)
   try simp at h28
   have hb10:b=10:=UInt8.toNat_inj.1 (show b.toNat=10 by omega)
   have hn:nlAt l u=some (i-u):=nlAt_intro (by rw [show u+(i-u)=i by omega,hb,hb10]) (fun k h=>hk.2.2.2.2.2 (u+k) (by omega) (by omega))
   have hdr:FnT Tryz.prog 85 [.one (.v (.string ((bs l).extract u (i+1))))] (.tup [.one (.v (.int .i64 (recV (lineS l u (i-u))))),.agg (cBatch (recB (lineS l u (i-u)))),.one (.v (.bool (recG (lineS l u (i-u)))))]):=by (rw [show i+1=u+(i-u)+1 by omega,line_ext];exact specDecodeRecordL _ (Nat.le_trans (line_len l u (i-u)) hz))
   refine Am (Af (Ab ?_));refine Ab ?_;refine Ab ?_;refine Bs ?_;refine Ac (Cl (n:=u) (m:=i+1) U (.no U) U (.tm U) (.yes (.tm U) (fun _=>by first|omega|(simp<;>omega))) (.yes (.tm U) (fun _=>by first|omega|(simp<;>omega))) Tryz.underlying9 (fun _=>⟨by omega,by first|omega|(simp;omega)⟩)) U ?_;refine Bq (Cb 3500 (hdr) U U U (.cons (.tm U) U .nil) U U) U ?_;refine Ac (B7 U (.no U) U U fun _=>rfl) U ?_;refine Ac (Ao U (.no U) U U (fun _=>rfl) U) U ?_;refine Ac (Ao U (.no U) U U (fun _=>rfl) U) U ?_;refine Ac (Ao U (.no U) U U (fun _=>rfl) U) U ?_;refine Au (Az 10 U U U Dk U U U) U ?_;refine Ah ?_;refine An Cf ?_;refine Bf (Av [0,5,6,7,8,9,10,28,38] [12,13,3500,10]) ?_;refine Ah ?_;refine Aa (Ae (Af (Ab ?_)));refine Cg ?_;refine Ab ?_;refine Co ?_;refine Ac (Cn U (by exact .not1 U U U U) U (.tmp U (by exact id)) (by exact .rf U) Tryz.underlying34) U ?_
   refine Ac (R_gt U (by exact .not1 U U U U) U (.tmp U (by exact id)) (.const U)) U ?_;refine Ac (Bh U (by exact .not1 U U U U) U (.tmp U (by exact id))) U ?_;refine Ac (Bh U (by exact .yes U U U U) U (.tmp U (by exact fun _=>rfl))) U ?_;refine Ac (Bh U (by exact .yes U U U U) U (.tmp U (by exact fun _=>rfl))) U ?_;refine Ac (Bh U (by exact .yes U U U U) U (.tmp U (by exact fun _=>rfl))) U ?_;refine Ac (Cn U (by exact .yes U U U U) U (.tmp U (by exact id)) (by exact .rf U) Tryz.underlying34) U ?_;refine Ac (Dl U (by exact .yes U U U U) U (.tmp U (by exact id)) (.const U) (fun hq=>by first|omega|(simp at hq;omega))) U ?_;refine Ac ((by exact C2 U (by exact .yes U U U U) U (.tmp U (by exact id)) U (.tmp U (by exact id)) Tryz.underlying34 ty3 (fun hq=>⟨by simp at hq;omega,A5 (last_get (by simp at hq;omega))⟩))) U ?_
   refine Ac ((by exact R_load_prq U (by exact .yes U U U U) U (.tmp U (by exact id)) U (fun hq=>A5 (last_get (by simp at hq;omega))) ty3 U U)) U ?_;refine Ac (C5 U (by exact .yes U U U U) U (.tmp U (by exact id)) (.const U) (fun hq=>by first|omega|(simp at hq;omega))) U ?_;refine Ac (R_ne U (by exact .yes U U U U) U (.tmp U (by exact id)) (.tmp U (by exact id))) U ?_;refine Ac (R_and U (by exact .not1 U U U U) U (.tmp U (by exact id)) (.tmp U (by exact id))) U ?_;refine Ci ?_;refine Aa (Al (.tm U) (fun h56=>?_) (fun h56=>?_))
   · try simp at h56
     refine Ae (Ar (Av [0,5,6,7,8,9,10,11] [12,13,3500,10]) ?_);refine Ad (Ab ?_);refine Ab ?_;refine Ab ?_;refine Ah ?_;refine Ah ?_;refine Ah ?_;refine Aa (Ap (Bg U (.tmp U (.tmp U (.tmp U .nil))) U ?_ (by simp)))
     rw [he.1 (by omega),scan_end hn (fun hg=>h56.elim (fun h=>by rw [hg] at h;cases h) id)];rfl
   try simp at h56
   have hg:recG (lineS l u (i-u))=true:=h56.1
   have hv:0<vs.length→recV (lineS l u (i-u))=lastI vs+1:=h56.2
   refine Am (Ae (Ar (Av [0,5,6,7,8,9,10,11] [12,13,3500,10]) ?_));refine Ad (Ab ?_);refine Ab ?_;refine Bd (B8 (xs:=[.tmp 61]) 62 U U U (.cons (.tm U) U U .nil) Tryz.underlying34 in3 U U U U) U ?_;refine Cq (Cw U U U (.tm U) U (.tm U) U U Tryz.underlying34 in3 U (by (simp [chunk];omega)) (by (unfold maxLen;simp [chunk];omega))) U ?_;refine Bf (Av [0,5,6,7,8,9,10,11,63] [12,13,3500,10]) ?_;refine Ah ?_;refine Aa (Af (Ab ?_));refine Ai Cf ?_;refine Bd (B8 (xs:=[.tmp 65]) 66 U U U (.cons (.tm U) U U .nil) Tryz.underlying71 Dk U U U U) U ?_;refine Cq (Cw U U U (.tm U) U (.tm U) U U Tryz.underlying71 Dk U (by (simp [chunk];omega)) (by (unfold maxLen;simp [chunk];omega))) U ?_;refine Bf (Av [0,5,6,7,8,9,10,11,67] [12,13,10]) ?_;refine Ah ?_;refine Aa (Ad (Ab ?_));refine Bs ?_;refine Ah ?_;refine Aa (Ad (Ab ?_));refine Bs ?_;refine Ah ?_;refine Aa ?_
   repeat (with_reducible refine A7 ?_)
   refine Round5.next (i+1) (i+1) (vs++[recV (lineS l u (i-u))]) (bt++[recB (lineS l u (i-u))]) (f-1) ⟨⟨⟨by omega,by omega⟩,by omega,by simp;omega,by simp [hk.2.2.2.1],line_rng hk.2.2.2.2.1 hg,fun k h1 h2=>by omega⟩,(fun h=>by rw [he.1 h,scan_next hn hg hv hk.2.1,show u+(i-u+1)=i+1 by omega]),(fun h=>by omega)⟩ (by omega) (A6 rfl ⟨rfl,rfl,rfl,rfl,rfl,Y⟩ ⟨(by (refine congrArg (fun r=>some (R.row _ r)) ?_;simp [chunk,List.map_set,cInt,cBool,cIntS,cPair,cToken,cExpr,cEdge,cGraph,cStep,cWalk,cChange,cBatch,cHistory,cPositions,cAutomaton,cProductStep,cPathAtom,cConjunction,cView,cDelta,cRegistered,cRegistry])),(by (refine congrArg (fun r=>some (R.row _ r)) ?_;simp [chunk,List.map_set,cInt,cBool,cIntS,cPair,cToken,cExpr,cEdge,cGraph,cStep,cWalk,cChange,cBatch,cHistory,cPositions,cAutomaton,cProductStep,cPathAtom,cConjunction,cView,cDelta,cRegistered,cRegistry])),Y⟩)
 try simp at h22
 refine Bt (Ae (Ar (Av [0,5,6,7,8] [12,13]) ?_));refine Ad (Ab ?_);refine Ab ?_;refine Ab ?_;refine Ah ?_;refine Ah ?_;refine Ah ?_;refine Aa (Ap (Bg U (.tmp U (.tmp U (.tmp U .nil))) U ?_ (by simp)))
 rcases Nat.lt_or_ge 4000 l.length with hL|hL;(obtain⟨e1,e2,e3⟩:=he.2 hL;rw [scanL_long hL,e1,e2,e3];rfl);(have hno:nlAt l u=none:=nlAt_none (fun k h1 h2=>hk.2.2.2.2.2 k h1 (by have:=(List.getElem?_eq_some_iff.1 h2).1;omega) h2);rw [he.1 hL,scan_none hno];rfl)
end Go.Proofs.YtdhojcaoljhbiaaGreatDoor
set_option maxHeartbeats 1000000
set_option maxRecDepth 100000
namespace Go.Q
open Go.RowKit Go.D
theorem FnT.fx {P:Program} {f:FuncId} {ins:List V0} {τ:Type} {x0:τ} {out:τ→V} (h:FnT P f ins (out x0)):FrX P f ins (fun x=>x=x0) out:=
 ⟨h.1,fun w vs F hg hv=>(h.2 w vs F hg hv).mono fun _ _ ⟨v,G,h1,h2,_,h4,h5⟩=>⟨x0,rfl,v,G,h1,h2.read,h4,h5⟩⟩
def cHist (h:THistory):V:=.a (.agg (cHistory h))
theorem FnT.fh {P:Program} {f:FuncId} {ins:List V0} {h:THistory} (hf:FnT P f ins (.a (.agg (cHistory h)))):FrX P f ins (fun x=>x=h) cHist:=FnT.fx (out:=cHist) hf
theorem scanF_same:∀ (f:Nat) (l:List UInt8) (vs:List Int) (bt:List TBatch) (i:Nat),vs.length=bt.length→(scanF f l vs bt i).1.length=(scanF f l vs bt i).2.1.length
 | 0,_,_,_,_,h=>h
 | f+1,l,vs,bt,i,h=>by
  unfold scanF
  split
  · exact h
  split
  · exact scanF_same f l _ _ _ (by simp [h])
  exact h
theorem scanL_same (l:List UInt8):(scanL l).1.length=(scanL l).2.1.length:=by
 unfold scanL
 split
 · exact scanF_same _ _ _ _ _ rfl
 rfl
def rplR:THistory→Int→List (Int×TBatch)→THistory×Int
 | h,n,[]=>(h,n)
 | h,n,(v,b)::r=>if v≤lastV h then rplR h n r else if v=lastV h+1∧(appH h b).2=true then rplR (appH h b).1 (n+1) r else (h,n)
def zipL (l:List UInt8):List (Int×TBatch):=(scanL l).1.zip (scanL l).2.1
def repH (h:THistory) (l:List UInt8):THistory×Int:=if validH h=true then rplR h 0 (zipL l) else (h,0)
def rOut (z:THistory×Int):V:=.tup [.agg (cHistory z.1),.one (.v (.int .i64 z.2))]
theorem appH_ok {h:THistory} (hh:okHs h) (b:TBatch):okHs (appH h b).1:=by
 by_cases hv:validH h=true∧lastV h≠999
 · obtain⟨x,hx,hxv⟩:=lastH_get hv.1
   cases ha:(applyB x b).2 with
   | false=>rw [appH_bad hv hx ha];exact hh
   | true=>
    have hg:=validG_z (applyB_ok (b:=b) hxv)
    by_cases hl:h.Graphs.length+1≤8
    · rw [appH_le hv hx ha hl]
      refine⟨by simp;omega,fun g hm=>?_⟩
      rcases List.mem_append.1 hm with hm|hm
      · exact hh.2 g hm
      rw [List.mem_singleton.1 hm];omega
    rw [appH_gt hv hx ha hl]
    have:=hh.1
    refine⟨by simp;omega,fun g hm=>?_⟩
    rcases List.mem_append.1 (List.mem_of_mem_drop hm) with hm|hm
    · exact hh.2 g hm
    rw [List.mem_singleton.1 hm];omega
 rw [appH_no hv];exact hh
theorem appH_same {h:THistory} {b:TBatch} (h2:(appH h b).2=false):(appH h b).1=h:=by
 by_cases hv:validH h=true∧lastV h≠999
 · obtain⟨x,hx,hxv⟩:=lastH_get hv.1
   cases ha:(applyB x b).2 with
   | false=>rw [appH_bad hv hx ha]
   | true=>
    by_cases hl:h.Graphs.length+1≤8
    · rw [appH_le hv hx ha hl] at h2;cases h2
    rw [appH_gt hv hx ha hl] at h2;cases h2
 rw [appH_no hv]
section
variable {l:List UInt8} {i:Nat} {v:Int} {bt:TBatch} {H:THistory} {n:Int}
theorem zipL_drop (hv:(scanL l).1[i]?=some v) (hb:(scanL l).2.1[i]?=some bt):(zipL l).drop i=(v,bt)::(zipL l).drop (i+1):=by
 obtain⟨h1,e1⟩:=List.getElem?_eq_some_iff.1 hv
 obtain⟨h2,e2⟩:=List.getElem?_eq_some_iff.1 hb
 have hl:i<(zipL l).length:=by unfold zipL;rw [List.length_zip];omega
 rw [List.drop_eq_getElem_cons hl]
 congr 1
 unfold zipL
 rw [←e1,←e2]
 exact List.getElem_zip
theorem run_skip (hv:(scanL l).1[i]?=some v) (hb:(scanL l).2.1[i]?=some bt) (h:v≤lastV H):rplR H n ((zipL l).drop i)=rplR H n ((zipL l).drop (i+1)):=by
 rw [zipL_drop hv hb,rplR,if_pos h]
theorem run_go (hv:(scanL l).1[i]?=some v) (hb:(scanL l).2.1[i]?=some bt) (h:¬ v≤lastV H) (h2:v=lastV H+1∧(appH H bt).2=true):rplR H n ((zipL l).drop i)=rplR (appH H bt).1 (n+1) ((zipL l).drop (i+1)):=by
 rw [zipL_drop hv hb,rplR,if_neg h,if_pos h2]
theorem run_stop (hv:(scanL l).1[i]?=some v) (hb:(scanL l).2.1[i]?=some bt) (h:¬ v≤lastV H) (h2:¬ (v=lastV H+1∧(appH H bt).2=true)):rplR H n ((zipL l).drop i)=(H,n):=by
 rw [zipL_drop hv hb,rplR,if_neg h,if_neg h2]
theorem run_end (hi:(scanL l).1.length≤i):rplR H n ((zipL l).drop i)=(H,n):=by
 rw [List.drop_of_length_le (by unfold zipL;rw [List.length_zip];omega)];rfl
theorem guard_post {m:Int} {z:THistory×Bool} (hm:m=lastV H) (hz:((!(!decide (v=m+1)))=true→z.1=(appH H bt).1∧z.2=(appH H bt).2)∧((!(!decide (v=m+1)))=false→z.1=H)) :
 ((!decide (v=m+1)||!z.2)=true→z.1=H∧¬ (v=lastV H+1∧(appH H bt).2=true))∧((!decide (v=m+1)||!z.2)=false→z.1=(appH H bt).1∧v=lastV H+1∧(appH H bt).2=true):=by
 subst hm
 by_cases e:v=lastV H+1
 · rw [decide_eq_true e] at hz ⊢
   obtain⟨h1,h2⟩:=hz.1 rfl
   rw [h2]
   cases h3:(appH H bt).2 with
   | false=>exact⟨fun _=>⟨by rw [h1,appH_same h3],by simp⟩,fun h=>by cases h⟩
   | true=>exact⟨fun h=>(by cases h),fun _=>⟨h1,e,rfl⟩⟩
 rw [decide_eq_false e] at hz ⊢
 have h1:=hz.2 rfl
 exact⟨fun _=>⟨h1,fun h=>e h.1⟩,fun h=>by cases h⟩
end
end Go.Q
namespace Go.Proofs.YtdhojcaoljhbiaaGreatDoor
open Go.RowKit Go.Q Go.D
theorem implReplayLog1:FnB Tryz.prog 34 (fun b=>[.one (.v (ptrV b))]) okHs (fun p p' (t:Int)=>p'=p∧t=lastV p) (fun t=>.int .i64 t):=by
 refine FnB.walk Tryz.func34 rfl (by kernel_rfl) Tryz.ntmps34 (fun _=>rfl) (fun b p=>rfl) fun w0 b p hp=>?_
 refine Ar (Le.ptr (d:=0) (u:=700) (k:=703) U U) ?_;refine Af (Aj ?_);refine Aa (Af (Ai Be ?_));refine Br (implLatestVersion p) ?_;refine Ah ?_;refine Aa (Ap ?_)
 show HRes _ _ _ _ _ _
 refine⟨p,lastV p,701,_,?_,by decide,rfl,rfl,rfl,rfl,(.tmp rfl .nil)⟩
 exact⟨rfl,rfl⟩
theorem implReplayLog2 (bt:TBatch):FnB Tryz.prog 36 (fun b=>[.agg (cBatch bt),.one (.v (ptrV b))]) okHs (fun p p' (t:Bool)=>p'=(appH p bt).1∧t=(appH p bt).2) (fun t=>.bool t):=by
 refine FnB.walk Tryz.func36 rfl (by kernel_rfl) Tryz.ntmps36 (fun _=>rfl) (fun b p=>rfl) fun w0 b p hp=>?_
 refine Ar (Le.ptr (d:=1) (u:=700) (k:=703) U U) ?_;refine Af (Ac (Bx U U U (.tm U) (ts:=_) (by rfl)) U ?_);refine Aj ?_;refine Aa (Af (Ai Be ?_));refine A3 Cf ?_;refine Bi (R_callX 900 (implAppendBatch p bt hp) U U U (.cons (.tm U) U (.cons (.tm U) U .nil)) U) ?_
 rintro _ ⟨z9,hz9,rfl⟩
 try dsimp only at hz9
 refine Ac (B7 U (.no U) U U fun _=>rfl) U ?_;refine Ac (Ao U (.no U) U U (fun _=>rfl) U) U ?_;refine Ac (Ao U (.no U) U U (fun _=>rfl) U) U ?_;refine Au (Az 4 U U U C9 U U U) U ?_;refine An Be ?_;refine Bf (Av [0,1,2,3,4,11] [700,701,703,900,4]) ?_;refine Ah ?_;refine Aa (Af (Ai Be ?_));refine An Be ?_;refine Aa (Af (Ab ?_));refine Ah ?_;refine Aa (Ap ?_)
 show HRes _ _ _ _ _ _
 refine⟨z9.1,z9.2,900,_,?_,by decide,rfl,rfl,rfl,rfl,(.tmp rfl .nil)⟩
 exact⟨by rw [hz9],by rw [hz9]⟩
theorem implreplay (l:List UInt8) (hz:l.length≤1073741824):FnB Tryz.prog 33 (fun b=>[.one (.v (.string (bs l))),.one (.v (cloV 34 b)),.one (.v (cloV 36 b))]) okHs (fun p p' (t:Int)=>(p',t)=rplR p 0 (zipL l)) (fun t=>.int .i64 t):=by
 refine FnB.walk Tryz.func33 rfl (by kernel_rfl) Tryz.ntmps33 (fun _=>rfl) (fun b p=>rfl) fun w0 b p hp=>?_
 refine Af (Aj ?_);refine Aa (Af (Ab ?_));refine Br (implScanLogL l hz) ?_;refine Ac (B7 U (.no U) U U fun _=>rfl) U ?_;refine Ac (Ao U (.no U) U U (fun _=>rfl) U) U ?_;refine Ac (Ao U (.no U) U U (fun _=>rfl) U) U ?_;refine Ac (Ao U (.no U) U U (fun _=>rfl) U) U ?_;refine Ah ?_;refine Ah ?_;refine Ah ?_;refine Aa (Ae (Ar (Av [0,1,2,6,7,8] [700,701,703]) ?_));refine Ad (Aj ?_);refine Aa (Ae (Af (Ab ?_)));refine Bu (.t) Tryz.underlying34 ?_;refine Ac (Bh U (.no U) U (.const U)) U ?_;refine Aa (AW.block ?_)
 refine AW.loop3 (fun (i:Nat) (n:Int) (H:THistory)=>((i≤(scanL l).1.length∧0≤n∧n≤i)∧okHs H)∧rplR p 0 (zipL l)=rplR H n ((zipL l).drop i)) (fun (i:Nat) (n:Int) (H:THistory)=>⟨_,[(21,(true,.a (.one (.t (.v (.int .i64 (i:Nat))))))),(10,(true,.a (.one (.t (.v (.int .i64 n)))))),(1,_),(2,_),(6,_),(8,_),(19,_),(20,_)],[(700,boxH 701 H),(701,.opq),(703,.blk (some 700) b)]⟩) (fun (i:Nat) (n:Int) (H:THistory)=>(scanL l).1.length-i) (0) (0) (p) ⟨⟨⟨Nat.zero_le _,by omega,by omega⟩,hp⟩,U⟩ Ay ?_
 rintro i n H ⟨hk,he⟩
 refine Af (AWl.lt ?_);refine Aa (Ae (Al (.tm U) (fun h22=>?_) (fun h22=>?_)))
 · try simp at h22
   have hsl:=scanL_same l
   have hfew:=scanL_few l
   obtain⟨v,hv⟩:∃ ξ,(scanL l).1[i]?=some ξ:=⟨_,List.getElem?_eq_getElem (by omega)⟩
   obtain⟨bt,hbt⟩:∃ ξ,(scanL l).2.1[i]?=some ξ:=⟨_,List.getElem?_eq_getElem (by omega)⟩
   refine Am (Ae (AW.block (Af (Ab ?_))));refine Ac (Aw U (.no U) U (.tm U) (.tm U) Tryz.underlying34 ty3 (fun _=>⟨by omega,(by exact A5 hv)⟩)) U ?_;refine A3 ty3 ?_;refine Ah ?_;refine Ah ?_;refine Aa (Ae (Af (Ab ?_)));refine Ab ?_;refine Bi (R_callBv 700 701 703 (p:=H) (implReplayLog1) U (.no U) U (.tm U) U U U (by decide) U .nil U hk.2 (fun _=>rfl)) ?_
   rintro _ ⟨z28,hz28,rfl⟩
   try dsimp only at hz28
   refine Ac (R_le U (.no U) U (.tm U) (.tm U)) U ?_;refine Aa (Al (.tm U) (fun h29=>?_) (fun h29=>?_))
   · try simp at h29
     refine Bt (Ar (Av [1,2,6,8,10,11,12,19,20,21] [700,701,703]) ?_);refine Ad (Bs ?_);refine Ab ?_;refine Aa ?_
     repeat (with_reducible refine A7 ?_)
     refine Round3.next (i+1) (n) (z28.1) ⟨⟨⟨by omega,by omega,by omega⟩,by rw [hz28.1];exact hk.2⟩,(by rw [he,hz28.1];exact run_skip hv hbt (by rw [←hz28.2];exact h29))⟩ (by omega) (A6 rfl ⟨rfl,rfl,rfl,rfl,rfl,rfl,rfl,rfl,Y⟩ ⟨(by rfl),(by rfl),(by rfl),Y⟩)
   try simp at h29
   have hgt:¬ v≤lastV H:=(by rw [←hz28.2];omega)
   have hlv:=lastV_le9 H
   refine Am (Ae (Ae (Ar (Av [1,2,6,8,10,11,12,19,20,21] [700,701,703]) ?_)));refine Ad (Ab ?_);refine Ab ?_;refine Bi (R_callBv 700 701 703 (p:=z28.1) (implReplayLog1) U (.no U) U (.tm U) U U U (by decide) U .nil U (by rw [hz28.1];exact hk.2) (fun _=>rfl)) ?_
   rintro _ ⟨z32,hz32,rfl⟩
   try dsimp only at hz32
   refine Ac (C5 U (.no U) U (.tm U) (.const U) (fun _=>by (have h1:=hz32.2;rw [hz28.1] at h1;omega))) U ?_;refine Ac (R_ne U (.no U) U (.tm U) (.tm U)) U ?_;refine Ab ?_;refine Co ?_;refine Co ?_;refine Co ?_;refine Ac (by exact Aw U (by exact .not1 U U U U) U (.tmp U (by exact id)) (.tmp U (by exact id)) Tryz.underlying71 Cf (fun hq=>by (try simp at hq);exact⟨by omega,(by exact A5 hbt)⟩)) U ?_;refine AWl.lw Cf ?_;refine Bi (R_callBg 700 701 703 (p:=z32.1) (implReplayLog2 bt) U (by exact .not1 U U U U) U (fun hq=>.tmp U fun _=>hq) U U U (by decide) U (fun hq=>(.cons (.tmp U fun _=>hq) U .nil)) U (by rw [hz32.1,hz28.1];exact hk.2) (fun _=>rfl)) ?_
   rintro _ ⟨z41,hz41,rfl⟩
   try dsimp only at hz41
   refine Ac (Dq U (by exact .not1 U U U U) U (.tmp U (by exact id))) U ?_;refine Ci ?_;refine Aa (Al (.tm U) (fun h43=>?_) (fun h43=>?_))
   · skip
     skip
     have hg:=(guard_post (H:=H) (bt:=bt) (m:=z32.2) (by rw [hz32.2,hz28.1]) (by rw [hz32.1,hz28.1] at hz41;exact hz41)).1 h43
     refine Bt (Ae (Ar (Av [1,2,6,8,10,11,12,19,20,21] [700,701,703]) ?_));refine Ad (Ab ?_);refine Ah ?_;refine Aa (Ap ?_)
     show HRes _ _ _ _ _ _
     refine⟨z41.1,n,701,_,?_,by decide,rfl,rfl,rfl,rfl,(.tmp rfl .nil)⟩
     exact (by rw [he,hg.1,run_stop hv hbt hgt hg.2])
   skip
   skip
   have hg:=(guard_post (H:=H) (bt:=bt) (m:=z32.2) (by rw [hz32.2,hz28.1]) (by rw [hz32.1,hz28.1] at hz41;exact hz41)).2 h43
   refine Am (Ar (Av [1,2,6,8,10,11,12,19,20,21] [700,701,703]) ?_);refine Ad (Ab ?_);refine Bs ?_;refine Ah ?_;refine Aa (Ad (Bs ?_));refine Ab ?_;refine Aa ?_
   repeat (with_reducible refine A7 ?_)
   refine Round3.next (i+1) (n+1) (z41.1) ⟨⟨⟨by omega,by omega,by omega⟩,by rw [hg.1];exact appH_ok hk.2 bt⟩,(by rw [he,hg.1];exact run_go hv hbt hgt hg.2)⟩ (by omega) (A6 rfl ⟨rfl,rfl,rfl,rfl,rfl,rfl,rfl,rfl,Y⟩ ⟨(by rfl),(by rfl),(by rfl),Y⟩)
 try simp at h22
 refine Bt (Af (Ab ?_));refine Ah ?_;refine Aa (Ap ?_)
 show HRes _ _ _ _ _ _
 refine⟨H,n,701,_,?_,by decide,rfl,rfl,rfl,rfl,(.tmp rfl .nil)⟩
 exact (by rw [he,run_end (by omega)])
theorem implReplayLog (h:THistory) (l:List UInt8) (hh:okHs h) (hz:l.length≤1073741824):FrX Tryz.prog 7 [.agg (cHistory h),.one (.v (.string (bs l)))] (fun z=>z=repH h l) rOut:=by
 refine FrX.walk Tryz.func7 rfl (by kernel_rfl) Tryz.ntmps7 rfl fun w0=>?_
 refine Af (Ac (Bx U U U (.tm U) (ts:=_) (by rfl)) U ?_);refine Au (Az 4 U U U C9 U U U) U ?_;refine Aj ?_;refine Aa (Af (A3 Be ?_));refine Bi (R_callX 900 (FnT.fh (implcopyHistory h hh)) U U U (.cons (.tm U) U .nil) U) ?_
 rintro _ ⟨z9,hz9,rfl⟩
 try dsimp only at hz9
 refine Au (Az 6 U U U C9 U U U) U ?_;refine An Be ?_;refine Aa (Ae (Af (A3 Be ?_)));refine Br (implIsValidHistory h) ?_;refine Cg ?_;refine Aa (Al (.tm U) (fun h12=>?_) (fun h12=>?_))
 · try simp at h12
   refine Af (Ai Be ?_);refine An Be ?_;refine Bf (Av [0,1,2,4,5,6,12] [4,900,6]) ?_;refine Aj ?_;refine Aa (Ap ?_);apply ERRes.mk (x:=(z9,0))
   case h=>
    refine ResR.many U (.cell U U Be U U (.tmp U .nil)) U ?_ (by simp)
    rfl
   case hp=>exact (by unfold repH;rw [if_neg (by simpa using h12),hz9])
 try simp at h12
 refine Am (Ae (Ar (Av [0,1,2,4,5,6] [4,900,6]) ?_));refine Ad (AWl.nameB 703 6 U U fun bB=>?_);refine Ab ?_;refine Ac (R_makeClo 703 U (.no U) U (.tm U) U) U ?_;refine Ac (R_makeClo 703 U (.no U) U (.tm U) U) U ?_;refine Bi (R_callBd 6 900 703 (p:=z9) (implreplay l hz) U (.no U) U U U U (by decide) U (.cons (.tm U) U (.cons (.tm U) U (.cons (.tm U) U .nil))) (by rw [hz9];exact hh) (fun _=>rfl)) ?_
 rintro _ ⟨z17,hz17,rfl⟩
 try dsimp only at hz17
 refine Ah ?_;refine Aa (Af (Ai Be ?_));refine Ab ?_;refine An Be ?_;refine Bf (Av [0,1,2,4,5,6,7,19] [4,900,6,703]) ?_;refine Ah ?_;refine Aa (Ap ?_);apply ERRes.mk (x:=z17)
 case h=>
  refine ResR.many U (.cell U U Be U U (.tmp U .nil)) U ?_ (by simp)
  rfl
 case hp=>exact (by unfold repH;rw [if_pos (by simpa using h12),←hz9,←hz17])
theorem specReplayLog (h:THistory) (l:List UInt8) (hh:okHs h) (hz:l.length≤1073741824):FrX Tryz.prog 8 [.agg (cHistory h),.one (.v (.string (bs l)))] (fun z=>z=repH h l) rOut:=by
 refine FrX.walk Tryz.func8 rfl (by kernel_rfl) Tryz.ntmps8 rfl fun w0=>?_
 refine Af (Ac (Bx U U U (.tm U) (ts:=_) (by rfl)) U ?_);refine Au (Az 4 U U U C9 U U U) U ?_;refine Aj ?_;refine Aa (Af (A3 Be ?_));refine Bi (R_callX 1500 (FnT.fh (specl7CopyK h hh)) U U U (.cons (.tm U) U .nil) U) ?_
 rintro _ ⟨z15,hz15,rfl⟩
 try dsimp only at hz15
 refine Au (Az 6 U U U C9 U U U) U ?_;refine An Be ?_;refine Aa (Af (Aj ?_));refine Aa (Ae (Af (A3 Be ?_)));refine Br (specIsValidHistory h) ?_;refine Cg ?_;refine Aa (Al (.tm U) (fun h18=>?_) (fun h18=>?_))
 · try simp at h18
   refine Af (Ai Be ?_);refine Ab ?_;refine An Be ?_;refine Ah ?_;refine Aa (Ap ?_);apply ERRes.mk (x:=(z15,0))
   case h=>
    refine ResR.many U (.cell U U Be U U (.tmp U .nil)) U ?_ (by simp)
    rfl
   case hp=>exact (by unfold repH;rw [if_neg (by simpa using h18),hz15])
 try simp at h18
 refine Am (Af (Ab ?_));refine Br (specScanLogL l hz) ?_;refine Ac (B7 U (.no U) U U fun _=>rfl) U ?_;refine Ac (Ao U (.no U) U U (fun _=>rfl) U) U ?_;refine Ac (Ao U (.no U) U U (fun _=>rfl) U) U ?_;refine Ac (Ao U (.no U) U U (fun _=>rfl) U) U ?_;refine Ah ?_;refine Ah ?_;refine Ah ?_;refine Aa (Ae (Af (Aj ?_)))
 refine Aa (AW.block (AW.loop3 (fun (i:Nat) (n:Int) (H:THistory)=>((i≤(scanL l).1.length∧0≤n∧n≤i)∧okHs H)∧rplR h 0 (zipL l)=rplR H n ((zipL l).drop i)) (fun (i:Nat) (n:Int) (H:THistory)=>⟨_,[(11,(true,.a (.one (.t (.v (.int .i64 (i:Nat))))))),(7,(true,.a (.one (.t (.v (.int .i64 n)))))),(4,_),(6,_),(8,_),(9,_)],[(4,.box [.t (.v (.int .i64 0)),.t (.v (.slice none 0 0))]),(6,.box [.t (.v (.int .i64 H.First)),.vw 1500 (treeH H)]),(1500,.opq)]⟩) (fun (i:Nat) (n:Int) (H:THistory)=>(scanL l).1.length-i) (0) (0) (z15) ⟨⟨⟨Nat.zero_le _,by omega,by omega⟩,by rw [hz15];exact hh⟩,(by rw [hz15];rfl)⟩ Ay ?_))
 rintro i n H ⟨hk,he⟩
 refine Ae (Af (Ab ?_));refine Ab ?_;refine Bu (.t) Tryz.underlying34 ?_;refine AWl.lt ?_;refine Aa (Al (.tm U) (fun h30=>?_) (fun h30=>?_))
 · try simp at h30
   have hsl:=scanL_same l
   have hfew:=scanL_few l
   obtain⟨v,hv⟩:∃ ξ,(scanL l).1[i]?=some ξ:=⟨_,List.getElem?_eq_getElem (by omega)⟩
   obtain⟨bt,hbt⟩:∃ ξ,(scanL l).2.1[i]?=some ξ:=⟨_,List.getElem?_eq_getElem (by omega)⟩
   have hlv:=lastV_le9 H
   refine Am (Ae (AW.block (Ae (Ae (Cv 7 (nthB [[],[],[0,1],[0,1,2],[],[4],[0,1,2,3,4,5]]) (by kernel_rfl) (by kernel_rfl) (by kernel_rfl) ?_)))));refine Bp ?_;refine Bp ?_;refine DrawC.s (fun _ hs=>(by exact Aw U (.no U) (Ag hs U) (hs.tm U) (hs.tm U) Tryz.underlying34 ty3 (fun _=>⟨by omega,(by exact A5 hv)⟩))) ?_;refine Cd ty3 ?_;refine DrawC.s (fun _ hs=>(by exact Bm U (.no U) (Ag hs U) (hs.tm U) (hs.res _ _ U) Be U U)) ?_;refine DrawC.s (fun _ hs=>Bo (FnT.fr (specLatestVersion H)) U (.no U) (Ag hs U) (.cons (hs.tm U) (readA_sup hs U) .nil)) ?_;refine DrawC.s (fun _ hs=>R_le U (.no U) (Ag hs U) (hs.tm U) (hs.tm U)) ?_;refine Cm U U ?_;refine Aa (Al (.tm U) (fun h39=>?_) (fun h39=>?_))
   · try simp at h39
     refine Bt (Ad (Ab ?_));refine Bs ?_;refine Ah ?_;refine Aa ?_
     repeat (with_reducible refine A7 ?_)
     refine Round3.next (i+1) (n) (H) ⟨⟨⟨by omega,by omega,by omega⟩,hk.2⟩,(by rw [he];exact run_skip hv hbt h39)⟩ (by omega) (A6 rfl ⟨rfl,rfl,rfl,rfl,rfl,rfl,Y⟩ ⟨(by rfl),(by rfl),(by rfl),Y⟩)
   try simp at h39
   have hgt:¬ v≤lastV H:=(by omega)
   refine Am (Ae (Ar (Av [4,6,7,8,9,11,27,28,29,30,33,34,35,36,37,38,39] [4,6,1500]) ?_));apply C3 (N:=11) (k:=13) (Hs:=[0,1,2,3,4]) (ms:=[[],[5],[9],[5,6],[5,9],[5,6,7],[5,6,8],[5,6,9],[5,6,7,8],[5,6,7,9],[5,6,8,9],[5,6,7,8,9],[5,6,7,9,10],[5,6,7,8,9,10]]) (es:=[(0,5,1),(0,9,2),(1,6,3),(1,9,4),(2,5,4),(3,7,5),(3,8,6),(3,9,7),(4,6,7),(5,8,8),(6,7,8),(5,9,9),(7,7,9),(6,9,10),(7,8,10),(8,9,11),(9,8,11),(10,7,11),(9,10,12),(11,10,13),(12,8,13)]) (σ1:=_) (SM:=⟨_,[(4,_),(6,_),(7,_),(8,_),(9,_),(11,_),(27,_),(28,_),(29,_),(30,_),(33,_),(34,_),(35,_),(36,_),(37,_),(38,_),(39,_),(41,_),(42,_),(43,_),(44,_),(45,_)],[(4,_),(6,_),(1500,_)]⟩)
   case hm=>kernel_rfl
   case hB=>kernel_rfl
   case hP=>kernel_rfl
   case hL=>kernel_rfl
   case hN=>rfl
   case hpre=>
    apply As (P:=Tryz.prog) 0 rfl ((by exact Bm rfl (.no rfl) rfl (.tm rfl) rfl Be rfl rfl)) (by exact HasV.load (x:=.tmp 6) (.tm rfl) rfl Be rfl rfl) rfl rfl rfl;apply As (P:=Tryz.prog) 1 rfl (Bh rfl (.no rfl) rfl (.tm rfl)) (by exact HasV.slot (t:=9) rfl) rfl rfl rfl;apply As (P:=Tryz.prog) 2 rfl (Bh rfl (.no rfl) rfl (.tm rfl)) (by exact HasV.slot (t:=11) rfl) rfl rfl rfl;apply As (P:=Tryz.prog) 3 rfl ((by exact Aw rfl (.no rfl) rfl (.tm rfl) (.tm rfl) Tryz.underlying71 Cf (fun _=>⟨by omega,(by exact A5 hbt)⟩))) (by exact HasV.ix (x:=.tmp 42) (.tm rfl) (y:=.tmp 43) (.tm rfl) Tryz.underlying71 Cf (fun _=>⟨by omega,(by exact A5 hbt)⟩)) rfl rfl rfl;apply As (P:=Tryz.prog) 4 rfl ((by exact Bl rfl (.no rfl) rfl (.tm rfl) Cf rfl rfl)) (by exact HasV.ld (x:=.tmp 44) (.tm rfl) rfl rfl) rfl rfl rfl;exact PreOk.nil
   case hS=>exact A4
   case hH=>
    refine LocsH.lq Be ?_;refine LocsH.mv ?_;refine LocsH.mv ?_
    refine⟨⟨_,_,_,rfl,rfl,rfl,fun σ' hs=>(by exact Aw rfl (.no rfl) (Ag hs rfl) (.tm (hs.slots _ _ rfl)) (.tm (hs.slots _ _ rfl)) Tryz.underlying71 Cf (fun _=>⟨by omega,(by exact A5 hbt)⟩))⟩,?_⟩
    refine⟨⟨_,_,_,rfl,rfl,rfl,fun σ' hs=>(by exact Bl rfl (.no rfl) (Ag hs rfl) (.tm (hs.slots _ _ rfl)) Cf rfl rfl)⟩,?_⟩
    trivial
   apply Dh.drw0 (i:=5)
   case ha=>rfl
   case ho=>rfl
   case hE=>
    intro  hp
    obtain _:=hp
    exact R_callX 4600 (specAppendBatchK H bt hk.2) rfl rfl rfl (.cons (.tm rfl) rfl (.cons (.tm rfl) rfl .nil)) rfl
   case hb=>rfl
   case hL=>
    intro  z46 hp hy;exact C7 (Av [4,6,7,8,9,11,27,28,29,30,33,34,35,36,37,38,39,41,42,43,44,45,46] [4,6,1500,4600]) U
   case hS=>intros;exact A4
   apply Dh.new0 (i:=9);rfl;rfl;rfl
   · intro w9 _;refine Au (Az 12 U U U C9 U U U) U ?_;exact Ak [4,6,7,8,9,11,12,27,28,29,30,33,34,35,36,37,38,39,41,42,43,44,45] [4,6,1500,12]
   intros;exact A4
   apply Dh.new1 (i:=6);rfl;rfl;rfl
   · intro w9 z46 hp
     obtain⟨_,hz46⟩:=hp
     refine Ac (B7 U (.no U) U U fun _=>rfl) U ?_;exact Ak [4,6,7,8,9,11,27,28,29,30,33,34,35,36,37,38,39,40,41,42,43,44,45] [4,6,1500,4600]
   intros;exact A4
   apply Dh.new1 (i:=9);rfl;rfl;rfl
   · intro w9 z46 hp
     obtain⟨_,hz46⟩:=hp
     refine Au (Az 12 U U U C9 U U U) U ?_;exact Ak [4,6,7,8,9,11,12,27,28,29,30,33,34,35,36,37,38,39,41,42,43,44,45,46] [4,6,1500,4600,12]
   intros;exact A4
   apply Dh.odr0 (i:=5)
   case ha=>rfl
   case ho=>rfl
   case hE=>
    intro  hp
    obtain _:=hp
    exact R_callX 4600 (specAppendBatchK H bt hk.2) rfl rfl rfl (.cons (.tm rfl) rfl (.cons (.tm rfl) rfl .nil)) rfl
   case hb=>rfl
   case hL=>
    intro  z46 hp hy;exact Ay
   apply Dh.new1 (i:=7);rfl;rfl;rfl
   · intro w9 z46 hp
     obtain⟨_,hz46⟩:=hp
     refine Ac (Ao U (.no U) U U (fun _=>rfl) U) U ?_;exact Ak [4,6,7,8,9,11,27,28,29,30,33,34,35,36,37,38,39,40,41,42,43,44,45,47] [4,6,1500,4600]
   intros;exact A4
   apply Dh.new1 (i:=8);rfl;rfl;rfl
   · intro w9 z46 hp
     obtain⟨_,hz46⟩:=hp
     refine Ac (Ao U (.no U) U U (fun _=>rfl) U) U ?_;exact Ak [4,6,7,8,9,11,27,28,29,30,33,34,35,36,37,38,39,40,41,42,43,44,45,48] [4,6,1500,4600]
   intros;exact A4
   apply Dh.new1 (i:=9);rfl;rfl;rfl
   · intro w9 z46 hp
     obtain⟨_,hz46⟩:=hp
     refine Au (Az 12 U U U C9 U U U) U ?_;exact Ak [4,6,7,8,9,11,12,27,28,29,30,33,34,35,36,37,38,39,40,41,42,43,44,45] [4,6,1500,4600,12]
   intros;exact A4
   apply Dh.old1 (i:=6);rfl;rfl;rfl
   · intro w9 z46 hp
     obtain⟨_,hz46⟩:=hp
     refine Ac (B7 U (.no U) U U fun _=>rfl) U ?_;exact Aa Ay
   apply Dh.new1 (i:=8);rfl;rfl;rfl
   · intro w9 z46 hp
     obtain⟨_,hz46⟩:=hp
     refine Ac (Ao U (.no U) U U (fun _=>rfl) U) U ?_;exact Ak [4,6,7,8,9,11,27,28,29,30,33,34,35,36,37,38,39,41,42,43,44,45,47,48] [4,6,1500,4600]
   intros;exact A4
   apply Dh.old1 (i:=7);rfl;rfl;rfl
   · intro w9 z46 hp
     obtain⟨_,hz46⟩:=hp
     refine Ac (Ao U (.no U) U U (fun _=>rfl) U) U ?_;exact Aa Ay
   apply Dh.new1 (i:=9);rfl;rfl;rfl
   · intro w9 z46 hp
     obtain⟨_,hz46⟩:=hp
     refine Au (Az 12 U U U C9 U U U) U ?_;exact Ak [4,6,7,8,9,11,12,27,28,29,30,33,34,35,36,37,38,39,40,41,42,43,44,45,47] [4,6,1500,4600,12]
   intros;exact A4
   apply Dh.old1 (i:=7);rfl;rfl;rfl
   · intro w9 z46 hp
     obtain⟨_,hz46⟩:=hp
     refine Ac (Ao U (.no U) U U (fun _=>rfl) U) U ?_;exact Aa Ay
   apply Dh.new1 (i:=9);rfl;rfl;rfl
   · intro w9 z46 hp
     obtain⟨_,hz46⟩:=hp
     refine Au (Az 12 U U U C9 U U U) U ?_;exact Ak [4,6,7,8,9,11,12,27,28,29,30,33,34,35,36,37,38,39,40,41,42,43,44,45,48] [4,6,1500,4600,12]
   intros;exact A4
   apply Dh.old1 (i:=8);rfl;rfl;rfl
   · intro w9 z46 hp
     obtain⟨_,hz46⟩:=hp
     refine Ac (Ao U (.no U) U U (fun _=>rfl) U) U ?_;exact Aa Ay
   apply Dh.new1 (i:=9);rfl;rfl;rfl
   · intro w9 z46 hp
     obtain⟨_,hz46⟩:=hp
     refine Au (Az 12 U U U C9 U U U) U ?_;exact Ak [4,6,7,8,9,11,12,27,28,29,30,33,34,35,36,37,38,39,41,42,43,44,45,47,48] [4,6,1500,4600,12]
   intros;exact A4
   apply Dh.old1 (i:=8);rfl;rfl;rfl
   · intro w9 z46 hp
     obtain⟨_,hz46⟩:=hp
     refine Ac (Ao U (.no U) U U (fun _=>rfl) U) U ?_;exact Aa Ay
   apply Dh.old1 (i:=7);rfl;rfl;rfl
   · intro w9 z46 hp
     obtain⟨_,hz46⟩:=hp
     refine Ac (Ao U (.no U) U U (fun _=>rfl) U) U ?_;exact Aa Ay
   apply Dh.new1 (i:=10);rfl;rfl;rfl
   · intro w9 z46 hp
     obtain⟨_,hz46⟩:=hp
     refine An Be ?_;exact Ak [4,6,7,8,9,11,12,27,28,29,30,33,34,35,36,37,38,39,40,41,42,43,44,45] [4,6,1500,4600,12]
   intros;exact A4
   apply Dh.new1 (i:=10);rfl;rfl;rfl
   · intro w9 z46 hp
     obtain⟨_,hz46⟩:=hp
     refine An Be ?_;exact Ak [4,6,7,8,9,11,12,27,28,29,30,33,34,35,36,37,38,39,41,42,43,44,45,48] [4,6,1500,4600,12]
   intros;exact A4
   apply Dh.old1 (i:=8);rfl;rfl;rfl
   · intro w9 z46 hp
     obtain⟨_,hz46⟩:=hp
     refine Ac (Ao U (.no U) U U (fun _=>rfl) U) U ?_;exact Aa Ay
   refine Dh.fin1 (k:=13) rfl ?_;intro z46 hp
   obtain⟨_,hz46⟩:=hp
   refine Ah ?_;refine Aa (Ae (Ae (Cv 12 (nthB [[],[],[0,1],[0,1,2],[],[4],[4,5],[0,1,2,3,4,5,6],[0,1,2,3,4,5,6,7],[0,1,2,3,4,5,6,7,8],[0,1,2,3,4,5,6,7,8,9],[0,1,2,3,4,5,6,7,8,9,10]]) (by kernel_rfl) (by kernel_rfl) (by kernel_rfl) ?_)));refine Bp ?_;refine Bp ?_;refine DrawC.s (fun _ hs=>(by exact Aw U (.no U) (Ag hs U) (hs.tm U) (hs.tm U) Tryz.underlying34 ty3 (fun _=>⟨by omega,(by exact A5 hv)⟩))) ?_;refine Cd ty3 ?_;refine DrawC.s (fun _ hs=>(by exact Bm U (.no U) (Ag hs U) (hs.tm U) (hs.res _ _ U) Be U U)) ?_;refine DrawC.s (fun _ hs=>Bo (FnT.fr (specLatestVersion H)) U (.no U) (Ag hs U) (.cons (hs.tm U) (readA_sup hs U) .nil)) ?_;refine DrawC.s (fun _ hs=>C5 U (.no U) (Ag hs U) (hs.tm U) (.const U) (fun _=>by omega)) ?_;refine DrawC.s (fun _ hs=>R_ne U (.no U) (Ag hs U) (hs.tm U) (hs.tm U)) ?_;refine Bp ?_;refine DrawC.s (fun _ hs=>Bh U (by exact hs.n1) (Ag hs U) (hs.tm U)) ?_
   refine DrawC.s (fun _ hs=>Dq U (by exact hs.n1) (Ag hs U) (hs.ti U)) ?_;refine DrawC.s (fun _ hs=>R_or U (.no U) (Ag hs U) (hs.tm U) (hs.ti U)) ?_;refine Cm U U ?_;refine Aa (Al (.tm U) (fun h60=>?_) (fun h60=>?_))
   · skip
     skip
     have hst:¬ (v=lastV H+1∧(appH H bt).2=true):=(by rw [hz46] at h60;intro e;rw [e.1,e.2] at h60;simp at h60)
     refine Af (Ai Be ?_);refine Ab ?_;refine An Be ?_;refine Ah ?_;refine Aa (Ap ?_);apply ERRes.mk (x:=(H,n))
     case h=>
      refine ResR.many U (.cell U U Be U U (.tmp U .nil)) U ?_ (by simp)
      rfl
     case hp=>exact (by have hv18:validH h=true:=(by simpa using h18);unfold repH;rw [if_pos hv18,he,run_stop hv hbt hgt hst])
   skip
   skip
   have hgo:v=lastV H+1∧(appH H bt).2=true:=(by rw [hz46] at h60;simpa using h60)
   refine Am (Ae (Ar (Le.sw 1500 4600 _) ?_));refine Ad (Ai Be ?_);refine An Be ?_;refine Aa (Ad (Ab ?_));refine Bs ?_;refine Ah ?_;refine Aa (Ad (Ab ?_));refine Bs ?_;refine Ah ?_;refine Aa ?_
   repeat (with_reducible refine A7 ?_)
   refine Round3.next (i+1) (n+1) (z46.1) ⟨⟨⟨by omega,by omega,by omega⟩,by rw [hz46];exact appH_ok hk.2 bt⟩,(by rw [he,hz46];exact run_go hv hbt hgt hgo)⟩ (by omega) (A6 rfl ⟨rfl,rfl,rfl,rfl,rfl,rfl,Y⟩ ⟨(by rfl),(by rfl),(by rfl),Y⟩)
 try simp at h30
 refine Bt (Af (Ai Be ?_));refine Ab ?_;refine An Be ?_;refine Ah ?_;refine Aa (Ap ?_);apply ERRes.mk (x:=(H,n))
 case h=>
  refine ResR.many U (.cell U U Be U U (.tmp U .nil)) U ?_ (by simp)
  rfl
 case hp=>exact (by have hv18:validH h=true:=(by simpa using h18);unfold repH;rw [if_pos hv18,he,run_end (by omega)])
end Go.Proofs.YtdhojcaoljhbiaaGreatDoor
